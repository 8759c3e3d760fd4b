/- The intermediate code of the functions that are walked here, each with the proof that it is the translation of the model's code. -/
import Derived.Test.YtnkilhmkegmenaaE6
import Derived.KernelRfl
namespace Go.Proofs.Ytnkilhmkegmenaa.E
open Go
theorem mixed : Try.prog.follows .mixedOrders = true := by kernel_rfl

/-- winnowlaw16.FaultDamages -/
def M3 : MC :=
  (.seq (.reg [.l none (some 3) (.bx 25 (.tmp 1)),
      .p none 4 (.mv (.const (.bool false)))])
  (.seq (.reg [.p none 11 (.mv (.tmp 0)),
      .l none (some 12) (.call 10 [(.tmp 11)]),
      .p none 5 (.mv (.tmp 12))])
  (.seq (.dreg (.line [.qp 0 none 13 (.mv (.tmp 5)),
      .qp 1 none 14 (.mv (.tmp 0)),
      .qp 2 none 15 (.len (.tmp 14)),
      .qp 3 none 16 (.slc 1 (.tmp 13) none (some (.tmp 15)) none),
      .l 4 none (some 17) (.ld (some 8) (.tmp 3)),
      .l 5 none (some 18) (.call 11 [(.tmp 16), (.tmp 17)]),
      .qp 6 none 6 (.mv (.tmp 18))]))
  (.seq (.dreg (.line [.qp 0 none 19 (.mv (.tmp 5)),
      .qp 1 none 20 (.mv (.tmp 0)),
      .qp 2 none 21 (.len (.tmp 20)),
      .qp 3 none 22 (.slc 1 (.tmp 19) none (some (.tmp 21)) none),
      .l 4 none (some 23) (.ld (some 8) (.tmp 3)),
      .l 5 none (some 24) (.call 11 [(.tmp 22), (.tmp 23)]),
      .qp 6 none 7 (.mv (.tmp 24))]))
  (.seq (.reg [.p none 25 (.mv (.tmp 6)),
      .l none (some 26) (.call 12 [(.tmp 25), (.const (.int .u8 7))]),
      .p none 8 (.mv (.tmp 26))])
  (.seq (.reg [.p none 27 (.mv (.tmp 0)),
      .l none (some 28) (.ld (some 8) (.tmp 3)),
      .l none (some 29) (.call 13 [(.tmp 27), (.tmp 28)]),
      .p none 9 (.mv (.tmp 29))])
  (.seq (.seq (.reg [.p none 30 (.mv (.tmp 7)),
      .p none 31 (.mv (.tmp 9)),
      .l none (some 32) (.call 14 [(.tmp 30), (.tmp 31)]),
      .p none 33 (.not (.tmp 32)),
      .p none 34 (.mv (.tmp 33)),
      .split 34,
      .p (some (34, false)) 35 (.mv (.tmp 8)),
      .p (some (34, false)) 36 (.mv (.tmp 9)),
      .p (some (34, false)) 37 (.len (.tmp 36)),
      .p (some (34, false)) 38 (.bin .add .i64 (.tmp 37) (.const (.int .i64 64))),
      .p (some (34, false)) 39 (.bin .neq .i64 (.tmp 35) (.tmp 38)),
      .p none 40 (.pick (.tmp 34) (.const (.bool true)) (.tmp 39)),
      .p none 41 (.mv (.tmp 40)),
      .split 41,
      .p (some (41, false)) 42 (.mv (.tmp 5)),
      .p (some (41, false)) 43 (.mv (.tmp 0)),
      .l (some (41, false)) (some 44) (.call 10 [(.tmp 43)]),
      .l (some (41, false)) (some 45) (.call 14 [(.tmp 42), (.tmp 44)]),
      .p (some (41, false)) 46 (.not (.tmp 45)),
      .p none 47 (.pick (.tmp 41) (.const (.bool true)) (.tmp 46))])
  (.cond (.tmp 47)
    (.seq (.reg [.p none 4 (.mv (.const (.bool false)))])
    .ret)
    .skip))
  (.seq (.dreg (.line [.qp 0 none 48 (.mv (.tmp 5)),
      .qp 1 none 49 (.mv (.tmp 0)),
      .qp 2 none 50 (.len (.tmp 49)),
      .qp 3 none 51 (.slc 1 (.tmp 48) none (some (.tmp 50)) none),
      .ql 5 none 53 (some 8) (.tmp 3),
      .l 4 none (some 52) (.call 15 [(.tmp 51), (.const (.int .i64 0))]),
      .l 6 none (some 54) (.call 11 [(.tmp 52), (.tmp 53)]),
      .qp 7 none 10 (.mv (.tmp 54))]))
  (.seq (.dreg (.line [.qp 0 none 55 (.mv (.tmp 10)),
      .qp 1 none 56 (.mv (.tmp 0)),
      .qp 3 none 58 (.mv (.tmp 0)),
      .qp 4 none 59 (.len (.tmp 58)),
      .ql 7 none 62 (some 8) (.tmp 3),
      .l 2 none (some 57) (.call 10 [(.tmp 56)]),
      .qp 5 none 60 (.slc 1 (.tmp 57) none (some (.tmp 59)) none),
      .l 6 none (some 61) (.call 15 [(.tmp 60), (.const (.int .i64 0))]),
      .l 8 none (some 63) (.call 13 [(.tmp 61), (.tmp 62)]),
      .l 9 none (some 64) (.call 14 [(.tmp 55), (.tmp 63)]),
      .qp 10 none 65 (.mv (.tmp 64)),
      .split 65,
      .qp 11 (some (65, true)) 66 (.mv (.tmp 7)),
      .qp 12 (some (65, true)) 67 (.mv (.tmp 9)),
      .l 13 (some (65, true)) (some 68) (.call 14 [(.tmp 66), (.tmp 67)]),
      .qp 14 none 69 (.pick (.tmp 65) (.tmp 68) (.const (.bool false))),
      .qp 15 none 4 (.mv (.tmp 69))]))
  .ret)))))))))
theorem C3 : compile Try.prog 70 (Try.f3.body.getD .skip) = some M3 := by kernel_rfl

/-- winnowlaw16.roomy -/
def M10 : MC :=
  (.seq (.reg [.p none 2 (.mv (.const (.slice none 0 0)))])
  (.seq (.reg [.p none 5 (.mv (.tmp 0)),
      .p none 6 (.len (.tmp 5)),
      .p none 7 (.bin .add .i64 (.tmp 6) (.const (.int .i64 64))),
      .l none (some 8) (.mks 5 1 1 [(.int .u8 0)] (.tmp 7) (.tmp 7)),
      .p none 3 (.mv (.tmp 8))])
  (.seq (.seq (.reg [.p none 4 (.mv (.const (.int .i64 0)))])
  (.block 0
    (.loop
      (.seq (.seq (.reg [.p none 9 (.mv (.tmp 4)),
          .p none 10 (.mv (.tmp 3)),
          .p none 11 (.len (.tmp 10)),
          .p none 12 (.bin .lss .i64 (.tmp 9) (.tmp 11))])
      (.cond (.tmp 12)
        .skip
        (.exit 0)))
      (.seq (.block 1
        (.seq (.reg [.p none 15 (.mv (.tmp 3)),
            .p none 16 (.mv (.tmp 4)),
            .p none 17 (.idx 1 (.tmp 15) (.tmp 16)),
            .l none none (.st 1 (.tmp 17) (.const (.int .u8 165)))])
        (.seq (.reg [.p none 18 (.mv (.tmp 4)),
            .p none 19 (.mv (.tmp 0)),
            .p none 20 (.len (.tmp 19)),
            .p none 21 (.bin .lss .i64 (.tmp 18) (.tmp 20))])
        (.cond (.tmp 21)
          (.reg [.p none 22 (.mv (.tmp 3)),
              .p none 23 (.mv (.tmp 4)),
              .p none 24 (.mv (.tmp 0)),
              .p none 25 (.mv (.tmp 4)),
              .p none 26 (.idx 1 (.tmp 24) (.tmp 25)),
              .l none (some 27) (.ld none (.tmp 26)),
              .p none 28 (.idx 1 (.tmp 22) (.tmp 23)),
              .l none none (.st 1 (.tmp 28) (.tmp 27))])
          .skip))))
      (.reg [.p none 13 (.mv (.tmp 4)),
          .p none 14 (.bin .add .i64 (.tmp 13) (.const (.int .i64 1))),
          .p none 4 (.mv (.tmp 14))]))))))
  (.seq (.reg [.p none 29 (.mv (.tmp 3)),
      .p none 2 (.mv (.tmp 29))])
  .ret))))
theorem C10 : compile Try.prog 30 (Try.f10.body.getD .skip) = some M10 := by kernel_rfl

/-- fault.Damage -/
def M11 : MC :=
  (.seq (.reg [.l none (some 3) (.bx 25 (.tmp 1)),
      .p none 4 (.mv (.const (.slice none 0 0)))])
  (.seq (.reg [.l none (some 9) (.bs 5 0 1 [] []),
      .p none 10 (.mv (.tmp 0)),
      .l none (some 11) (.app 5 1 1 [(.int .u8 0)] (.tmp 9) (.tmp 10)),
      .p none 5 (.mv (.tmp 11))])
  (.seq (.block 0
    (.seq (.reg [.l none (some 13) (.ld (some 8) (.tmp 3)),
        .l none (some 14) (.call 37 [(.tmp 13)]),
        .p none 15 (.not (.tmp 14)),
        .p none 12 (.mv (.tmp 15))])
    (.cond (.tmp 12)
      .skip
      (.seq (.reg [.p none 17 (.fa 0 (.tmp 3)),
          .l none (some 18) (.ld none (.tmp 17)),
          .p none 19 (.bin .eql .i64 (.tmp 18) (.const (.int .i64 1))),
          .p none 20 (.mv (.tmp 19)),
          .split 20,
          .p (some (20, true)) 21 (.mv (.tmp 5)),
          .p (some (20, true)) 22 (.len (.tmp 21)),
          .p (some (20, true)) 23 (.bin .gtr .i64 (.tmp 22) (.const (.int .i64 0))),
          .p none 24 (.pick (.tmp 20) (.tmp 23) (.const (.bool false))),
          .p none 16 (.mv (.tmp 24))])
      (.cond (.tmp 16)
        (.seq (.reg [.p none 25 (.mv (.tmp 5)),
            .p none 26 (.len (.tmp 25)),
            .p none 27 (.bin .mul .i64 (.const (.int .i64 8)) (.tmp 26)),
            .p none 6 (.mv (.tmp 27))])
        (.seq (.reg [.p none 28 (.fa 6 (.tmp 3)),
            .l none (some 29) (.ld none (.tmp 28)),
            .p none 30 (.mv (.tmp 6)),
            .p none 31 (.div .rem .i64 (.tmp 29) (.tmp 30)),
            .p none 7 (.mv (.tmp 31))])
        (.seq (.reg [.p none 8 (.mv (.const (.int .i64 0)))])
        (.block 1
          (.loop
            (.seq (.seq (.reg [.p none 32 (.mv (.tmp 8)),
                .p none 33 (.bin .lss .i64 (.tmp 32) (.const (.int .i64 32))),
                .p none 34 (.mv (.tmp 33)),
                .split 34,
                .p (some (34, true)) 35 (.mv (.tmp 7)),
                .p (some (34, true)) 36 (.mv (.tmp 8)),
                .p (some (34, true)) 37 (.bin .add .i64 (.tmp 35) (.tmp 36)),
                .p (some (34, true)) 38 (.mv (.tmp 6)),
                .p (some (34, true)) 39 (.bin .lss .i64 (.tmp 37) (.tmp 38)),
                .p none 40 (.pick (.tmp 34) (.tmp 39) (.const (.bool false)))])
            (.cond (.tmp 40)
              .skip
              (.exit 1)))
            (.seq (.block 2
              (.dreg (.line [.qp 0 none 43 (.mv (.tmp 5)),
                  .qp 1 none 44 (.mv (.tmp 7)),
                  .qp 2 none 45 (.mv (.tmp 8)),
                  .qp 3 none 46 (.bin .add .i64 (.tmp 44) (.tmp 45)),
                  .qp 4 none 47 (.div .quo .i64 (.tmp 46) (.const (.int .i64 8))),
                  .qp 5 none 48 (.idx 1 (.tmp 43) (.tmp 47)),
                  .qp 7 none 50 (.fa 7 (.tmp 3)),
                  .qp 9 none 52 (.mv (.tmp 8)),
                  .qp 13 none 56 (.mv (.tmp 7)),
                  .qp 14 none 57 (.mv (.tmp 8)),
                  .qp 15 none 58 (.bin .add .i64 (.tmp 56) (.tmp 57)),
                  .qp 16 none 59 (.div .rem .i64 (.tmp 58) (.const (.int .i64 8))),
                  .ql 8 none 51 none (.tmp 50),
                  .qp 10 none 53 (.shf .shr (.tmp 51) (.tmp 52)),
                  .qp 11 none 54 (.bin .and .u32 (.tmp 53) (.const (.int .u32 1))),
                  .qp 12 none 55 (.conv .u8 (.tmp 54)),
                  .qp 17 none 60 (.shf .shl (.tmp 55) (.tmp 59)),
                  .l 6 none (some 49) (.ld none (.tmp 48)),
                  .qp 18 none 61 (.bin .xor .u8 (.tmp 49) (.tmp 60)),
                  .qp 19 none 62 (.idx 1 (.tmp 43) (.tmp 47)),
                  .l 20 none none (.st 1 (.tmp 62) (.tmp 61))])))
            (.reg [.p none 41 (.mv (.tmp 8)),
                .p none 42 (.bin .add .i64 (.tmp 41) (.const (.int .i64 1))),
                .p none 8 (.mv (.tmp 42))]))))))))
        (.seq (.reg [.p none 64 (.fa 0 (.tmp 3)),
            .l none (some 65) (.ld none (.tmp 64)),
            .p none 66 (.bin .eql .i64 (.tmp 65) (.const (.int .i64 2))),
            .p none 67 (.mv (.tmp 66)),
            .split 67,
            .p (some (67, true)) 68 (.fa 6 (.tmp 3)),
            .l (some (67, true)) (some 69) (.ld none (.tmp 68)),
            .p (some (67, true)) 70 (.bin .gtr .i64 (.tmp 69) (.const (.int .i64 0))),
            .p none 71 (.pick (.tmp 67) (.tmp 70) (.const (.bool false))),
            .p none 63 (.mv (.tmp 71))])
        (.cond (.tmp 63)
          (.reg [.p none 72 (.mv (.tmp 5)),
              .p none 73 (.fa 6 (.tmp 3)),
              .l none (some 74) (.ld none (.tmp 73)),
              .l none (some 75) (.appz 5 1 1 [(.int .u8 0)] (.tmp 72) (.tmp 74)),
              .p none 5 (.mv (.tmp 75))])
          (.seq (.reg [.p none 77 (.fa 0 (.tmp 3)),
              .l none (some 78) (.ld none (.tmp 77)),
              .p none 79 (.bin .eql .i64 (.tmp 78) (.const (.int .i64 2))),
              .p none 76 (.mv (.tmp 79))])
          (.cond (.tmp 76)
            (.reg [.p none 80 (.mv (.tmp 5)),
                .p none 81 (.mv (.tmp 5)),
                .p none 82 (.len (.tmp 81)),
                .p none 83 (.fa 6 (.tmp 3)),
                .l none (some 84) (.ld none (.tmp 83)),
                .p none 85 (.bin .add .i64 (.tmp 82) (.tmp 84)),
                .p none 86 (.mm true .i64 (.tmp 85) [(.const (.int .i64 0))]),
                .p none 87 (.slc 1 (.tmp 80) none (some (.tmp 86)) none),
                .p none 5 (.mv (.tmp 87))])
            .skip)))))))))
  (.seq (.reg [.p none 88 (.mv (.tmp 5)),
      .p none 4 (.mv (.tmp 88))])
  .ret))))
theorem C11 : compile Try.prog 89 (Try.f11.body.getD .skip) = some M11 := by kernel_rfl

/-- winnowlaw16.fill -/
def M12 : MC :=
  (.seq (.reg [.p none 4 (.mv (.const (.int .i64 0)))])
  (.seq (.seq (.reg [.p none 5 (.mv (.const (.int .i64 0)))])
  (.block 0
    (.loop
      (.seq (.seq (.reg [.p none 7 (.mv (.tmp 5)),
          .p none 8 (.mv (.tmp 0)),
          .p none 9 (.len (.tmp 8)),
          .p none 10 (.bin .lss .i64 (.tmp 7) (.tmp 9))])
      (.cond (.tmp 10)
        .skip
        (.exit 0)))
      (.seq (.block 1
        (.reg [.p none 13 (.mv (.tmp 0)),
            .p none 14 (.mv (.tmp 5)),
            .p none 15 (.mv (.tmp 1)),
            .p none 16 (.idx 1 (.tmp 13) (.tmp 14)),
            .l none none (.st 1 (.tmp 16) (.tmp 15))]))
      (.reg [.p none 11 (.mv (.tmp 5)),
          .p none 12 (.bin .add .i64 (.tmp 11) (.const (.int .i64 1))),
          .p none 5 (.mv (.tmp 12))]))))))
  (.seq (.seq (.reg [.p none 6 (.mv (.const (.int .i64 0)))])
  (.block 2
    (.loop
      (.seq (.seq (.reg [.p none 17 (.mv (.tmp 6)),
          .p none 18 (.bin .lss .i64 (.tmp 17) (.const (.int .i64 64)))])
      (.cond (.tmp 18)
        .skip
        (.exit 2)))
      (.seq (.block 3
        (.reg [.p none 21 (.mv (.tmp 0)),
            .p none 22 (.mv (.tmp 1)),
            .p none 23 (.bin .add .u8 (.tmp 22) (.const (.int .u8 1))),
            .l none (some 24) (.bs 5 1 1 [(.int .u8 0)] [(0, 1, (.tmp 23))]),
            .l none (some 25) (.app 5 1 1 [(.int .u8 0)] (.tmp 21) (.tmp 24)),
            .p none 0 (.mv (.tmp 25))]))
      (.reg [.p none 19 (.mv (.tmp 6)),
          .p none 20 (.bin .add .i64 (.tmp 19) (.const (.int .i64 1))),
          .p none 6 (.mv (.tmp 20))]))))))
  (.seq (.reg [.p none 26 (.mv (.tmp 0)),
      .p none 27 (.len (.tmp 26)),
      .p none 4 (.mv (.tmp 27))])
  .ret))))
theorem C12 : compile Try.prog 28 (Try.f12.body.getD .skip) = some M12 := by kernel_rfl

/-- winnowref16.Damage -/
def M13 : MC :=
  (.seq (.reg [.l none (some 3) (.bx 25 (.tmp 1)),
      .p none 4 (.mv (.const (.slice none 0 0)))])
  (.seq (.reg [.l none (some 8) (.bs 5 0 1 [] []),
      .p none 9 (.mv (.tmp 0)),
      .l none (some 10) (.app 5 1 1 [(.int .u8 0)] (.tmp 8) (.tmp 9)),
      .p none 5 (.mv (.tmp 10))])
  (.seq (.seq (.reg [.l none (some 11) (.ld (some 8) (.tmp 3)),
      .l none (some 12) (.call 38 [(.tmp 11)]),
      .p none 13 (.not (.tmp 12)),
      .p none 14 (.mv (.tmp 13)),
      .split 14,
      .p (some (14, false)) 15 (.fa 0 (.tmp 3)),
      .l (some (14, false)) (some 16) (.ld none (.tmp 15)),
      .p (some (14, false)) 17 (.bin .eql .i64 (.tmp 16) (.const (.int .i64 0))),
      .p none 18 (.pick (.tmp 14) (.const (.bool true)) (.tmp 17))])
  (.cond (.tmp 18)
    (.seq (.reg [.p none 19 (.mv (.tmp 5)),
        .p none 4 (.mv (.tmp 19))])
    .ret)
    .skip))
  (.seq (.seq (.reg [.p none 20 (.fa 0 (.tmp 3)),
      .l none (some 21) (.ld none (.tmp 20)),
      .p none 22 (.bin .eql .i64 (.tmp 21) (.const (.int .i64 2)))])
  (.cond (.tmp 22)
    (.seq (.seq (.reg [.p none 23 (.fa 6 (.tmp 3)),
        .l none (some 24) (.ld none (.tmp 23)),
        .p none 25 (.bin .geq .i64 (.tmp 24) (.const (.int .i64 0)))])
    (.cond (.tmp 25)
      (.seq (.reg [.p none 26 (.mv (.tmp 5)),
          .p none 27 (.fa 6 (.tmp 3)),
          .l none (some 28) (.ld none (.tmp 27)),
          .l none (some 29) (.appz 5 1 1 [(.int .u8 0)] (.tmp 26) (.tmp 28)),
          .p none 4 (.mv (.tmp 29))])
      .ret)
      .skip))
    (.seq (.seq (.reg [.p none 30 (.fa 6 (.tmp 3)),
        .l none (some 31) (.ld none (.tmp 30)),
        .p none 32 (.neg .i64 (.tmp 31)),
        .p none 33 (.mv (.tmp 5)),
        .p none 34 (.len (.tmp 33)),
        .p none 35 (.bin .geq .i64 (.tmp 32) (.tmp 34))])
    (.cond (.tmp 35)
      (.seq (.reg [.p none 4 (.mv (.const (.slice none 0 0)))])
      .ret)
      .skip))
    (.seq (.reg [.p none 36 (.mv (.tmp 5)),
        .p none 37 (.mv (.tmp 5)),
        .p none 38 (.len (.tmp 37)),
        .p none 39 (.fa 6 (.tmp 3)),
        .l none (some 40) (.ld none (.tmp 39)),
        .p none 41 (.bin .add .i64 (.tmp 38) (.tmp 40)),
        .p none 42 (.slc 1 (.tmp 36) none (some (.tmp 41)) none),
        .p none 4 (.mv (.tmp 42))])
    .ret)))
    .skip))
  (.seq (.seq (.reg [.p none 43 (.mv (.tmp 5)),
      .p none 44 (.len (.tmp 43)),
      .p none 45 (.bin .eql .i64 (.tmp 44) (.const (.int .i64 0)))])
  (.cond (.tmp 45)
    (.seq (.reg [.p none 46 (.mv (.tmp 5)),
        .p none 4 (.mv (.tmp 46))])
    .ret)
    .skip))
  (.seq (.reg [.p none 47 (.fa 6 (.tmp 3)),
      .l none (some 48) (.ld none (.tmp 47)),
      .p none 49 (.mv (.tmp 5)),
      .p none 50 (.len (.tmp 49)),
      .p none 51 (.bin .mul .i64 (.const (.int .i64 8)) (.tmp 50)),
      .p none 52 (.div .rem .i64 (.tmp 48) (.tmp 51)),
      .p none 6 (.mv (.tmp 52))])
  (.seq (.seq (.reg [.p none 7 (.mv (.const (.int .i64 0)))])
  (.block 0
    (.loop
      (.seq (.seq (.reg [.p none 53 (.mv (.tmp 7)),
          .p none 54 (.bin .lss .i64 (.tmp 53) (.const (.int .i64 32)))])
      (.cond (.tmp 54)
        .skip
        (.exit 0)))
      (.seq (.block 1
        (.seq (.reg [.p none 57 (.fa 7 (.tmp 3)),
            .l none (some 58) (.ld none (.tmp 57)),
            .p none 59 (.mv (.tmp 7)),
            .p none 60 (.shf .shr (.tmp 58) (.tmp 59)),
            .p none 61 (.div .rem .u32 (.tmp 60) (.const (.int .u32 2))),
            .p none 62 (.bin .eql .u32 (.tmp 61) (.const (.int .u32 1))),
            .p none 63 (.mv (.tmp 62)),
            .split 63,
            .p (some (63, true)) 64 (.mv (.tmp 6)),
            .p (some (63, true)) 65 (.mv (.tmp 7)),
            .p (some (63, true)) 66 (.bin .add .i64 (.tmp 64) (.tmp 65)),
            .p (some (63, true)) 67 (.mv (.tmp 5)),
            .p (some (63, true)) 68 (.len (.tmp 67)),
            .p (some (63, true)) 69 (.bin .mul .i64 (.const (.int .i64 8)) (.tmp 68)),
            .p (some (63, true)) 70 (.bin .lss .i64 (.tmp 66) (.tmp 69)),
            .p none 71 (.pick (.tmp 63) (.tmp 70) (.const (.bool false)))])
        (.cond (.tmp 71)
          (.dreg (.line [.qp 0 none 72 (.mv (.tmp 5)),
              .qp 1 none 73 (.mv (.tmp 6)),
              .qp 2 none 74 (.mv (.tmp 7)),
              .qp 3 none 75 (.bin .add .i64 (.tmp 73) (.tmp 74)),
              .qp 4 none 76 (.div .quo .i64 (.tmp 75) (.const (.int .i64 8))),
              .qp 5 none 77 (.mv (.tmp 5)),
              .qp 6 none 78 (.mv (.tmp 6)),
              .qp 7 none 79 (.mv (.tmp 7)),
              .qp 8 none 80 (.bin .add .i64 (.tmp 78) (.tmp 79)),
              .qp 9 none 81 (.div .quo .i64 (.tmp 80) (.const (.int .i64 8))),
              .qp 10 none 82 (.idx 1 (.tmp 77) (.tmp 81)),
              .qp 12 none 84 (.mv (.tmp 6)),
              .qp 13 none 85 (.mv (.tmp 7)),
              .qp 14 none 86 (.bin .add .i64 (.tmp 84) (.tmp 85)),
              .qp 15 none 87 (.div .rem .i64 (.tmp 86) (.const (.int .i64 8))),
              .qp 16 none 88 (.shf .shl (.const (.int .u8 1)) (.tmp 87)),
              .l 11 none (some 83) (.ld none (.tmp 82)),
              .qp 17 none 89 (.bin .xor .u8 (.tmp 83) (.tmp 88)),
              .qp 18 none 90 (.idx 1 (.tmp 72) (.tmp 76)),
              .l 19 none none (.st 1 (.tmp 90) (.tmp 89))]))
          .skip)))
      (.reg [.p none 55 (.mv (.tmp 7)),
          .p none 56 (.bin .add .i64 (.tmp 55) (.const (.int .i64 1))),
          .p none 7 (.mv (.tmp 56))]))))))
  (.seq (.reg [.p none 91 (.mv (.tmp 5)),
      .p none 4 (.mv (.tmp 91))])
  .ret))))))))
theorem C13 : compile Try.prog 92 (Try.f13.body.getD .skip) = some M13 := by kernel_rfl

/-- winnowlaw16.same -/
def M14 : MC :=
  (.seq (.reg [.p none 4 (.mv (.const (.bool false)))])
  (.seq (.seq (.reg [.p none 6 (.mv (.tmp 0)),
      .p none 7 (.len (.tmp 6)),
      .p none 8 (.mv (.tmp 1)),
      .p none 9 (.len (.tmp 8)),
      .p none 10 (.bin .neq .i64 (.tmp 7) (.tmp 9))])
  (.cond (.tmp 10)
    (.seq (.reg [.p none 4 (.mv (.const (.bool false)))])
    .ret)
    .skip))
  (.seq (.seq (.reg [.p none 5 (.mv (.const (.int .i64 0)))])
  (.block 0
    (.loop
      (.seq (.seq (.reg [.p none 11 (.mv (.tmp 5)),
          .p none 12 (.mv (.tmp 0)),
          .p none 13 (.len (.tmp 12)),
          .p none 14 (.bin .lss .i64 (.tmp 11) (.tmp 13))])
      (.cond (.tmp 14)
        .skip
        (.exit 0)))
      (.seq (.block 1
        (.seq (.dreg (.line [.qp 0 none 17 (.mv (.tmp 0)),
            .qp 1 none 18 (.mv (.tmp 5)),
            .qp 2 none 19 (.idx 1 (.tmp 17) (.tmp 18)),
            .qp 4 none 21 (.mv (.tmp 1)),
            .qp 5 none 22 (.mv (.tmp 5)),
            .qp 6 none 23 (.idx 1 (.tmp 21) (.tmp 22)),
            .ql 7 none 24 none (.tmp 23),
            .l 3 none (some 20) (.ld none (.tmp 19)),
            .qp 8 none 25 (.bin .neq .u8 (.tmp 20) (.tmp 24))]))
        (.cond (.tmp 25)
          (.seq (.reg [.p none 4 (.mv (.const (.bool false)))])
          .ret)
          .skip)))
      (.reg [.p none 15 (.mv (.tmp 5)),
          .p none 16 (.bin .add .i64 (.tmp 15) (.const (.int .i64 1))),
          .p none 5 (.mv (.tmp 16))]))))))
  (.seq (.reg [.p none 4 (.mv (.const (.bool true)))])
  .ret))))
theorem C14 : compile Try.prog 26 (Try.f14.body.getD .skip) = some M14 := by kernel_rfl

/-- winnowlaw16.turned -/
def M15 : MC :=
  (.seq (.reg [.p none 4 (.mv (.const (.slice none 0 0)))])
  (.seq (.seq (.reg [.p none 6 (.mv (.tmp 1)),
      .p none 7 (.mm true .i64 (.tmp 6) [(.const (.int .i64 0))]),
      .p none 5 (.mv (.tmp 7))])
  (.block 0
    (.loop
      (.seq (.seq (.reg [.p none 8 (.mv (.tmp 5)),
          .p none 9 (.mv (.tmp 0)),
          .p none 10 (.len (.tmp 9)),
          .p none 11 (.bin .lss .i64 (.tmp 8) (.tmp 10))])
      (.cond (.tmp 11)
        .skip
        (.exit 0)))
      (.seq (.block 1
        (.reg [.p none 14 (.mv (.tmp 0)),
            .p none 15 (.mv (.tmp 5)),
            .p none 16 (.mv (.tmp 0)),
            .p none 17 (.mv (.tmp 5)),
            .p none 18 (.idx 1 (.tmp 16) (.tmp 17)),
            .l none (some 19) (.ld none (.tmp 18)),
            .p none 20 (.bin .xor .u8 (.tmp 19) (.const (.int .u8 64))),
            .p none 21 (.idx 1 (.tmp 14) (.tmp 15)),
            .l none none (.st 1 (.tmp 21) (.tmp 20))]))
      (.reg [.p none 12 (.mv (.tmp 5)),
          .p none 13 (.bin .add .i64 (.tmp 12) (.const (.int .i64 1))),
          .p none 5 (.mv (.tmp 13))]))))))
  (.seq (.reg [.p none 22 (.mv (.tmp 0)),
      .p none 4 (.mv (.tmp 22))])
  .ret)))
theorem C15 : compile Try.prog 23 (Try.f15.body.getD .skip) = some M15 := by kernel_rfl

/-- fault.right -/
def M37 : MC :=
  (.seq (.reg [.l none (some 1) (.bx 25 (.tmp 0)),
      .p none 2 (.mv (.const (.bool false)))])
  (.seq (.reg [.p none 4 (.bld [.nilFunc] [(0, 1, (.func 53))]),
      .p none 5 (.bld [.nilFunc] [(0, 1, (.func 54))]),
      .p none 6 (.bld [.nilFunc] [(0, 1, (.func 56))]),
      .p none 7 (.bld [.nilFunc, .nilFunc, .nilFunc] [(0, 1, (.tmp 4)), (1, 1, (.tmp 5)), (2, 1, (.tmp 6))]),
      .l none (some 3) (.al 91 [.nilFunc, .nilFunc, .nilFunc]),
      .l none none (.st 3 (.tmp 3) (.tmp 7))])
  (.seq (.dreg (.line [.qp 0 none 8 (.fa 0 (.tmp 1)),
      .l 1 none (some 9) (.ld none (.tmp 8)),
      .qp 2 none 10 (.bin .geq .i64 (.tmp 9) (.const (.int .i64 0))),
      .qp 3 none 11 (.mv (.tmp 10)),
      .split 11,
      .qp 4 (some (11, true)) 12 (.fa 0 (.tmp 1)),
      .l 5 (some (11, true)) (some 13) (.ld none (.tmp 12)),
      .qp 6 (some (11, true)) 14 (.bin .lss .i64 (.tmp 13) (.const (.int .i64 3))),
      .qp 7 none 15 (.pick (.tmp 11) (.tmp 14) (.const (.bool false))),
      .qp 8 none 16 (.mv (.tmp 15)),
      .split 16,
      .qp 9 (some (16, true)) 17 (.fa 2 (.tmp 1)),
      .l 10 (some (16, true)) (some 18) (.ld none (.tmp 17)),
      .qp 11 (some (16, true)) 19 (.bin .geq .i64 (.tmp 18) (.const (.int .i64 0))),
      .qp 12 none 20 (.pick (.tmp 16) (.tmp 19) (.const (.bool false))),
      .qp 13 none 21 (.mv (.tmp 20)),
      .split 21,
      .qp 14 (some (21, true)) 22 (.fa 3 (.tmp 1)),
      .l 15 (some (21, true)) (some 23) (.ld none (.tmp 22)),
      .qp 16 (some (21, true)) 24 (.bin .geq .i64 (.tmp 23) (.const (.int .i64 1))),
      .qp 17 none 25 (.pick (.tmp 21) (.tmp 24) (.const (.bool false))),
      .qp 18 none 26 (.mv (.tmp 25)),
      .split 26,
      .qp 19 (some (26, true)) 27 (.fa 3 (.tmp 1)),
      .l 20 (some (26, true)) (some 28) (.ld none (.tmp 27)),
      .qp 21 (some (26, true)) 29 (.bin .leq .i64 (.tmp 28) (.const (.int .i64 16))),
      .qp 22 none 30 (.pick (.tmp 26) (.tmp 29) (.const (.bool false))),
      .qp 23 none 31 (.mv (.tmp 30)),
      .split 31,
      .qp 24 (some (31, true)) 32 (.fa 0 (.tmp 1)),
      .ql 29 (some (31, true)) 37 (some 8) (.tmp 1),
      .l 25 (some (31, true)) (some 33) (.ld none (.tmp 32)),
      .qp 26 (some (31, true)) 34 (.idxa 3 1 (.tmp 3) (.tmp 33)),
      .qp 27 (some (31, true)) 35 (.fa 0 (.tmp 34)),
      .l 28 (some (31, true)) (some 36) (.ld none (.tmp 35)),
      .l 30 (some (31, true)) (some 38) (.callv (.tmp 36) [(.tmp 37)]),
      .qp 31 none 39 (.pick (.tmp 31) (.tmp 38) (.const (.bool false))),
      .qp 32 none 2 (.mv (.tmp 39))]))
  .ret)))
theorem C37 : compile Try.prog 40 (Try.f37.body.getD .skip) = some M37 := by kernel_rfl

/-- winnowref16.good -/
def M38 : MC :=
  (.seq (.reg [.l none (some 1) (.bx 25 (.tmp 0)),
      .p none 2 (.mv (.const (.bool false)))])
  (.seq (.seq (.reg [.p none 3 (.fa 2 (.tmp 1)),
      .l none (some 4) (.ld none (.tmp 3)),
      .p none 5 (.bin .lss .i64 (.tmp 4) (.const (.int .i64 0))),
      .p none 6 (.mv (.tmp 5)),
      .split 6,
      .p (some (6, false)) 7 (.fa 3 (.tmp 1)),
      .l (some (6, false)) (some 8) (.ld none (.tmp 7)),
      .p (some (6, false)) 9 (.bin .lss .i64 (.tmp 8) (.const (.int .i64 1))),
      .p none 10 (.pick (.tmp 6) (.const (.bool true)) (.tmp 9)),
      .p none 11 (.mv (.tmp 10)),
      .split 11,
      .p (some (11, false)) 12 (.fa 3 (.tmp 1)),
      .l (some (11, false)) (some 13) (.ld none (.tmp 12)),
      .p (some (11, false)) 14 (.bin .gtr .i64 (.tmp 13) (.const (.int .i64 16))),
      .p none 15 (.pick (.tmp 11) (.const (.bool true)) (.tmp 14))])
  (.cond (.tmp 15)
    (.seq (.reg [.p none 2 (.mv (.const (.bool false)))])
    .ret)
    .skip))
  (.seq (.seq (.reg [.p none 16 (.fa 0 (.tmp 1)),
      .l none (some 17) (.ld none (.tmp 16))])
  (.block 0
    (.seq (.reg [.p none 19 (.bin .eql .i64 (.tmp 17) (.const (.int .i64 0))),
        .p none 18 (.mv (.tmp 19))])
    (.cond (.tmp 18)
      (.seq (.reg [.l none (some 20) (.ld (some 8) (.tmp 1)),
          .l none (some 21) (.call 57 [(.tmp 20)]),
          .p none 2 (.mv (.tmp 21))])
      .ret)
      (.seq (.reg [.p none 23 (.bin .eql .i64 (.tmp 17) (.const (.int .i64 1))),
          .p none 22 (.mv (.tmp 23))])
      (.cond (.tmp 22)
        (.seq (.reg [.l none (some 24) (.ld (some 8) (.tmp 1)),
            .l none (some 25) (.call 58 [(.tmp 24)]),
            .p none 26 (.mv (.tmp 25)),
            .split 26,
            .p (some (26, true)) 27 (.fa 6 (.tmp 1)),
            .l (some (26, true)) (some 28) (.ld none (.tmp 27)),
            .p (some (26, true)) 29 (.bin .geq .i64 (.tmp 28) (.const (.int .i64 0))),
            .p none 30 (.pick (.tmp 26) (.tmp 29) (.const (.bool false))),
            .p none 31 (.mv (.tmp 30)),
            .split 31,
            .p (some (31, true)) 32 (.fa 7 (.tmp 1)),
            .l (some (31, true)) (some 33) (.ld none (.tmp 32)),
            .p (some (31, true)) 34 (.div .rem .u32 (.tmp 33) (.const (.int .u32 2))),
            .p (some (31, true)) 35 (.bin .eql .u32 (.tmp 34) (.const (.int .u32 1))),
            .p none 36 (.pick (.tmp 31) (.tmp 35) (.const (.bool false))),
            .p none 2 (.mv (.tmp 36))])
        .ret)
        (.seq (.reg [.p none 38 (.bin .eql .i64 (.tmp 17) (.const (.int .i64 2))),
            .p none 37 (.mv (.tmp 38))])
        (.cond (.tmp 37)
          (.seq (.reg [.l none (some 39) (.ld (some 8) (.tmp 1)),
              .l none (some 40) (.call 58 [(.tmp 39)]),
              .p none 41 (.mv (.tmp 40)),
              .split 41,
              .p (some (41, true)) 42 (.fa 6 (.tmp 1)),
              .l (some (41, true)) (some 43) (.ld none (.tmp 42)),
              .p (some (41, true)) 44 (.bin .geq .i64 (.tmp 43) (.const (.int .i64 (-268435456)))),
              .p none 45 (.pick (.tmp 41) (.tmp 44) (.const (.bool false))),
              .p none 46 (.mv (.tmp 45)),
              .split 46,
              .p (some (46, true)) 47 (.fa 6 (.tmp 1)),
              .l (some (46, true)) (some 48) (.ld none (.tmp 47)),
              .p (some (46, true)) 49 (.bin .leq .i64 (.tmp 48) (.const (.int .i64 4096))),
              .p none 50 (.pick (.tmp 46) (.tmp 49) (.const (.bool false))),
              .p none 51 (.mv (.tmp 50)),
              .split 51,
              .p (some (51, true)) 52 (.fa 6 (.tmp 1)),
              .l (some (51, true)) (some 53) (.ld none (.tmp 52)),
              .p (some (51, true)) 54 (.bin .neq .i64 (.tmp 53) (.const (.int .i64 0))),
              .p none 55 (.pick (.tmp 51) (.tmp 54) (.const (.bool false))),
              .p none 56 (.mv (.tmp 55)),
              .split 56,
              .p (some (56, true)) 57 (.fa 7 (.tmp 1)),
              .l (some (56, true)) (some 58) (.ld none (.tmp 57)),
              .p (some (56, true)) 59 (.bin .eql .u32 (.tmp 58) (.const (.int .u32 0))),
              .p none 60 (.pick (.tmp 56) (.tmp 59) (.const (.bool false))),
              .p none 2 (.mv (.tmp 60))])
          .ret)
          .skip))))))))
  (.seq (.reg [.p none 2 (.mv (.const (.bool false)))])
  .ret))))
theorem C38 : compile Try.prog 61 (Try.f38.body.getD .skip) = some M38 := by kernel_rfl

/-- fault.right$1 -/
def M53 : MC :=
  (.seq (.reg [.l none (some 1) (.bx 25 (.tmp 0)),
      .p none 2 (.mv (.const (.bool false)))])
  (.seq (.reg [.p none 3 (.mv (.const (.int .i64 256)))])
  (.seq (.seq (.reg [.p none 4 (.fa 1 (.tmp 1)),
      .l none (some 5) (.ld none (.tmp 4)),
      .p none 6 (.bin .eql .i64 (.tmp 5) (.const (.int .i64 1)))])
  (.cond (.tmp 6)
    (.reg [.p none 3 (.mv (.const (.int .i64 65535)))])
    .skip))
  (.seq (.reg [.p none 7 (.fa 1 (.tmp 1)),
      .l none (some 8) (.ld none (.tmp 7)),
      .p none 9 (.bin .eql .i64 (.tmp 8) (.const (.int .i64 0))),
      .p none 10 (.mv (.tmp 9)),
      .split 10,
      .p (some (10, false)) 11 (.fa 1 (.tmp 1)),
      .l (some (10, false)) (some 12) (.ld none (.tmp 11)),
      .p (some (10, false)) 13 (.bin .eql .i64 (.tmp 12) (.const (.int .i64 1))),
      .p none 14 (.pick (.tmp 10) (.const (.bool true)) (.tmp 13)),
      .p none 15 (.mv (.tmp 14)),
      .split 15,
      .p (some (15, true)) 16 (.fa 2 (.tmp 1)),
      .l (some (15, true)) (some 17) (.ld none (.tmp 16)),
      .p (some (15, true)) 18 (.mv (.tmp 3)),
      .p (some (15, true)) 19 (.bin .lss .i64 (.tmp 17) (.tmp 18)),
      .p none 20 (.pick (.tmp 15) (.tmp 19) (.const (.bool false))),
      .p none 21 (.mv (.tmp 20)),
      .split 21,
      .p (some (21, true)) 22 (.fa 4 (.tmp 1)),
      .l (some (21, true)) (some 23) (.ld none (.tmp 22)),
      .p (some (21, true)) 24 (.bin .eql .i64 (.tmp 23) (.const (.int .i64 0))),
      .p none 25 (.pick (.tmp 21) (.tmp 24) (.const (.bool false))),
      .p none 26 (.mv (.tmp 25)),
      .split 26,
      .p (some (26, true)) 27 (.fa 5 (.tmp 1)),
      .l (some (26, true)) (some 28) (.ld none (.tmp 27)),
      .p (some (26, true)) 29 (.bin .eql .i64 (.tmp 28) (.const (.int .i64 0))),
      .p none 30 (.pick (.tmp 26) (.tmp 29) (.const (.bool false))),
      .p none 31 (.mv (.tmp 30)),
      .split 31,
      .p (some (31, true)) 32 (.fa 6 (.tmp 1)),
      .l (some (31, true)) (some 33) (.ld none (.tmp 32)),
      .p (some (31, true)) 34 (.bin .geq .i64 (.tmp 33) (.const (.int .i64 0))),
      .p none 35 (.pick (.tmp 31) (.tmp 34) (.const (.bool false))),
      .p none 36 (.mv (.tmp 35)),
      .split 36,
      .p (some (36, true)) 37 (.fa 7 (.tmp 1)),
      .l (some (36, true)) (some 38) (.ld none (.tmp 37)),
      .p (some (36, true)) 39 (.bin .eql .u32 (.tmp 38) (.const (.int .u32 0))),
      .p none 40 (.pick (.tmp 36) (.tmp 39) (.const (.bool false))),
      .p none 2 (.mv (.tmp 40))])
  .ret))))
theorem C53 : compile Try.prog 41 (Try.f53.body.getD .skip) = some M53 := by kernel_rfl

/-- fault.right$2 -/
def M54 : MC :=
  (.seq (.reg [.l none (some 1) (.bx 25 (.tmp 0)),
      .p none 2 (.mv (.const (.bool false)))])
  (.seq (.reg [.l none (some 3) (.ld (some 8) (.tmp 1)),
      .l none (some 4) (.call 55 [(.tmp 3)]),
      .p none 5 (.mv (.tmp 4)),
      .split 5,
      .p (some (5, true)) 6 (.fa 6 (.tmp 1)),
      .l (some (5, true)) (some 7) (.ld none (.tmp 6)),
      .p (some (5, true)) 8 (.bin .geq .i64 (.tmp 7) (.const (.int .i64 0))),
      .p none 9 (.pick (.tmp 5) (.tmp 8) (.const (.bool false))),
      .p none 10 (.mv (.tmp 9)),
      .split 10,
      .p (some (10, true)) 11 (.fa 7 (.tmp 1)),
      .l (some (10, true)) (some 12) (.ld none (.tmp 11)),
      .p (some (10, true)) 13 (.bin .and .u32 (.tmp 12) (.const (.int .u32 1))),
      .p (some (10, true)) 14 (.bin .eql .u32 (.tmp 13) (.const (.int .u32 1))),
      .p none 15 (.pick (.tmp 10) (.tmp 14) (.const (.bool false))),
      .p none 2 (.mv (.tmp 15))])
  .ret))
theorem C54 : compile Try.prog 16 (Try.f54.body.getD .skip) = some M54 := by kernel_rfl

/-- fault.damages -/
def M55 : MC :=
  (.seq (.reg [.l none (some 1) (.bx 25 (.tmp 0)),
      .p none 2 (.mv (.const (.bool false)))])
  (.seq (.seq (.reg [.p none 3 (.fa 1 (.tmp 1)),
      .l none (some 4) (.ld none (.tmp 3)),
      .p none 5 (.bin .neq .i64 (.tmp 4) (.const (.int .i64 0))),
      .p none 6 (.mv (.tmp 5)),
      .split 6,
      .p (some (6, false)) 7 (.fa 2 (.tmp 1)),
      .l (some (6, false)) (some 8) (.ld none (.tmp 7)),
      .p (some (6, false)) 9 (.bin .geq .i64 (.tmp 8) (.const (.int .i64 256))),
      .p none 10 (.pick (.tmp 6) (.const (.bool true)) (.tmp 9)),
      .p none 11 (.mv (.tmp 10)),
      .split 11,
      .p (some (11, false)) 12 (.fa 4 (.tmp 1)),
      .l (some (11, false)) (some 13) (.ld none (.tmp 12)),
      .p (some (11, false)) 14 (.bin .lss .i64 (.tmp 13) (.const (.int .i64 0))),
      .p none 15 (.pick (.tmp 11) (.const (.bool true)) (.tmp 14)),
      .p none 16 (.mv (.tmp 15)),
      .split 16,
      .p (some (16, false)) 17 (.fa 4 (.tmp 1)),
      .l (some (16, false)) (some 18) (.ld none (.tmp 17)),
      .p (some (16, false)) 19 (.bin .gtr .i64 (.tmp 18) (.const (.int .i64 2))),
      .p none 20 (.pick (.tmp 16) (.const (.bool true)) (.tmp 19))])
  (.cond (.tmp 20)
    (.seq (.reg [.p none 2 (.mv (.const (.bool false)))])
    .ret)
    .skip))
  (.seq (.reg [.p none 21 (.fa 5 (.tmp 1)),
      .l none (some 22) (.ld none (.tmp 21)),
      .p none 23 (.bin .eql .i64 (.tmp 22) (.const (.int .i64 0))),
      .p none 24 (.mv (.tmp 23)),
      .split 24,
      .p (some (24, false)) 25 (.fa 4 (.tmp 1)),
      .l (some (24, false)) (some 26) (.ld none (.tmp 25)),
      .p (some (24, false)) 27 (.bin .eql .i64 (.tmp 26) (.const (.int .i64 2))),
      .p (some (24, false)) 28 (.mv (.tmp 27)),
      .split 28,
      .p (some (28, true)) 29 (.fa 5 (.tmp 1)),
      .l (some (28, true)) (some 30) (.ld none (.tmp 29)),
      .p (some (28, true)) 31 (.bin .gtr .i64 (.tmp 30) (.const (.int .i64 0))),
      .p (some (24, false)) 32 (.pick (.tmp 28) (.tmp 31) (.const (.bool false))),
      .p (some (24, false)) 33 (.mv (.tmp 32)),
      .split 33,
      .p (some (33, true)) 34 (.fa 5 (.tmp 1)),
      .l (some (33, true)) (some 35) (.ld none (.tmp 34)),
      .p (some (33, true)) 36 (.bin .lss .i64 (.tmp 35) (.const (.int .i64 65535))),
      .p (some (24, false)) 37 (.pick (.tmp 33) (.tmp 36) (.const (.bool false))),
      .p none 38 (.pick (.tmp 24) (.const (.bool true)) (.tmp 37)),
      .p none 2 (.mv (.tmp 38))])
  .ret)))
theorem C55 : compile Try.prog 39 (Try.f55.body.getD .skip) = some M55 := by kernel_rfl

/-- fault.right$3 -/
def M56 : MC :=
  (.seq (.reg [.l none (some 1) (.bx 25 (.tmp 0)),
      .p none 2 (.mv (.const (.bool false)))])
  (.seq (.reg [.l none (some 3) (.ld (some 8) (.tmp 1)),
      .l none (some 4) (.call 55 [(.tmp 3)]),
      .p none 5 (.mv (.tmp 4)),
      .split 5,
      .p (some (5, true)) 6 (.fa 6 (.tmp 1)),
      .l (some (5, true)) (some 7) (.ld none (.tmp 6)),
      .p (some (5, true)) 8 (.bin .geq .i64 (.tmp 7) (.const (.int .i64 (-268435456)))),
      .p none 9 (.pick (.tmp 5) (.tmp 8) (.const (.bool false))),
      .p none 10 (.mv (.tmp 9)),
      .split 10,
      .p (some (10, true)) 11 (.fa 6 (.tmp 1)),
      .l (some (10, true)) (some 12) (.ld none (.tmp 11)),
      .p (some (10, true)) 13 (.bin .leq .i64 (.tmp 12) (.const (.int .i64 4096))),
      .p none 14 (.pick (.tmp 10) (.tmp 13) (.const (.bool false))),
      .p none 15 (.mv (.tmp 14)),
      .split 15,
      .p (some (15, true)) 16 (.fa 6 (.tmp 1)),
      .l (some (15, true)) (some 17) (.ld none (.tmp 16)),
      .p (some (15, true)) 18 (.bin .neq .i64 (.tmp 17) (.const (.int .i64 0))),
      .p none 19 (.pick (.tmp 15) (.tmp 18) (.const (.bool false))),
      .p none 20 (.mv (.tmp 19)),
      .split 20,
      .p (some (20, true)) 21 (.fa 7 (.tmp 1)),
      .l (some (20, true)) (some 22) (.ld none (.tmp 21)),
      .p (some (20, true)) 23 (.bin .eql .u32 (.tmp 22) (.const (.int .u32 0))),
      .p none 24 (.pick (.tmp 20) (.tmp 23) (.const (.bool false))),
      .p none 2 (.mv (.tmp 24))])
  .ret))
theorem C56 : compile Try.prog 25 (Try.f56.body.getD .skip) = some M56 := by kernel_rfl

/-- winnowref16.stop -/
def M57 : MC :=
  (.seq (.reg [.l none (some 1) (.bx 25 (.tmp 0)),
      .p none 2 (.mv (.const (.bool false)))])
  (.seq (.seq (.reg [.p none 3 (.fa 1 (.tmp 1)),
      .l none (some 4) (.ld none (.tmp 3)),
      .p none 5 (.bin .neq .i64 (.tmp 4) (.const (.int .i64 0))),
      .p none 6 (.mv (.tmp 5)),
      .split 6,
      .p (some (6, true)) 7 (.fa 1 (.tmp 1)),
      .l (some (6, true)) (some 8) (.ld none (.tmp 7)),
      .p (some (6, true)) 9 (.bin .neq .i64 (.tmp 8) (.const (.int .i64 1))),
      .p none 10 (.pick (.tmp 6) (.tmp 9) (.const (.bool false))),
      .p none 11 (.mv (.tmp 10)),
      .split 11,
      .p (some (11, false)) 12 (.fa 4 (.tmp 1)),
      .l (some (11, false)) (some 13) (.ld none (.tmp 12)),
      .p (some (11, false)) 14 (.bin .neq .i64 (.tmp 13) (.const (.int .i64 0))),
      .p none 15 (.pick (.tmp 11) (.const (.bool true)) (.tmp 14)),
      .p none 16 (.mv (.tmp 15)),
      .split 16,
      .p (some (16, false)) 17 (.fa 5 (.tmp 1)),
      .l (some (16, false)) (some 18) (.ld none (.tmp 17)),
      .p (some (16, false)) 19 (.bin .neq .i64 (.tmp 18) (.const (.int .i64 0))),
      .p none 20 (.pick (.tmp 16) (.const (.bool true)) (.tmp 19)),
      .p none 21 (.mv (.tmp 20)),
      .split 21,
      .p (some (21, false)) 22 (.fa 7 (.tmp 1)),
      .l (some (21, false)) (some 23) (.ld none (.tmp 22)),
      .p (some (21, false)) 24 (.bin .neq .u32 (.tmp 23) (.const (.int .u32 0))),
      .p none 25 (.pick (.tmp 21) (.const (.bool true)) (.tmp 24)),
      .p none 26 (.mv (.tmp 25)),
      .split 26,
      .p (some (26, false)) 27 (.fa 6 (.tmp 1)),
      .l (some (26, false)) (some 28) (.ld none (.tmp 27)),
      .p (some (26, false)) 29 (.bin .lss .i64 (.tmp 28) (.const (.int .i64 0))),
      .p none 30 (.pick (.tmp 26) (.const (.bool true)) (.tmp 29))])
  (.cond (.tmp 30)
    (.seq (.reg [.p none 2 (.mv (.const (.bool false)))])
    .ret)
    .skip))
  (.seq (.reg [.p none 31 (.fa 1 (.tmp 1)),
      .l none (some 32) (.ld none (.tmp 31)),
      .p none 33 (.bin .eql .i64 (.tmp 32) (.const (.int .i64 0))),
      .p none 34 (.mv (.tmp 33)),
      .split 34,
      .p (some (34, true)) 35 (.fa 2 (.tmp 1)),
      .l (some (34, true)) (some 36) (.ld none (.tmp 35)),
      .p (some (34, true)) 37 (.bin .lss .i64 (.tmp 36) (.const (.int .i64 256))),
      .p none 38 (.pick (.tmp 34) (.tmp 37) (.const (.bool false))),
      .p none 39 (.mv (.tmp 38)),
      .split 39,
      .p (some (39, false)) 40 (.fa 1 (.tmp 1)),
      .l (some (39, false)) (some 41) (.ld none (.tmp 40)),
      .p (some (39, false)) 42 (.bin .eql .i64 (.tmp 41) (.const (.int .i64 1))),
      .p (some (39, false)) 43 (.mv (.tmp 42)),
      .split 43,
      .p (some (43, true)) 44 (.fa 2 (.tmp 1)),
      .l (some (43, true)) (some 45) (.ld none (.tmp 44)),
      .p (some (43, true)) 46 (.bin .lss .i64 (.tmp 45) (.const (.int .i64 65535))),
      .p (some (39, false)) 47 (.pick (.tmp 43) (.tmp 46) (.const (.bool false))),
      .p none 48 (.pick (.tmp 39) (.const (.bool true)) (.tmp 47)),
      .p none 2 (.mv (.tmp 48))])
  .ret)))
theorem C57 : compile Try.prog 49 (Try.f57.body.getD .skip) = some M57 := by kernel_rfl

/-- winnowref16.damage -/
def M58 : MC :=
  (.seq (.reg [.l none (some 1) (.bx 25 (.tmp 0)),
      .p none 2 (.mv (.const (.bool false)))])
  (.seq (.seq (.reg [.p none 3 (.fa 1 (.tmp 1)),
      .l none (some 4) (.ld none (.tmp 3)),
      .p none 5 (.bin .neq .i64 (.tmp 4) (.const (.int .i64 0))),
      .p none 6 (.mv (.tmp 5)),
      .split 6,
      .p (some (6, false)) 7 (.fa 2 (.tmp 1)),
      .l (some (6, false)) (some 8) (.ld none (.tmp 7)),
      .p (some (6, false)) 9 (.bin .geq .i64 (.tmp 8) (.const (.int .i64 256))),
      .p none 10 (.pick (.tmp 6) (.const (.bool true)) (.tmp 9)),
      .p none 11 (.mv (.tmp 10)),
      .split 11,
      .p (some (11, false)) 12 (.fa 4 (.tmp 1)),
      .l (some (11, false)) (some 13) (.ld none (.tmp 12)),
      .p (some (11, false)) 14 (.bin .lss .i64 (.tmp 13) (.const (.int .i64 0))),
      .p none 15 (.pick (.tmp 11) (.const (.bool true)) (.tmp 14)),
      .p none 16 (.mv (.tmp 15)),
      .split 16,
      .p (some (16, false)) 17 (.fa 4 (.tmp 1)),
      .l (some (16, false)) (some 18) (.ld none (.tmp 17)),
      .p (some (16, false)) 19 (.bin .gtr .i64 (.tmp 18) (.const (.int .i64 2))),
      .p none 20 (.pick (.tmp 16) (.const (.bool true)) (.tmp 19)),
      .p none 21 (.mv (.tmp 20)),
      .split 21,
      .p (some (21, false)) 22 (.fa 5 (.tmp 1)),
      .l (some (21, false)) (some 23) (.ld none (.tmp 22)),
      .p (some (21, false)) 24 (.bin .lss .i64 (.tmp 23) (.const (.int .i64 0))),
      .p none 25 (.pick (.tmp 21) (.const (.bool true)) (.tmp 24)),
      .p none 26 (.mv (.tmp 25)),
      .split 26,
      .p (some (26, false)) 27 (.fa 5 (.tmp 1)),
      .l (some (26, false)) (some 28) (.ld none (.tmp 27)),
      .p (some (26, false)) 29 (.bin .geq .i64 (.tmp 28) (.const (.int .i64 65535))),
      .p none 30 (.pick (.tmp 26) (.const (.bool true)) (.tmp 29))])
  (.cond (.tmp 30)
    (.seq (.reg [.p none 2 (.mv (.const (.bool false)))])
    .ret)
    .skip))
  (.seq (.reg [.p none 31 (.fa 4 (.tmp 1)),
      .l none (some 32) (.ld none (.tmp 31)),
      .p none 33 (.bin .eql .i64 (.tmp 32) (.const (.int .i64 2))),
      .p none 34 (.mv (.tmp 33)),
      .split 34,
      .p (some (34, false)) 35 (.fa 5 (.tmp 1)),
      .l (some (34, false)) (some 36) (.ld none (.tmp 35)),
      .p (some (34, false)) 37 (.bin .eql .i64 (.tmp 36) (.const (.int .i64 0))),
      .p none 38 (.pick (.tmp 34) (.const (.bool true)) (.tmp 37)),
      .p none 2 (.mv (.tmp 38))])
  .ret)))
theorem C58 : compile Try.prog 39 (Try.f58.body.getD .skip) = some M58 := by kernel_rfl
end Go.Proofs.Ytnkilhmkegmenaa.E
