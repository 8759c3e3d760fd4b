/- The intermediate code of the functions that are walked here, each with the proof that it is the translation of the model's code. -/
import Derived.Test.YthhmhmnhbababaaE6
import Derived.KernelRfl
namespace Go.Proofs.Ythhmhmnhbababaa.E
open Go
theorem mixed : Try.prog.follows .mixedOrders = true := by kernel_rfl

/-- winnowlaw8.FootFind -/
noncomputable def M3 : MC :=
  (.seq (.reg [.l none (some 3) (.bx 24 (.tmp 0)),
      .p none 6 (.mv (.const (.bool false)))])
  (.seq (.seq (.reg [.l none (some 12) (.ld (some 2) (.tmp 3)),
      .l none (some 13) (.call 13 [(.tmp 12)]),
      .p none 14 (.bin .neq .i64 (.tmp 13) (.const (.int .i64 0)))])
  (.cond (.tmp 14)
    (.seq (.reg [.l none (some 15) (.ld (some 2) (.tmp 3)),
        .l none (some 16) (.call 14 [(.tmp 15)]),
        .p none 17 (.bin .eql .i64 (.tmp 16) (.const (.int .i64 80))),
        .p none 6 (.mv (.tmp 17))])
    .ret)
    .skip))
  (.seq (.reg [.l none (some 18) (.ld (some 2) (.tmp 3)),
      .l none (some 19) (.call 15 [(.tmp 18)]),
      .l none (some 7) (.al 24 [(.int .i64 0), (.slice none 0 0)]),
      .l none none (.st 2 (.tmp 7) (.tmp 19))])
  (.seq (.reg [.l none (some 21) (.ld (some 2) (.tmp 7)),
      .p none 22 (.mv (.tmp 1)),
      .p none 23 (.mv (.tmp 2)),
      .l none (some 24) (.call 16 [(.tmp 21), (.tmp 22), (.tmp 23)]),
      .p none 20 (.mv (.tmp 24)),
      .p none 25 (.ext 0 (.tmp 20)),
      .p none 26 (.ext 1 (.tmp 20)),
      .p none 8 (.mv (.tmp 25)),
      .p none 9 (.mv (.tmp 26))])
  (.seq (.reg [.l none (some 28) (.ld (some 2) (.tmp 3)),
      .p none 29 (.mv (.tmp 1)),
      .p none 30 (.mv (.tmp 2)),
      .l none (some 31) (.call 17 [(.tmp 28), (.tmp 29), (.tmp 30)]),
      .p none 27 (.mv (.tmp 31)),
      .p none 32 (.ext 0 (.tmp 27)),
      .p none 33 (.ext 1 (.tmp 27)),
      .p none 10 (.mv (.tmp 32)),
      .p none 11 (.mv (.tmp 33))])
  (.seq (.seq (.reg [.p none 34 (.mv (.tmp 8)),
      .p none 35 (.mv (.tmp 10)),
      .p none 36 (.bin .neq .i64 (.tmp 34) (.tmp 35)),
      .p none 37 (.mv (.tmp 36)),
      .split 37,
      .p (some (37, false)) 38 (.mv (.tmp 9)),
      .p (some (37, false)) 39 (.mv (.tmp 11)),
      .p (some (37, false)) 40 (.bin .neq .i64 (.tmp 38) (.tmp 39)),
      .p none 41 (.pick (.tmp 37) (.const (.bool true)) (.tmp 40)),
      .p none 42 (.mv (.tmp 41)),
      .split 42,
      .l (some (42, false)) (some 43) (.ld (some 2) (.tmp 7)),
      .l (some (42, false)) (some 44) (.ld (some 2) (.tmp 3)),
      .l (some (42, false)) (some 45) (.call 18 [(.tmp 43), (.tmp 44)]),
      .p (some (42, false)) 46 (.not (.tmp 45)),
      .p none 47 (.pick (.tmp 42) (.const (.bool true)) (.tmp 46))])
  (.cond (.tmp 47)
    (.seq (.reg [.p none 6 (.mv (.const (.bool false)))])
    .ret)
    .skip))
  (.seq (.seq (.reg [.p none 48 (.fa 1 (.tmp 7)),
      .l none (some 49) (.ld none (.tmp 48)),
      .p none 50 (.len (.tmp 49)),
      .p none 51 (.bin .eql .i64 (.tmp 50) (.const (.int .i64 0)))])
  (.cond (.tmp 51)
    (.seq (.reg [.p none 6 (.mv (.const (.bool true)))])
    .ret)
    .skip))
  (.seq (.dreg (.line [.qp 1 none 53 (.mv (.tmp 1)),
      .qp 2 none 54 (.mv (.tmp 2)),
      .l 0 none (some 52) (.ld (some 2) (.tmp 7)),
      .l 3 none (some 55) (.call 19 [(.tmp 52), (.tmp 53), (.tmp 54), (.const (.string ⟨#[]⟩))]),
      .qp 4 none 56 (.mv (.tmp 55)),
      .split 56,
      .qp 6 (some (56, true)) 58 (.mv (.tmp 1)),
      .qp 7 (some (56, true)) 59 (.mv (.tmp 2)),
      .ql 5 (some (56, true)) 57 (some 2) (.tmp 7),
      .l 8 (some (56, true)) (some 60) (.call 20 []),
      .l 9 (some (56, true)) (some 61) (.call 19 [(.tmp 57), (.tmp 58), (.tmp 59), (.tmp 60)]),
      .qp 10 none 62 (.pick (.tmp 56) (.tmp 61) (.const (.bool false))),
      .qp 11 none 6 (.mv (.tmp 62))]))
  .ret))))))))
theorem C3 : compile Try.prog 63 (Try.f3.body.getD .skip) = some M3 := by kernel_rfl

/-- winnowref8.Check -/
noncomputable def M13 : MC :=
  (.seq (.reg [.l none (some 1) (.bx 24 (.tmp 0)),
      .p none 2 (.mv (.const (.int .i64 0)))])
  (.seq (.seq (.reg [.p none 9 (.fa 0 (.tmp 1)),
      .l none (some 10) (.ld none (.tmp 9)),
      .p none 11 (.bin .lss .i64 (.tmp 10) (.const (.int .i64 1))),
      .p none 12 (.mv (.tmp 11)),
      .split 12,
      .p (some (12, false)) 13 (.fa 0 (.tmp 1)),
      .l (some (12, false)) (some 14) (.ld none (.tmp 13)),
      .p (some (12, false)) 15 (.bin .gtr .i64 (.tmp 14) (.const (.int .i64 65535))),
      .p none 16 (.pick (.tmp 12) (.const (.bool true)) (.tmp 15))])
  (.cond (.tmp 16)
    (.seq (.reg [.p none 2 (.mv (.const (.int .i64 80)))])
    .ret)
    .skip))
  (.seq (.reg [.p none 3 (.mv (.const (.int .i64 0)))])
  (.seq (.reg [.p none 4 (.mv (.const (.int .i64 (-1))))])
  (.seq (.seq (.reg [.p none 5 (.mv (.const (.int .i64 0)))])
  (.block 0
    (.loop
      (.seq (.seq (.reg [.p none 17 (.mv (.tmp 5)),
          .p none 18 (.fa 1 (.tmp 1)),
          .l none (some 19) (.ld none (.tmp 18)),
          .p none 20 (.len (.tmp 19)),
          .p none 21 (.bin .lss .i64 (.tmp 17) (.tmp 20))])
      (.cond (.tmp 21)
        .skip
        (.exit 0)))
      (.seq (.block 1
        (.seq (.reg [.p none 24 (.fa 1 (.tmp 1)),
            .l none (some 25) (.ld none (.tmp 24)),
            .p none 26 (.mv (.tmp 5)),
            .p none 27 (.idx 5 (.tmp 25) (.tmp 26)),
            .l none (some 28) (.ld (some 5) (.tmp 27)),
            .l none (some 6) (.al 71 [(.int .i64 0), (.slice none 0 0), (.bool false), (.int .i64 0), (.slice none 0 0)]),
            .l none none (.st 5 (.tmp 6) (.tmp 28))])
        (.seq (.seq (.reg [.p none 29 (.fa 0 (.tmp 6)),
            .l none (some 30) (.ld none (.tmp 29)),
            .p none 31 (.mv (.tmp 4)),
            .p none 32 (.bin .leq .i64 (.tmp 30) (.tmp 31)),
            .p none 33 (.mv (.tmp 32)),
            .split 33,
            .p (some (33, false)) 34 (.fa 0 (.tmp 6)),
            .l (some (33, false)) (some 35) (.ld none (.tmp 34)),
            .p (some (33, false)) 36 (.fa 0 (.tmp 1)),
            .l (some (33, false)) (some 37) (.ld none (.tmp 36)),
            .p (some (33, false)) 38 (.bin .geq .i64 (.tmp 35) (.tmp 37)),
            .p none 39 (.pick (.tmp 33) (.const (.bool true)) (.tmp 38)),
            .p none 40 (.mv (.tmp 39)),
            .split 40,
            .p (some (40, false)) 41 (.fa 1 (.tmp 6)),
            .l (some (40, false)) (some 42) (.ld none (.tmp 41)),
            .p (some (40, false)) 43 (.len (.tmp 42)),
            .p (some (40, false)) 44 (.bin .eql .i64 (.tmp 43) (.const (.int .i64 0))),
            .p none 45 (.pick (.tmp 40) (.const (.bool true)) (.tmp 44)),
            .p none 46 (.mv (.tmp 45)),
            .split 46,
            .p (some (46, false)) 47 (.fa 2 (.tmp 6)),
            .l (some (46, false)) (some 48) (.ld (some 3) (.tmp 47)),
            .l (some (46, false)) (some 49) (.call 44 [(.tmp 48)]),
            .p (some (46, false)) 50 (.bin .neq .i64 (.tmp 49) (.const (.int .i64 0))),
            .p none 51 (.pick (.tmp 46) (.const (.bool true)) (.tmp 50))])
        (.cond (.tmp 51)
          (.seq (.reg [.p none 2 (.mv (.const (.int .i64 80)))])
          .ret)
          .skip))
        (.seq (.reg [.p none 52 (.fa 0 (.tmp 6)),
            .l none (some 53) (.ld none (.tmp 52)),
            .p none 4 (.mv (.tmp 53))])
        (.seq (.reg [.p none 54 (.mv (.tmp 3)),
            .p none 55 (.fa 1 (.tmp 6)),
            .l none (some 56) (.ld none (.tmp 55)),
            .p none 57 (.len (.tmp 56)),
            .p none 58 (.bin .add .i64 (.tmp 54) (.tmp 57)),
            .p none 3 (.mv (.tmp 58))])
        (.seq (.reg [.p none 7 (.mv (.const (.int .i64 0)))])
        (.block 2
          (.loop
            (.seq (.seq (.reg [.p none 59 (.mv (.tmp 7)),
                .p none 60 (.fa 1 (.tmp 6)),
                .l none (some 61) (.ld none (.tmp 60)),
                .p none 62 (.len (.tmp 61)),
                .p none 63 (.bin .lss .i64 (.tmp 59) (.tmp 62))])
            (.cond (.tmp 63)
              .skip
              (.exit 2)))
            (.seq (.block 3
              (.seq (.reg [.p none 66 (.fa 1 (.tmp 6)),
                  .l none (some 67) (.ld none (.tmp 66)),
                  .p none 68 (.mv (.tmp 7)),
                  .p none 69 (.idx 4 (.tmp 67) (.tmp 68)),
                  .l none (some 70) (.ld (some 4) (.tmp 69)),
                  .l none (some 71) (.call 45 [(.tmp 70)]),
                  .p none 8 (.mv (.tmp 71))])
              (.seq (.dreg (.line [.qp 0 none 72 (.mv (.tmp 8)),
                  .qp 1 none 73 (.not (.tmp 72)),
                  .qp 2 none 74 (.mv (.tmp 73)),
                  .split 74,
                  .qp 3 (some (74, false)) 75 (.mv (.tmp 7)),
                  .qp 4 (some (74, false)) 76 (.bin .gtr .i64 (.tmp 75) (.const (.int .i64 0))),
                  .qp 5 (some (74, false)) 77 (.mv (.tmp 76)),
                  .split 77,
                  .qp 6 (some (77, true)) 78 (.fa 1 (.tmp 6)),
                  .qp 8 (some (77, true)) 80 (.mv (.tmp 7)),
                  .qp 12 (some (77, true)) 84 (.fa 1 (.tmp 6)),
                  .qp 14 (some (77, true)) 86 (.mv (.tmp 7)),
                  .qp 15 (some (77, true)) 87 (.bin .sub .i64 (.tmp 86) (.const (.int .i64 1))),
                  .ql 13 (some (77, true)) 85 none (.tmp 84),
                  .qp 16 (some (77, true)) 88 (.idx 4 (.tmp 85) (.tmp 87)),
                  .qp 17 (some (77, true)) 89 (.fa 3 (.tmp 88)),
                  .ql 18 (some (77, true)) 90 none (.tmp 89),
                  .l 7 (some (77, true)) (some 79) (.ld none (.tmp 78)),
                  .qp 9 (some (77, true)) 81 (.idx 4 (.tmp 79) (.tmp 80)),
                  .qp 10 (some (77, true)) 82 (.fa 3 (.tmp 81)),
                  .l 11 (some (77, true)) (some 83) (.ld none (.tmp 82)),
                  .qp 19 (some (77, true)) 91 (.sbin .lss (.tmp 83) (.tmp 90)),
                  .qp 20 (some (74, false)) 92 (.pick (.tmp 77) (.tmp 91) (.const (.bool false))),
                  .qp 21 none 93 (.pick (.tmp 74) (.const (.bool true)) (.tmp 92))]))
              (.cond (.tmp 93)
                (.seq (.reg [.p none 2 (.mv (.const (.int .i64 80)))])
                .ret)
                .skip))))
            (.reg [.p none 64 (.mv (.tmp 7)),
                .p none 65 (.bin .add .i64 (.tmp 64) (.const (.int .i64 1))),
                .p none 7 (.mv (.tmp 65))])))))))))))
      (.reg [.p none 22 (.mv (.tmp 5)),
          .p none 23 (.bin .add .i64 (.tmp 22) (.const (.int .i64 1))),
          .p none 5 (.mv (.tmp 23))]))))))
  (.seq (.seq (.reg [.p none 94 (.mv (.tmp 3)),
      .p none 95 (.bin .gtr .i64 (.tmp 94) (.const (.int .i64 262144)))])
  (.cond (.tmp 95)
    (.seq (.reg [.p none 2 (.mv (.const (.int .i64 80)))])
    .ret)
    .skip))
  (.seq (.reg [.p none 2 (.mv (.const (.int .i64 0)))])
  .ret)))))))
theorem C13 : compile Try.prog 96 (Try.f13.body.getD .skip) = some M13 := by kernel_rfl

/-- foot.Check -/
noncomputable def M14 : MC :=
  (.seq (.reg [.l none (some 1) (.bx 24 (.tmp 0)),
      .p none 2 (.mv (.const (.int .i64 0)))])
  (.seq (.seq (.reg [.p none 10 (.fa 0 (.tmp 1)),
      .l none (some 11) (.ld none (.tmp 10)),
      .p none 12 (.bin .lss .i64 (.tmp 11) (.const (.int .i64 1))),
      .p none 13 (.mv (.tmp 12)),
      .split 13,
      .p (some (13, false)) 14 (.fa 0 (.tmp 1)),
      .l (some (13, false)) (some 15) (.ld none (.tmp 14)),
      .p (some (13, false)) 16 (.bin .gtr .i64 (.tmp 15) (.const (.int .i64 65535))),
      .p none 17 (.pick (.tmp 13) (.const (.bool true)) (.tmp 16))])
  (.cond (.tmp 17)
    (.seq (.reg [.p none 2 (.mv (.const (.int .i64 80)))])
    .ret)
    .skip))
  (.seq (.reg [.p none 3 (.mv (.const (.int .i64 (-1)))),
      .p none 4 (.mv (.const (.int .i64 0)))])
  (.seq (.seq (.reg [.p none 18 (.fa 1 (.tmp 1)),
      .l none (some 19) (.ld none (.tmp 18)),
      .p none 20 (.len (.tmp 19)),
      .p none 21 (.mv (.const (.int .i64 0)))])
  (.block 0
    (.loop
      (.seq (.reg [.p none 22 (.bin .lss .i64 (.tmp 21) (.tmp 20))])
      (.seq (.cond (.tmp 22)
        .skip
        (.exit 0))
      (.seq (.block 1
        (.seq (.reg [.p none 23 (.idx 5 (.tmp 19) (.tmp 21)),
            .l none (some 24) (.ld (some 5) (.tmp 23)),
            .l none (some 6) (.al 71 [(.int .i64 0), (.slice none 0 0), (.bool false), (.int .i64 0), (.slice none 0 0)]),
            .l none none (.st 5 (.tmp 6) (.tmp 24))])
        (.seq (.reg [.p none 25 (.mv (.tmp 4)),
            .p none 26 (.fa 1 (.tmp 6)),
            .l none (some 27) (.ld none (.tmp 26)),
            .p none 28 (.len (.tmp 27)),
            .p none 29 (.bin .add .i64 (.tmp 25) (.tmp 28)),
            .p none 4 (.mv (.tmp 29))])
        (.seq (.seq (.reg [.p none 30 (.fa 0 (.tmp 6)),
            .l none (some 31) (.ld none (.tmp 30)),
            .p none 32 (.mv (.tmp 3)),
            .p none 33 (.bin .leq .i64 (.tmp 31) (.tmp 32)),
            .p none 34 (.mv (.tmp 33)),
            .split 34,
            .p (some (34, false)) 35 (.fa 0 (.tmp 6)),
            .l (some (34, false)) (some 36) (.ld none (.tmp 35)),
            .p (some (34, false)) 37 (.fa 0 (.tmp 1)),
            .l (some (34, false)) (some 38) (.ld none (.tmp 37)),
            .p (some (34, false)) 39 (.bin .geq .i64 (.tmp 36) (.tmp 38)),
            .p none 40 (.pick (.tmp 34) (.const (.bool true)) (.tmp 39)),
            .p none 41 (.mv (.tmp 40)),
            .split 41,
            .p (some (41, false)) 42 (.fa 1 (.tmp 6)),
            .l (some (41, false)) (some 43) (.ld none (.tmp 42)),
            .p (some (41, false)) 44 (.len (.tmp 43)),
            .p (some (41, false)) 45 (.bin .eql .i64 (.tmp 44) (.const (.int .i64 0))),
            .p none 46 (.pick (.tmp 41) (.const (.bool true)) (.tmp 45)),
            .p none 47 (.mv (.tmp 46)),
            .split 47,
            .p (some (47, false)) 48 (.mv (.tmp 4)),
            .p (some (47, false)) 49 (.bin .gtr .i64 (.tmp 48) (.const (.int .i64 262144))),
            .p none 50 (.pick (.tmp 47) (.const (.bool true)) (.tmp 49)),
            .p none 51 (.mv (.tmp 50)),
            .split 51,
            .p (some (51, false)) 52 (.fa 2 (.tmp 6)),
            .l (some (51, false)) (some 53) (.ld (some 3) (.tmp 52)),
            .l (some (51, false)) (some 54) (.call 46 [(.tmp 53)]),
            .p (some (51, false)) 55 (.bin .neq .i64 (.tmp 54) (.const (.int .i64 0))),
            .p none 56 (.pick (.tmp 51) (.const (.bool true)) (.tmp 55))])
        (.cond (.tmp 56)
          (.seq (.reg [.p none 2 (.mv (.const (.int .i64 80)))])
          .ret)
          .skip))
        (.seq (.reg [.p none 57 (.fa 0 (.tmp 6)),
            .l none (some 58) (.ld none (.tmp 57)),
            .p none 3 (.mv (.tmp 58))])
        (.seq (.reg [.p none 7 (.mv (.const (.string ⟨#[]⟩)))])
        (.seq (.reg [.p none 59 (.fa 1 (.tmp 6)),
            .l none (some 60) (.ld none (.tmp 59)),
            .p none 61 (.len (.tmp 60)),
            .p none 62 (.mv (.const (.int .i64 0)))])
        (.block 2
          (.loop
            (.seq (.reg [.p none 63 (.bin .lss .i64 (.tmp 62) (.tmp 61))])
            (.seq (.cond (.tmp 63)
              .skip
              (.exit 2))
            (.seq (.block 3
              (.seq (.reg [.p none 64 (.idx 4 (.tmp 60) (.tmp 62)),
                  .l none (some 65) (.ld (some 4) (.tmp 64)),
                  .l none (some 9) (.al 74 [(.int .i64 0), (.int .i64 0), (.int .i64 0), (.string ⟨#[]⟩)]),
                  .l none none (.st 4 (.tmp 9) (.tmp 65))])
              (.seq (.seq (.reg [.l none (some 66) (.ld (some 4) (.tmp 9)),
                  .p none 67 (.mv (.tmp 7)),
                  .l none (some 68) (.call 47 [(.tmp 66), (.tmp 67)]),
                  .p none 69 (.not (.tmp 68))])
              (.cond (.tmp 69)
                (.seq (.reg [.p none 2 (.mv (.const (.int .i64 80)))])
                .ret)
                .skip))
              (.reg [.p none 70 (.fa 3 (.tmp 9)),
                  .l none (some 71) (.ld none (.tmp 70)),
                  .p none 7 (.mv (.tmp 71))]))))
            (.reg [.p none 72 (.bin .add .i64 (.tmp 62) (.const (.int .i64 1))),
                .p none 62 (.mv (.tmp 72))])))))))))))))
      (.reg [.p none 73 (.bin .add .i64 (.tmp 21) (.const (.int .i64 1))),
          .p none 21 (.mv (.tmp 73))])))))))
  (.seq (.reg [.p none 2 (.mv (.const (.int .i64 0)))])
  .ret)))))
theorem C14 : compile Try.prog 74 (Try.f14.body.getD .skip) = some M14 := by kernel_rfl

/-- winnowlaw8.twin -/
noncomputable def M15 : MC :=
  (.seq (.reg [.l none (some 1) (.bx 24 (.tmp 0)),
      .l none (some 2) (.al 24 [(.int .i64 0), (.slice none 0 0)])])
  (.seq (.reg [.p none 3 (.mv (.const (.slice none 0 0)))])
  (.seq (.seq (.reg [.p none 4 (.mv (.const (.int .i64 0)))])
  (.block 0
    (.loop
      (.seq (.seq (.reg [.p none 8 (.mv (.tmp 4)),
          .p none 9 (.fa 1 (.tmp 1)),
          .l none (some 10) (.ld none (.tmp 9)),
          .p none 11 (.len (.tmp 10)),
          .p none 12 (.bin .lss .i64 (.tmp 8) (.tmp 11))])
      (.cond (.tmp 12)
        .skip
        (.exit 0)))
      (.seq (.block 1
        (.seq (.reg [.p none 15 (.fa 1 (.tmp 1)),
            .l none (some 16) (.ld none (.tmp 15)),
            .p none 17 (.mv (.tmp 4)),
            .p none 18 (.idx 5 (.tmp 16) (.tmp 17)),
            .l none (some 19) (.ld (some 5) (.tmp 18)),
            .l none (some 5) (.al 71 [(.int .i64 0), (.slice none 0 0), (.bool false), (.int .i64 0), (.slice none 0 0)]),
            .l none none (.st 5 (.tmp 5) (.tmp 19))])
        (.seq (.reg [.p none 6 (.mv (.const (.slice none 0 0)))])
        (.seq (.reg [.p none 20 (.mv (.tmp 6)),
            .p none 21 (.fa 2 (.tmp 5)),
            .p none 22 (.fa 2 (.tmp 21)),
            .l none (some 23) (.ld none (.tmp 22)),
            .l none (some 24) (.app 5 1 1 [(.int .u8 0)] (.tmp 20) (.tmp 23)),
            .p none 6 (.mv (.tmp 24))])
        (.seq (.reg [.p none 25 (.mv (.tmp 6)),
            .l none (some 26) (.bs 5 2 1 [(.int .u8 0), (.int .u8 0)] [(0, 1, (.const (.int .u8 209))), (1, 1, (.const (.int .u8 210)))]),
            .l none (some 27) (.app 5 1 1 [(.int .u8 0)] (.tmp 25) (.tmp 26)),
            .p none 6 (.mv (.tmp 27))])
        (.seq (.reg [.p none 28 (.mv (.tmp 6)),
            .p none 29 (.fa 1 (.tmp 1)),
            .l none (some 30) (.ld none (.tmp 29)),
            .p none 31 (.mv (.tmp 4)),
            .p none 32 (.idx 5 (.tmp 30) (.tmp 31)),
            .p none 33 (.fa 2 (.tmp 32)),
            .p none 34 (.fa 2 (.tmp 33)),
            .l none (some 35) (.ld none (.tmp 34)),
            .p none 36 (.len (.tmp 35)),
            .p none 37 (.slc 1 (.tmp 28) none (some (.tmp 36)) none),
            .p none 38 (.fa 2 (.tmp 5)),
            .p none 39 (.fa 2 (.tmp 38)),
            .l none none (.st 1 (.tmp 39) (.tmp 37))])
        (.seq (.reg [.p none 7 (.mv (.const (.slice none 0 0)))])
        (.seq (.reg [.p none 40 (.mv (.tmp 7)),
            .p none 41 (.fa 1 (.tmp 5)),
            .l none (some 42) (.ld none (.tmp 41)),
            .l none (some 43) (.app 74 40 4 [(.int .i64 0), (.int .i64 0), (.int .i64 0), (.string ⟨#[]⟩)] (.tmp 40) (.tmp 42)),
            .p none 7 (.mv (.tmp 43))])
        (.seq (.reg [.p none 44 (.mv (.tmp 7)),
            .p none 45 (.bld [(.int .i64 0), (.int .i64 0), (.int .i64 0), (.string ⟨#[]⟩)] [(0, 1, (.const (.int .i64 (-9))))]),
            .l none (some 46) (.bs 74 1 4 [(.int .i64 0), (.int .i64 0), (.int .i64 0), (.string ⟨#[]⟩)] [(0, 4, (.tmp 45))]),
            .l none (some 47) (.app 74 40 4 [(.int .i64 0), (.int .i64 0), (.int .i64 0), (.string ⟨#[]⟩)] (.tmp 44) (.tmp 46)),
            .p none 7 (.mv (.tmp 47))])
        (.seq (.reg [.p none 48 (.mv (.tmp 7)),
            .p none 49 (.fa 1 (.tmp 1)),
            .l none (some 50) (.ld none (.tmp 49)),
            .p none 51 (.mv (.tmp 4)),
            .p none 52 (.idx 5 (.tmp 50) (.tmp 51)),
            .p none 53 (.fa 1 (.tmp 52)),
            .l none (some 54) (.ld none (.tmp 53)),
            .p none 55 (.len (.tmp 54)),
            .p none 56 (.slc 4 (.tmp 48) none (some (.tmp 55)) none),
            .p none 57 (.fa 1 (.tmp 5)),
            .l none none (.st 1 (.tmp 57) (.tmp 56))])
        (.reg [.p none 58 (.mv (.tmp 3)),
            .l none (some 59) (.ld (some 5) (.tmp 5)),
            .l none (some 60) (.bs 71 1 5 [(.int .i64 0), (.slice none 0 0), (.bool false), (.int .i64 0), (.slice none 0 0)] [(0, 5, (.tmp 59))]),
            .l none (some 61) (.app 71 72 5 [(.int .i64 0), (.slice none 0 0), (.bool false), (.int .i64 0), (.slice none 0 0)] (.tmp 58) (.tmp 60)),
            .p none 3 (.mv (.tmp 61))])))))))))))
      (.reg [.p none 13 (.mv (.tmp 4)),
          .p none 14 (.bin .add .i64 (.tmp 13) (.const (.int .i64 1))),
          .p none 4 (.mv (.tmp 14))]))))))
  (.seq (.reg [.p none 62 (.mv (.tmp 3)),
      .p none 63 (.bld [(.int .i64 0), (.slice none 0 0), (.bool false), (.int .i64 0), (.slice none 0 0)] [(0, 1, (.const (.int .i64 (-9))))]),
      .l none (some 64) (.bs 71 1 5 [(.int .i64 0), (.slice none 0 0), (.bool false), (.int .i64 0), (.slice none 0 0)] [(0, 5, (.tmp 63))]),
      .l none (some 65) (.app 71 72 5 [(.int .i64 0), (.slice none 0 0), (.bool false), (.int .i64 0), (.slice none 0 0)] (.tmp 62) (.tmp 64)),
      .p none 3 (.mv (.tmp 65))])
  (.seq (.reg [.p none 66 (.mv (.tmp 3)),
      .p none 67 (.mv (.tmp 3)),
      .p none 68 (.len (.tmp 67)),
      .p none 69 (.bin .sub .i64 (.tmp 68) (.const (.int .i64 1))),
      .p none 70 (.slc 5 (.tmp 66) none (some (.tmp 69)) none),
      .p none 71 (.fa 1 (.tmp 1)),
      .l none none (.st 1 (.tmp 71) (.tmp 70))])
  (.seq (.reg [.l none (some 72) (.ld (some 2) (.tmp 1)),
      .l none none (.st 2 (.tmp 2) (.tmp 72))])
  .ret))))))
theorem C15 : compile Try.prog 73 (Try.f15.body.getD .skip) = some M15 := by kernel_rfl

/-- foot.Find -/
noncomputable def M16 : MC :=
  (.seq (.reg [.l none (some 3) (.bx 24 (.tmp 0)),
      .p none 6 (.mv (.const (.int .i64 0))),
      .p none 7 (.mv (.const (.int .i64 0)))])
  (.seq (.reg [.p none 14 (.mv (.tmp 2)),
      .p none 15 (.mv (.tmp 2)),
      .p none 16 (.lens (.tmp 15)),
      .p none 17 (.mm false .i64 (.tmp 16) [(.const (.int .i64 64))]),
      .p none 18 (.slcs (.tmp 14) none (some (.tmp 17))),
      .p none 8 (.mv (.tmp 18))])
  (.seq (.seq (.reg [.p none 19 (.fa 1 (.tmp 3)),
      .l none (some 20) (.ld none (.tmp 19)),
      .p none 21 (.len (.tmp 20)),
      .p none 22 (.mv (.const (.int .i64 0)))])
  (.block 0
    (.loop
      (.seq (.reg [.p none 23 (.bin .lss .i64 (.tmp 22) (.tmp 21))])
      (.seq (.cond (.tmp 23)
        .skip
        (.exit 0))
      (.seq (.block 1
        (.seq (.reg [.p none 24 (.mv (.tmp 22)),
            .p none 25 (.idx 5 (.tmp 20) (.tmp 22)),
            .l none (some 26) (.ld (some 5) (.tmp 25)),
            .l none (some 10) (.al 71 [(.int .i64 0), (.slice none 0 0), (.bool false), (.int .i64 0), (.slice none 0 0)]),
            .p none 9 (.mv (.tmp 24)),
            .l none none (.st 5 (.tmp 10) (.tmp 26))])
        (.seq (.seq (.reg [.p none 27 (.fa 0 (.tmp 10)),
            .l none (some 28) (.ld none (.tmp 27)),
            .p none 29 (.mv (.tmp 1)),
            .p none 30 (.bin .neq .i64 (.tmp 28) (.tmp 29))])
        (.cond (.tmp 30)
          (.exit 1)
          .skip))
        (.seq (.dreg (.line [.qp 0 none 31 (.fa 1 (.tmp 10)),
            .qp 3 none 11 (.mv (.const (.int .i64 0))),
            .l 1 none (some 32) (.ld none (.tmp 31)),
            .qp 2 none 33 (.len (.tmp 32)),
            .qp 4 none 12 (.mv (.tmp 33))]))
        (.seq (.block 2
          (.loop
            (.seq (.seq (.reg [.p none 34 (.mv (.tmp 11)),
                .p none 35 (.mv (.tmp 12)),
                .p none 36 (.bin .lss .i64 (.tmp 34) (.tmp 35))])
            (.cond (.tmp 36)
              .skip
              (.exit 2)))
            (.block 3
              (.seq (.reg [.p none 37 (.mv (.tmp 11)),
                  .p none 38 (.mv (.tmp 12)),
                  .p none 39 (.bin .add .i64 (.tmp 37) (.tmp 38)),
                  .p none 40 (.div .quo .i64 (.tmp 39) (.const (.int .i64 2))),
                  .p none 13 (.mv (.tmp 40))])
              (.seq (.reg [.p none 41 (.fa 1 (.tmp 10)),
                  .l none (some 42) (.ld none (.tmp 41)),
                  .p none 43 (.mv (.tmp 13)),
                  .p none 44 (.idx 4 (.tmp 42) (.tmp 43)),
                  .p none 45 (.fa 3 (.tmp 44)),
                  .l none (some 46) (.ld none (.tmp 45)),
                  .p none 47 (.mv (.tmp 8)),
                  .l none (some 48) (.call 48 [(.tmp 46), (.tmp 47)]),
                  .p none 49 (.bin .lss .i64 (.tmp 48) (.const (.int .i64 0)))])
              (.cond (.tmp 49)
                (.reg [.p none 50 (.mv (.tmp 13)),
                    .p none 51 (.bin .add .i64 (.tmp 50) (.const (.int .i64 1))),
                    .p none 11 (.mv (.tmp 51))])
                (.reg [.p none 52 (.mv (.tmp 13)),
                    .p none 12 (.mv (.tmp 52))]))))))))
        (.seq (.reg [.p none 53 (.mv (.tmp 9)),
            .p none 54 (.mv (.tmp 11)),
            .p none 55 (.bin .sub .i64 (.tmp 54) (.const (.int .i64 1))),
            .p none 56 (.mm true .i64 (.tmp 55) [(.const (.int .i64 0))]),
            .p none 6 (.mv (.tmp 53)),
            .p none 7 (.mv (.tmp 56))])
        .ret))))))
      (.reg [.p none 57 (.bin .add .i64 (.tmp 22) (.const (.int .i64 1))),
          .p none 22 (.mv (.tmp 57))])))))))
  (.seq (.reg [.p none 6 (.mv (.const (.int .i64 (-1)))),
      .p none 7 (.mv (.const (.int .i64 0)))])
  .ret))))
theorem C16 : compile Try.prog 58 (Try.f16.body.getD .skip) = some M16 := by kernel_rfl

/-- winnowref8.Find -/
noncomputable def M17 : MC :=
  (.seq (.reg [.l none (some 3) (.bx 24 (.tmp 0)),
      .p none 6 (.mv (.const (.int .i64 0))),
      .p none 7 (.mv (.const (.int .i64 0)))])
  (.seq (.seq (.reg [.p none 11 (.mv (.tmp 2)),
      .p none 12 (.lens (.tmp 11)),
      .p none 13 (.bin .gtr .i64 (.tmp 12) (.const (.int .i64 64)))])
  (.cond (.tmp 13)
    (.reg [.p none 14 (.mv (.tmp 2)),
        .p none 15 (.slcs (.tmp 14) none (some (.const (.int .i64 64)))),
        .p none 2 (.mv (.tmp 15))])
    .skip))
  (.seq (.seq (.reg [.p none 8 (.mv (.const (.int .i64 0)))])
  (.block 0
    (.loop
      (.seq (.seq (.reg [.p none 16 (.mv (.tmp 8)),
          .p none 17 (.fa 1 (.tmp 3)),
          .l none (some 18) (.ld none (.tmp 17)),
          .p none 19 (.len (.tmp 18)),
          .p none 20 (.bin .lss .i64 (.tmp 16) (.tmp 19))])
      (.cond (.tmp 20)
        .skip
        (.exit 0)))
      (.seq (.block 1
        (.seq (.seq (.reg [.p none 23 (.fa 1 (.tmp 3)),
            .l none (some 24) (.ld none (.tmp 23)),
            .p none 25 (.mv (.tmp 8)),
            .p none 26 (.idx 5 (.tmp 24) (.tmp 25)),
            .p none 27 (.fa 0 (.tmp 26)),
            .l none (some 28) (.ld none (.tmp 27)),
            .p none 29 (.mv (.tmp 1)),
            .p none 30 (.bin .neq .i64 (.tmp 28) (.tmp 29))])
        (.cond (.tmp 30)
          (.exit 1)
          .skip))
        (.seq (.reg [.p none 9 (.mv (.const (.int .i64 0)))])
        (.seq (.seq (.reg [.p none 10 (.mv (.const (.int .i64 0)))])
        (.block 2
          (.loop
            (.seq (.seq (.reg [.p none 31 (.mv (.tmp 10)),
                .p none 32 (.fa 1 (.tmp 3)),
                .l none (some 33) (.ld none (.tmp 32)),
                .p none 34 (.mv (.tmp 8)),
                .p none 35 (.idx 5 (.tmp 33) (.tmp 34)),
                .p none 36 (.fa 1 (.tmp 35)),
                .l none (some 37) (.ld none (.tmp 36)),
                .p none 38 (.len (.tmp 37)),
                .p none 39 (.bin .lss .i64 (.tmp 31) (.tmp 38))])
            (.cond (.tmp 39)
              .skip
              (.exit 2)))
            (.seq (.block 3
              (.seq (.reg [.p none 42 (.fa 1 (.tmp 3)),
                  .l none (some 43) (.ld none (.tmp 42)),
                  .p none 44 (.mv (.tmp 8)),
                  .p none 45 (.idx 5 (.tmp 43) (.tmp 44)),
                  .p none 46 (.fa 1 (.tmp 45)),
                  .l none (some 47) (.ld none (.tmp 46)),
                  .p none 48 (.mv (.tmp 10)),
                  .p none 49 (.idx 4 (.tmp 47) (.tmp 48)),
                  .p none 50 (.fa 3 (.tmp 49)),
                  .l none (some 51) (.ld none (.tmp 50)),
                  .p none 52 (.mv (.tmp 2)),
                  .p none 53 (.sbin .lss (.tmp 51) (.tmp 52))])
              (.cond (.tmp 53)
                (.reg [.p none 54 (.mv (.tmp 10)),
                    .p none 9 (.mv (.tmp 54))])
                .skip)))
            (.reg [.p none 40 (.mv (.tmp 10)),
                .p none 41 (.bin .add .i64 (.tmp 40) (.const (.int .i64 1))),
                .p none 10 (.mv (.tmp 41))]))))))
        (.seq (.reg [.p none 55 (.mv (.tmp 8)),
            .p none 56 (.mv (.tmp 9)),
            .p none 6 (.mv (.tmp 55)),
            .p none 7 (.mv (.tmp 56))])
        .ret)))))
      (.reg [.p none 21 (.mv (.tmp 8)),
          .p none 22 (.bin .add .i64 (.tmp 21) (.const (.int .i64 1))),
          .p none 8 (.mv (.tmp 22))]))))))
  (.seq (.reg [.p none 6 (.mv (.const (.int .i64 (-1)))),
      .p none 7 (.mv (.const (.int .i64 0)))])
  .ret))))
theorem C17 : compile Try.prog 57 (Try.f17.body.getD .skip) = some M17 := by kernel_rfl

/-- winnowlaw8.still -/
noncomputable def M18 : MC :=
  (.seq (.reg [.l none (some 2) (.bx 24 (.tmp 0)),
      .l none (some 3) (.bx 24 (.tmp 1)),
      .p none 4 (.mv (.const (.bool false)))])
  (.seq (.seq (.reg [.l none (some 11) (.ld (some 2) (.tmp 2)),
      .l none (some 12) (.ld (some 2) (.tmp 3)),
      .l none (some 13) (.call 37 [(.tmp 11), (.tmp 12)]),
      .p none 14 (.not (.tmp 13))])
  (.cond (.tmp 14)
    (.seq (.reg [.p none 4 (.mv (.const (.bool false)))])
    .ret)
    .skip))
  (.seq (.reg [.p none 15 (.fa 1 (.tmp 2)),
      .l none (some 16) (.ld none (.tmp 15)),
      .p none 17 (.fa 1 (.tmp 3)),
      .l none (some 18) (.ld none (.tmp 17)),
      .p none 19 (.len (.tmp 18)),
      .p none 20 (.bin .add .i64 (.tmp 19) (.const (.int .i64 1))),
      .p none 21 (.slc 5 (.tmp 16) none (some (.tmp 20)) none),
      .p none 5 (.mv (.tmp 21))])
  (.seq (.seq (.reg [.p none 22 (.mv (.tmp 5)),
      .p none 23 (.fa 1 (.tmp 3)),
      .l none (some 24) (.ld none (.tmp 23)),
      .p none 25 (.len (.tmp 24)),
      .p none 26 (.idx 5 (.tmp 22) (.tmp 25)),
      .p none 27 (.fa 0 (.tmp 26)),
      .l none (some 28) (.ld none (.tmp 27)),
      .p none 29 (.bin .neq .i64 (.tmp 28) (.const (.int .i64 (-9))))])
  (.cond (.tmp 29)
    (.seq (.reg [.p none 4 (.mv (.const (.bool false)))])
    .ret)
    .skip))
  (.seq (.seq (.reg [.p none 6 (.mv (.const (.int .i64 0)))])
  (.block 0
    (.loop
      (.seq (.seq (.reg [.p none 30 (.mv (.tmp 6)),
          .p none 31 (.fa 1 (.tmp 3)),
          .l none (some 32) (.ld none (.tmp 31)),
          .p none 33 (.len (.tmp 32)),
          .p none 34 (.bin .lss .i64 (.tmp 30) (.tmp 33))])
      (.cond (.tmp 34)
        .skip
        (.exit 0)))
      (.seq (.block 1
        (.seq (.reg [.p none 37 (.fa 1 (.tmp 3)),
            .l none (some 38) (.ld none (.tmp 37)),
            .p none 39 (.mv (.tmp 6)),
            .p none 40 (.idx 5 (.tmp 38) (.tmp 39)),
            .p none 41 (.fa 2 (.tmp 40)),
            .p none 42 (.fa 2 (.tmp 41)),
            .l none (some 43) (.ld none (.tmp 42)),
            .p none 44 (.len (.tmp 43)),
            .p none 7 (.mv (.tmp 44))])
        (.seq (.reg [.p none 45 (.fa 1 (.tmp 2)),
            .l none (some 46) (.ld none (.tmp 45)),
            .p none 47 (.mv (.tmp 6)),
            .p none 48 (.idx 5 (.tmp 46) (.tmp 47)),
            .p none 49 (.fa 2 (.tmp 48)),
            .p none 50 (.fa 2 (.tmp 49)),
            .l none (some 51) (.ld none (.tmp 50)),
            .p none 52 (.mv (.tmp 7)),
            .p none 53 (.bin .add .i64 (.tmp 52) (.const (.int .i64 2))),
            .p none 54 (.slc 1 (.tmp 51) none (some (.tmp 53)) none),
            .p none 8 (.mv (.tmp 54))])
        (.seq (.reg [.p none 55 (.fa 1 (.tmp 3)),
            .l none (some 56) (.ld none (.tmp 55)),
            .p none 57 (.mv (.tmp 6)),
            .p none 58 (.idx 5 (.tmp 56) (.tmp 57)),
            .p none 59 (.fa 1 (.tmp 58)),
            .l none (some 60) (.ld none (.tmp 59)),
            .p none 61 (.len (.tmp 60)),
            .p none 9 (.mv (.tmp 61))])
        (.seq (.reg [.p none 62 (.fa 1 (.tmp 2)),
            .l none (some 63) (.ld none (.tmp 62)),
            .p none 64 (.mv (.tmp 6)),
            .p none 65 (.idx 5 (.tmp 63) (.tmp 64)),
            .p none 66 (.fa 1 (.tmp 65)),
            .l none (some 67) (.ld none (.tmp 66)),
            .p none 68 (.mv (.tmp 9)),
            .p none 69 (.bin .add .i64 (.tmp 68) (.const (.int .i64 1))),
            .p none 70 (.slc 4 (.tmp 67) none (some (.tmp 69)) none),
            .p none 10 (.mv (.tmp 70))])
        (.seq (.reg [.p none 71 (.mv (.tmp 8)),
            .p none 72 (.mv (.tmp 7)),
            .p none 73 (.idx 1 (.tmp 71) (.tmp 72)),
            .l none (some 74) (.ld none (.tmp 73)),
            .p none 75 (.bin .neq .u8 (.tmp 74) (.const (.int .u8 209))),
            .p none 76 (.mv (.tmp 75)),
            .split 76,
            .p (some (76, false)) 77 (.mv (.tmp 8)),
            .p (some (76, false)) 78 (.mv (.tmp 7)),
            .p (some (76, false)) 79 (.bin .add .i64 (.tmp 78) (.const (.int .i64 1))),
            .p (some (76, false)) 80 (.idx 1 (.tmp 77) (.tmp 79)),
            .l (some (76, false)) (some 81) (.ld none (.tmp 80)),
            .p (some (76, false)) 82 (.bin .neq .u8 (.tmp 81) (.const (.int .u8 210))),
            .p none 83 (.pick (.tmp 76) (.const (.bool true)) (.tmp 82)),
            .p none 84 (.mv (.tmp 83)),
            .split 84,
            .p (some (84, false)) 85 (.mv (.tmp 10)),
            .p (some (84, false)) 86 (.mv (.tmp 9)),
            .p (some (84, false)) 87 (.idx 4 (.tmp 85) (.tmp 86)),
            .p (some (84, false)) 88 (.fa 0 (.tmp 87)),
            .l (some (84, false)) (some 89) (.ld none (.tmp 88)),
            .p (some (84, false)) 90 (.bin .neq .i64 (.tmp 89) (.const (.int .i64 (-9)))),
            .p none 91 (.pick (.tmp 84) (.const (.bool true)) (.tmp 90))])
        (.cond (.tmp 91)
          (.seq (.reg [.p none 4 (.mv (.const (.bool false)))])
          .ret)
          .skip)))))))
      (.reg [.p none 35 (.mv (.tmp 6)),
          .p none 36 (.bin .add .i64 (.tmp 35) (.const (.int .i64 1))),
          .p none 6 (.mv (.tmp 36))]))))))
  (.seq (.reg [.p none 4 (.mv (.const (.bool true)))])
  .ret))))))
theorem C18 : compile Try.prog 92 (Try.f18.body.getD .skip) = some M18 := by kernel_rfl

/-- winnowlaw8.foundAnew -/
noncomputable def M19 : MC :=
  (.seq (.reg [.l none (some 4) (.bx 24 (.tmp 0)),
      .p none 8 (.mv (.const (.bool false)))])
  (.seq (.seq (.reg [.p none 9 (.mv (.const (.int .i64 0)))])
  (.block 0
    (.loop
      (.seq (.seq (.reg [.p none 16 (.mv (.tmp 9)),
          .p none 17 (.fa 1 (.tmp 4)),
          .l none (some 18) (.ld none (.tmp 17)),
          .p none 19 (.len (.tmp 18)),
          .p none 20 (.bin .lss .i64 (.tmp 16) (.tmp 19))])
      (.cond (.tmp 20)
        .skip
        (.exit 0)))
      (.seq (.block 1
        (.seq (.reg [.p none 10 (.mv (.const (.int .i64 0)))])
        (.block 2
          (.loop
            (.seq (.seq (.reg [.p none 23 (.mv (.tmp 10)),
                .p none 24 (.fa 1 (.tmp 4)),
                .l none (some 25) (.ld none (.tmp 24)),
                .p none 26 (.mv (.tmp 9)),
                .p none 27 (.idx 5 (.tmp 25) (.tmp 26)),
                .p none 28 (.fa 1 (.tmp 27)),
                .l none (some 29) (.ld none (.tmp 28)),
                .p none 30 (.len (.tmp 29)),
                .p none 31 (.bin .lss .i64 (.tmp 23) (.tmp 30))])
            (.cond (.tmp 31)
              .skip
              (.exit 2)))
            (.seq (.block 3
              (.reg [.p none 34 (.fa 1 (.tmp 4)),
                  .l none (some 35) (.ld none (.tmp 34)),
                  .p none 36 (.mv (.tmp 9)),
                  .p none 37 (.idx 5 (.tmp 35) (.tmp 36)),
                  .p none 38 (.fa 1 (.tmp 37)),
                  .l none (some 39) (.ld none (.tmp 38)),
                  .p none 40 (.mv (.tmp 10)),
                  .p none 41 (.mv (.tmp 3)),
                  .p none 42 (.idx 4 (.tmp 39) (.tmp 40)),
                  .p none 43 (.fa 3 (.tmp 42)),
                  .l none none (.st 1 (.tmp 43) (.tmp 41))]))
            (.reg [.p none 32 (.mv (.tmp 10)),
                .p none 33 (.bin .add .i64 (.tmp 32) (.const (.int .i64 1))),
                .p none 10 (.mv (.tmp 33))])))))))
      (.reg [.p none 21 (.mv (.tmp 9)),
          .p none 22 (.bin .add .i64 (.tmp 21) (.const (.int .i64 1))),
          .p none 9 (.mv (.tmp 22))]))))))
  (.seq (.reg [.l none (some 44) (.ld (some 2) (.tmp 4)),
      .l none (some 45) (.call 15 [(.tmp 44)]),
      .l none (some 11) (.al 24 [(.int .i64 0), (.slice none 0 0)]),
      .l none none (.st 2 (.tmp 11) (.tmp 45))])
  (.seq (.reg [.l none (some 47) (.ld (some 2) (.tmp 4)),
      .p none 48 (.mv (.tmp 1)),
      .p none 49 (.mv (.tmp 2)),
      .l none (some 50) (.call 16 [(.tmp 47), (.tmp 48), (.tmp 49)]),
      .p none 46 (.mv (.tmp 50)),
      .p none 51 (.ext 0 (.tmp 46)),
      .p none 52 (.ext 1 (.tmp 46)),
      .p none 12 (.mv (.tmp 51)),
      .p none 13 (.mv (.tmp 52))])
  (.seq (.reg [.l none (some 54) (.ld (some 2) (.tmp 11)),
      .p none 55 (.mv (.tmp 1)),
      .p none 56 (.mv (.tmp 2)),
      .l none (some 57) (.call 17 [(.tmp 54), (.tmp 55), (.tmp 56)]),
      .p none 53 (.mv (.tmp 57)),
      .p none 58 (.ext 0 (.tmp 53)),
      .p none 59 (.ext 1 (.tmp 53)),
      .p none 14 (.mv (.tmp 58)),
      .p none 15 (.mv (.tmp 59))])
  (.seq (.reg [.p none 60 (.mv (.tmp 12)),
      .p none 61 (.mv (.tmp 14)),
      .p none 62 (.bin .eql .i64 (.tmp 60) (.tmp 61)),
      .p none 63 (.mv (.tmp 62)),
      .split 63,
      .p (some (63, true)) 64 (.mv (.tmp 13)),
      .p (some (63, true)) 65 (.mv (.tmp 15)),
      .p (some (63, true)) 66 (.bin .eql .i64 (.tmp 64) (.tmp 65)),
      .p none 67 (.pick (.tmp 63) (.tmp 66) (.const (.bool false))),
      .p none 68 (.mv (.tmp 67)),
      .split 68,
      .l (some (68, true)) (some 69) (.ld (some 2) (.tmp 4)),
      .l (some (68, true)) (some 70) (.ld (some 2) (.tmp 11)),
      .l (some (68, true)) (some 71) (.call 37 [(.tmp 69), (.tmp 70)]),
      .p none 72 (.pick (.tmp 68) (.tmp 71) (.const (.bool false))),
      .p none 8 (.mv (.tmp 72))])
  .ret))))))
theorem C19 : compile Try.prog 73 (Try.f19.body.getD .skip) = some M19 := by kernel_rfl

/-- winnowlaw8.high -/
noncomputable def M20 : MC :=
  (.seq (.reg [.p none 0 (.mv (.const (.string ⟨#[]⟩)))])
  (.seq (.reg [.p none 1 (.mv (.const (.slice none 0 0)))])
  (.seq (.seq (.reg [.p none 2 (.mv (.const (.int .i64 0)))])
  (.block 0
    (.loop
      (.seq (.seq (.reg [.p none 3 (.mv (.tmp 2)),
          .p none 4 (.bin .lss .i64 (.tmp 3) (.const (.int .i64 64)))])
      (.cond (.tmp 4)
        .skip
        (.exit 0)))
      (.seq (.block 1
        (.reg [.p none 7 (.mv (.tmp 1)),
            .l none (some 8) (.bs 5 1 1 [(.int .u8 0)] [(0, 1, (.const (.int .u8 255)))]),
            .l none (some 9) (.app 5 1 1 [(.int .u8 0)] (.tmp 7) (.tmp 8)),
            .p none 1 (.mv (.tmp 9))]))
      (.reg [.p none 5 (.mv (.tmp 2)),
          .p none 6 (.bin .add .i64 (.tmp 5) (.const (.int .i64 1))),
          .p none 2 (.mv (.tmp 6))]))))))
  (.seq (.reg [.p none 10 (.mv (.tmp 1)),
      .l none (some 11) (.b2s (.tmp 10)),
      .p none 0 (.mv (.tmp 11))])
  .ret))))
theorem C20 : compile Try.prog 12 (Try.f20.body.getD .skip) = some M20 := by kernel_rfl

/-- winnowlaw8.same -/
noncomputable def M23 : MC :=
  (.seq (.reg [.p none 4 (.mv (.const (.bool false)))])
  (.seq (.seq (.reg [.p none 6 (.mv (.tmp 0)),
      .p none 7 (.len (.tmp 6)),
      .p none 8 (.mv (.tmp 1)),
      .p none 9 (.len (.tmp 8)),
      .p none 10 (.bin .neq .i64 (.tmp 7) (.tmp 9))])
  (.cond (.tmp 10)
    (.seq (.reg [.p none 4 (.mv (.const (.bool false)))])
    .ret)
    .skip))
  (.seq (.seq (.reg [.p none 5 (.mv (.const (.int .i64 0)))])
  (.block 0
    (.loop
      (.seq (.seq (.reg [.p none 11 (.mv (.tmp 5)),
          .p none 12 (.mv (.tmp 0)),
          .p none 13 (.len (.tmp 12)),
          .p none 14 (.bin .lss .i64 (.tmp 11) (.tmp 13))])
      (.cond (.tmp 14)
        .skip
        (.exit 0)))
      (.seq (.block 1
        (.seq (.dreg (.line [.qp 0 none 17 (.mv (.tmp 0)),
            .qp 1 none 18 (.mv (.tmp 5)),
            .qp 2 none 19 (.idx 1 (.tmp 17) (.tmp 18)),
            .qp 4 none 21 (.mv (.tmp 1)),
            .qp 5 none 22 (.mv (.tmp 5)),
            .qp 6 none 23 (.idx 1 (.tmp 21) (.tmp 22)),
            .ql 7 none 24 none (.tmp 23),
            .l 3 none (some 20) (.ld none (.tmp 19)),
            .qp 8 none 25 (.bin .neq .u8 (.tmp 20) (.tmp 24))]))
        (.cond (.tmp 25)
          (.seq (.reg [.p none 4 (.mv (.const (.bool false)))])
          .ret)
          .skip)))
      (.reg [.p none 15 (.mv (.tmp 5)),
          .p none 16 (.bin .add .i64 (.tmp 15) (.const (.int .i64 1))),
          .p none 5 (.mv (.tmp 16))]))))))
  (.seq (.reg [.p none 4 (.mv (.const (.bool true)))])
  .ret))))
theorem C23 : compile Try.prog 26 (Try.f23.body.getD .skip) = some M23 := by kernel_rfl

/-- winnowlaw8.sameFoot -/
noncomputable def M37 : MC :=
  (.seq (.reg [.l none (some 2) (.bx 24 (.tmp 0)),
      .l none (some 3) (.bx 24 (.tmp 1)),
      .p none 4 (.mv (.const (.bool false)))])
  (.seq (.seq (.reg [.p none 6 (.fa 0 (.tmp 2)),
      .l none (some 7) (.ld none (.tmp 6)),
      .p none 8 (.fa 0 (.tmp 3)),
      .l none (some 9) (.ld none (.tmp 8)),
      .p none 10 (.bin .neq .i64 (.tmp 7) (.tmp 9)),
      .p none 11 (.mv (.tmp 10)),
      .split 11,
      .p (some (11, false)) 12 (.fa 1 (.tmp 2)),
      .l (some (11, false)) (some 13) (.ld none (.tmp 12)),
      .p (some (11, false)) 14 (.len (.tmp 13)),
      .p (some (11, false)) 15 (.fa 1 (.tmp 3)),
      .l (some (11, false)) (some 16) (.ld none (.tmp 15)),
      .p (some (11, false)) 17 (.len (.tmp 16)),
      .p (some (11, false)) 18 (.bin .neq .i64 (.tmp 14) (.tmp 17)),
      .p none 19 (.pick (.tmp 11) (.const (.bool true)) (.tmp 18))])
  (.cond (.tmp 19)
    (.seq (.reg [.p none 4 (.mv (.const (.bool false)))])
    .ret)
    .skip))
  (.seq (.seq (.reg [.p none 5 (.mv (.const (.int .i64 0)))])
  (.block 0
    (.loop
      (.seq (.seq (.reg [.p none 20 (.mv (.tmp 5)),
          .p none 21 (.fa 1 (.tmp 2)),
          .l none (some 22) (.ld none (.tmp 21)),
          .p none 23 (.len (.tmp 22)),
          .p none 24 (.bin .lss .i64 (.tmp 20) (.tmp 23))])
      (.cond (.tmp 24)
        .skip
        (.exit 0)))
      (.seq (.block 1
        (.seq (.dreg (.line [.qp 0 none 27 (.fa 1 (.tmp 2)),
            .qp 2 none 29 (.mv (.tmp 5)),
            .qp 6 none 33 (.fa 1 (.tmp 3)),
            .qp 8 none 35 (.mv (.tmp 5)),
            .ql 7 none 34 none (.tmp 33),
            .qp 9 none 36 (.idx 5 (.tmp 34) (.tmp 35)),
            .qp 10 none 37 (.fa 0 (.tmp 36)),
            .ql 11 none 38 none (.tmp 37),
            .l 1 none (some 28) (.ld none (.tmp 27)),
            .qp 3 none 30 (.idx 5 (.tmp 28) (.tmp 29)),
            .qp 4 none 31 (.fa 0 (.tmp 30)),
            .l 5 none (some 32) (.ld none (.tmp 31)),
            .qp 12 none 39 (.bin .neq .i64 (.tmp 32) (.tmp 38)),
            .qp 13 none 40 (.mv (.tmp 39)),
            .split 40,
            .qp 14 (some (40, false)) 41 (.fa 1 (.tmp 2)),
            .qp 16 (some (40, false)) 43 (.mv (.tmp 5)),
            .qp 20 (some (40, false)) 47 (.fa 1 (.tmp 3)),
            .qp 22 (some (40, false)) 49 (.mv (.tmp 5)),
            .ql 21 (some (40, false)) 48 none (.tmp 47),
            .qp 23 (some (40, false)) 50 (.idx 5 (.tmp 48) (.tmp 49)),
            .qp 24 (some (40, false)) 51 (.fa 2 (.tmp 50)),
            .ql 25 (some (40, false)) 52 (some 3) (.tmp 51),
            .l 15 (some (40, false)) (some 42) (.ld none (.tmp 41)),
            .qp 17 (some (40, false)) 44 (.idx 5 (.tmp 42) (.tmp 43)),
            .qp 18 (some (40, false)) 45 (.fa 2 (.tmp 44)),
            .l 19 (some (40, false)) (some 46) (.ld (some 3) (.tmp 45)),
            .l 26 (some (40, false)) (some 53) (.call 67 [(.tmp 46), (.tmp 52)]),
            .qp 27 (some (40, false)) 54 (.not (.tmp 53)),
            .qp 28 none 55 (.pick (.tmp 40) (.const (.bool true)) (.tmp 54)),
            .qp 29 none 56 (.mv (.tmp 55)),
            .split 56,
            .qp 30 (some (56, false)) 57 (.fa 1 (.tmp 2)),
            .qp 32 (some (56, false)) 59 (.mv (.tmp 5)),
            .qp 36 (some (56, false)) 63 (.fa 1 (.tmp 3)),
            .qp 38 (some (56, false)) 65 (.mv (.tmp 5)),
            .ql 37 (some (56, false)) 64 none (.tmp 63),
            .qp 39 (some (56, false)) 66 (.idx 5 (.tmp 64) (.tmp 65)),
            .qp 40 (some (56, false)) 67 (.fa 1 (.tmp 66)),
            .ql 41 (some (56, false)) 68 none (.tmp 67),
            .l 31 (some (56, false)) (some 58) (.ld none (.tmp 57)),
            .qp 33 (some (56, false)) 60 (.idx 5 (.tmp 58) (.tmp 59)),
            .qp 34 (some (56, false)) 61 (.fa 1 (.tmp 60)),
            .l 35 (some (56, false)) (some 62) (.ld none (.tmp 61)),
            .l 42 (some (56, false)) (some 69) (.call 68 [(.tmp 62), (.tmp 68)]),
            .qp 43 (some (56, false)) 70 (.not (.tmp 69)),
            .qp 44 none 71 (.pick (.tmp 56) (.const (.bool true)) (.tmp 70))]))
        (.cond (.tmp 71)
          (.seq (.reg [.p none 4 (.mv (.const (.bool false)))])
          .ret)
          .skip)))
      (.reg [.p none 25 (.mv (.tmp 5)),
          .p none 26 (.bin .add .i64 (.tmp 25) (.const (.int .i64 1))),
          .p none 5 (.mv (.tmp 26))]))))))
  (.seq (.reg [.p none 4 (.mv (.const (.bool true)))])
  .ret))))
theorem C37 : compile Try.prog 72 (Try.f37.body.getD .skip) = some M37 := by kernel_rfl

/-- winnowref7.Check -/
noncomputable def M44 : MC :=
  (.seq (.reg [.l none (some 1) (.bx 69 (.tmp 0)),
      .p none 2 (.mv (.const (.int .i64 0)))])
  (.seq (.seq (.reg [.p none 3 (.fa 1 (.tmp 1)),
      .l none (some 4) (.ld none (.tmp 3)),
      .p none 5 (.bin .eql .i64 (.tmp 4) (.const (.int .i64 0))),
      .p none 6 (.mv (.tmp 5)),
      .split 6,
      .p (some (6, true)) 7 (.fa 2 (.tmp 1)),
      .l (some (6, true)) (some 8) (.ld none (.tmp 7)),
      .p (some (6, true)) 9 (.len (.tmp 8)),
      .p (some (6, true)) 10 (.bin .eql .i64 (.tmp 9) (.const (.int .i64 0))),
      .p none 11 (.pick (.tmp 6) (.tmp 10) (.const (.bool false)))])
  (.cond (.tmp 11)
    (.seq (.reg [.p none 2 (.mv (.const (.int .i64 0)))])
    .ret)
    .skip))
  (.seq (.seq (.reg [.p none 12 (.fa 0 (.tmp 1)),
      .l none (some 13) (.ld none (.tmp 12)),
      .p none 14 (.mv (.tmp 13)),
      .split 14,
      .p (some (14, false)) 15 (.fa 1 (.tmp 1)),
      .l (some (14, false)) (some 16) (.ld none (.tmp 15)),
      .p (some (14, false)) 17 (.bin .lss .i64 (.tmp 16) (.const (.int .i64 1))),
      .p none 18 (.pick (.tmp 14) (.const (.bool true)) (.tmp 17)),
      .p none 19 (.mv (.tmp 18)),
      .split 19,
      .p (some (19, false)) 20 (.fa 1 (.tmp 1)),
      .l (some (19, false)) (some 21) (.ld none (.tmp 20)),
      .p (some (19, false)) 22 (.bin .gtr .i64 (.tmp 21) (.const (.int .i64 8))),
      .p none 23 (.pick (.tmp 19) (.const (.bool true)) (.tmp 22)),
      .p none 24 (.mv (.tmp 23)),
      .split 24,
      .p (some (24, false)) 25 (.fa 2 (.tmp 1)),
      .l (some (24, false)) (some 26) (.ld none (.tmp 25)),
      .p (some (24, false)) 27 (.len (.tmp 26)),
      .p (some (24, false)) 28 (.bin .lss .i64 (.tmp 27) (.const (.int .i64 1))),
      .p none 29 (.pick (.tmp 24) (.const (.bool true)) (.tmp 28)),
      .p none 30 (.mv (.tmp 29)),
      .split 30,
      .p (some (30, false)) 31 (.fa 2 (.tmp 1)),
      .l (some (30, false)) (some 32) (.ld none (.tmp 31)),
      .p (some (30, false)) 33 (.len (.tmp 32)),
      .p (some (30, false)) 34 (.bin .gtr .i64 (.tmp 33) (.const (.int .i64 4096))),
      .p none 35 (.pick (.tmp 30) (.const (.bool true)) (.tmp 34))])
  (.cond (.tmp 35)
    (.seq (.reg [.p none 2 (.mv (.const (.int .i64 70)))])
    .ret)
    .skip))
  (.seq (.reg [.p none 2 (.mv (.const (.int .i64 0)))])
  .ret))))
theorem C44 : compile Try.prog 36 (Try.f44.body.getD .skip) = some M44 := by kernel_rfl

/-- winnowref8.blockRight -/
noncomputable def M45 : MC :=
  (.seq (.reg [.l none (some 1) (.bx 74 (.tmp 0)),
      .p none 2 (.mv (.const (.bool false)))])
  (.seq (.seq (.reg [.p none 3 (.fa 0 (.tmp 1)),
      .l none (some 4) (.ld none (.tmp 3)),
      .p none 5 (.bin .lss .i64 (.tmp 4) (.const (.int .i64 1))),
      .p none 6 (.mv (.tmp 5)),
      .split 6,
      .p (some (6, false)) 7 (.fa 0 (.tmp 1)),
      .l (some (6, false)) (some 8) (.ld none (.tmp 7)),
      .p (some (6, false)) 9 (.bin .gtr .i64 (.tmp 8) (.const (.int .i64 65536))),
      .p none 10 (.pick (.tmp 6) (.const (.bool true)) (.tmp 9)),
      .p none 11 (.mv (.tmp 10)),
      .split 11,
      .p (some (11, false)) 12 (.fa 1 (.tmp 1)),
      .l (some (11, false)) (some 13) (.ld none (.tmp 12)),
      .p (some (11, false)) 14 (.bin .lss .i64 (.tmp 13) (.const (.int .i64 1))),
      .p none 15 (.pick (.tmp 11) (.const (.bool true)) (.tmp 14)),
      .p none 16 (.mv (.tmp 15)),
      .split 16,
      .p (some (16, false)) 17 (.fa 1 (.tmp 1)),
      .l (some (16, false)) (some 18) (.ld none (.tmp 17)),
      .p (some (16, false)) 19 (.bin .gtr .i64 (.tmp 18) (.const (.int .i64 65536))),
      .p none 20 (.pick (.tmp 16) (.const (.bool true)) (.tmp 19)),
      .p none 21 (.mv (.tmp 20)),
      .split 21,
      .p (some (21, false)) 22 (.fa 1 (.tmp 1)),
      .l (some (21, false)) (some 23) (.ld none (.tmp 22)),
      .p (some (21, false)) 24 (.fa 0 (.tmp 1)),
      .l (some (21, false)) (some 25) (.ld none (.tmp 24)),
      .p (some (21, false)) 26 (.bin .mul .i64 (.const (.int .i64 64)) (.tmp 25)),
      .p (some (21, false)) 27 (.bin .gtr .i64 (.tmp 23) (.tmp 26)),
      .p none 28 (.pick (.tmp 21) (.const (.bool true)) (.tmp 27))])
  (.cond (.tmp 28)
    (.seq (.reg [.p none 2 (.mv (.const (.bool false)))])
    .ret)
    .skip))
  (.seq (.reg [.p none 29 (.fa 2 (.tmp 1)),
      .l none (some 30) (.ld none (.tmp 29)),
      .p none 31 (.bin .geq .i64 (.tmp 30) (.const (.int .i64 1))),
      .p none 32 (.mv (.tmp 31)),
      .split 32,
      .p (some (32, true)) 33 (.fa 2 (.tmp 1)),
      .l (some (32, true)) (some 34) (.ld none (.tmp 33)),
      .p (some (32, true)) 35 (.fa 1 (.tmp 1)),
      .l (some (32, true)) (some 36) (.ld none (.tmp 35)),
      .p (some (32, true)) 37 (.bin .leq .i64 (.tmp 34) (.tmp 36)),
      .p none 38 (.pick (.tmp 32) (.tmp 37) (.const (.bool false))),
      .p none 39 (.mv (.tmp 38)),
      .split 39,
      .p (some (39, true)) 40 (.fa 3 (.tmp 1)),
      .l (some (39, true)) (some 41) (.ld none (.tmp 40)),
      .p (some (39, true)) 42 (.lens (.tmp 41)),
      .p (some (39, true)) 43 (.bin .leq .i64 (.tmp 42) (.const (.int .i64 64))),
      .p none 44 (.pick (.tmp 39) (.tmp 43) (.const (.bool false))),
      .p none 2 (.mv (.tmp 44))])
  .ret)))
theorem C45 : compile Try.prog 45 (Try.f45.body.getD .skip) = some M45 := by kernel_rfl

/-- filter.Check -/
noncomputable def M46 : MC :=
  (.seq (.reg [.l none (some 1) (.bx 69 (.tmp 0)),
      .p none 2 (.mv (.const (.int .i64 0)))])
  (.seq (.seq (.reg [.l none (some 3) (.ld (some 3) (.tmp 1)),
      .l none (some 4) (.call 69 [(.tmp 3)]),
      .p none 5 (.bin .eql .i64 (.tmp 4) (.const (.int .i64 0)))])
  (.cond (.tmp 5)
    (.seq (.reg [.p none 2 (.mv (.const (.int .i64 70)))])
    .ret)
    .skip))
  (.seq (.reg [.p none 2 (.mv (.const (.int .i64 0)))])
  .ret)))
theorem C46 : compile Try.prog 6 (Try.f46.body.getD .skip) = some M46 := by kernel_rfl

/-- foot.rightBlock -/
noncomputable def M47 : MC :=
  (.seq (.reg [.l none (some 2) (.bx 74 (.tmp 0)),
      .p none 4 (.mv (.const (.bool false)))])
  (.seq (.reg [.p none 5 (.fa 0 (.tmp 2)),
      .l none (some 6) (.ld none (.tmp 5)),
      .p none 7 (.bin .geq .i64 (.tmp 6) (.const (.int .i64 1))),
      .p none 8 (.mv (.tmp 7)),
      .split 8,
      .p (some (8, true)) 9 (.fa 0 (.tmp 2)),
      .l (some (8, true)) (some 10) (.ld none (.tmp 9)),
      .p (some (8, true)) 11 (.bin .leq .i64 (.tmp 10) (.const (.int .i64 65536))),
      .p none 12 (.pick (.tmp 8) (.tmp 11) (.const (.bool false))),
      .p none 13 (.mv (.tmp 12)),
      .split 13,
      .p (some (13, true)) 14 (.fa 1 (.tmp 2)),
      .l (some (13, true)) (some 15) (.ld none (.tmp 14)),
      .p (some (13, true)) 16 (.bin .geq .i64 (.tmp 15) (.const (.int .i64 1))),
      .p none 17 (.pick (.tmp 13) (.tmp 16) (.const (.bool false))),
      .p none 18 (.mv (.tmp 17)),
      .split 18,
      .p (some (18, true)) 19 (.fa 1 (.tmp 2)),
      .l (some (18, true)) (some 20) (.ld none (.tmp 19)),
      .p (some (18, true)) 21 (.bin .leq .i64 (.tmp 20) (.const (.int .i64 65536))),
      .p none 22 (.pick (.tmp 18) (.tmp 21) (.const (.bool false))),
      .p none 23 (.mv (.tmp 22)),
      .split 23,
      .p (some (23, true)) 24 (.fa 1 (.tmp 2)),
      .l (some (23, true)) (some 25) (.ld none (.tmp 24)),
      .p (some (23, true)) 26 (.fa 0 (.tmp 2)),
      .l (some (23, true)) (some 27) (.ld none (.tmp 26)),
      .p (some (23, true)) 28 (.bin .mul .i64 (.const (.int .i64 64)) (.tmp 27)),
      .p (some (23, true)) 29 (.bin .leq .i64 (.tmp 25) (.tmp 28)),
      .p none 30 (.pick (.tmp 23) (.tmp 29) (.const (.bool false))),
      .p none 31 (.mv (.tmp 30)),
      .split 31,
      .p (some (31, true)) 32 (.fa 2 (.tmp 2)),
      .l (some (31, true)) (some 33) (.ld none (.tmp 32)),
      .p (some (31, true)) 34 (.bin .geq .i64 (.tmp 33) (.const (.int .i64 1))),
      .p none 35 (.pick (.tmp 31) (.tmp 34) (.const (.bool false))),
      .p none 36 (.mv (.tmp 35)),
      .split 36,
      .p (some (36, true)) 37 (.fa 2 (.tmp 2)),
      .l (some (36, true)) (some 38) (.ld none (.tmp 37)),
      .p (some (36, true)) 39 (.fa 1 (.tmp 2)),
      .l (some (36, true)) (some 40) (.ld none (.tmp 39)),
      .p (some (36, true)) 41 (.bin .leq .i64 (.tmp 38) (.tmp 40)),
      .p none 42 (.pick (.tmp 36) (.tmp 41) (.const (.bool false))),
      .p none 43 (.mv (.tmp 42)),
      .split 43,
      .p (some (43, true)) 44 (.fa 3 (.tmp 2)),
      .l (some (43, true)) (some 45) (.ld none (.tmp 44)),
      .p (some (43, true)) 46 (.lens (.tmp 45)),
      .p (some (43, true)) 47 (.bin .leq .i64 (.tmp 46) (.const (.int .i64 64))),
      .p none 48 (.pick (.tmp 43) (.tmp 47) (.const (.bool false))),
      .p none 49 (.mv (.tmp 48)),
      .split 49,
      .p (some (49, true)) 50 (.fa 3 (.tmp 2)),
      .l (some (49, true)) (some 51) (.ld none (.tmp 50)),
      .p (some (49, true)) 52 (.mv (.tmp 1)),
      .l (some (49, true)) (some 53) (.call 48 [(.tmp 51), (.tmp 52)]),
      .p (some (49, true)) 54 (.bin .geq .i64 (.tmp 53) (.const (.int .i64 0))),
      .p none 55 (.pick (.tmp 49) (.tmp 54) (.const (.bool false))),
      .p none 4 (.mv (.tmp 55))])
  .ret))
theorem C47 : compile Try.prog 56 (Try.f47.body.getD .skip) = some M47 := by kernel_rfl

/-- nums.Compare -/
noncomputable def M48 : MC :=
  (.seq (.reg [.p none 4 (.mv (.const (.int .i64 0)))])
  (.seq (.seq (.reg [.p none 6 (.mv (.tmp 0)),
      .p none 7 (.lens (.tmp 6)),
      .p none 8 (.mv (.tmp 1)),
      .p none 9 (.lens (.tmp 8)),
      .p none 10 (.mm false .i64 (.tmp 7) [(.tmp 9)]),
      .p none 11 (.mv (.const (.int .i64 0)))])
  (.block 0
    (.loop
      (.seq (.reg [.p none 12 (.bin .lss .i64 (.tmp 11) (.tmp 10))])
      (.seq (.cond (.tmp 12)
        .skip
        (.exit 0))
      (.seq (.block 1
        (.seq (.reg [.p none 13 (.mv (.tmp 11)),
            .p none 5 (.mv (.tmp 13))])
        (.block 2
          (.seq (.dreg (.line [.qp 0 none 15 (.mv (.tmp 0)),
              .qp 1 none 16 (.mv (.tmp 5)),
              .qp 2 none 17 (.idxs (.tmp 15) (.tmp 16)),
              .qp 3 none 18 (.mv (.tmp 1)),
              .qp 4 none 19 (.mv (.tmp 5)),
              .qp 5 none 20 (.idxs (.tmp 18) (.tmp 19)),
              .qp 6 none 21 (.bin .lss .u8 (.tmp 17) (.tmp 20)),
              .qp 7 none 14 (.mv (.tmp 21))]))
          (.cond (.tmp 14)
            (.seq (.reg [.p none 4 (.mv (.const (.int .i64 (-1))))])
            .ret)
            (.seq (.dreg (.line [.qp 0 none 23 (.mv (.tmp 0)),
                .qp 1 none 24 (.mv (.tmp 5)),
                .qp 2 none 25 (.idxs (.tmp 23) (.tmp 24)),
                .qp 3 none 26 (.mv (.tmp 1)),
                .qp 4 none 27 (.mv (.tmp 5)),
                .qp 5 none 28 (.idxs (.tmp 26) (.tmp 27)),
                .qp 6 none 29 (.bin .gtr .u8 (.tmp 25) (.tmp 28)),
                .qp 7 none 22 (.mv (.tmp 29))]))
            (.cond (.tmp 22)
              (.seq (.reg [.p none 4 (.mv (.const (.int .i64 1)))])
              .ret)
              .skip)))))))
      (.reg [.p none 30 (.bin .add .i64 (.tmp 11) (.const (.int .i64 1))),
          .p none 11 (.mv (.tmp 30))])))))))
  (.seq (.block 3
    (.seq (.reg [.p none 32 (.mv (.tmp 0)),
        .p none 33 (.lens (.tmp 32)),
        .p none 34 (.mv (.tmp 1)),
        .p none 35 (.lens (.tmp 34)),
        .p none 36 (.bin .lss .i64 (.tmp 33) (.tmp 35)),
        .p none 31 (.mv (.tmp 36))])
    (.cond (.tmp 31)
      (.seq (.reg [.p none 4 (.mv (.const (.int .i64 (-1))))])
      .ret)
      (.seq (.reg [.p none 38 (.mv (.tmp 0)),
          .p none 39 (.lens (.tmp 38)),
          .p none 40 (.mv (.tmp 1)),
          .p none 41 (.lens (.tmp 40)),
          .p none 42 (.bin .gtr .i64 (.tmp 39) (.tmp 41)),
          .p none 37 (.mv (.tmp 42))])
      (.cond (.tmp 37)
        (.seq (.reg [.p none 4 (.mv (.const (.int .i64 1)))])
        .ret)
        .skip)))))
  (.seq (.reg [.p none 4 (.mv (.const (.int .i64 0)))])
  .ret))))
theorem C48 : compile Try.prog 43 (Try.f48.body.getD .skip) = some M48 := by kernel_rfl

/-- winnowlaw8.sameFilter -/
noncomputable def M67 : MC :=
  (.seq (.reg [.l none (some 2) (.bx 69 (.tmp 0)),
      .l none (some 3) (.bx 69 (.tmp 1)),
      .p none 4 (.mv (.const (.bool false)))])
  (.seq (.reg [.p none 5 (.fa 0 (.tmp 2)),
      .l none (some 6) (.ld none (.tmp 5)),
      .p none 7 (.fa 0 (.tmp 3)),
      .l none (some 8) (.ld none (.tmp 7)),
      .p none 9 (.beq false (.tmp 6) (.tmp 8)),
      .p none 10 (.mv (.tmp 9)),
      .split 10,
      .p (some (10, true)) 11 (.fa 1 (.tmp 2)),
      .l (some (10, true)) (some 12) (.ld none (.tmp 11)),
      .p (some (10, true)) 13 (.fa 1 (.tmp 3)),
      .l (some (10, true)) (some 14) (.ld none (.tmp 13)),
      .p (some (10, true)) 15 (.bin .eql .i64 (.tmp 12) (.tmp 14)),
      .p none 16 (.pick (.tmp 10) (.tmp 15) (.const (.bool false))),
      .p none 17 (.mv (.tmp 16)),
      .split 17,
      .p (some (17, true)) 18 (.fa 2 (.tmp 2)),
      .l (some (17, true)) (some 19) (.ld none (.tmp 18)),
      .p (some (17, true)) 20 (.fa 2 (.tmp 3)),
      .l (some (17, true)) (some 21) (.ld none (.tmp 20)),
      .l (some (17, true)) (some 22) (.call 23 [(.tmp 19), (.tmp 21)]),
      .p none 23 (.pick (.tmp 17) (.tmp 22) (.const (.bool false))),
      .p none 4 (.mv (.tmp 23))])
  .ret))
theorem C67 : compile Try.prog 24 (Try.f67.body.getD .skip) = some M67 := by kernel_rfl

/-- winnowlaw8.sameBlocks -/
noncomputable def M68 : MC :=
  (.seq (.reg [.p none 4 (.mv (.const (.bool false)))])
  (.seq (.seq (.reg [.p none 6 (.mv (.tmp 0)),
      .p none 7 (.len (.tmp 6)),
      .p none 8 (.mv (.tmp 1)),
      .p none 9 (.len (.tmp 8)),
      .p none 10 (.bin .neq .i64 (.tmp 7) (.tmp 9))])
  (.cond (.tmp 10)
    (.seq (.reg [.p none 4 (.mv (.const (.bool false)))])
    .ret)
    .skip))
  (.seq (.seq (.reg [.p none 5 (.mv (.const (.int .i64 0)))])
  (.block 0
    (.loop
      (.seq (.seq (.reg [.p none 11 (.mv (.tmp 5)),
          .p none 12 (.mv (.tmp 0)),
          .p none 13 (.len (.tmp 12)),
          .p none 14 (.bin .lss .i64 (.tmp 11) (.tmp 13))])
      (.cond (.tmp 14)
        .skip
        (.exit 0)))
      (.seq (.block 1
        (.seq (.dreg (.line [.qp 0 none 17 (.mv (.tmp 0)),
            .qp 1 none 18 (.mv (.tmp 5)),
            .qp 2 none 19 (.idx 4 (.tmp 17) (.tmp 18)),
            .qp 4 none 21 (.mv (.tmp 1)),
            .qp 5 none 22 (.mv (.tmp 5)),
            .qp 6 none 23 (.idx 4 (.tmp 21) (.tmp 22)),
            .ql 7 none 24 (some 4) (.tmp 23),
            .l 3 none (some 20) (.ld (some 4) (.tmp 19)),
            .qp 8 none 25 (.aeq true [1, 1, 1, 2] (.tmp 20) (.tmp 24))]))
        (.cond (.tmp 25)
          (.seq (.reg [.p none 4 (.mv (.const (.bool false)))])
          .ret)
          .skip)))
      (.reg [.p none 15 (.mv (.tmp 5)),
          .p none 16 (.bin .add .i64 (.tmp 15) (.const (.int .i64 1))),
          .p none 5 (.mv (.tmp 16))]))))))
  (.seq (.reg [.p none 4 (.mv (.const (.bool true)))])
  .ret))))
theorem C68 : compile Try.prog 26 (Try.f68.body.getD .skip) = some M68 := by kernel_rfl

/-- filter.kind -/
noncomputable def M69 : MC :=
  (.seq (.reg [.l none (some 1) (.bx 69 (.tmp 0)),
      .p none 2 (.mv (.const (.int .i64 0)))])
  (.seq (.block 0
    (.seq (.reg [.p none 4 (.fa 0 (.tmp 1)),
        .l none (some 5) (.ld none (.tmp 4)),
        .p none 6 (.mv (.tmp 5)),
        .split 6,
        .p (some (6, true)) 7 (.fa 1 (.tmp 1)),
        .l (some (6, true)) (some 8) (.ld none (.tmp 7)),
        .p (some (6, true)) 9 (.bin .eql .i64 (.tmp 8) (.const (.int .i64 0))),
        .p none 10 (.pick (.tmp 6) (.tmp 9) (.const (.bool false))),
        .p none 11 (.mv (.tmp 10)),
        .split 11,
        .p (some (11, true)) 12 (.fa 2 (.tmp 1)),
        .l (some (11, true)) (some 13) (.ld none (.tmp 12)),
        .p (some (11, true)) 14 (.len (.tmp 13)),
        .p (some (11, true)) 15 (.bin .eql .i64 (.tmp 14) (.const (.int .i64 0))),
        .p none 16 (.pick (.tmp 11) (.tmp 15) (.const (.bool false))),
        .p none 3 (.mv (.tmp 16))])
    (.cond (.tmp 3)
      (.seq (.reg [.p none 2 (.mv (.const (.int .i64 1)))])
      .ret)
      (.seq (.reg [.p none 18 (.fa 0 (.tmp 1)),
          .l none (some 19) (.ld none (.tmp 18)),
          .p none 20 (.not (.tmp 19)),
          .p none 21 (.mv (.tmp 20)),
          .split 21,
          .p (some (21, true)) 22 (.fa 1 (.tmp 1)),
          .l (some (21, true)) (some 23) (.ld none (.tmp 22)),
          .p (some (21, true)) 24 (.bin .eql .i64 (.tmp 23) (.const (.int .i64 0))),
          .p none 25 (.pick (.tmp 21) (.tmp 24) (.const (.bool false))),
          .p none 26 (.mv (.tmp 25)),
          .split 26,
          .p (some (26, true)) 27 (.fa 2 (.tmp 1)),
          .l (some (26, true)) (some 28) (.ld none (.tmp 27)),
          .p (some (26, true)) 29 (.len (.tmp 28)),
          .p (some (26, true)) 30 (.bin .eql .i64 (.tmp 29) (.const (.int .i64 0))),
          .p none 31 (.pick (.tmp 26) (.tmp 30) (.const (.bool false))),
          .p none 17 (.mv (.tmp 31))])
      (.cond (.tmp 17)
        (.seq (.reg [.p none 2 (.mv (.const (.int .i64 2)))])
        .ret)
        (.seq (.reg [.p none 33 (.fa 0 (.tmp 1)),
            .l none (some 34) (.ld none (.tmp 33)),
            .p none 35 (.not (.tmp 34)),
            .p none 36 (.mv (.tmp 35)),
            .split 36,
            .p (some (36, true)) 37 (.fa 1 (.tmp 1)),
            .l (some (36, true)) (some 38) (.ld none (.tmp 37)),
            .p (some (36, true)) 39 (.bin .geq .i64 (.tmp 38) (.const (.int .i64 1))),
            .p none 40 (.pick (.tmp 36) (.tmp 39) (.const (.bool false))),
            .p none 41 (.mv (.tmp 40)),
            .split 41,
            .p (some (41, true)) 42 (.fa 1 (.tmp 1)),
            .l (some (41, true)) (some 43) (.ld none (.tmp 42)),
            .p (some (41, true)) 44 (.bin .leq .i64 (.tmp 43) (.const (.int .i64 8))),
            .p none 45 (.pick (.tmp 41) (.tmp 44) (.const (.bool false))),
            .p none 46 (.mv (.tmp 45)),
            .split 46,
            .p (some (46, true)) 47 (.fa 2 (.tmp 1)),
            .l (some (46, true)) (some 48) (.ld none (.tmp 47)),
            .p (some (46, true)) 49 (.len (.tmp 48)),
            .p (some (46, true)) 50 (.bin .geq .i64 (.tmp 49) (.const (.int .i64 1))),
            .p none 51 (.pick (.tmp 46) (.tmp 50) (.const (.bool false))),
            .p none 52 (.mv (.tmp 51)),
            .split 52,
            .p (some (52, true)) 53 (.fa 2 (.tmp 1)),
            .l (some (52, true)) (some 54) (.ld none (.tmp 53)),
            .p (some (52, true)) 55 (.len (.tmp 54)),
            .p (some (52, true)) 56 (.bin .leq .i64 (.tmp 55) (.const (.int .i64 4096))),
            .p none 57 (.pick (.tmp 52) (.tmp 56) (.const (.bool false))),
            .p none 32 (.mv (.tmp 57))])
        (.cond (.tmp 32)
          (.seq (.reg [.p none 2 (.mv (.const (.int .i64 3)))])
          .ret)
          .skip)))))))
  (.seq (.reg [.p none 2 (.mv (.const (.int .i64 0)))])
  .ret)))
theorem C69 : compile Try.prog 58 (Try.f69.body.getD .skip) = some M69 := by kernel_rfl

/-- winnowlaw8.FootEncode -/
noncomputable def M5 : MC :=
  (.seq (.reg [.l none (some 1) (.bx 24 (.tmp 0)),
      .p none 2 (.mv (.const (.bool false)))])
  (.seq (.reg [.l none (some 18) (.ld (some 2) (.tmp 1)),
      .l none (some 19) (.call 15 [(.tmp 18)]),
      .l none (some 3) (.al 24 [(.int .i64 0), (.slice none 0 0)]),
      .l none none (.st 2 (.tmp 3) (.tmp 19))])
  (.seq (.reg [.l none (some 20) (.ld (some 2) (.tmp 3)),
      .l none (some 21) (.call 14 [(.tmp 20)]),
      .p none 4 (.mv (.tmp 21))])
  (.seq (.reg [.l none (some 23) (.ld (some 2) (.tmp 3)),
      .l none (some 24) (.call 24 [(.tmp 23)]),
      .p none 22 (.mv (.tmp 24)),
      .p none 25 (.ext 0 (.tmp 22)),
      .p none 26 (.ext 1 (.tmp 22)),
      .p none 5 (.mv (.tmp 25)),
      .p none 6 (.mv (.tmp 26))])
  (.seq (.reg [.l none (some 28) (.ld (some 2) (.tmp 3)),
      .l none (some 29) (.call 24 [(.tmp 28)]),
      .p none 27 (.mv (.tmp 29)),
      .p none 30 (.ext 0 (.tmp 27)),
      .p none 31 (.ext 1 (.tmp 27)),
      .p none 7 (.mv (.tmp 30)),
      .p none 8 (.mv (.tmp 31))])
  (.seq (.reg [.l none (some 33) (.ld (some 2) (.tmp 1)),
      .l none (some 34) (.call 25 [(.tmp 33)]),
      .p none 32 (.mv (.tmp 34)),
      .p none 35 (.ext 0 (.tmp 32)),
      .p none 36 (.ext 1 (.tmp 32)),
      .p none 9 (.mv (.tmp 35)),
      .p none 10 (.mv (.tmp 36))])
  (.seq (.seq (.reg [.p none 37 (.mv (.tmp 4)),
      .l none (some 38) (.ld (some 2) (.tmp 1)),
      .l none (some 39) (.call 13 [(.tmp 38)]),
      .p none 40 (.bin .neq .i64 (.tmp 37) (.tmp 39)),
      .p none 41 (.mv (.tmp 40)),
      .split 41,
      .p (some (41, false)) 42 (.mv (.tmp 6)),
      .p (some (41, false)) 43 (.mv (.tmp 10)),
      .p (some (41, false)) 44 (.bin .neq .i64 (.tmp 42) (.tmp 43)),
      .p none 45 (.pick (.tmp 41) (.const (.bool true)) (.tmp 44)),
      .p none 46 (.mv (.tmp 45)),
      .split 46,
      .p (some (46, false)) 47 (.mv (.tmp 8)),
      .p (some (46, false)) 48 (.mv (.tmp 10)),
      .p (some (46, false)) 49 (.bin .neq .i64 (.tmp 47) (.tmp 48)),
      .p none 50 (.pick (.tmp 46) (.const (.bool true)) (.tmp 49)),
      .p none 51 (.mv (.tmp 50)),
      .split 51,
      .p (some (51, false)) 52 (.mv (.tmp 5)),
      .p (some (51, false)) 53 (.mv (.tmp 9)),
      .l (some (51, false)) (some 54) (.call 23 [(.tmp 52), (.tmp 53)]),
      .p (some (51, false)) 55 (.not (.tmp 54)),
      .p none 56 (.pick (.tmp 51) (.const (.bool true)) (.tmp 55))])
  (.cond (.tmp 56)
    (.seq (.reg [.p none 2 (.mv (.const (.bool false)))])
    .ret)
    .skip))
  (.seq (.seq (.reg [.p none 11 (.mv (.const (.int .i64 0)))])
  (.block 0
    (.loop
      (.seq (.seq (.reg [.p none 57 (.mv (.tmp 11)),
          .p none 58 (.mv (.tmp 5)),
          .p none 59 (.len (.tmp 58)),
          .p none 60 (.bin .lss .i64 (.tmp 57) (.tmp 59))])
      (.cond (.tmp 60)
        .skip
        (.exit 0)))
      (.seq (.block 1
        (.reg [.p none 63 (.mv (.tmp 5)),
            .p none 64 (.mv (.tmp 11)),
            .p none 65 (.idx 1 (.tmp 63) (.tmp 64)),
            .l none none (.st 1 (.tmp 65) (.const (.int .u8 51)))]))
      (.reg [.p none 61 (.mv (.tmp 11)),
          .p none 62 (.bin .add .i64 (.tmp 61) (.const (.int .i64 1))),
          .p none 11 (.mv (.tmp 62))]))))))
  (.seq (.seq (.reg [.p none 12 (.mv (.const (.int .i64 0)))])
  (.block 2
    (.loop
      (.seq (.seq (.reg [.p none 66 (.mv (.tmp 12)),
          .p none 67 (.bin .lss .i64 (.tmp 66) (.const (.int .i64 64)))])
      (.cond (.tmp 67)
        .skip
        (.exit 2)))
      (.seq (.block 3
        (.reg [.p none 70 (.mv (.tmp 5)),
            .l none (some 71) (.bs 5 1 1 [(.int .u8 0)] [(0, 1, (.const (.int .u8 52)))]),
            .l none (some 72) (.app 5 1 1 [(.int .u8 0)] (.tmp 70) (.tmp 71)),
            .p none 5 (.mv (.tmp 72))]))
      (.reg [.p none 68 (.mv (.tmp 12)),
          .p none 69 (.bin .add .i64 (.tmp 68) (.const (.int .i64 1))),
          .p none 12 (.mv (.tmp 69))]))))))
  (.seq (.reg [.l none (some 73) (.ld (some 2) (.tmp 3)),
      .l none (some 74) (.call 26 [(.tmp 73)]),
      .p none 13 (.mv (.tmp 74))])
  (.seq (.reg [.l none (some 75) (.ld (some 2) (.tmp 3)),
      .l none (some 76) (.call 26 [(.tmp 75)]),
      .p none 14 (.mv (.tmp 76))])
  (.seq (.reg [.l none (some 77) (.ld (some 2) (.tmp 1)),
      .l none (some 78) (.call 27 [(.tmp 77)]),
      .p none 15 (.mv (.tmp 78))])
  (.seq (.seq (.reg [.p none 79 (.mv (.tmp 7)),
      .p none 80 (.mv (.tmp 9)),
      .l none (some 81) (.call 23 [(.tmp 79), (.tmp 80)]),
      .p none 82 (.not (.tmp 81)),
      .p none 83 (.mv (.tmp 82)),
      .split 83,
      .p (some (83, false)) 84 (.mv (.tmp 13)),
      .p (some (83, false)) 85 (.mv (.tmp 15)),
      .l (some (83, false)) (some 86) (.call 28 [(.tmp 84), (.tmp 85)]),
      .p (some (83, false)) 87 (.not (.tmp 86)),
      .p none 88 (.pick (.tmp 83) (.const (.bool true)) (.tmp 87))])
  (.cond (.tmp 88)
    (.seq (.reg [.p none 2 (.mv (.const (.bool false)))])
    .ret)
    .skip))
  (.seq (.seq (.reg [.p none 16 (.mv (.const (.int .i64 0)))])
  (.block 4
    (.loop
      (.seq (.seq (.reg [.p none 89 (.mv (.tmp 16)),
          .p none 90 (.mv (.tmp 13)),
          .p none 91 (.len (.tmp 90)),
          .p none 92 (.bin .lss .i64 (.tmp 89) (.tmp 91))])
      (.cond (.tmp 92)
        .skip
        (.exit 4)))
      (.seq (.block 5
        (.reg [.p none 95 (.mv (.tmp 13)),
            .p none 96 (.mv (.tmp 16)),
            .p none 97 (.bld [(.int .i64 0), (.int .i64 0), (.int .i64 0)] [(0, 1, (.const (.int .i64 9)))]),
            .p none 98 (.idx 3 (.tmp 95) (.tmp 96)),
            .l none none (.st 3 (.tmp 98) (.tmp 97))]))
      (.reg [.p none 93 (.mv (.tmp 16)),
          .p none 94 (.bin .add .i64 (.tmp 93) (.const (.int .i64 1))),
          .p none 16 (.mv (.tmp 94))]))))))
  (.seq (.seq (.reg [.p none 17 (.mv (.const (.int .i64 0)))])
  (.block 6
    (.loop
      (.seq (.seq (.reg [.p none 99 (.mv (.tmp 17)),
          .p none 100 (.bin .lss .i64 (.tmp 99) (.const (.int .i64 64)))])
      (.cond (.tmp 100)
        .skip
        (.exit 6)))
      (.seq (.block 7
        (.reg [.p none 103 (.mv (.tmp 13)),
            .p none 104 (.bld [(.int .i64 0), (.int .i64 0), (.int .i64 0)] [(0, 1, (.const (.int .i64 10)))]),
            .l none (some 105) (.bs 47 1 3 [(.int .i64 0), (.int .i64 0), (.int .i64 0)] [(0, 3, (.tmp 104))]),
            .l none (some 106) (.app 47 24 3 [(.int .i64 0), (.int .i64 0), (.int .i64 0)] (.tmp 103) (.tmp 105)),
            .p none 13 (.mv (.tmp 106))]))
      (.reg [.p none 101 (.mv (.tmp 17)),
          .p none 102 (.bin .add .i64 (.tmp 101) (.const (.int .i64 1))),
          .p none 17 (.mv (.tmp 102))]))))))
  (.seq (.reg [.p none 107 (.mv (.tmp 14)),
      .p none 108 (.mv (.tmp 15)),
      .l none (some 109) (.call 28 [(.tmp 107), (.tmp 108)]),
      .p none 110 (.mv (.tmp 109)),
      .split 110,
      .l (some (110, true)) (some 111) (.ld (some 2) (.tmp 3)),
      .l (some (110, true)) (some 112) (.ld (some 2) (.tmp 1)),
      .l (some (110, true)) (some 113) (.call 18 [(.tmp 111), (.tmp 112)]),
      .p none 114 (.pick (.tmp 110) (.tmp 113) (.const (.bool false))),
      .p none 115 (.mv (.tmp 114)),
      .split 115,
      .l (some (115, true)) (some 116) (.ld (some 2) (.tmp 3)),
      .l (some (115, true)) (some 117) (.call 29 [(.tmp 116)]),
      .p none 118 (.pick (.tmp 115) (.tmp 117) (.const (.bool false))),
      .p none 119 (.mv (.tmp 118)),
      .split 119,
      .p (some (119, true)) 120 (.mv (.tmp 5)),
      .p (some (119, true)) 121 (.mv (.tmp 9)),
      .p (some (119, true)) 122 (.len (.tmp 121)),
      .l (some (119, true)) (some 123) (.call 30 [(.tmp 120), (.tmp 122)]),
      .p none 124 (.pick (.tmp 119) (.tmp 123) (.const (.bool false))),
      .p none 2 (.mv (.tmp 124))])
  .ret))))))))))))))))
theorem C5 : compile Try.prog 125 (Try.f5.body.getD .skip) = some M5 := by kernel_rfl

/-- foot.Encode -/
noncomputable def M24 : MC :=
  (.seq (.reg [.l none (some 1) (.bx 24 (.tmp 0)),
      .p none 2 (.mv (.const (.slice none 0 0))),
      .p none 3 (.mv (.const (.int .i64 0)))])
  (.seq (.seq (.reg [.l none (some 12) (.ld (some 2) (.tmp 1)),
      .l none (some 13) (.call 14 [(.tmp 12)]),
      .p none 4 (.mv (.tmp 13))])
  (.seq (.reg [.p none 14 (.mv (.tmp 4)),
      .p none 15 (.bin .neq .i64 (.tmp 14) (.const (.int .i64 0)))])
  (.cond (.tmp 15)
    (.seq (.reg [.p none 16 (.mv (.tmp 4)),
        .p none 2 (.mv (.const (.slice none 0 0))),
        .p none 3 (.mv (.tmp 16))])
    .ret)
    .skip)))
  (.seq (.dreg (.line [.ql 2 none 19 (some 2) (.tmp 1),
      .l 0 none (some 17) (.ld (some 2) (.tmp 1)),
      .l 1 none (some 18) (.call 55 [(.tmp 17)]),
      .l 3 none (some 20) (.call 56 [(.tmp 19)]),
      .qp 4 none 5 (.mv (.tmp 18)),
      .qp 5 none 6 (.mv (.tmp 20))]))
  (.seq (.seq (.reg [.p none 21 (.mv (.tmp 5)),
      .p none 22 (.len (.tmp 21)),
      .p none 23 (.bin .gtr .i64 (.tmp 22) (.const (.int .i64 16777216))),
      .p none 24 (.mv (.tmp 23)),
      .split 24,
      .p (some (24, false)) 25 (.mv (.tmp 6)),
      .p (some (24, false)) 26 (.bin .gtr .i64 (.tmp 25) (.const (.int .i64 268435456))),
      .p none 27 (.pick (.tmp 24) (.const (.bool true)) (.tmp 26))])
  (.cond (.tmp 27)
    (.seq (.reg [.p none 2 (.mv (.const (.slice none 0 0))),
        .p none 3 (.mv (.const (.int .i64 62)))])
    .ret)
    .skip))
  (.seq (.reg [.p none 7 (.mv (.const (.slice none 0 0)))])
  (.seq (.reg [.l none (some 28) (.mks 5 1 1 [(.int .u8 0)] (.const (.int .i64 4096)) (.const (.int .i64 4096))),
      .p none 8 (.mv (.tmp 28))])
  (.seq (.seq (.reg [.p none 29 (.mv (.tmp 5)),
      .p none 9 (.mv (.tmp 29))])
  (.block 0
    (.loop
      (.seq (.seq (.reg [.p none 30 (.mv (.tmp 9)),
          .p none 31 (.len (.tmp 30)),
          .p none 32 (.bin .gtr .i64 (.tmp 31) (.const (.int .i64 0)))])
      (.cond (.tmp 32)
        .skip
        (.exit 0)))
      (.block 1
        (.seq (.reg [.p none 33 (.mv (.tmp 8)),
            .p none 34 (.mv (.tmp 9)),
            .l none (some 35) (.cpy 1 (.tmp 33) (.tmp 34)),
            .p none 10 (.mv (.tmp 35))])
        (.seq (.reg [.p none 36 (.mv (.tmp 7)),
            .p none 37 (.mv (.tmp 8)),
            .p none 38 (.mv (.tmp 10)),
            .p none 39 (.slc 1 (.tmp 37) none (some (.tmp 38)) none),
            .l none (some 40) (.call 57 [(.tmp 39)]),
            .l none (some 41) (.app 5 1 1 [(.int .u8 0)] (.tmp 36) (.tmp 40)),
            .p none 7 (.mv (.tmp 41))])
        (.reg [.p none 42 (.mv (.tmp 9)),
            .p none 43 (.mv (.tmp 10)),
            .p none 44 (.slc 1 (.tmp 42) (some (.tmp 43)) none none),
            .p none 9 (.mv (.tmp 44))]))))))))
  (.seq (.reg [.l none (some 45) (.bs 5 4 1 [(.int .u8 0), (.int .u8 0), (.int .u8 0), (.int .u8 0)] [(0, 1, (.const (.int .u8 119))), (1, 1, (.const (.int .u8 110))), (2, 1, (.const (.int .u8 119))), (3, 1, (.const (.int .u8 49)))]),
      .l none (some 46) (.raw (.convert 34 34 (.tmp 45))),
      .p none 11 (.mv (.tmp 46))])
  (.seq (.reg [.p none 47 (.mv (.tmp 11)),
      .p none 48 (.mv (.tmp 6)),
      .p none 49 (.conv .u64 (.tmp 48)),
      .l none (some 50) (.call 58 [(.tmp 49), (.const (.int .i64 8))]),
      .l none (some 51) (.app 5 1 1 [(.int .u8 0)] (.tmp 47) (.tmp 50)),
      .p none 11 (.mv (.tmp 51))])
  (.seq (.reg [.p none 52 (.mv (.tmp 11)),
      .p none 53 (.mv (.tmp 7)),
      .p none 54 (.len (.tmp 53)),
      .p none 55 (.conv .u64 (.tmp 54)),
      .l none (some 56) (.call 58 [(.tmp 55), (.const (.int .i64 8))]),
      .l none (some 57) (.app 5 1 1 [(.int .u8 0)] (.tmp 52) (.tmp 56)),
      .p none 11 (.mv (.tmp 57))])
  (.seq (.reg [.p none 58 (.mv (.tmp 7)),
      .p none 59 (.mv (.tmp 11)),
      .l none (some 60) (.call 57 [(.tmp 59)]),
      .l none (some 61) (.app 5 1 1 [(.int .u8 0)] (.tmp 58) (.tmp 60)),
      .p none 2 (.mv (.tmp 61)),
      .p none 3 (.mv (.const (.int .i64 0)))])
  .ret)))))))))))
theorem C24 : compile Try.prog 62 (Try.f24.body.getD .skip) = some M24 := by kernel_rfl

/-- winnowref8.Encode -/
noncomputable def M25 : MC :=
  (.seq (.reg [.l none (some 1) (.bx 24 (.tmp 0)),
      .p none 2 (.mv (.const (.slice none 0 0))),
      .p none 3 (.mv (.const (.int .i64 0)))])
  (.seq (.reg [.l none (some 15) (.ld (some 2) (.tmp 1)),
      .l none (some 16) (.call 13 [(.tmp 15)]),
      .p none 4 (.mv (.tmp 16))])
  (.seq (.seq (.reg [.p none 17 (.mv (.tmp 4)),
      .p none 18 (.bin .neq .i64 (.tmp 17) (.const (.int .i64 0)))])
  (.cond (.tmp 18)
    (.seq (.reg [.p none 19 (.mv (.tmp 4)),
        .p none 2 (.mv (.const (.slice none 0 0))),
        .p none 3 (.mv (.tmp 19))])
    .ret)
    .skip))
  (.seq (.reg [.l none (some 20) (.ld (some 2) (.tmp 1)),
      .l none (some 21) (.call 59 [(.tmp 20)]),
      .p none 5 (.mv (.tmp 21))])
  (.seq (.reg [.l none (some 22) (.ld (some 2) (.tmp 1)),
      .l none (some 23) (.call 60 [(.tmp 22)]),
      .p none 6 (.mv (.tmp 23))])
  (.seq (.seq (.reg [.p none 24 (.mv (.tmp 5)),
      .p none 25 (.len (.tmp 24)),
      .p none 26 (.bin .gtr .i64 (.tmp 25) (.const (.int .i64 16777216))),
      .p none 27 (.mv (.tmp 26)),
      .split 27,
      .p (some (27, false)) 28 (.mv (.tmp 6)),
      .p (some (27, false)) 29 (.bin .gtr .i64 (.tmp 28) (.const (.int .i64 268435456))),
      .p none 30 (.pick (.tmp 27) (.const (.bool true)) (.tmp 29))])
  (.cond (.tmp 30)
    (.seq (.reg [.p none 2 (.mv (.const (.slice none 0 0))),
        .p none 3 (.mv (.const (.int .i64 62)))])
    .ret)
    .skip))
  (.seq (.reg [.p none 7 (.mv (.const (.slice none 0 0)))])
  (.seq (.seq (.reg [.p none 8 (.mv (.const (.int .i64 0)))])
  (.block 0
    (.loop
      (.seq (.seq (.reg [.p none 31 (.mv (.tmp 8)),
          .p none 32 (.mv (.tmp 5)),
          .p none 33 (.len (.tmp 32)),
          .p none 34 (.bin .lss .i64 (.tmp 31) (.tmp 33))])
      (.cond (.tmp 34)
        .skip
        (.exit 0)))
      (.seq (.block 1
        (.seq (.reg [.p none 37 (.mv (.tmp 8)),
            .p none 38 (.bin .add .i64 (.tmp 37) (.const (.int .i64 4096))),
            .p none 9 (.mv (.tmp 38))])
        (.seq (.seq (.reg [.p none 39 (.mv (.tmp 9)),
            .p none 40 (.mv (.tmp 5)),
            .p none 41 (.len (.tmp 40)),
            .p none 42 (.bin .gtr .i64 (.tmp 39) (.tmp 41))])
        (.cond (.tmp 42)
          (.reg [.p none 43 (.mv (.tmp 5)),
              .p none 44 (.len (.tmp 43)),
              .p none 9 (.mv (.tmp 44))])
          .skip))
        (.seq (.reg [.p none 45 (.mv (.tmp 5)),
            .p none 46 (.mv (.tmp 8)),
            .p none 47 (.mv (.tmp 9)),
            .p none 48 (.slc 1 (.tmp 45) (some (.tmp 46)) (some (.tmp 47)) none),
            .l none (some 49) (.call 61 [(.tmp 48)]),
            .p none 10 (.mv (.tmp 49))])
        (.reg [.p none 50 (.mv (.tmp 7)),
            .p none 51 (.mv (.tmp 10)),
            .l none (some 52) (.app 5 1 1 [(.int .u8 0)] (.tmp 50) (.tmp 51)),
            .p none 7 (.mv (.tmp 52))])))))
      (.reg [.p none 35 (.mv (.tmp 8)),
          .p none 36 (.bin .add .i64 (.tmp 35) (.const (.int .i64 4096))),
          .p none 8 (.mv (.tmp 36))]))))))
  (.seq (.reg [.p none 11 (.mv (.const (.slice none 0 0)))])
  (.seq (.reg [.p none 53 (.mv (.tmp 11)),
      .l none (some 54) (.app 5 1 1 [(.int .u8 0)] (.tmp 53) (.const (.string ⟨#[119, 110, 119, 49]⟩))),
      .p none 11 (.mv (.tmp 54))])
  (.seq (.reg [.p none 55 (.mv (.tmp 6)),
      .p none 56 (.conv .u64 (.tmp 55)),
      .l none (some 57) (.call 62 [(.tmp 56), (.const (.int .i64 8))]),
      .p none 12 (.mv (.tmp 57))])
  (.seq (.reg [.p none 58 (.mv (.tmp 7)),
      .p none 59 (.len (.tmp 58)),
      .p none 60 (.conv .u64 (.tmp 59)),
      .l none (some 61) (.call 62 [(.tmp 60), (.const (.int .i64 8))]),
      .p none 13 (.mv (.tmp 61))])
  (.seq (.reg [.p none 62 (.mv (.tmp 11)),
      .p none 63 (.mv (.tmp 12)),
      .l none (some 64) (.app 5 1 1 [(.int .u8 0)] (.tmp 62) (.tmp 63)),
      .p none 11 (.mv (.tmp 64))])
  (.seq (.reg [.p none 65 (.mv (.tmp 11)),
      .p none 66 (.mv (.tmp 13)),
      .l none (some 67) (.app 5 1 1 [(.int .u8 0)] (.tmp 65) (.tmp 66)),
      .p none 11 (.mv (.tmp 67))])
  (.seq (.reg [.p none 68 (.mv (.tmp 11)),
      .l none (some 69) (.call 61 [(.tmp 68)]),
      .p none 14 (.mv (.tmp 69))])
  (.seq (.reg [.p none 70 (.mv (.tmp 7)),
      .p none 71 (.mv (.tmp 14)),
      .l none (some 72) (.app 5 1 1 [(.int .u8 0)] (.tmp 70) (.tmp 71)),
      .p none 7 (.mv (.tmp 72))])
  (.seq (.reg [.p none 73 (.mv (.tmp 7)),
      .p none 2 (.mv (.tmp 73)),
      .p none 3 (.mv (.const (.int .i64 0)))])
  .ret)))))))))))))))))
theorem C25 : compile Try.prog 74 (Try.f25.body.getD .skip) = some M25 := by kernel_rfl

/-- foot.Tiles -/
noncomputable def M26 : MC :=
  (.seq (.reg [.l none (some 1) (.bx 24 (.tmp 0)),
      .p none 2 (.mv (.const (.slice none 0 0)))])
  (.seq (.reg [.l none (some 15) (.ld (some 2) (.tmp 1)),
      .l none (some 16) (.call 24 [(.tmp 15)]),
      .p none 14 (.mv (.tmp 16)),
      .p none 17 (.ext 0 (.tmp 14)),
      .p none 18 (.ext 1 (.tmp 14)),
      .p none 3 (.mv (.tmp 17)),
      .p none 4 (.mv (.tmp 18))])
  (.seq (.seq (.reg [.p none 19 (.mv (.tmp 4)),
      .p none 20 (.bin .neq .i64 (.tmp 19) (.const (.int .i64 0)))])
  (.cond (.tmp 20)
    (.seq (.reg [.p none 2 (.mv (.const (.slice none 0 0)))])
    .ret)
    .skip))
  (.seq (.reg [.l none (some 5) (.al 43 [(.slice none 0 0)])])
  (.seq (.reg [.l none (some 6) (.al 2 [(.int .i64 0)]),
      .l none none (.st 1 (.tmp 6) (.const (.int .i64 0)))])
  (.seq (.reg [.p none 21 (.mkf (.func 63) [] [(.tmp 5), (.tmp 6)]),
      .p none 7 (.mv (.tmp 21))])
  (.seq (.seq (.reg [.p none 22 (.fa 1 (.tmp 1)),
      .l none (some 23) (.ld none (.tmp 22)),
      .p none 24 (.len (.tmp 23)),
      .p none 25 (.mv (.const (.int .i64 0)))])
  (.block 0
    (.loop
      (.seq (.reg [.p none 26 (.bin .lss .i64 (.tmp 25) (.tmp 24))])
      (.seq (.cond (.tmp 26)
        .skip
        (.exit 0))
      (.seq (.block 1
        (.seq (.reg [.p none 27 (.idx 5 (.tmp 23) (.tmp 25)),
            .l none (some 28) (.ld (some 5) (.tmp 27)),
            .l none (some 9) (.al 71 [(.int .i64 0), (.slice none 0 0), (.bool false), (.int .i64 0), (.slice none 0 0)]),
            .l none none (.st 5 (.tmp 9) (.tmp 28))])
        (.seq (.reg [.p none 29 (.fa 1 (.tmp 9)),
            .l none (some 30) (.ld none (.tmp 29)),
            .p none 31 (.len (.tmp 30)),
            .p none 32 (.mv (.const (.int .i64 0)))])
        (.block 2
          (.loop
            (.seq (.reg [.p none 33 (.bin .lss .i64 (.tmp 32) (.tmp 31))])
            (.seq (.cond (.tmp 33)
              .skip
              (.exit 2))
            (.seq (.block 3
              (.seq (.reg [.p none 34 (.idx 4 (.tmp 30) (.tmp 32)),
                  .l none (some 35) (.ld (some 4) (.tmp 34)),
                  .l none (some 11) (.al 74 [(.int .i64 0), (.int .i64 0), (.int .i64 0), (.string ⟨#[]⟩)]),
                  .l none none (.st 4 (.tmp 11) (.tmp 35))])
              (.reg [.p none 36 (.mv (.tmp 7)),
                  .p none 37 (.fa 0 (.tmp 11)),
                  .l none (some 38) (.ld none (.tmp 37)),
                  .p none 39 (.bin .add .i64 (.tmp 38) (.const (.int .i64 5))),
                  .l none (some 40) (.callv (.tmp 36) [(.const (.int .i64 0)), (.tmp 39)])])))
            (.reg [.p none 41 (.bin .add .i64 (.tmp 32) (.const (.int .i64 1))),
                .p none 32 (.mv (.tmp 41))])))))))))
      (.reg [.p none 42 (.bin .add .i64 (.tmp 25) (.const (.int .i64 1))),
          .p none 25 (.mv (.tmp 42))])))))))
  (.seq (.seq (.reg [.p none 43 (.mv (.tmp 3)),
      .p none 44 (.len (.tmp 43)),
      .p none 45 (.bin .sub .i64 (.tmp 44) (.const (.int .i64 24))),
      .p none 12 (.mv (.tmp 45))])
  (.block 4
    (.loop
      (.seq (.seq (.reg [.p none 46 (.mv (.tmp 12)),
          .p none 47 (.bin .gtr .i64 (.tmp 46) (.const (.int .i64 0)))])
      (.cond (.tmp 47)
        .skip
        (.exit 4)))
      (.block 5
        (.seq (.reg [.p none 48 (.mv (.tmp 12)),
            .p none 49 (.mm false .i64 (.tmp 48) [(.const (.int .i64 4100))]),
            .p none 13 (.mv (.tmp 49))])
        (.seq (.reg [.p none 50 (.mv (.tmp 7)),
            .p none 51 (.mv (.tmp 13)),
            .l none (some 52) (.callv (.tmp 50) [(.const (.int .i64 1)), (.tmp 51)])])
        (.reg [.p none 53 (.mv (.tmp 12)),
            .p none 54 (.mv (.tmp 13)),
            .p none 55 (.bin .sub .i64 (.tmp 53) (.tmp 54)),
            .p none 12 (.mv (.tmp 55))]))))))))
  (.seq (.reg [.p none 56 (.mv (.tmp 7)),
      .l none (some 57) (.callv (.tmp 56) [(.const (.int .i64 2)), (.const (.int .i64 24))])])
  (.seq (.reg [.l none (some 58) (.ld none (.tmp 5)),
      .p none 2 (.mv (.tmp 58))])
  .ret))))))))))
theorem C26 : compile Try.prog 59 (Try.f26.body.getD .skip) = some M26 := by kernel_rfl

/-- winnowref8.Tiles -/
noncomputable def M27 : MC :=
  (.seq (.reg [.l none (some 1) (.bx 24 (.tmp 0)),
      .p none 2 (.mv (.const (.slice none 0 0)))])
  (.seq (.reg [.p none 3 (.mv (.const (.slice none 0 0)))])
  (.seq (.reg [.l none (some 13) (.ld (some 2) (.tmp 1)),
      .l none (some 14) (.call 25 [(.tmp 13)]),
      .p none 12 (.mv (.tmp 14)),
      .p none 15 (.ext 0 (.tmp 12)),
      .p none 16 (.ext 1 (.tmp 12)),
      .p none 4 (.mv (.tmp 15)),
      .p none 5 (.mv (.tmp 16))])
  (.seq (.seq (.reg [.p none 17 (.mv (.tmp 5)),
      .p none 18 (.bin .neq .i64 (.tmp 17) (.const (.int .i64 0)))])
  (.cond (.tmp 18)
    (.seq (.reg [.p none 19 (.mv (.tmp 3)),
        .p none 2 (.mv (.tmp 19))])
    .ret)
    .skip))
  (.seq (.reg [.p none 6 (.mv (.const (.int .i64 0)))])
  (.seq (.seq (.reg [.p none 7 (.mv (.const (.int .i64 0)))])
  (.block 0
    (.loop
      (.seq (.seq (.reg [.p none 20 (.mv (.tmp 7)),
          .p none 21 (.fa 1 (.tmp 1)),
          .l none (some 22) (.ld none (.tmp 21)),
          .p none 23 (.len (.tmp 22)),
          .p none 24 (.bin .lss .i64 (.tmp 20) (.tmp 23))])
      (.cond (.tmp 24)
        .skip
        (.exit 0)))
      (.seq (.block 1
        (.seq (.reg [.p none 8 (.mv (.const (.int .i64 0)))])
        (.block 2
          (.loop
            (.seq (.seq (.reg [.p none 27 (.mv (.tmp 8)),
                .p none 28 (.fa 1 (.tmp 1)),
                .l none (some 29) (.ld none (.tmp 28)),
                .p none 30 (.mv (.tmp 7)),
                .p none 31 (.idx 5 (.tmp 29) (.tmp 30)),
                .p none 32 (.fa 1 (.tmp 31)),
                .l none (some 33) (.ld none (.tmp 32)),
                .p none 34 (.len (.tmp 33)),
                .p none 35 (.bin .lss .i64 (.tmp 27) (.tmp 34))])
            (.cond (.tmp 35)
              .skip
              (.exit 2)))
            (.seq (.block 3
              (.seq (.reg [.p none 38 (.fa 1 (.tmp 1)),
                  .l none (some 39) (.ld none (.tmp 38)),
                  .p none 40 (.mv (.tmp 7)),
                  .p none 41 (.idx 5 (.tmp 39) (.tmp 40)),
                  .p none 42 (.fa 1 (.tmp 41)),
                  .l none (some 43) (.ld none (.tmp 42)),
                  .p none 44 (.mv (.tmp 8)),
                  .p none 45 (.idx 4 (.tmp 43) (.tmp 44)),
                  .p none 46 (.fa 0 (.tmp 45)),
                  .l none (some 47) (.ld none (.tmp 46)),
                  .p none 48 (.bin .add .i64 (.tmp 47) (.const (.int .i64 5))),
                  .p none 9 (.mv (.tmp 48))])
              (.seq (.reg [.p none 49 (.mv (.tmp 3)),
                  .p none 50 (.mv (.tmp 6)),
                  .p none 51 (.mv (.tmp 6)),
                  .p none 52 (.mv (.tmp 9)),
                  .p none 53 (.bin .add .i64 (.tmp 51) (.tmp 52)),
                  .p none 54 (.bld [(.int .i64 0), (.int .i64 0), (.int .i64 0)] [(0, 1, (.const (.int .i64 0))), (1, 1, (.tmp 50)), (2, 1, (.tmp 53))]),
                  .l none (some 55) (.bs 47 1 3 [(.int .i64 0), (.int .i64 0), (.int .i64 0)] [(0, 3, (.tmp 54))]),
                  .l none (some 56) (.app 47 24 3 [(.int .i64 0), (.int .i64 0), (.int .i64 0)] (.tmp 49) (.tmp 55)),
                  .p none 3 (.mv (.tmp 56))])
              (.reg [.p none 57 (.mv (.tmp 6)),
                  .p none 58 (.mv (.tmp 9)),
                  .p none 59 (.bin .add .i64 (.tmp 57) (.tmp 58)),
                  .p none 6 (.mv (.tmp 59))]))))
            (.reg [.p none 36 (.mv (.tmp 8)),
                .p none 37 (.bin .add .i64 (.tmp 36) (.const (.int .i64 1))),
                .p none 8 (.mv (.tmp 37))])))))))
      (.reg [.p none 25 (.mv (.tmp 7)),
          .p none 26 (.bin .add .i64 (.tmp 25) (.const (.int .i64 1))),
          .p none 7 (.mv (.tmp 26))]))))))
  (.seq (.reg [.p none 60 (.mv (.tmp 4)),
      .p none 61 (.len (.tmp 60)),
      .p none 62 (.bin .sub .i64 (.tmp 61) (.const (.int .i64 24))),
      .p none 10 (.mv (.tmp 62))])
  (.seq (.block 4
    (.loop
      (.seq (.seq (.reg [.p none 63 (.mv (.tmp 10)),
          .p none 64 (.bin .gtr .i64 (.tmp 63) (.const (.int .i64 0)))])
      (.cond (.tmp 64)
        .skip
        (.exit 4)))
      (.block 5
        (.seq (.reg [.p none 65 (.mv (.tmp 10)),
            .p none 11 (.mv (.tmp 65))])
        (.seq (.seq (.reg [.p none 66 (.mv (.tmp 11)),
            .p none 67 (.bin .gtr .i64 (.tmp 66) (.const (.int .i64 4100)))])
        (.cond (.tmp 67)
          (.reg [.p none 11 (.mv (.const (.int .i64 4100)))])
          .skip))
        (.seq (.reg [.p none 68 (.mv (.tmp 3)),
            .p none 69 (.mv (.tmp 6)),
            .p none 70 (.mv (.tmp 6)),
            .p none 71 (.mv (.tmp 11)),
            .p none 72 (.bin .add .i64 (.tmp 70) (.tmp 71)),
            .p none 73 (.bld [(.int .i64 0), (.int .i64 0), (.int .i64 0)] [(0, 1, (.const (.int .i64 1))), (1, 1, (.tmp 69)), (2, 1, (.tmp 72))]),
            .l none (some 74) (.bs 47 1 3 [(.int .i64 0), (.int .i64 0), (.int .i64 0)] [(0, 3, (.tmp 73))]),
            .l none (some 75) (.app 47 24 3 [(.int .i64 0), (.int .i64 0), (.int .i64 0)] (.tmp 68) (.tmp 74)),
            .p none 3 (.mv (.tmp 75))])
        (.seq (.reg [.p none 76 (.mv (.tmp 6)),
            .p none 77 (.mv (.tmp 11)),
            .p none 78 (.bin .add .i64 (.tmp 76) (.tmp 77)),
            .p none 6 (.mv (.tmp 78))])
        (.reg [.p none 79 (.mv (.tmp 10)),
            .p none 80 (.mv (.tmp 11)),
            .p none 81 (.bin .sub .i64 (.tmp 79) (.tmp 80)),
            .p none 10 (.mv (.tmp 81))])))))))))
  (.seq (.reg [.p none 82 (.mv (.tmp 3)),
      .p none 83 (.mv (.tmp 6)),
      .p none 84 (.mv (.tmp 6)),
      .p none 85 (.bin .add .i64 (.tmp 84) (.const (.int .i64 24))),
      .p none 86 (.bld [(.int .i64 0), (.int .i64 0), (.int .i64 0)] [(0, 1, (.const (.int .i64 2))), (1, 1, (.tmp 83)), (2, 1, (.tmp 85))]),
      .l none (some 87) (.bs 47 1 3 [(.int .i64 0), (.int .i64 0), (.int .i64 0)] [(0, 3, (.tmp 86))]),
      .l none (some 88) (.app 47 24 3 [(.int .i64 0), (.int .i64 0), (.int .i64 0)] (.tmp 82) (.tmp 87)),
      .p none 3 (.mv (.tmp 88))])
  (.seq (.reg [.p none 89 (.mv (.tmp 3)),
      .p none 2 (.mv (.tmp 89))])
  .ret))))))))))
theorem C27 : compile Try.prog 90 (Try.f27.body.getD .skip) = some M27 := by kernel_rfl

/-- winnowlaw8.sameTiles -/
noncomputable def M28 : MC :=
  (.seq (.reg [.p none 4 (.mv (.const (.bool false)))])
  (.seq (.seq (.reg [.p none 6 (.mv (.tmp 0)),
      .p none 7 (.len (.tmp 6)),
      .p none 8 (.mv (.tmp 1)),
      .p none 9 (.len (.tmp 8)),
      .p none 10 (.bin .neq .i64 (.tmp 7) (.tmp 9))])
  (.cond (.tmp 10)
    (.seq (.reg [.p none 4 (.mv (.const (.bool false)))])
    .ret)
    .skip))
  (.seq (.seq (.reg [.p none 5 (.mv (.const (.int .i64 0)))])
  (.block 0
    (.loop
      (.seq (.seq (.reg [.p none 11 (.mv (.tmp 5)),
          .p none 12 (.mv (.tmp 0)),
          .p none 13 (.len (.tmp 12)),
          .p none 14 (.bin .lss .i64 (.tmp 11) (.tmp 13))])
      (.cond (.tmp 14)
        .skip
        (.exit 0)))
      (.seq (.block 1
        (.seq (.dreg (.line [.qp 0 none 17 (.mv (.tmp 0)),
            .qp 1 none 18 (.mv (.tmp 5)),
            .qp 2 none 19 (.idx 3 (.tmp 17) (.tmp 18)),
            .qp 4 none 21 (.mv (.tmp 1)),
            .qp 5 none 22 (.mv (.tmp 5)),
            .qp 6 none 23 (.idx 3 (.tmp 21) (.tmp 22)),
            .ql 7 none 24 (some 3) (.tmp 23),
            .l 3 none (some 20) (.ld (some 3) (.tmp 19)),
            .qp 8 none 25 (.aeq true [1, 1, 1] (.tmp 20) (.tmp 24))]))
        (.cond (.tmp 25)
          (.seq (.reg [.p none 4 (.mv (.const (.bool false)))])
          .ret)
          .skip)))
      (.reg [.p none 15 (.mv (.tmp 5)),
          .p none 16 (.bin .add .i64 (.tmp 15) (.const (.int .i64 1))),
          .p none 5 (.mv (.tmp 16))]))))))
  (.seq (.reg [.p none 4 (.mv (.const (.bool true)))])
  .ret))))
theorem C28 : compile Try.prog 26 (Try.f28.body.getD .skip) = some M28 := by kernel_rfl

/-- winnowlaw8.encodedAnew -/
noncomputable def M29 : MC :=
  (.seq (.reg [.l none (some 1) (.bx 24 (.tmp 0)),
      .p none 2 (.mv (.const (.bool false)))])
  (.seq (.seq (.reg [.p none 10 (.fa 1 (.tmp 1)),
      .l none (some 11) (.ld none (.tmp 10)),
      .p none 12 (.len (.tmp 11)),
      .p none 13 (.bin .eql .i64 (.tmp 12) (.const (.int .i64 0))),
      .p none 14 (.mv (.tmp 13)),
      .split 14,
      .p (some (14, false)) 15 (.fa 1 (.tmp 1)),
      .l (some (14, false)) (some 16) (.ld none (.tmp 15)),
      .p (some (14, false)) 17 (.idx 5 (.tmp 16) (.const (.int .i64 0))),
      .p (some (14, false)) 18 (.fa 1 (.tmp 17)),
      .l (some (14, false)) (some 19) (.ld none (.tmp 18)),
      .p (some (14, false)) 20 (.len (.tmp 19)),
      .p (some (14, false)) 21 (.bin .eql .i64 (.tmp 20) (.const (.int .i64 0))),
      .p none 22 (.pick (.tmp 14) (.const (.bool true)) (.tmp 21))])
  (.cond (.tmp 22)
    (.seq (.reg [.p none 2 (.mv (.const (.bool true)))])
    .ret)
    .skip))
  (.seq (.dreg (.line [.qp 0 none 23 (.fa 1 (.tmp 1)),
      .qp 5 none 28 (.fa 1 (.tmp 1)),
      .ql 6 none 29 none (.tmp 28),
      .qp 7 none 30 (.idx 5 (.tmp 29) (.const (.int .i64 0))),
      .qp 8 none 31 (.fa 1 (.tmp 30)),
      .ql 9 none 32 none (.tmp 31),
      .qp 10 none 33 (.idx 4 (.tmp 32) (.const (.int .i64 0))),
      .qp 11 none 34 (.fa 2 (.tmp 33)),
      .ql 1 none 24 none (.tmp 23),
      .qp 2 none 25 (.idx 5 (.tmp 24) (.const (.int .i64 0))),
      .qp 3 none 26 (.fa 1 (.tmp 25)),
      .ql 4 none 27 none (.tmp 26),
      .l 12 none (some 35) (.ld none (.tmp 34)),
      .qp 13 none 36 (.bin .xor .i64 (.tmp 35) (.const (.int .i64 1))),
      .qp 14 none 37 (.idx 4 (.tmp 27) (.const (.int .i64 0))),
      .qp 15 none 38 (.fa 2 (.tmp 37)),
      .l 16 none none (.st 1 (.tmp 38) (.tmp 36))]))
  (.seq (.reg [.l none (some 39) (.ld (some 2) (.tmp 1)),
      .l none (some 40) (.call 15 [(.tmp 39)]),
      .l none (some 3) (.al 24 [(.int .i64 0), (.slice none 0 0)]),
      .l none none (.st 2 (.tmp 3) (.tmp 40))])
  (.seq (.reg [.l none (some 42) (.ld (some 2) (.tmp 1)),
      .l none (some 43) (.call 24 [(.tmp 42)]),
      .p none 41 (.mv (.tmp 43)),
      .p none 44 (.ext 0 (.tmp 41)),
      .p none 45 (.ext 1 (.tmp 41)),
      .p none 4 (.mv (.tmp 44)),
      .p none 5 (.mv (.tmp 45))])
  (.seq (.reg [.l none (some 47) (.ld (some 2) (.tmp 3)),
      .l none (some 48) (.call 25 [(.tmp 47)]),
      .p none 46 (.mv (.tmp 48)),
      .p none 49 (.ext 0 (.tmp 46)),
      .p none 50 (.ext 1 (.tmp 46)),
      .p none 6 (.mv (.tmp 49)),
      .p none 7 (.mv (.tmp 50))])
  (.seq (.reg [.l none (some 51) (.ld (some 2) (.tmp 1)),
      .l none (some 52) (.call 14 [(.tmp 51)]),
      .p none 8 (.mv (.tmp 52))])
  (.seq (.reg [.l none (some 53) (.ld (some 2) (.tmp 1)),
      .l none (some 54) (.call 26 [(.tmp 53)]),
      .p none 9 (.mv (.tmp 54))])
  (.seq (.reg [.p none 55 (.mv (.tmp 5)),
      .p none 56 (.mv (.tmp 7)),
      .p none 57 (.bin .eql .i64 (.tmp 55) (.tmp 56)),
      .p none 58 (.mv (.tmp 57)),
      .split 58,
      .p (some (58, true)) 59 (.mv (.tmp 4)),
      .p (some (58, true)) 60 (.mv (.tmp 6)),
      .l (some (58, true)) (some 61) (.call 23 [(.tmp 59), (.tmp 60)]),
      .p none 62 (.pick (.tmp 58) (.tmp 61) (.const (.bool false))),
      .p none 63 (.mv (.tmp 62)),
      .split 63,
      .p (some (63, true)) 64 (.mv (.tmp 8)),
      .l (some (63, true)) (some 65) (.ld (some 2) (.tmp 3)),
      .l (some (63, true)) (some 66) (.call 13 [(.tmp 65)]),
      .p (some (63, true)) 67 (.bin .eql .i64 (.tmp 64) (.tmp 66)),
      .p none 68 (.pick (.tmp 63) (.tmp 67) (.const (.bool false))),
      .p none 69 (.mv (.tmp 68)),
      .split 69,
      .p (some (69, true)) 70 (.mv (.tmp 9)),
      .l (some (69, true)) (some 71) (.ld (some 2) (.tmp 3)),
      .l (some (69, true)) (some 72) (.call 27 [(.tmp 71)]),
      .l (some (69, true)) (some 73) (.call 28 [(.tmp 70), (.tmp 72)]),
      .p none 74 (.pick (.tmp 69) (.tmp 73) (.const (.bool false))),
      .p none 75 (.mv (.tmp 74)),
      .split 75,
      .l (some (75, true)) (some 76) (.ld (some 2) (.tmp 1)),
      .l (some (75, true)) (some 77) (.ld (some 2) (.tmp 3)),
      .l (some (75, true)) (some 78) (.call 37 [(.tmp 76), (.tmp 77)]),
      .p none 79 (.pick (.tmp 75) (.tmp 78) (.const (.bool false))),
      .p none 2 (.mv (.tmp 79))])
  .ret)))))))))
theorem C29 : compile Try.prog 80 (Try.f29.body.getD .skip) = some M29 := by kernel_rfl

/-- winnowlaw8.stays -/
noncomputable def M30 : MC :=
  (.seq (.reg [.p none 4 (.mv (.const (.bool false)))])
  (.seq (.seq (.reg [.p none 5 (.mv (.const (.int .i64 0)))])
  (.block 0
    (.loop
      (.seq (.seq (.reg [.p none 6 (.mv (.tmp 5)),
          .p none 7 (.mv (.tmp 0)),
          .p none 8 (.len (.tmp 7)),
          .p none 9 (.bin .lss .i64 (.tmp 6) (.tmp 8))])
      (.cond (.tmp 9)
        .skip
        (.exit 0)))
      (.seq (.block 1
        (.seq (.reg [.p none 12 (.mv (.tmp 5)),
            .p none 13 (.mv (.tmp 1)),
            .p none 14 (.bin .lss .i64 (.tmp 12) (.tmp 13)),
            .p none 15 (.mv (.tmp 14)),
            .split 15,
            .p (some (15, true)) 16 (.mv (.tmp 0)),
            .p (some (15, true)) 17 (.mv (.tmp 5)),
            .p (some (15, true)) 18 (.idx 1 (.tmp 16) (.tmp 17)),
            .l (some (15, true)) (some 19) (.ld none (.tmp 18)),
            .p (some (15, true)) 20 (.bin .neq .u8 (.tmp 19) (.const (.int .u8 51))),
            .p none 21 (.pick (.tmp 15) (.tmp 20) (.const (.bool false))),
            .p none 22 (.mv (.tmp 21)),
            .split 22,
            .p (some (22, false)) 23 (.mv (.tmp 5)),
            .p (some (22, false)) 24 (.mv (.tmp 1)),
            .p (some (22, false)) 25 (.bin .geq .i64 (.tmp 23) (.tmp 24)),
            .p (some (22, false)) 26 (.mv (.tmp 25)),
            .split 26,
            .p (some (26, true)) 27 (.mv (.tmp 0)),
            .p (some (26, true)) 28 (.mv (.tmp 5)),
            .p (some (26, true)) 29 (.idx 1 (.tmp 27) (.tmp 28)),
            .l (some (26, true)) (some 30) (.ld none (.tmp 29)),
            .p (some (26, true)) 31 (.bin .neq .u8 (.tmp 30) (.const (.int .u8 52))),
            .p (some (22, false)) 32 (.pick (.tmp 26) (.tmp 31) (.const (.bool false))),
            .p none 33 (.pick (.tmp 22) (.const (.bool true)) (.tmp 32))])
        (.cond (.tmp 33)
          (.seq (.reg [.p none 4 (.mv (.const (.bool false)))])
          .ret)
          .skip)))
      (.reg [.p none 10 (.mv (.tmp 5)),
          .p none 11 (.bin .add .i64 (.tmp 10) (.const (.int .i64 1))),
          .p none 5 (.mv (.tmp 11))]))))))
  (.seq (.reg [.p none 34 (.mv (.tmp 0)),
      .p none 35 (.len (.tmp 34)),
      .p none 36 (.mv (.tmp 1)),
      .p none 37 (.bin .add .i64 (.tmp 36) (.const (.int .i64 64))),
      .p none 38 (.bin .eql .i64 (.tmp 35) (.tmp 37)),
      .p none 4 (.mv (.tmp 38))])
  .ret)))
theorem C30 : compile Try.prog 39 (Try.f30.body.getD .skip) = some M30 := by kernel_rfl

/-- foot.body -/
noncomputable def M55 : MC :=
  (.seq (.reg [.l none (some 1) (.bx 24 (.tmp 0)),
      .p none 2 (.mv (.const (.slice none 0 0)))])
  (.seq (.reg [.l none (some 3) (.al 34 [(.slice none 0 0)])])
  (.seq (.reg [.p none 14 (.mkf (.func 75) [] [(.tmp 3)]),
      .p none 4 (.mv (.tmp 14))])
  (.seq (.reg [.p none 15 (.mv (.tmp 4)),
      .p none 16 (.fa 0 (.tmp 1)),
      .l none (some 17) (.ld none (.tmp 16)),
      .p none 18 (.fa 1 (.tmp 1)),
      .l none (some 19) (.ld none (.tmp 18)),
      .p none 20 (.len (.tmp 19)),
      .l none (some 21) (.bs 3 2 1 [(.int .i64 0), (.int .i64 0)] [(0, 1, (.tmp 17)), (1, 1, (.tmp 20))]),
      .l none (some 22) (.callv (.tmp 15) [(.tmp 21)])])
  (.seq (.reg [.p none 5 (.mv (.const (.int .i64 (-1))))])
  (.seq (.seq (.reg [.p none 23 (.fa 1 (.tmp 1)),
      .l none (some 24) (.ld none (.tmp 23)),
      .p none 25 (.len (.tmp 24)),
      .p none 26 (.mv (.const (.int .i64 0)))])
  (.block 0
    (.loop
      (.seq (.reg [.p none 27 (.bin .lss .i64 (.tmp 26) (.tmp 25))])
      (.seq (.cond (.tmp 27)
        .skip
        (.exit 0))
      (.seq (.block 1
        (.seq (.reg [.p none 28 (.idx 5 (.tmp 24) (.tmp 26)),
            .l none (some 29) (.ld (some 5) (.tmp 28)),
            .l none (some 7) (.al 71 [(.int .i64 0), (.slice none 0 0), (.bool false), (.int .i64 0), (.slice none 0 0)]),
            .l none none (.st 5 (.tmp 7) (.tmp 29))])
        (.seq (.reg [.p none 31 (.fa 2 (.tmp 7)),
            .l none (some 32) (.ld (some 3) (.tmp 31)),
            .l none (some 33) (.call 77 [(.tmp 32)]),
            .p none 30 (.mv (.tmp 33)),
            .p none 34 (.ext 0 (.tmp 30)),
            .p none 35 (.ext 1 (.tmp 30)),
            .p none 8 (.mv (.tmp 34)),
            .p none 9 (.mv (.tmp 35))])
        (.seq (.reg [.p none 36 (.mv (.tmp 4)),
            .p none 37 (.fa 0 (.tmp 7)),
            .l none (some 38) (.ld none (.tmp 37)),
            .p none 39 (.mv (.tmp 5)),
            .p none 40 (.bin .sub .i64 (.tmp 38) (.tmp 39)),
            .p none 41 (.bin .sub .i64 (.tmp 40) (.const (.int .i64 1))),
            .p none 42 (.mv (.tmp 8)),
            .p none 43 (.len (.tmp 42)),
            .l none (some 44) (.bs 3 2 1 [(.int .i64 0), (.int .i64 0)] [(0, 1, (.tmp 41)), (1, 1, (.tmp 43))]),
            .l none (some 45) (.callv (.tmp 36) [(.tmp 44)])])
        (.seq (.reg [.l none (some 46) (.ld none (.tmp 3)),
            .p none 47 (.mv (.tmp 8)),
            .l none (some 48) (.app 5 1 1 [(.int .u8 0)] (.tmp 46) (.tmp 47)),
            .l none none (.st 1 (.tmp 3) (.tmp 48))])
        (.seq (.reg [.p none 49 (.mv (.tmp 4)),
            .p none 50 (.fa 1 (.tmp 7)),
            .l none (some 51) (.ld none (.tmp 50)),
            .p none 52 (.len (.tmp 51)),
            .l none (some 53) (.bs 3 1 1 [(.int .i64 0)] [(0, 1, (.tmp 52))]),
            .l none (some 54) (.callv (.tmp 49) [(.tmp 53)])])
        (.seq (.reg [.p none 55 (.fa 0 (.tmp 7)),
            .l none (some 56) (.ld none (.tmp 55)),
            .p none 5 (.mv (.tmp 56))])
        (.seq (.reg [.p none 10 (.mv (.const (.string ⟨#[]⟩)))])
        (.seq (.reg [.p none 57 (.fa 1 (.tmp 7)),
            .l none (some 58) (.ld none (.tmp 57)),
            .p none 59 (.len (.tmp 58)),
            .p none 60 (.mv (.const (.int .i64 0)))])
        (.block 2
          (.loop
            (.seq (.reg [.p none 61 (.bin .lss .i64 (.tmp 60) (.tmp 59))])
            (.seq (.cond (.tmp 61)
              .skip
              (.exit 2))
            (.seq (.block 3
              (.seq (.reg [.p none 62 (.idx 4 (.tmp 58) (.tmp 60)),
                  .l none (some 63) (.ld (some 4) (.tmp 62)),
                  .l none (some 12) (.al 74 [(.int .i64 0), (.int .i64 0), (.int .i64 0), (.string ⟨#[]⟩)]),
                  .l none none (.st 4 (.tmp 12) (.tmp 63))])
              (.seq (.reg [.p none 64 (.mv (.tmp 10)),
                  .p none 65 (.fa 3 (.tmp 12)),
                  .l none (some 66) (.ld none (.tmp 65)),
                  .l none (some 67) (.call 78 [(.tmp 64), (.tmp 66)]),
                  .p none 13 (.mv (.tmp 67))])
              (.seq (.reg [.p none 68 (.mv (.tmp 4)),
                  .p none 69 (.fa 0 (.tmp 12)),
                  .l none (some 70) (.ld none (.tmp 69)),
                  .p none 71 (.fa 1 (.tmp 12)),
                  .l none (some 72) (.ld none (.tmp 71)),
                  .p none 73 (.fa 2 (.tmp 12)),
                  .l none (some 74) (.ld none (.tmp 73)),
                  .p none 75 (.mv (.tmp 13)),
                  .p none 76 (.fa 3 (.tmp 12)),
                  .l none (some 77) (.ld none (.tmp 76)),
                  .p none 78 (.lens (.tmp 77)),
                  .p none 79 (.mv (.tmp 13)),
                  .p none 80 (.bin .sub .i64 (.tmp 78) (.tmp 79)),
                  .l none (some 81) (.bs 3 5 1 [(.int .i64 0), (.int .i64 0), (.int .i64 0), (.int .i64 0), (.int .i64 0)] [(0, 1, (.tmp 70)), (1, 1, (.tmp 72)), (2, 1, (.tmp 74)), (3, 1, (.tmp 75)), (4, 1, (.tmp 80))]),
                  .l none (some 82) (.callv (.tmp 68) [(.tmp 81)])])
              (.seq (.dreg (.line [.qp 1 none 84 (.fa 3 (.tmp 12)),
                  .qp 3 none 86 (.mv (.tmp 13)),
                  .ql 2 none 85 none (.tmp 84),
                  .qp 4 none 87 (.slcs (.tmp 85) (some (.tmp 86)) none),
                  .l 0 none (some 83) (.ld none (.tmp 3)),
                  .l 5 none (some 88) (.app 5 1 1 [(.int .u8 0)] (.tmp 83) (.tmp 87)),
                  .l 6 none none (.st 1 (.tmp 3) (.tmp 88))]))
              (.reg [.p none 89 (.fa 3 (.tmp 12)),
                  .l none (some 90) (.ld none (.tmp 89)),
                  .p none 10 (.mv (.tmp 90))]))))))
            (.reg [.p none 91 (.bin .add .i64 (.tmp 60) (.const (.int .i64 1))),
                .p none 60 (.mv (.tmp 91))])))))))))))))))
      (.reg [.p none 92 (.bin .add .i64 (.tmp 26) (.const (.int .i64 1))),
          .p none 26 (.mv (.tmp 92))])))))))
  (.seq (.reg [.l none (some 93) (.ld none (.tmp 3)),
      .p none 2 (.mv (.tmp 93))])
  .ret)))))))
theorem C55 : compile Try.prog 94 (Try.f55.body.getD .skip) = some M55 := by kernel_rfl

/-- foot.blocksOf -/
noncomputable def M56 : MC :=
  (.seq (.reg [.l none (some 1) (.bx 24 (.tmp 0)),
      .p none 2 (.mv (.const (.int .i64 0)))])
  (.seq (.reg [.p none 3 (.mv (.const (.int .i64 0)))])
  (.seq (.seq (.reg [.p none 8 (.fa 1 (.tmp 1)),
      .l none (some 9) (.ld none (.tmp 8)),
      .p none 10 (.len (.tmp 9)),
      .p none 11 (.mv (.const (.int .i64 0)))])
  (.block 0
    (.loop
      (.seq (.reg [.p none 12 (.bin .lss .i64 (.tmp 11) (.tmp 10))])
      (.seq (.cond (.tmp 12)
        .skip
        (.exit 0))
      (.seq (.block 1
        (.seq (.reg [.p none 13 (.idx 5 (.tmp 9) (.tmp 11)),
            .l none (some 14) (.ld (some 5) (.tmp 13)),
            .l none (some 5) (.al 71 [(.int .i64 0), (.slice none 0 0), (.bool false), (.int .i64 0), (.slice none 0 0)]),
            .l none none (.st 5 (.tmp 5) (.tmp 14))])
        (.seq (.reg [.p none 15 (.fa 1 (.tmp 5)),
            .l none (some 16) (.ld none (.tmp 15)),
            .p none 17 (.len (.tmp 16)),
            .p none 18 (.mv (.const (.int .i64 0)))])
        (.block 2
          (.loop
            (.seq (.reg [.p none 19 (.bin .lss .i64 (.tmp 18) (.tmp 17))])
            (.seq (.cond (.tmp 19)
              .skip
              (.exit 2))
            (.seq (.block 3
              (.seq (.reg [.p none 20 (.idx 4 (.tmp 16) (.tmp 18)),
                  .l none (some 21) (.ld (some 4) (.tmp 20)),
                  .l none (some 7) (.al 74 [(.int .i64 0), (.int .i64 0), (.int .i64 0), (.string ⟨#[]⟩)]),
                  .l none none (.st 4 (.tmp 7) (.tmp 21))])
              (.reg [.p none 22 (.mv (.tmp 3)),
                  .p none 23 (.fa 0 (.tmp 7)),
                  .l none (some 24) (.ld none (.tmp 23)),
                  .p none 25 (.bin .add .i64 (.tmp 24) (.const (.int .i64 5))),
                  .p none 26 (.bin .add .i64 (.tmp 22) (.tmp 25)),
                  .p none 3 (.mv (.tmp 26))])))
            (.reg [.p none 27 (.bin .add .i64 (.tmp 18) (.const (.int .i64 1))),
                .p none 18 (.mv (.tmp 27))])))))))))
      (.reg [.p none 28 (.bin .add .i64 (.tmp 11) (.const (.int .i64 1))),
          .p none 11 (.mv (.tmp 28))])))))))
  (.seq (.reg [.p none 29 (.mv (.tmp 3)),
      .p none 2 (.mv (.tmp 29))])
  .ret))))
theorem C56 : compile Try.prog 30 (Try.f56.body.getD .skip) = some M56 := by kernel_rfl

/-- crc.Seal -/
noncomputable def M57 : MC :=
  (.seq (.reg [.p none 2 (.mv (.const (.slice none 0 0)))])
  (.seq (.reg [.p none 4 (.mv (.tmp 0)),
      .p none 5 (.len (.tmp 4)),
      .p none 6 (.bin .add .i64 (.tmp 5) (.const (.int .i64 4))),
      .l none (some 7) (.mks 5 1 1 [(.int .u8 0)] (.const (.int .i64 0)) (.tmp 6)),
      .p none 3 (.mv (.tmp 7))])
  (.seq (.reg [.p none 8 (.mv (.tmp 3)),
      .p none 9 (.mv (.tmp 0)),
      .l none (some 10) (.app 5 1 1 [(.int .u8 0)] (.tmp 8) (.tmp 9)),
      .p none 3 (.mv (.tmp 10))])
  (.seq (.reg [.p none 11 (.mv (.tmp 3)),
      .p none 12 (.mv (.tmp 0)),
      .l none (some 13) (.call 71 [(.tmp 12)]),
      .l none (some 14) (.call 70 [(.tmp 13)]),
      .l none (some 15) (.app 5 1 1 [(.int .u8 0)] (.tmp 11) (.tmp 14)),
      .p none 2 (.mv (.tmp 15))])
  .ret))))
theorem C57 : compile Try.prog 16 (Try.f57.body.getD .skip) = some M57 := by kernel_rfl

/-- nums.Fixed -/
noncomputable def M58 : MC :=
  (.seq (.reg [.p none 4 (.mv (.const (.slice none 0 0)))])
  (.seq (.seq (.reg [.p none 7 (.mv (.tmp 1)),
      .p none 8 (.bin .lss .i64 (.tmp 7) (.const (.int .i64 1))),
      .p none 9 (.mv (.tmp 8)),
      .split 9,
      .p (some (9, false)) 10 (.mv (.tmp 1)),
      .p (some (9, false)) 11 (.bin .gtr .i64 (.tmp 10) (.const (.int .i64 8))),
      .p none 12 (.pick (.tmp 9) (.const (.bool true)) (.tmp 11))])
  (.cond (.tmp 12)
    (.seq (.reg [.p none 4 (.mv (.const (.slice none 0 0)))])
    .ret)
    .skip))
  (.seq (.reg [.p none 13 (.mv (.tmp 1)),
      .l none (some 14) (.mks 5 1 1 [(.int .u8 0)] (.tmp 13) (.tmp 13)),
      .p none 5 (.mv (.tmp 14))])
  (.seq (.seq (.reg [.p none 15 (.mv (.tmp 5)),
      .p none 16 (.len (.tmp 15)),
      .p none 17 (.mv (.const (.int .i64 0)))])
  (.block 0
    (.loop
      (.seq (.reg [.p none 18 (.bin .lss .i64 (.tmp 17) (.tmp 16))])
      (.seq (.cond (.tmp 18)
        .skip
        (.exit 0))
      (.seq (.block 1
        (.seq (.reg [.p none 19 (.mv (.tmp 17)),
            .p none 6 (.mv (.tmp 19))])
        (.reg [.p none 20 (.mv (.tmp 5)),
            .p none 21 (.mv (.tmp 6)),
            .p none 22 (.mv (.tmp 0)),
            .p none 23 (.mv (.tmp 6)),
            .p none 24 (.bin .mul .i64 (.const (.int .i64 8)) (.tmp 23)),
            .p none 25 (.shf .shr (.tmp 22) (.tmp 24)),
            .p none 26 (.conv .u8 (.tmp 25)),
            .p none 27 (.idx 1 (.tmp 20) (.tmp 21)),
            .l none none (.st 1 (.tmp 27) (.tmp 26))])))
      (.reg [.p none 28 (.bin .add .i64 (.tmp 17) (.const (.int .i64 1))),
          .p none 17 (.mv (.tmp 28))])))))))
  (.seq (.reg [.p none 29 (.mv (.tmp 5)),
      .p none 4 (.mv (.tmp 29))])
  .ret)))))
theorem C58 : compile Try.prog 30 (Try.f58.body.getD .skip) = some M58 := by kernel_rfl

/-- winnowref8.Body -/
noncomputable def M59 : MC :=
  (.seq (.reg [.l none (some 1) (.bx 24 (.tmp 0)),
      .p none 2 (.mv (.const (.slice none 0 0)))])
  (.seq (.reg [.p none 3 (.mv (.const (.slice none 0 0)))])
  (.seq (.reg [.p none 13 (.mv (.tmp 3)),
      .p none 14 (.fa 0 (.tmp 1)),
      .l none (some 15) (.ld none (.tmp 14)),
      .l none (some 16) (.call 79 [(.tmp 13), (.tmp 15)]),
      .p none 3 (.mv (.tmp 16))])
  (.seq (.reg [.p none 17 (.mv (.tmp 3)),
      .p none 18 (.fa 1 (.tmp 1)),
      .l none (some 19) (.ld none (.tmp 18)),
      .p none 20 (.len (.tmp 19)),
      .l none (some 21) (.call 79 [(.tmp 17), (.tmp 20)]),
      .p none 3 (.mv (.tmp 21))])
  (.seq (.reg [.p none 4 (.mv (.const (.int .i64 (-1))))])
  (.seq (.seq (.reg [.p none 5 (.mv (.const (.int .i64 0)))])
  (.block 0
    (.loop
      (.seq (.seq (.reg [.p none 22 (.mv (.tmp 5)),
          .p none 23 (.fa 1 (.tmp 1)),
          .l none (some 24) (.ld none (.tmp 23)),
          .p none 25 (.len (.tmp 24)),
          .p none 26 (.bin .lss .i64 (.tmp 22) (.tmp 25))])
      (.cond (.tmp 26)
        .skip
        (.exit 0)))
      (.seq (.block 1
        (.seq (.reg [.p none 29 (.fa 1 (.tmp 1)),
            .l none (some 30) (.ld none (.tmp 29)),
            .p none 31 (.mv (.tmp 5)),
            .p none 32 (.idx 5 (.tmp 30) (.tmp 31)),
            .l none (some 33) (.ld (some 5) (.tmp 32)),
            .l none (some 6) (.al 71 [(.int .i64 0), (.slice none 0 0), (.bool false), (.int .i64 0), (.slice none 0 0)]),
            .l none none (.st 5 (.tmp 6) (.tmp 33))])
        (.seq (.reg [.p none 34 (.mv (.tmp 3)),
            .p none 35 (.fa 0 (.tmp 6)),
            .l none (some 36) (.ld none (.tmp 35)),
            .p none 37 (.mv (.tmp 4)),
            .p none 38 (.bin .sub .i64 (.tmp 36) (.tmp 37)),
            .p none 39 (.bin .sub .i64 (.tmp 38) (.const (.int .i64 1))),
            .l none (some 40) (.call 79 [(.tmp 34), (.tmp 39)]),
            .p none 3 (.mv (.tmp 40))])
        (.seq (.reg [.p none 41 (.fa 0 (.tmp 6)),
            .l none (some 42) (.ld none (.tmp 41)),
            .p none 4 (.mv (.tmp 42))])
        (.seq (.reg [.p none 44 (.fa 2 (.tmp 6)),
            .l none (some 45) (.ld (some 3) (.tmp 44)),
            .l none (some 46) (.call 80 [(.tmp 45)]),
            .p none 43 (.mv (.tmp 46)),
            .p none 47 (.ext 0 (.tmp 43)),
            .p none 48 (.ext 1 (.tmp 43)),
            .p none 7 (.mv (.tmp 47)),
            .p none 8 (.mv (.tmp 48))])
        (.seq (.reg [.p none 49 (.mv (.tmp 3)),
            .p none 50 (.mv (.tmp 7)),
            .p none 51 (.len (.tmp 50)),
            .l none (some 52) (.call 79 [(.tmp 49), (.tmp 51)]),
            .p none 3 (.mv (.tmp 52))])
        (.seq (.reg [.p none 53 (.mv (.tmp 3)),
            .p none 54 (.mv (.tmp 7)),
            .l none (some 55) (.app 5 1 1 [(.int .u8 0)] (.tmp 53) (.tmp 54)),
            .p none 3 (.mv (.tmp 55))])
        (.seq (.reg [.p none 56 (.mv (.tmp 3)),
            .p none 57 (.fa 1 (.tmp 6)),
            .l none (some 58) (.ld none (.tmp 57)),
            .p none 59 (.len (.tmp 58)),
            .l none (some 60) (.call 79 [(.tmp 56), (.tmp 59)]),
            .p none 3 (.mv (.tmp 60))])
        (.seq (.reg [.p none 9 (.mv (.const (.string ⟨#[]⟩)))])
        (.seq (.reg [.p none 10 (.mv (.const (.int .i64 0)))])
        (.block 2
          (.loop
            (.seq (.seq (.reg [.p none 61 (.mv (.tmp 10)),
                .p none 62 (.fa 1 (.tmp 6)),
                .l none (some 63) (.ld none (.tmp 62)),
                .p none 64 (.len (.tmp 63)),
                .p none 65 (.bin .lss .i64 (.tmp 61) (.tmp 64))])
            (.cond (.tmp 65)
              .skip
              (.exit 2)))
            (.seq (.block 3
              (.seq (.reg [.p none 68 (.fa 1 (.tmp 6)),
                  .l none (some 69) (.ld none (.tmp 68)),
                  .p none 70 (.mv (.tmp 10)),
                  .p none 71 (.idx 4 (.tmp 69) (.tmp 70)),
                  .l none (some 72) (.ld (some 4) (.tmp 71)),
                  .l none (some 11) (.al 74 [(.int .i64 0), (.int .i64 0), (.int .i64 0), (.string ⟨#[]⟩)]),
                  .l none none (.st 4 (.tmp 11) (.tmp 72))])
              (.seq (.reg [.p none 73 (.mv (.tmp 9)),
                  .p none 74 (.fa 3 (.tmp 11)),
                  .l none (some 75) (.ld none (.tmp 74)),
                  .l none (some 76) (.call 81 [(.tmp 73), (.tmp 75)]),
                  .p none 12 (.mv (.tmp 76))])
              (.seq (.reg [.p none 77 (.mv (.tmp 3)),
                  .p none 78 (.fa 0 (.tmp 11)),
                  .l none (some 79) (.ld none (.tmp 78)),
                  .l none (some 80) (.call 79 [(.tmp 77), (.tmp 79)]),
                  .p none 3 (.mv (.tmp 80))])
              (.seq (.reg [.p none 81 (.mv (.tmp 3)),
                  .p none 82 (.fa 1 (.tmp 11)),
                  .l none (some 83) (.ld none (.tmp 82)),
                  .l none (some 84) (.call 79 [(.tmp 81), (.tmp 83)]),
                  .p none 3 (.mv (.tmp 84))])
              (.seq (.reg [.p none 85 (.mv (.tmp 3)),
                  .p none 86 (.fa 2 (.tmp 11)),
                  .l none (some 87) (.ld none (.tmp 86)),
                  .l none (some 88) (.call 79 [(.tmp 85), (.tmp 87)]),
                  .p none 3 (.mv (.tmp 88))])
              (.seq (.reg [.p none 89 (.mv (.tmp 3)),
                  .p none 90 (.mv (.tmp 12)),
                  .l none (some 91) (.call 79 [(.tmp 89), (.tmp 90)]),
                  .p none 3 (.mv (.tmp 91))])
              (.seq (.reg [.p none 92 (.mv (.tmp 3)),
                  .p none 93 (.fa 3 (.tmp 11)),
                  .l none (some 94) (.ld none (.tmp 93)),
                  .p none 95 (.lens (.tmp 94)),
                  .p none 96 (.mv (.tmp 12)),
                  .p none 97 (.bin .sub .i64 (.tmp 95) (.tmp 96)),
                  .l none (some 98) (.call 79 [(.tmp 92), (.tmp 97)]),
                  .p none 3 (.mv (.tmp 98))])
              (.seq (.reg [.p none 99 (.mv (.tmp 3)),
                  .p none 100 (.fa 3 (.tmp 11)),
                  .l none (some 101) (.ld none (.tmp 100)),
                  .p none 102 (.mv (.tmp 12)),
                  .p none 103 (.slcs (.tmp 101) (some (.tmp 102)) none),
                  .l none (some 104) (.app 5 1 1 [(.int .u8 0)] (.tmp 99) (.tmp 103)),
                  .p none 3 (.mv (.tmp 104))])
              (.reg [.p none 105 (.fa 3 (.tmp 11)),
                  .l none (some 106) (.ld none (.tmp 105)),
                  .p none 9 (.mv (.tmp 106))]))))))))))
            (.reg [.p none 66 (.mv (.tmp 10)),
                .p none 67 (.bin .add .i64 (.tmp 66) (.const (.int .i64 1))),
                .p none 10 (.mv (.tmp 67))])))))))))))))))
      (.reg [.p none 27 (.mv (.tmp 5)),
          .p none 28 (.bin .add .i64 (.tmp 27) (.const (.int .i64 1))),
          .p none 5 (.mv (.tmp 28))]))))))
  (.seq (.reg [.p none 107 (.mv (.tmp 3)),
      .p none 2 (.mv (.tmp 107))])
  .ret)))))))
theorem C59 : compile Try.prog 108 (Try.f59.body.getD .skip) = some M59 := by kernel_rfl

/-- winnowref8.Space -/
noncomputable def M60 : MC :=
  (.seq (.reg [.l none (some 1) (.bx 24 (.tmp 0)),
      .p none 2 (.mv (.const (.int .i64 0)))])
  (.seq (.reg [.p none 3 (.mv (.const (.int .i64 0)))])
  (.seq (.seq (.reg [.p none 4 (.mv (.const (.int .i64 0)))])
  (.block 0
    (.loop
      (.seq (.seq (.reg [.p none 6 (.mv (.tmp 4)),
          .p none 7 (.fa 1 (.tmp 1)),
          .l none (some 8) (.ld none (.tmp 7)),
          .p none 9 (.len (.tmp 8)),
          .p none 10 (.bin .lss .i64 (.tmp 6) (.tmp 9))])
      (.cond (.tmp 10)
        .skip
        (.exit 0)))
      (.seq (.block 1
        (.seq (.reg [.p none 5 (.mv (.const (.int .i64 0)))])
        (.block 2
          (.loop
            (.seq (.seq (.reg [.p none 13 (.mv (.tmp 5)),
                .p none 14 (.fa 1 (.tmp 1)),
                .l none (some 15) (.ld none (.tmp 14)),
                .p none 16 (.mv (.tmp 4)),
                .p none 17 (.idx 5 (.tmp 15) (.tmp 16)),
                .p none 18 (.fa 1 (.tmp 17)),
                .l none (some 19) (.ld none (.tmp 18)),
                .p none 20 (.len (.tmp 19)),
                .p none 21 (.bin .lss .i64 (.tmp 13) (.tmp 20))])
            (.cond (.tmp 21)
              .skip
              (.exit 2)))
            (.seq (.block 3
              (.reg [.p none 24 (.mv (.tmp 3)),
                  .p none 25 (.fa 1 (.tmp 1)),
                  .l none (some 26) (.ld none (.tmp 25)),
                  .p none 27 (.mv (.tmp 4)),
                  .p none 28 (.idx 5 (.tmp 26) (.tmp 27)),
                  .p none 29 (.fa 1 (.tmp 28)),
                  .l none (some 30) (.ld none (.tmp 29)),
                  .p none 31 (.mv (.tmp 5)),
                  .p none 32 (.idx 4 (.tmp 30) (.tmp 31)),
                  .p none 33 (.fa 0 (.tmp 32)),
                  .l none (some 34) (.ld none (.tmp 33)),
                  .p none 35 (.bin .add .i64 (.tmp 24) (.tmp 34)),
                  .p none 36 (.bin .add .i64 (.tmp 35) (.const (.int .i64 5))),
                  .p none 3 (.mv (.tmp 36))]))
            (.reg [.p none 22 (.mv (.tmp 5)),
                .p none 23 (.bin .add .i64 (.tmp 22) (.const (.int .i64 1))),
                .p none 5 (.mv (.tmp 23))])))))))
      (.reg [.p none 11 (.mv (.tmp 4)),
          .p none 12 (.bin .add .i64 (.tmp 11) (.const (.int .i64 1))),
          .p none 4 (.mv (.tmp 12))]))))))
  (.seq (.reg [.p none 37 (.mv (.tmp 3)),
      .p none 2 (.mv (.tmp 37))])
  .ret))))
theorem C60 : compile Try.prog 38 (Try.f60.body.getD .skip) = some M60 := by kernel_rfl

/-- winnowref1.Seal -/
noncomputable def M61 : MC :=
  (.seq (.reg [.p none 2 (.mv (.const (.slice none 0 0)))])
  (.seq (.reg [.l none (some 5) (.bs 5 0 1 [] []),
      .p none 6 (.mv (.tmp 0)),
      .l none (some 7) (.app 5 1 1 [(.int .u8 0)] (.tmp 5) (.tmp 6)),
      .p none 3 (.mv (.tmp 7))])
  (.seq (.reg [.p none 8 (.mv (.tmp 0)),
      .l none (some 9) (.call 82 [(.tmp 8)]),
      .p none 4 (.mv (.tmp 9))])
  (.seq (.reg [.p none 10 (.mv (.tmp 3)),
      .p none 11 (.mv (.tmp 4)),
      .p none 12 (.conv .u8 (.tmp 11)),
      .p none 13 (.mv (.tmp 4)),
      .p none 14 (.shf .shr (.tmp 13) (.const (.int .u64 8))),
      .p none 15 (.conv .u8 (.tmp 14)),
      .p none 16 (.mv (.tmp 4)),
      .p none 17 (.shf .shr (.tmp 16) (.const (.int .u64 16))),
      .p none 18 (.conv .u8 (.tmp 17)),
      .p none 19 (.mv (.tmp 4)),
      .p none 20 (.shf .shr (.tmp 19) (.const (.int .u64 24))),
      .p none 21 (.conv .u8 (.tmp 20)),
      .l none (some 22) (.bs 5 4 1 [(.int .u8 0), (.int .u8 0), (.int .u8 0), (.int .u8 0)] [(0, 1, (.tmp 12)), (1, 1, (.tmp 15)), (2, 1, (.tmp 18)), (3, 1, (.tmp 21))]),
      .l none (some 23) (.app 5 1 1 [(.int .u8 0)] (.tmp 10) (.tmp 22)),
      .p none 2 (.mv (.tmp 23))])
  .ret))))
theorem C61 : compile Try.prog 24 (Try.f61.body.getD .skip) = some M61 := by kernel_rfl

/-- winnowref2.Fixed -/
noncomputable def M62 : MC :=
  (.seq (.reg [.p none 4 (.mv (.const (.slice none 0 0)))])
  (.seq (.reg [.p none 5 (.mv (.const (.slice none 0 0)))])
  (.seq (.seq (.reg [.p none 7 (.mv (.tmp 1)),
      .p none 8 (.bin .lss .i64 (.tmp 7) (.const (.int .i64 1))),
      .p none 9 (.mv (.tmp 8)),
      .split 9,
      .p (some (9, false)) 10 (.mv (.tmp 1)),
      .p (some (9, false)) 11 (.bin .gtr .i64 (.tmp 10) (.const (.int .i64 8))),
      .p none 12 (.pick (.tmp 9) (.const (.bool true)) (.tmp 11))])
  (.cond (.tmp 12)
    (.seq (.reg [.p none 13 (.mv (.tmp 5)),
        .p none 4 (.mv (.tmp 13))])
    .ret)
    .skip))
  (.seq (.seq (.reg [.p none 6 (.mv (.const (.int .i64 0)))])
  (.block 0
    (.loop
      (.seq (.seq (.reg [.p none 14 (.mv (.tmp 6)),
          .p none 15 (.mv (.tmp 1)),
          .p none 16 (.bin .lss .i64 (.tmp 14) (.tmp 15))])
      (.cond (.tmp 16)
        .skip
        (.exit 0)))
      (.seq (.block 1
        (.seq (.reg [.p none 19 (.mv (.tmp 5)),
            .p none 20 (.mv (.tmp 0)),
            .p none 21 (.div .rem .u64 (.tmp 20) (.const (.int .u64 256))),
            .p none 22 (.conv .u8 (.tmp 21)),
            .l none (some 23) (.bs 5 1 1 [(.int .u8 0)] [(0, 1, (.tmp 22))]),
            .l none (some 24) (.app 5 1 1 [(.int .u8 0)] (.tmp 19) (.tmp 23)),
            .p none 5 (.mv (.tmp 24))])
        (.reg [.p none 25 (.mv (.tmp 0)),
            .p none 26 (.div .quo .u64 (.tmp 25) (.const (.int .u64 256))),
            .p none 0 (.mv (.tmp 26))])))
      (.reg [.p none 17 (.mv (.tmp 6)),
          .p none 18 (.bin .add .i64 (.tmp 17) (.const (.int .i64 1))),
          .p none 6 (.mv (.tmp 18))]))))))
  (.seq (.reg [.p none 27 (.mv (.tmp 5)),
      .p none 4 (.mv (.tmp 27))])
  .ret)))))
theorem C62 : compile Try.prog 28 (Try.f62.body.getD .skip) = some M62 := by kernel_rfl

/-- foot.Tiles$1 -/
noncomputable def M63 : MC :=
  (.seq (.reg [.l none (some 6) (.ld none (.tmp 2)),
      .p none 7 (.mv (.tmp 0)),
      .l none (some 8) (.ld none (.tmp 3)),
      .l none (some 9) (.ld none (.tmp 3)),
      .p none 10 (.mv (.tmp 1)),
      .p none 11 (.bin .add .i64 (.tmp 9) (.tmp 10)),
      .p none 12 (.bld [(.int .i64 0), (.int .i64 0), (.int .i64 0)] [(0, 1, (.tmp 7)), (1, 1, (.tmp 8)), (2, 1, (.tmp 11))]),
      .l none (some 13) (.bs 47 1 3 [(.int .i64 0), (.int .i64 0), (.int .i64 0)] [(0, 3, (.tmp 12))]),
      .l none (some 14) (.app 47 24 3 [(.int .i64 0), (.int .i64 0), (.int .i64 0)] (.tmp 6) (.tmp 13)),
      .l none none (.st 1 (.tmp 2) (.tmp 14))])
  (.reg [.l none (some 15) (.ld none (.tmp 3)),
      .p none 16 (.mv (.tmp 1)),
      .p none 17 (.bin .add .i64 (.tmp 15) (.tmp 16)),
      .l none none (.st 1 (.tmp 3) (.tmp 17))]))
theorem C63 : compile Try.prog 18 (Try.f63.body.getD .skip) = some M63 := by kernel_rfl

/-- crc.four -/
noncomputable def M70 : MC :=
  (.seq (.reg [.p none 2 (.mv (.const (.slice none 0 0)))])
  (.seq (.reg [.p none 3 (.mv (.tmp 0)),
      .p none 4 (.conv .u8 (.tmp 3)),
      .p none 5 (.mv (.tmp 0)),
      .p none 6 (.shf .shr (.tmp 5) (.const (.int .u64 8))),
      .p none 7 (.conv .u8 (.tmp 6)),
      .p none 8 (.mv (.tmp 0)),
      .p none 9 (.shf .shr (.tmp 8) (.const (.int .u64 16))),
      .p none 10 (.conv .u8 (.tmp 9)),
      .p none 11 (.mv (.tmp 0)),
      .p none 12 (.shf .shr (.tmp 11) (.const (.int .u64 24))),
      .p none 13 (.conv .u8 (.tmp 12)),
      .l none (some 14) (.bs 5 4 1 [(.int .u8 0), (.int .u8 0), (.int .u8 0), (.int .u8 0)] [(0, 1, (.tmp 4)), (1, 1, (.tmp 7)), (2, 1, (.tmp 10)), (3, 1, (.tmp 13))]),
      .p none 2 (.mv (.tmp 14))])
  .ret))
theorem C70 : compile Try.prog 15 (Try.f70.body.getD .skip) = some M70 := by kernel_rfl

/-- crc.Sum -/
noncomputable def M71 : MC :=
  (.seq (.reg [.p none 2 (.mv (.const (.int .u32 0)))])
  (.seq (.reg [.p none 3 (.mv (.tmp 0)),
      .l none (some 4) (.call 97 [(.const (.int .u32 0)), (.tmp 3)]),
      .p none 2 (.mv (.tmp 4))])
  .ret))
theorem C71 : compile Try.prog 5 (Try.f71.body.getD .skip) = some M71 := by kernel_rfl

/-- foot.body$1 -/
noncomputable def M75 : MC :=
  (.seq (.reg [.p none 5 (.mv (.tmp 0)),
      .p none 6 (.len (.tmp 5)),
      .p none 7 (.mv (.const (.int .i64 0)))])
  (.block 0
    (.loop
      (.seq (.reg [.p none 8 (.bin .lss .i64 (.tmp 7) (.tmp 6))])
      (.seq (.cond (.tmp 8)
        .skip
        (.exit 0))
      (.seq (.block 1
        (.seq (.reg [.p none 9 (.idx 1 (.tmp 5) (.tmp 7)),
            .l none (some 10) (.ld none (.tmp 9)),
            .p none 4 (.mv (.tmp 10))])
        (.dreg (.fork [.qp 1 none 12 (.mv (.tmp 4))]
          (.line [.l 0 none (some 11) (.ld none (.tmp 1)),
              .l 2 none (some 13) (.call 76 [(.tmp 12)]),
              .l 3 none (some 14) (.app 5 1 1 [(.int .u8 0)] (.tmp 11) (.tmp 13)),
              .l 4 none none (.st 1 (.tmp 1) (.tmp 14))])
          (.line [.l 2 none (some 13) (.call 76 [(.tmp 12)]),
              .l 0 none (some 11) (.ld none (.tmp 1)),
              .l 3 none (some 14) (.app 5 1 1 [(.int .u8 0)] (.tmp 11) (.tmp 13)),
              .l 4 none none (.st 1 (.tmp 1) (.tmp 14))])))))
      (.reg [.p none 15 (.bin .add .i64 (.tmp 7) (.const (.int .i64 1))),
          .p none 7 (.mv (.tmp 15))])))))))
theorem C75 : compile Try.prog 16 (Try.f75.body.getD .skip) = some M75 := by kernel_rfl

/-- nums.Put -/
noncomputable def M76 : MC :=
  (.seq (.reg [.p none 2 (.mv (.const (.slice none 0 0)))])
  (.seq (.seq (.reg [.p none 4 (.mv (.tmp 0)),
      .p none 5 (.bin .lss .i64 (.tmp 4) (.const (.int .i64 0)))])
  (.cond (.tmp 5)
    (.seq (.reg [.p none 2 (.mv (.const (.slice none 0 0)))])
    .ret)
    .skip))
  (.seq (.reg [.p none 3 (.mv (.const (.slice none 0 0)))])
  (.seq (.block 0
    (.loop
      (.seq (.seq (.reg [.p none 6 (.mv (.tmp 0)),
          .p none 7 (.bin .geq .i64 (.tmp 6) (.const (.int .i64 128)))])
      (.cond (.tmp 7)
        .skip
        (.exit 0)))
      (.block 1
        (.seq (.reg [.p none 8 (.mv (.tmp 3)),
            .p none 9 (.mv (.tmp 0)),
            .p none 10 (.conv .u8 (.tmp 9)),
            .p none 11 (.bin .or .u8 (.tmp 10) (.const (.int .u8 128))),
            .l none (some 12) (.bs 5 1 1 [(.int .u8 0)] [(0, 1, (.tmp 11))]),
            .l none (some 13) (.app 5 1 1 [(.int .u8 0)] (.tmp 8) (.tmp 12)),
            .p none 3 (.mv (.tmp 13))])
        (.reg [.p none 14 (.mv (.tmp 0)),
            .p none 15 (.shf .shr (.tmp 14) (.const (.int .u64 7))),
            .p none 0 (.mv (.tmp 15))]))))))
  (.seq (.reg [.p none 16 (.mv (.tmp 3)),
      .p none 17 (.mv (.tmp 0)),
      .p none 18 (.conv .u8 (.tmp 17)),
      .l none (some 19) (.bs 5 1 1 [(.int .u8 0)] [(0, 1, (.tmp 18))]),
      .l none (some 20) (.app 5 1 1 [(.int .u8 0)] (.tmp 16) (.tmp 19)),
      .p none 2 (.mv (.tmp 20))])
  .ret)))))
theorem C76 : compile Try.prog 21 (Try.f76.body.getD .skip) = some M76 := by kernel_rfl

/-- filter.Encode -/
noncomputable def M77 : MC :=
  (.seq (.reg [.l none (some 1) (.bx 69 (.tmp 0)),
      .p none 2 (.mv (.const (.slice none 0 0))),
      .p none 3 (.mv (.const (.int .i64 0)))])
  (.seq (.seq (.reg [.l none (some 5) (.ld (some 3) (.tmp 1)),
      .l none (some 6) (.call 69 [(.tmp 5)])])
  (.block 0
    (.seq (.reg [.p none 8 (.bin .eql .i64 (.tmp 6) (.const (.int .i64 1))),
        .p none 7 (.mv (.tmp 8))])
    (.cond (.tmp 7)
      (.seq (.reg [.l none (some 9) (.bs 5 1 1 [(.int .u8 0)] [(0, 1, (.const (.int .u8 255)))]),
          .p none 2 (.mv (.tmp 9)),
          .p none 3 (.mv (.const (.int .i64 0)))])
      .ret)
      (.seq (.reg [.p none 11 (.bin .eql .i64 (.tmp 6) (.const (.int .i64 2))),
          .p none 10 (.mv (.tmp 11))])
      (.cond (.tmp 10)
        (.seq (.reg [.l none (some 12) (.bs 5 1 1 [(.int .u8 0)] [(0, 1, (.const (.int .u8 0)))]),
            .p none 2 (.mv (.tmp 12)),
            .p none 3 (.mv (.const (.int .i64 0)))])
        .ret)
        (.seq (.reg [.p none 14 (.bin .eql .i64 (.tmp 6) (.const (.int .i64 3))),
            .p none 13 (.mv (.tmp 14))])
        (.cond (.tmp 13)
          (.seq (.dreg (.fork [.qp 0 none 15 (.fa 1 (.tmp 1)),
              .qp 4 none 19 (.fa 2 (.tmp 1)),
              .ql 5 none 20 none (.tmp 19),
              .qp 6 none 21 (.len (.tmp 20)),
              .ql 1 none 16 none (.tmp 15),
              .qp 2 none 17 (.conv .u8 (.tmp 16))]
            (.line [.l 3 none (some 18) (.bs 5 1 1 [(.int .u8 0)] [(0, 1, (.tmp 17))]),
                .l 7 none (some 22) (.call 76 [(.tmp 21)]),
                .l 8 none (some 23) (.app 5 1 1 [(.int .u8 0)] (.tmp 18) (.tmp 22)),
                .qp 9 none 4 (.mv (.tmp 23))])
            (.line [.l 7 none (some 22) (.call 76 [(.tmp 21)]),
                .l 3 none (some 18) (.bs 5 1 1 [(.int .u8 0)] [(0, 1, (.tmp 17))]),
                .l 8 none (some 23) (.app 5 1 1 [(.int .u8 0)] (.tmp 18) (.tmp 22)),
                .qp 9 none 4 (.mv (.tmp 23))])))
          (.seq (.reg [.p none 24 (.mv (.tmp 4)),
              .p none 25 (.fa 2 (.tmp 1)),
              .l none (some 26) (.ld none (.tmp 25)),
              .l none (some 27) (.app 5 1 1 [(.int .u8 0)] (.tmp 24) (.tmp 26)),
              .p none 2 (.mv (.tmp 27)),
              .p none 3 (.mv (.const (.int .i64 0)))])
          .ret))
          .skip))))))))
  (.seq (.reg [.p none 2 (.mv (.const (.slice none 0 0))),
      .p none 3 (.mv (.const (.int .i64 70)))])
  .ret)))
theorem C77 : compile Try.prog 28 (Try.f77.body.getD .skip) = some M77 := by kernel_rfl

/-- nums.Common -/
noncomputable def M78 : MC :=
  (.seq (.reg [.p none 4 (.mv (.const (.int .i64 0)))])
  (.seq (.seq (.reg [.p none 6 (.mv (.tmp 0)),
      .p none 7 (.lens (.tmp 6)),
      .p none 8 (.mv (.tmp 1)),
      .p none 9 (.lens (.tmp 8)),
      .p none 10 (.mm false .i64 (.tmp 7) [(.tmp 9)]),
      .p none 11 (.mv (.const (.int .i64 0)))])
  (.block 0
    (.loop
      (.seq (.reg [.p none 12 (.bin .lss .i64 (.tmp 11) (.tmp 10))])
      (.seq (.cond (.tmp 12)
        .skip
        (.exit 0))
      (.seq (.block 1
        (.seq (.reg [.p none 13 (.mv (.tmp 11)),
            .p none 5 (.mv (.tmp 13))])
        (.seq (.dreg (.line [.qp 0 none 14 (.mv (.tmp 0)),
            .qp 1 none 15 (.mv (.tmp 5)),
            .qp 2 none 16 (.idxs (.tmp 14) (.tmp 15)),
            .qp 3 none 17 (.mv (.tmp 1)),
            .qp 4 none 18 (.mv (.tmp 5)),
            .qp 5 none 19 (.idxs (.tmp 17) (.tmp 18)),
            .qp 6 none 20 (.bin .neq .u8 (.tmp 16) (.tmp 19))]))
        (.cond (.tmp 20)
          (.seq (.reg [.p none 21 (.mv (.tmp 5)),
              .p none 4 (.mv (.tmp 21))])
          .ret)
          .skip))))
      (.reg [.p none 22 (.bin .add .i64 (.tmp 11) (.const (.int .i64 1))),
          .p none 11 (.mv (.tmp 22))])))))))
  (.seq (.reg [.p none 23 (.mv (.tmp 0)),
      .p none 24 (.lens (.tmp 23)),
      .p none 25 (.mv (.tmp 1)),
      .p none 26 (.lens (.tmp 25)),
      .p none 27 (.mm false .i64 (.tmp 24) [(.tmp 26)]),
      .p none 4 (.mv (.tmp 27))])
  .ret)))
theorem C78 : compile Try.prog 28 (Try.f78.body.getD .skip) = some M78 := by kernel_rfl

/-- winnowref8.num -/
noncomputable def M79 : MC :=
  (.seq (.reg [.p none 4 (.mv (.const (.slice none 0 0)))])
  (.seq (.reg [.p none 6 (.mv (.tmp 1)),
      .l none (some 7) (.call 99 [(.tmp 6)]),
      .p none 5 (.mv (.tmp 7))])
  (.seq (.reg [.p none 8 (.mv (.tmp 0)),
      .p none 9 (.mv (.tmp 5)),
      .l none (some 10) (.app 5 1 1 [(.int .u8 0)] (.tmp 8) (.tmp 9)),
      .p none 0 (.mv (.tmp 10))])
  (.seq (.reg [.p none 11 (.mv (.tmp 0)),
      .p none 4 (.mv (.tmp 11))])
  .ret))))
theorem C79 : compile Try.prog 12 (Try.f79.body.getD .skip) = some M79 := by kernel_rfl

/-- winnowref7.Encode -/
noncomputable def M80 : MC :=
  (.seq (.reg [.l none (some 1) (.bx 69 (.tmp 0)),
      .p none 2 (.mv (.const (.slice none 0 0))),
      .p none 3 (.mv (.const (.int .i64 0)))])
  (.seq (.reg [.l none (some 6) (.ld (some 3) (.tmp 1)),
      .l none (some 7) (.call 44 [(.tmp 6)]),
      .p none 4 (.mv (.tmp 7))])
  (.seq (.seq (.reg [.p none 8 (.mv (.tmp 4)),
      .p none 9 (.bin .neq .i64 (.tmp 8) (.const (.int .i64 0)))])
  (.cond (.tmp 9)
    (.seq (.reg [.p none 10 (.mv (.tmp 4)),
        .p none 2 (.mv (.const (.slice none 0 0))),
        .p none 3 (.mv (.tmp 10))])
    .ret)
    .skip))
  (.seq (.seq (.reg [.p none 11 (.fa 0 (.tmp 1)),
      .l none (some 12) (.ld none (.tmp 11))])
  (.cond (.tmp 12)
    (.seq (.reg [.l none (some 13) (.bs 5 1 1 [(.int .u8 0)] [(0, 1, (.const (.int .u8 255)))]),
        .p none 2 (.mv (.tmp 13)),
        .p none 3 (.mv (.const (.int .i64 0)))])
    .ret)
    .skip))
  (.seq (.seq (.reg [.p none 14 (.fa 2 (.tmp 1)),
      .l none (some 15) (.ld none (.tmp 14)),
      .p none 16 (.len (.tmp 15)),
      .p none 17 (.bin .eql .i64 (.tmp 16) (.const (.int .i64 0)))])
  (.cond (.tmp 17)
    (.seq (.reg [.l none (some 18) (.bs 5 1 1 [(.int .u8 0)] [(0, 1, (.const (.int .u8 0)))]),
        .p none 2 (.mv (.tmp 18)),
        .p none 3 (.mv (.const (.int .i64 0)))])
    .ret)
    .skip))
  (.seq (.dreg (.fork [.qp 0 none 19 (.fa 1 (.tmp 1)),
      .qp 4 none 23 (.fa 2 (.tmp 1)),
      .ql 5 none 24 none (.tmp 23),
      .qp 6 none 25 (.len (.tmp 24)),
      .ql 1 none 20 none (.tmp 19),
      .qp 2 none 21 (.conv .u8 (.tmp 20))]
    (.line [.l 3 none (some 22) (.bs 5 1 1 [(.int .u8 0)] [(0, 1, (.tmp 21))]),
        .l 7 none (some 26) (.call 99 [(.tmp 25)]),
        .l 8 none (some 27) (.app 5 1 1 [(.int .u8 0)] (.tmp 22) (.tmp 26)),
        .qp 9 none 5 (.mv (.tmp 27))])
    (.line [.l 7 none (some 26) (.call 99 [(.tmp 25)]),
        .l 3 none (some 22) (.bs 5 1 1 [(.int .u8 0)] [(0, 1, (.tmp 21))]),
        .l 8 none (some 27) (.app 5 1 1 [(.int .u8 0)] (.tmp 22) (.tmp 26)),
        .qp 9 none 5 (.mv (.tmp 27))])))
  (.seq (.reg [.p none 28 (.mv (.tmp 5)),
      .p none 29 (.fa 2 (.tmp 1)),
      .l none (some 30) (.ld none (.tmp 29)),
      .l none (some 31) (.app 5 1 1 [(.int .u8 0)] (.tmp 28) (.tmp 30)),
      .p none 2 (.mv (.tmp 31)),
      .p none 3 (.mv (.const (.int .i64 0)))])
  .ret)))))))
theorem C80 : compile Try.prog 32 (Try.f80.body.getD .skip) = some M80 := by kernel_rfl

/-- winnowref2.Common -/
noncomputable def M81 : MC :=
  (.seq (.reg [.p none 4 (.mv (.const (.int .i64 0)))])
  (.seq (.reg [.p none 5 (.mv (.const (.int .i64 0)))])
  (.seq (.block 0
    (.loop
      (.seq (.seq (.dreg (.line [.qp 0 none 6 (.mv (.tmp 5)),
          .qp 1 none 7 (.mv (.tmp 0)),
          .qp 2 none 8 (.lens (.tmp 7)),
          .qp 3 none 9 (.bin .lss .i64 (.tmp 6) (.tmp 8)),
          .qp 4 none 10 (.mv (.tmp 9)),
          .split 10,
          .qp 5 (some (10, true)) 11 (.mv (.tmp 5)),
          .qp 6 (some (10, true)) 12 (.mv (.tmp 1)),
          .qp 7 (some (10, true)) 13 (.lens (.tmp 12)),
          .qp 8 (some (10, true)) 14 (.bin .lss .i64 (.tmp 11) (.tmp 13)),
          .qp 9 none 15 (.pick (.tmp 10) (.tmp 14) (.const (.bool false))),
          .qp 10 none 16 (.mv (.tmp 15)),
          .split 16,
          .qp 11 (some (16, true)) 17 (.mv (.tmp 0)),
          .qp 12 (some (16, true)) 18 (.mv (.tmp 5)),
          .qp 13 (some (16, true)) 19 (.idxs (.tmp 17) (.tmp 18)),
          .qp 14 (some (16, true)) 20 (.mv (.tmp 1)),
          .qp 15 (some (16, true)) 21 (.mv (.tmp 5)),
          .qp 16 (some (16, true)) 22 (.idxs (.tmp 20) (.tmp 21)),
          .qp 17 (some (16, true)) 23 (.bin .eql .u8 (.tmp 19) (.tmp 22)),
          .qp 18 none 24 (.pick (.tmp 16) (.tmp 23) (.const (.bool false)))]))
      (.cond (.tmp 24)
        .skip
        (.exit 0)))
      (.block 1
        (.reg [.p none 25 (.mv (.tmp 5)),
            .p none 26 (.bin .add .i64 (.tmp 25) (.const (.int .i64 1))),
            .p none 5 (.mv (.tmp 26))])))))
  (.seq (.reg [.p none 27 (.mv (.tmp 5)),
      .p none 4 (.mv (.tmp 27))])
  .ret))))
theorem C81 : compile Try.prog 28 (Try.f81.body.getD .skip) = some M81 := by kernel_rfl

/-- winnowref1.Sum -/
noncomputable def M82 : MC :=
  (.seq (.reg [.p none 2 (.mv (.const (.int .u32 0)))])
  (.seq (.reg [.p none 3 (.mv (.tmp 0)),
      .l none (some 4) (.call 100 [(.const (.int .u32 0)), (.tmp 3)]),
      .p none 2 (.mv (.tmp 4))])
  .ret))
theorem C82 : compile Try.prog 5 (Try.f82.body.getD .skip) = some M82 := by kernel_rfl

/-- crc.Extend -/
noncomputable def M97 : MC :=
  (.seq (.reg [.p none 4 (.mv (.const (.int .u32 0)))])
  (.seq (.reg [.p none 9 (.mv (.tmp 0)),
      .p none 10 (.bin .xor .u32 (.const (.int .u32 4294967295)) (.tmp 9)),
      .p none 5 (.mv (.tmp 10))])
  (.seq (.reg [.l none (some 11) (.call 111 []),
      .l none (some 6) (.al 142 (List.replicate 16 (.int .u32 0))),
      .l none none (.st 16 (.tmp 6) (.tmp 11))])
  (.seq (.seq (.reg [.p none 12 (.mv (.tmp 1)),
      .p none 13 (.len (.tmp 12)),
      .p none 14 (.mv (.const (.int .i64 0)))])
  (.block 0
    (.loop
      (.seq (.reg [.p none 15 (.bin .lss .i64 (.tmp 14) (.tmp 13))])
      (.seq (.cond (.tmp 15)
        .skip
        (.exit 0))
      (.seq (.block 1
        (.seq (.reg [.p none 16 (.idx 1 (.tmp 12) (.tmp 14)),
            .l none (some 17) (.ld none (.tmp 16)),
            .p none 8 (.mv (.tmp 17))])
        (.seq (.reg [.p none 18 (.mv (.tmp 5)),
            .p none 19 (.mv (.tmp 8)),
            .p none 20 (.conv .u32 (.tmp 19)),
            .p none 21 (.bin .xor .u32 (.tmp 18) (.tmp 20)),
            .p none 5 (.mv (.tmp 21))])
        (.seq (.reg [.p none 22 (.mv (.tmp 5)),
            .p none 23 (.shf .shr (.tmp 22) (.const (.int .u64 4))),
            .p none 24 (.mv (.tmp 5)),
            .p none 25 (.bin .and .u32 (.tmp 24) (.const (.int .u32 15))),
            .p none 26 (.idxa 16 1 (.tmp 6) (.tmp 25)),
            .l none (some 27) (.ld none (.tmp 26)),
            .p none 28 (.bin .xor .u32 (.tmp 23) (.tmp 27)),
            .p none 5 (.mv (.tmp 28))])
        (.reg [.p none 29 (.mv (.tmp 5)),
            .p none 30 (.shf .shr (.tmp 29) (.const (.int .u64 4))),
            .p none 31 (.mv (.tmp 5)),
            .p none 32 (.bin .and .u32 (.tmp 31) (.const (.int .u32 15))),
            .p none 33 (.idxa 16 1 (.tmp 6) (.tmp 32)),
            .l none (some 34) (.ld none (.tmp 33)),
            .p none 35 (.bin .xor .u32 (.tmp 30) (.tmp 34)),
            .p none 5 (.mv (.tmp 35))])))))
      (.reg [.p none 36 (.bin .add .i64 (.tmp 14) (.const (.int .i64 1))),
          .p none 14 (.mv (.tmp 36))])))))))
  (.seq (.reg [.p none 37 (.mv (.tmp 5)),
      .p none 38 (.bin .xor .u32 (.const (.int .u32 4294967295)) (.tmp 37)),
      .p none 4 (.mv (.tmp 38))])
  .ret)))))
theorem C97 : compile Try.prog 39 (Try.f97.body.getD .skip) = some M97 := by kernel_rfl

/-- winnowref2.Put -/
noncomputable def M99 : MC :=
  (.seq (.reg [.p none 2 (.mv (.const (.slice none 0 0)))])
  (.seq (.reg [.p none 3 (.mv (.const (.slice none 0 0)))])
  (.seq (.seq (.reg [.p none 4 (.mv (.tmp 0)),
      .p none 5 (.bin .lss .i64 (.tmp 4) (.const (.int .i64 0)))])
  (.cond (.tmp 5)
    (.seq (.reg [.p none 6 (.mv (.tmp 3)),
        .p none 2 (.mv (.tmp 6))])
    .ret)
    .skip))
  (.seq (.block 0
    (.loop
      (.seq (.seq (.reg [.p none 7 (.mv (.tmp 0)),
          .p none 8 (.bin .geq .i64 (.tmp 7) (.const (.int .i64 128)))])
      (.cond (.tmp 8)
        .skip
        (.exit 0)))
      (.block 1
        (.seq (.reg [.p none 9 (.mv (.tmp 3)),
            .p none 10 (.mv (.tmp 0)),
            .p none 11 (.div .rem .i64 (.tmp 10) (.const (.int .i64 128))),
            .p none 12 (.bin .add .i64 (.tmp 11) (.const (.int .i64 128))),
            .p none 13 (.conv .u8 (.tmp 12)),
            .l none (some 14) (.bs 5 1 1 [(.int .u8 0)] [(0, 1, (.tmp 13))]),
            .l none (some 15) (.app 5 1 1 [(.int .u8 0)] (.tmp 9) (.tmp 14)),
            .p none 3 (.mv (.tmp 15))])
        (.reg [.p none 16 (.mv (.tmp 0)),
            .p none 17 (.div .quo .i64 (.tmp 16) (.const (.int .i64 128))),
            .p none 0 (.mv (.tmp 17))]))))))
  (.seq (.reg [.p none 18 (.mv (.tmp 3)),
      .p none 19 (.mv (.tmp 0)),
      .p none 20 (.conv .u8 (.tmp 19)),
      .l none (some 21) (.bs 5 1 1 [(.int .u8 0)] [(0, 1, (.tmp 20))]),
      .l none (some 22) (.app 5 1 1 [(.int .u8 0)] (.tmp 18) (.tmp 21)),
      .p none 3 (.mv (.tmp 22))])
  (.seq (.reg [.p none 23 (.mv (.tmp 3)),
      .p none 2 (.mv (.tmp 23))])
  .ret))))))
theorem C99 : compile Try.prog 24 (Try.f99.body.getD .skip) = some M99 := by kernel_rfl

/-- winnowref1.Extend -/
noncomputable def M100 : MC :=
  (.seq (.reg [.p none 4 (.mv (.const (.int .u32 0)))])
  (.seq (.reg [.p none 8 (.mv (.tmp 0)),
      .p none 9 (.bin .xor .u32 (.const (.int .u32 4294967295)) (.tmp 8)),
      .p none 5 (.mv (.tmp 9))])
  (.seq (.seq (.reg [.p none 6 (.mv (.const (.int .i64 0)))])
  (.block 0
    (.loop
      (.seq (.seq (.reg [.p none 10 (.mv (.tmp 6)),
          .p none 11 (.mv (.tmp 1)),
          .p none 12 (.len (.tmp 11)),
          .p none 13 (.bin .lss .i64 (.tmp 10) (.tmp 12))])
      (.cond (.tmp 13)
        .skip
        (.exit 0)))
      (.seq (.block 1
        (.seq (.reg [.p none 16 (.mv (.tmp 5)),
            .p none 17 (.mv (.tmp 1)),
            .p none 18 (.mv (.tmp 6)),
            .p none 19 (.idx 1 (.tmp 17) (.tmp 18)),
            .l none (some 20) (.ld none (.tmp 19)),
            .p none 21 (.conv .u32 (.tmp 20)),
            .p none 22 (.bin .xor .u32 (.tmp 16) (.tmp 21)),
            .p none 5 (.mv (.tmp 22))])
        (.seq (.reg [.p none 7 (.mv (.const (.int .i64 0)))])
        (.block 2
          (.loop
            (.seq (.seq (.reg [.p none 23 (.mv (.tmp 7)),
                .p none 24 (.bin .lss .i64 (.tmp 23) (.const (.int .i64 8)))])
            (.cond (.tmp 24)
              .skip
              (.exit 2)))
            (.seq (.block 3
              (.reg [.p none 27 (.mv (.tmp 5)),
                  .l none (some 28) (.call 112 [(.tmp 27)]),
                  .p none 5 (.mv (.tmp 28))]))
            (.reg [.p none 25 (.mv (.tmp 7)),
                .p none 26 (.bin .add .i64 (.tmp 25) (.const (.int .i64 1))),
                .p none 7 (.mv (.tmp 26))]))))))))
      (.reg [.p none 14 (.mv (.tmp 6)),
          .p none 15 (.bin .add .i64 (.tmp 14) (.const (.int .i64 1))),
          .p none 6 (.mv (.tmp 15))]))))))
  (.seq (.reg [.p none 29 (.mv (.tmp 5)),
      .p none 30 (.bin .xor .u32 (.const (.int .u32 4294967295)) (.tmp 29)),
      .p none 4 (.mv (.tmp 30))])
  .ret))))
theorem C100 : compile Try.prog 31 (Try.f100.body.getD .skip) = some M100 := by kernel_rfl

/-- crc.sums -/
noncomputable def M111 : MC :=
  (.seq (.reg [.l none (some 0) (.al 142 (List.replicate 16 (.int .u32 0)))])
  (.seq (.reg [.l none (some 1) (.al 142 (List.replicate 16 (.int .u32 0)))])
  (.seq (.seq (.reg [.p none 4 (.mv (.const (.int .i64 0)))])
  (.block 0
    (.loop
      (.seq (.reg [.p none 5 (.bin .lss .i64 (.tmp 4) (.const (.int .i64 16)))])
      (.seq (.cond (.tmp 5)
        .skip
        (.exit 0))
      (.seq (.block 1
        (.seq (.reg [.p none 6 (.mv (.tmp 4)),
            .p none 2 (.mv (.tmp 6))])
        (.seq (.reg [.p none 7 (.mv (.tmp 2)),
            .p none 8 (.conv .u32 (.tmp 7)),
            .p none 3 (.mv (.tmp 8))])
        (.seq (.seq (.reg [.p none 9 (.mv (.const (.int .i64 0)))])
        (.block 2
          (.loop
            (.seq (.reg [.p none 10 (.bin .lss .i64 (.tmp 9) (.const (.int .i64 4)))])
            (.seq (.cond (.tmp 10)
              .skip
              (.exit 2))
            (.seq (.block 3
              (.reg [.p none 11 (.mv (.tmp 3)),
                  .l none (some 12) (.call 115 [(.tmp 11)]),
                  .p none 3 (.mv (.tmp 12))]))
            (.reg [.p none 13 (.bin .add .i64 (.tmp 9) (.const (.int .i64 1))),
                .p none 9 (.mv (.tmp 13))])))))))
        (.reg [.p none 14 (.mv (.tmp 2)),
            .p none 15 (.mv (.tmp 3)),
            .p none 16 (.idxa 16 1 (.tmp 1) (.tmp 14)),
            .l none none (.st 1 (.tmp 16) (.tmp 15))])))))
      (.reg [.p none 17 (.bin .add .i64 (.tmp 4) (.const (.int .i64 1))),
          .p none 4 (.mv (.tmp 17))])))))))
  (.seq (.reg [.l none (some 18) (.ld (some 16) (.tmp 1)),
      .l none none (.st 16 (.tmp 0) (.tmp 18))])
  .ret))))
theorem C111 : compile Try.prog 19 (Try.f111.body.getD .skip) = some M111 := by kernel_rfl

/-- winnowref1.M -/
noncomputable def M112 : MC :=
  (.seq (.reg [.p none 2 (.mv (.const (.int .u32 0)))])
  (.seq (.seq (.reg [.p none 3 (.mv (.tmp 0)),
      .p none 4 (.div .rem .u32 (.tmp 3) (.const (.int .u32 2))),
      .p none 5 (.bin .eql .u32 (.tmp 4) (.const (.int .u32 1)))])
  (.cond (.tmp 5)
    (.seq (.reg [.p none 6 (.mv (.tmp 0)),
        .p none 7 (.shf .shr (.tmp 6) (.const (.int .u64 1))),
        .p none 8 (.bin .xor .u32 (.tmp 7) (.const (.int .u32 2197175160))),
        .p none 2 (.mv (.tmp 8))])
    .ret)
    .skip))
  (.seq (.reg [.p none 9 (.mv (.tmp 0)),
      .p none 10 (.shf .shr (.tmp 9) (.const (.int .u64 1))),
      .p none 2 (.mv (.tmp 10))])
  .ret)))
theorem C112 : compile Try.prog 11 (Try.f112.body.getD .skip) = some M112 := by kernel_rfl

/-- crc.step -/
noncomputable def M115 : MC :=
  (.seq (.reg [.p none 2 (.mv (.const (.int .u32 0)))])
  (.seq (.seq (.reg [.p none 3 (.mv (.tmp 0)),
      .p none 4 (.bin .and .u32 (.tmp 3) (.const (.int .u32 1))),
      .p none 5 (.bin .eql .u32 (.tmp 4) (.const (.int .u32 1)))])
  (.cond (.tmp 5)
    (.seq (.reg [.p none 6 (.mv (.tmp 0)),
        .p none 7 (.shf .shr (.tmp 6) (.const (.int .u64 1))),
        .p none 8 (.bin .xor .u32 (.tmp 7) (.const (.int .u32 2197175160))),
        .p none 2 (.mv (.tmp 8))])
    .ret)
    .skip))
  (.seq (.reg [.p none 9 (.mv (.tmp 0)),
      .p none 10 (.shf .shr (.tmp 9) (.const (.int .u64 1))),
      .p none 2 (.mv (.tmp 10))])
  .ret)))
theorem C115 : compile Try.prog 11 (Try.f115.body.getD .skip) = some M115 := by kernel_rfl
end Go.Proofs.Ythhmhmnhbababaa.E
