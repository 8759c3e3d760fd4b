/- The intermediate code of the functions that are walked here, each with the proof that it is the translation of the model's code. -/
import Derived.Test.YthhmhmnhbababaaE6
import Derived.KernelRfl
namespace Go.Proofs.Ythhmhmnhbababaa.E
open Go
theorem mixed : Try.prog.follows .mixedOrders = true := by kernel_rfl

/-- winnowlaw8.FootTrailer -/
def M4 : MC :=
  (.seq (.reg [.p none 4 (.mv (.const (.bool false)))])
  (.seq (.reg [.l none (some 12) (.bs 5 0 1 [] []),
      .p none 13 (.mv (.tmp 0)),
      .l none (some 14) (.app 5 1 1 [(.int .u8 0)] (.tmp 12) (.tmp 13)),
      .p none 5 (.mv (.tmp 14))])
  (.seq (.reg [.p none 15 (.mv (.tmp 5)),
      .l none (some 16) (.bs 5 2 1 [(.int .u8 0), (.int .u8 0)] [(0, 1, (.const (.int .u8 113))), (1, 1, (.const (.int .u8 114)))]),
      .l none (some 17) (.app 5 1 1 [(.int .u8 0)] (.tmp 15) (.tmp 16)),
      .p none 5 (.mv (.tmp 17))])
  (.seq (.reg [.p none 19 (.mv (.tmp 5)),
      .p none 20 (.mv (.tmp 0)),
      .p none 21 (.len (.tmp 20)),
      .p none 22 (.slc 1 (.tmp 19) none (some (.tmp 21)) none),
      .p none 23 (.mv (.tmp 1)),
      .l none (some 24) (.call 21 [(.tmp 22), (.tmp 23)]),
      .p none 18 (.mv (.tmp 24)),
      .p none 25 (.ext 0 (.tmp 18)),
      .p none 26 (.ext 1 (.tmp 18)),
      .l none (some 6) (.al 36 [(.int .i64 0), (.int .i64 0)]),
      .l none none (.st 2 (.tmp 6) (.tmp 25)),
      .p none 7 (.mv (.tmp 26))])
  (.seq (.reg [.p none 28 (.mv (.tmp 0)),
      .p none 29 (.mv (.tmp 1)),
      .l none (some 30) (.call 22 [(.tmp 28), (.tmp 29)]),
      .p none 27 (.mv (.tmp 30)),
      .p none 31 (.ext 0 (.tmp 27)),
      .p none 32 (.ext 1 (.tmp 27)),
      .l none (some 8) (.al 36 [(.int .i64 0), (.int .i64 0)]),
      .l none none (.st 2 (.tmp 8) (.tmp 31)),
      .p none 9 (.mv (.tmp 32))])
  (.seq (.seq (.reg [.l none (some 33) (.ld (some 2) (.tmp 6)),
      .l none (some 34) (.ld (some 2) (.tmp 8)),
      .p none 35 (.aeq true [1, 1] (.tmp 33) (.tmp 34)),
      .p none 36 (.mv (.tmp 35)),
      .split 36,
      .p (some (36, false)) 37 (.mv (.tmp 7)),
      .p (some (36, false)) 38 (.mv (.tmp 9)),
      .p (some (36, false)) 39 (.bin .neq .i64 (.tmp 37) (.tmp 38)),
      .p none 40 (.pick (.tmp 36) (.const (.bool true)) (.tmp 39)),
      .p none 41 (.mv (.tmp 40)),
      .split 41,
      .p (some (41, false)) 42 (.mv (.tmp 5)),
      .p (some (41, false)) 43 (.mv (.tmp 0)),
      .p (some (41, false)) 44 (.len (.tmp 43)),
      .p (some (41, false)) 45 (.slc 1 (.tmp 42) none (some (.tmp 44)) none),
      .p (some (41, false)) 46 (.mv (.tmp 0)),
      .l (some (41, false)) (some 47) (.call 23 [(.tmp 45), (.tmp 46)]),
      .p (some (41, false)) 48 (.not (.tmp 47)),
      .p none 49 (.pick (.tmp 41) (.const (.bool true)) (.tmp 48)),
      .p none 50 (.mv (.tmp 49)),
      .split 50,
      .p (some (50, false)) 51 (.mv (.tmp 5)),
      .p (some (50, false)) 52 (.mv (.tmp 0)),
      .p (some (50, false)) 53 (.len (.tmp 52)),
      .p (some (50, false)) 54 (.idx 1 (.tmp 51) (.tmp 53)),
      .l (some (50, false)) (some 55) (.ld none (.tmp 54)),
      .p (some (50, false)) 56 (.bin .neq .u8 (.tmp 55) (.const (.int .u8 113))),
      .p none 57 (.pick (.tmp 50) (.const (.bool true)) (.tmp 56)),
      .p none 58 (.mv (.tmp 57)),
      .split 58,
      .p (some (58, false)) 59 (.mv (.tmp 5)),
      .p (some (58, false)) 60 (.mv (.tmp 0)),
      .p (some (58, false)) 61 (.len (.tmp 60)),
      .p (some (58, false)) 62 (.bin .add .i64 (.tmp 61) (.const (.int .i64 1))),
      .p (some (58, false)) 63 (.idx 1 (.tmp 59) (.tmp 62)),
      .l (some (58, false)) (some 64) (.ld none (.tmp 63)),
      .p (some (58, false)) 65 (.bin .neq .u8 (.tmp 64) (.const (.int .u8 114))),
      .p none 66 (.pick (.tmp 58) (.const (.bool true)) (.tmp 65))])
  (.cond (.tmp 66)
    (.seq (.reg [.p none 4 (.mv (.const (.bool false)))])
    .ret)
    .skip))
  (.seq (.reg [.p none 10 (.mv (.const (.slice none 0 0)))])
  (.seq (.seq (.reg [.p none 11 (.mv (.const (.int .i64 0)))])
  (.block 0
    (.loop
      (.seq (.seq (.reg [.p none 67 (.mv (.tmp 11)),
          .p none 68 (.mv (.tmp 0)),
          .p none 69 (.len (.tmp 68)),
          .p none 70 (.bin .lss .i64 (.tmp 67) (.tmp 69))])
      (.cond (.tmp 70)
        .skip
        (.exit 0)))
      (.seq (.block 1
        (.seq (.reg [.p none 73 (.mv (.tmp 5)),
            .p none 74 (.mv (.tmp 11)),
            .p none 75 (.mv (.tmp 5)),
            .p none 76 (.mv (.tmp 11)),
            .p none 77 (.idx 1 (.tmp 75) (.tmp 76)),
            .l none (some 78) (.ld none (.tmp 77)),
            .p none 79 (.bin .xor .u8 (.tmp 78) (.const (.int .u8 1))),
            .p none 80 (.idx 1 (.tmp 73) (.tmp 74)),
            .l none none (.st 1 (.tmp 80) (.tmp 79))])
        (.reg [.p none 81 (.mv (.tmp 10)),
            .p none 82 (.mv (.tmp 5)),
            .p none 83 (.mv (.tmp 11)),
            .p none 84 (.idx 1 (.tmp 82) (.tmp 83)),
            .l none (some 85) (.ld none (.tmp 84)),
            .l none (some 86) (.bs 5 1 1 [(.int .u8 0)] [(0, 1, (.tmp 85))]),
            .l none (some 87) (.app 5 1 1 [(.int .u8 0)] (.tmp 81) (.tmp 86)),
            .p none 10 (.mv (.tmp 87))])))
      (.reg [.p none 71 (.mv (.tmp 11)),
          .p none 72 (.bin .add .i64 (.tmp 71) (.const (.int .i64 1))),
          .p none 11 (.mv (.tmp 72))]))))))
  (.seq (.reg [.p none 89 (.mv (.tmp 5)),
      .p none 90 (.mv (.tmp 0)),
      .p none 91 (.len (.tmp 90)),
      .p none 92 (.slc 1 (.tmp 89) none (some (.tmp 91)) none),
      .p none 93 (.mv (.tmp 1)),
      .l none (some 94) (.call 21 [(.tmp 92), (.tmp 93)]),
      .p none 88 (.mv (.tmp 94)),
      .p none 95 (.ext 0 (.tmp 88)),
      .p none 96 (.ext 1 (.tmp 88)),
      .l none none (.st 2 (.tmp 6) (.tmp 95)),
      .p none 7 (.mv (.tmp 96))])
  (.seq (.reg [.p none 98 (.mv (.tmp 10)),
      .p none 99 (.mv (.tmp 1)),
      .l none (some 100) (.call 22 [(.tmp 98), (.tmp 99)]),
      .p none 97 (.mv (.tmp 100)),
      .p none 101 (.ext 0 (.tmp 97)),
      .p none 102 (.ext 1 (.tmp 97)),
      .l none none (.st 2 (.tmp 8) (.tmp 101)),
      .p none 9 (.mv (.tmp 102))])
  (.seq (.reg [.l none (some 103) (.ld (some 2) (.tmp 6)),
      .l none (some 104) (.ld (some 2) (.tmp 8)),
      .p none 105 (.aeq false [1, 1] (.tmp 103) (.tmp 104)),
      .p none 106 (.mv (.tmp 105)),
      .split 106,
      .p (some (106, true)) 107 (.mv (.tmp 7)),
      .p (some (106, true)) 108 (.mv (.tmp 9)),
      .p (some (106, true)) 109 (.bin .eql .i64 (.tmp 107) (.tmp 108)),
      .p none 110 (.pick (.tmp 106) (.tmp 109) (.const (.bool false))),
      .p none 4 (.mv (.tmp 110))])
  .ret)))))))))))
theorem C4 : compile Try.prog 111 (Try.f4.body.getD .skip) = some M4 := by kernel_rfl

/-- foot.Trailer -/
def M21 : MC :=
  (.seq (.reg [.l none (some 4) (.al 36 [(.int .i64 0), (.int .i64 0)]),
      .p none 5 (.mv (.const (.int .i64 0)))])
  (.seq (.seq (.reg [.p none 14 (.mv (.tmp 0)),
      .p none 15 (.len (.tmp 14)),
      .p none 16 (.bin .neq .i64 (.tmp 15) (.const (.int .i64 24)))])
  (.cond (.tmp 16)
    (.seq (.reg [.p none 17 (.bld [(.int .i64 0), (.int .i64 0)] []),
        .l none none (.st 2 (.tmp 4) (.tmp 17)),
        .p none 5 (.mv (.const (.int .i64 81)))])
    .ret)
    .skip))
  (.seq (.reg [.p none 19 (.mv (.tmp 0)),
      .l none (some 20) (.call 49 [(.tmp 19)]),
      .p none 18 (.mv (.tmp 20)),
      .p none 21 (.ext 0 (.tmp 18)),
      .p none 22 (.ext 1 (.tmp 18)),
      .p none 6 (.mv (.tmp 21)),
      .p none 7 (.mv (.tmp 22))])
  (.seq (.seq (.reg [.p none 23 (.mv (.tmp 7)),
      .p none 24 (.bin .neq .i64 (.tmp 23) (.const (.int .i64 0)))])
  (.cond (.tmp 24)
    (.seq (.reg [.p none 25 (.bld [(.int .i64 0), (.int .i64 0)] []),
        .l none none (.st 2 (.tmp 4) (.tmp 25)),
        .p none 5 (.mv (.const (.int .i64 81)))])
    .ret)
    .skip))
  (.seq (.reg [.p none 8 (.mv (.const (.int .i64 4)))])
  (.seq (.dreg (.line [.qp 0 none 26 (.mv (.tmp 6)),
      .qp 1 none 27 (.mv (.tmp 8)),
      .qp 2 none 28 (.mv (.tmp 8)),
      .qp 3 none 29 (.bin .add .i64 (.tmp 28) (.const (.int .i64 8))),
      .qp 4 none 30 (.slc 1 (.tmp 26) (some (.tmp 27)) (some (.tmp 29)) none),
      .qp 6 none 32 (.mv (.tmp 6)),
      .qp 7 none 33 (.mv (.tmp 8)),
      .qp 8 none 34 (.bin .add .i64 (.tmp 33) (.const (.int .i64 8))),
      .qp 9 none 35 (.slc 1 (.tmp 32) (some (.tmp 34)) none none),
      .l 5 none (some 31) (.call 50 [(.tmp 30)]),
      .l 10 none (some 36) (.call 50 [(.tmp 35)]),
      .qp 11 none 9 (.mv (.tmp 31)),
      .qp 12 none 10 (.mv (.tmp 36))]))
  (.seq (.seq (.reg [.p none 37 (.mv (.tmp 6)),
      .p none 38 (.mv (.tmp 8)),
      .p none 39 (.slc 1 (.tmp 37) none (some (.tmp 38)) none),
      .l none (some 40) (.b2s (.tmp 39)),
      .p none 41 (.sbin .neq (.tmp 40) (.const (.string ⟨#[119, 110, 119, 49]⟩))),
      .p none 42 (.mv (.tmp 41)),
      .split 42,
      .p (some (42, false)) 43 (.mv (.tmp 9)),
      .p (some (42, false)) 44 (.bin .gtr .u64 (.tmp 43) (.const (.int .u64 268435456))),
      .p none 45 (.pick (.tmp 42) (.const (.bool true)) (.tmp 44)),
      .p none 46 (.mv (.tmp 45)),
      .split 46,
      .p (some (46, false)) 47 (.mv (.tmp 10)),
      .p (some (46, false)) 48 (.bin .gtr .u64 (.tmp 47) (.const (.int .u64 33554432))),
      .p none 49 (.pick (.tmp 46) (.const (.bool true)) (.tmp 48))])
  (.cond (.tmp 49)
    (.seq (.reg [.p none 50 (.bld [(.int .i64 0), (.int .i64 0)] []),
        .l none none (.st 2 (.tmp 4) (.tmp 50)),
        .p none 5 (.mv (.const (.int .i64 81)))])
    .ret)
    .skip))
  (.seq (.reg [.p none 51 (.mv (.tmp 9)),
      .p none 52 (.conv .i64 (.tmp 51)),
      .p none 53 (.mv (.tmp 10)),
      .p none 54 (.conv .i64 (.tmp 53)),
      .p none 55 (.bld [(.int .i64 0), (.int .i64 0)] [(0, 1, (.tmp 52)), (1, 1, (.tmp 54))]),
      .l none (some 11) (.al 36 [(.int .i64 0), (.int .i64 0)]),
      .l none none (.st 2 (.tmp 11) (.tmp 55))])
  (.seq (.seq (.reg [.l none (some 57) (.ld (some 2) (.tmp 11)),
      .l none (some 58) (.call 51 [(.tmp 57)]),
      .p none 56 (.mv (.tmp 58)),
      .p none 59 (.ext 0 (.tmp 56)),
      .p none 60 (.ext 1 (.tmp 56)),
      .p none 12 (.mv (.tmp 59)),
      .p none 13 (.mv (.tmp 60))])
  (.seq (.reg [.p none 61 (.mv (.tmp 13)),
      .p none 62 (.not (.tmp 61))])
  (.cond (.tmp 62)
    (.seq (.reg [.p none 63 (.bld [(.int .i64 0), (.int .i64 0)] []),
        .l none none (.st 2 (.tmp 4) (.tmp 63)),
        .p none 5 (.mv (.const (.int .i64 81)))])
    .ret)
    .skip)))
  (.seq (.seq (.reg [.p none 64 (.fa 0 (.tmp 11)),
      .l none (some 65) (.ld none (.tmp 64)),
      .p none 66 (.fa 1 (.tmp 11)),
      .l none (some 67) (.ld none (.tmp 66)),
      .p none 68 (.bin .add .i64 (.tmp 65) (.tmp 67)),
      .p none 69 (.bin .add .i64 (.tmp 68) (.const (.int .i64 24))),
      .p none 70 (.mv (.tmp 1)),
      .p none 71 (.bin .neq .i64 (.tmp 69) (.tmp 70))])
  (.cond (.tmp 71)
    (.seq (.reg [.p none 72 (.bld [(.int .i64 0), (.int .i64 0)] []),
        .l none none (.st 2 (.tmp 4) (.tmp 72)),
        .p none 5 (.mv (.const (.int .i64 82)))])
    .ret)
    .skip))
  (.seq (.reg [.l none (some 73) (.ld (some 2) (.tmp 11)),
      .l none none (.st 2 (.tmp 4) (.tmp 73)),
      .p none 5 (.mv (.const (.int .i64 0)))])
  .ret)))))))))))
theorem C21 : compile Try.prog 74 (Try.f21.body.getD .skip) = some M21 := by kernel_rfl

/-- winnowref8.Trailer -/
def M22 : MC :=
  (.seq (.reg [.l none (some 4) (.al 36 [(.int .i64 0), (.int .i64 0)]),
      .p none 5 (.mv (.const (.int .i64 0)))])
  (.seq (.seq (.reg [.p none 12 (.mv (.tmp 0)),
      .p none 13 (.len (.tmp 12)),
      .p none 14 (.bin .neq .i64 (.tmp 13) (.const (.int .i64 24)))])
  (.cond (.tmp 14)
    (.seq (.reg [.p none 15 (.bld [(.int .i64 0), (.int .i64 0)] []),
        .l none none (.st 2 (.tmp 4) (.tmp 15)),
        .p none 5 (.mv (.const (.int .i64 81)))])
    .ret)
    .skip))
  (.seq (.reg [.p none 17 (.mv (.tmp 0)),
      .l none (some 18) (.call 52 [(.tmp 17)]),
      .p none 16 (.mv (.tmp 18)),
      .p none 19 (.ext 0 (.tmp 16)),
      .p none 20 (.ext 1 (.tmp 16)),
      .p none 6 (.mv (.tmp 19)),
      .p none 7 (.mv (.tmp 20))])
  (.seq (.seq (.reg [.p none 21 (.mv (.tmp 7)),
      .p none 22 (.bin .neq .i64 (.tmp 21) (.const (.int .i64 0))),
      .p none 23 (.mv (.tmp 22)),
      .split 23,
      .p (some (23, false)) 24 (.mv (.tmp 6)),
      .p (some (23, false)) 25 (.slc 1 (.tmp 24) none (some (.const (.int .i64 4))) none),
      .l (some (23, false)) (some 26) (.b2s (.tmp 25)),
      .p (some (23, false)) 27 (.sbin .neq (.tmp 26) (.const (.string ⟨#[119, 110, 119, 49]⟩))),
      .p none 28 (.pick (.tmp 23) (.const (.bool true)) (.tmp 27))])
  (.cond (.tmp 28)
    (.seq (.reg [.p none 29 (.bld [(.int .i64 0), (.int .i64 0)] []),
        .l none none (.st 2 (.tmp 4) (.tmp 29)),
        .p none 5 (.mv (.const (.int .i64 81)))])
    .ret)
    .skip))
  (.seq (.reg [.p none 30 (.mv (.tmp 6)),
      .p none 31 (.slc 1 (.tmp 30) (some (.const (.int .i64 4))) (some (.const (.int .i64 12))) none),
      .l none (some 32) (.call 53 [(.tmp 31)]),
      .p none 8 (.mv (.tmp 32))])
  (.seq (.reg [.p none 33 (.mv (.tmp 6)),
      .p none 34 (.slc 1 (.tmp 33) (some (.const (.int .i64 12))) (some (.const (.int .i64 20))) none),
      .l none (some 35) (.call 53 [(.tmp 34)]),
      .p none 9 (.mv (.tmp 35))])
  (.seq (.seq (.reg [.p none 36 (.mv (.tmp 8)),
      .p none 37 (.bin .gtr .u64 (.tmp 36) (.const (.int .u64 268435456))),
      .p none 38 (.mv (.tmp 37)),
      .split 38,
      .p (some (38, false)) 39 (.mv (.tmp 9)),
      .p (some (38, false)) 40 (.bin .gtr .u64 (.tmp 39) (.const (.int .u64 1073741824))),
      .p none 41 (.pick (.tmp 38) (.const (.bool true)) (.tmp 40))])
  (.cond (.tmp 41)
    (.seq (.reg [.p none 42 (.bld [(.int .i64 0), (.int .i64 0)] []),
        .l none none (.st 2 (.tmp 4) (.tmp 42)),
        .p none 5 (.mv (.const (.int .i64 81)))])
    .ret)
    .skip))
  (.seq (.reg [.p none 43 (.mv (.tmp 8)),
      .p none 44 (.conv .i64 (.tmp 43)),
      .p none 45 (.mv (.tmp 9)),
      .p none 46 (.conv .i64 (.tmp 45)),
      .p none 47 (.bld [(.int .i64 0), (.int .i64 0)] [(0, 1, (.tmp 44)), (1, 1, (.tmp 46))]),
      .l none (some 10) (.al 36 [(.int .i64 0), (.int .i64 0)]),
      .l none none (.st 2 (.tmp 10) (.tmp 47))])
  (.seq (.reg [.l none (some 48) (.ld (some 2) (.tmp 10)),
      .l none (some 49) (.call 54 [(.tmp 48)]),
      .p none 11 (.mv (.tmp 49))])
  (.seq (.seq (.reg [.p none 50 (.mv (.tmp 11)),
      .p none 51 (.not (.tmp 50))])
  (.cond (.tmp 51)
    (.seq (.reg [.p none 52 (.bld [(.int .i64 0), (.int .i64 0)] []),
        .l none none (.st 2 (.tmp 4) (.tmp 52)),
        .p none 5 (.mv (.const (.int .i64 81)))])
    .ret)
    .skip))
  (.seq (.seq (.reg [.p none 53 (.fa 0 (.tmp 10)),
      .l none (some 54) (.ld none (.tmp 53)),
      .p none 55 (.fa 1 (.tmp 10)),
      .l none (some 56) (.ld none (.tmp 55)),
      .p none 57 (.bin .add .i64 (.tmp 54) (.tmp 56)),
      .p none 58 (.bin .add .i64 (.tmp 57) (.const (.int .i64 24))),
      .p none 59 (.mv (.tmp 1)),
      .p none 60 (.bin .neq .i64 (.tmp 58) (.tmp 59))])
  (.cond (.tmp 60)
    (.seq (.reg [.p none 61 (.bld [(.int .i64 0), (.int .i64 0)] []),
        .l none none (.st 2 (.tmp 4) (.tmp 61)),
        .p none 5 (.mv (.const (.int .i64 82)))])
    .ret)
    .skip))
  (.seq (.reg [.l none (some 62) (.ld (some 2) (.tmp 10)),
      .l none none (.st 2 (.tmp 4) (.tmp 62)),
      .p none 5 (.mv (.const (.int .i64 0)))])
  .ret))))))))))))
theorem C22 : compile Try.prog 63 (Try.f22.body.getD .skip) = some M22 := by kernel_rfl

/-- winnowlaw8.same -/
def M23 : MC :=
  (.seq (.reg [.p none 4 (.mv (.const (.bool false)))])
  (.seq (.seq (.reg [.p none 6 (.mv (.tmp 0)),
      .p none 7 (.len (.tmp 6)),
      .p none 8 (.mv (.tmp 1)),
      .p none 9 (.len (.tmp 8)),
      .p none 10 (.bin .neq .i64 (.tmp 7) (.tmp 9))])
  (.cond (.tmp 10)
    (.seq (.reg [.p none 4 (.mv (.const (.bool false)))])
    .ret)
    .skip))
  (.seq (.seq (.reg [.p none 5 (.mv (.const (.int .i64 0)))])
  (.block 0
    (.loop
      (.seq (.seq (.reg [.p none 11 (.mv (.tmp 5)),
          .p none 12 (.mv (.tmp 0)),
          .p none 13 (.len (.tmp 12)),
          .p none 14 (.bin .lss .i64 (.tmp 11) (.tmp 13))])
      (.cond (.tmp 14)
        .skip
        (.exit 0)))
      (.seq (.block 1
        (.seq (.dreg (.line [.qp 0 none 17 (.mv (.tmp 0)),
            .qp 1 none 18 (.mv (.tmp 5)),
            .qp 2 none 19 (.idx 1 (.tmp 17) (.tmp 18)),
            .qp 4 none 21 (.mv (.tmp 1)),
            .qp 5 none 22 (.mv (.tmp 5)),
            .qp 6 none 23 (.idx 1 (.tmp 21) (.tmp 22)),
            .ql 7 none 24 none (.tmp 23),
            .l 3 none (some 20) (.ld none (.tmp 19)),
            .qp 8 none 25 (.bin .neq .u8 (.tmp 20) (.tmp 24))]))
        (.cond (.tmp 25)
          (.seq (.reg [.p none 4 (.mv (.const (.bool false)))])
          .ret)
          .skip)))
      (.reg [.p none 15 (.mv (.tmp 5)),
          .p none 16 (.bin .add .i64 (.tmp 15) (.const (.int .i64 1))),
          .p none 5 (.mv (.tmp 16))]))))))
  (.seq (.reg [.p none 4 (.mv (.const (.bool true)))])
  .ret))))
theorem C23 : compile Try.prog 26 (Try.f23.body.getD .skip) = some M23 := by kernel_rfl

/-- crc.Open -/
def M49 : MC :=
  (.seq (.reg [.p none 2 (.mv (.const (.slice none 0 0))),
      .p none 3 (.mv (.const (.int .i64 0)))])
  (.seq (.reg [.p none 5 (.mv (.tmp 0)),
      .p none 6 (.len (.tmp 5)),
      .p none 7 (.bin .sub .i64 (.tmp 6) (.const (.int .i64 4))),
      .p none 4 (.mv (.tmp 7))])
  (.seq (.seq (.reg [.p none 8 (.mv (.tmp 4)),
      .p none 9 (.bin .lss .i64 (.tmp 8) (.const (.int .i64 0)))])
  (.cond (.tmp 9)
    (.seq (.reg [.p none 2 (.mv (.const (.slice none 0 0))),
        .p none 3 (.mv (.const (.int .i64 11)))])
    .ret)
    .skip))
  (.seq (.seq (.dreg (.fork [.qp 0 none 10 (.mv (.tmp 0)),
      .qp 1 none 11 (.mv (.tmp 4)),
      .qp 2 none 12 (.slc 1 (.tmp 10) none (some (.tmp 11)) none),
      .qp 6 none 16 (.mv (.tmp 0)),
      .qp 7 none 17 (.mv (.tmp 4)),
      .qp 8 none 18 (.slc 1 (.tmp 16) (some (.tmp 17)) none none)]
    (.fork [.l 3 none (some 13) (.call 71 [(.tmp 12)])]
      (.fork [.l 4 none (some 14) (.call 70 [(.tmp 13)])]
        (.line [.l 5 none (some 15) (.b2s (.tmp 14)),
            .l 9 none (some 19) (.b2s (.tmp 18)),
            .qp 10 none 20 (.sbin .neq (.tmp 15) (.tmp 19))])
        (.line [.l 9 none (some 19) (.b2s (.tmp 18)),
            .l 5 none (some 15) (.b2s (.tmp 14)),
            .qp 10 none 20 (.sbin .neq (.tmp 15) (.tmp 19))]))
      (.line [.l 9 none (some 19) (.b2s (.tmp 18)),
          .l 4 none (some 14) (.call 70 [(.tmp 13)]),
          .l 5 none (some 15) (.b2s (.tmp 14)),
          .qp 10 none 20 (.sbin .neq (.tmp 15) (.tmp 19))]))
    (.line [.l 9 none (some 19) (.b2s (.tmp 18)),
        .l 3 none (some 13) (.call 71 [(.tmp 12)]),
        .l 4 none (some 14) (.call 70 [(.tmp 13)]),
        .l 5 none (some 15) (.b2s (.tmp 14)),
        .qp 10 none 20 (.sbin .neq (.tmp 15) (.tmp 19))])))
  (.cond (.tmp 20)
    (.seq (.reg [.p none 2 (.mv (.const (.slice none 0 0))),
        .p none 3 (.mv (.const (.int .i64 10)))])
    .ret)
    .skip))
  (.seq (.reg [.l none (some 21) (.bs 5 0 1 [] []),
      .p none 22 (.mv (.tmp 0)),
      .p none 23 (.mv (.tmp 4)),
      .p none 24 (.slc 1 (.tmp 22) none (some (.tmp 23)) none),
      .l none (some 25) (.app 5 1 1 [(.int .u8 0)] (.tmp 21) (.tmp 24)),
      .p none 2 (.mv (.tmp 25)),
      .p none 3 (.mv (.const (.int .i64 0)))])
  .ret)))))
theorem C49 : compile Try.prog 26 (Try.f49.body.getD .skip) = some M49 := by kernel_rfl

/-- nums.Word -/
def M50 : MC :=
  (.seq (.reg [.p none 2 (.mv (.const (.int .u64 0)))])
  (.seq (.reg [.p none 3 (.mv (.const (.int .u64 0)))])
  (.seq (.seq (.reg [.p none 5 (.mv (.tmp 0)),
      .p none 6 (.len (.tmp 5)),
      .p none 7 (.mm false .i64 (.tmp 6) [(.const (.int .i64 8))]),
      .p none 8 (.mv (.const (.int .i64 0)))])
  (.block 0
    (.loop
      (.seq (.reg [.p none 9 (.bin .lss .i64 (.tmp 8) (.tmp 7))])
      (.seq (.cond (.tmp 9)
        .skip
        (.exit 0))
      (.seq (.block 1
        (.seq (.reg [.p none 10 (.mv (.tmp 8)),
            .p none 4 (.mv (.tmp 10))])
        (.reg [.p none 11 (.mv (.tmp 3)),
            .p none 12 (.mv (.tmp 0)),
            .p none 13 (.mv (.tmp 4)),
            .p none 14 (.idx 1 (.tmp 12) (.tmp 13)),
            .l none (some 15) (.ld none (.tmp 14)),
            .p none 16 (.conv .u64 (.tmp 15)),
            .p none 17 (.mv (.tmp 4)),
            .p none 18 (.bin .mul .i64 (.const (.int .i64 8)) (.tmp 17)),
            .p none 19 (.shf .shl (.tmp 16) (.tmp 18)),
            .p none 20 (.bin .or .u64 (.tmp 11) (.tmp 19)),
            .p none 3 (.mv (.tmp 20))])))
      (.reg [.p none 21 (.bin .add .i64 (.tmp 8) (.const (.int .i64 1))),
          .p none 8 (.mv (.tmp 21))])))))))
  (.seq (.reg [.p none 22 (.mv (.tmp 3)),
      .p none 2 (.mv (.tmp 22))])
  .ret))))
theorem C50 : compile Try.prog 23 (Try.f50.body.getD .skip) = some M50 := by kernel_rfl

/-- foot.rightTrail -/
def M51 : MC :=
  (.seq (.reg [.l none (some 1) (.bx 36 (.tmp 0)),
      .p none 2 (.mv (.const (.int .i64 0))),
      .p none 3 (.mv (.const (.bool false)))])
  (.seq (.seq (.dreg (.line [.qp 0 none 6 (.fa 0 (.tmp 1)),
      .l 1 none (some 7) (.ld none (.tmp 6)),
      .qp 2 none 8 (.bin .lss .i64 (.tmp 7) (.const (.int .i64 0))),
      .qp 3 none 9 (.mv (.tmp 8)),
      .split 9,
      .qp 4 (some (9, false)) 10 (.fa 0 (.tmp 1)),
      .l 5 (some (9, false)) (some 11) (.ld none (.tmp 10)),
      .qp 6 (some (9, false)) 12 (.bin .gtr .i64 (.tmp 11) (.const (.int .i64 268435456))),
      .qp 7 none 13 (.pick (.tmp 9) (.const (.bool true)) (.tmp 12)),
      .qp 8 none 14 (.mv (.tmp 13)),
      .split 14,
      .qp 9 (some (14, false)) 15 (.fa 1 (.tmp 1)),
      .l 10 (some (14, false)) (some 16) (.ld none (.tmp 15)),
      .qp 11 (some (14, false)) 17 (.bin .lss .i64 (.tmp 16) (.const (.int .i64 1))),
      .qp 12 none 18 (.pick (.tmp 14) (.const (.bool true)) (.tmp 17)),
      .qp 13 none 19 (.mv (.tmp 18)),
      .split 19,
      .qp 14 (some (19, false)) 20 (.fa 1 (.tmp 1)),
      .ql 15 (some (19, false)) 21 none (.tmp 20),
      .l 16 (some (19, false)) (some 22) (.call 72 [(.const (.int .i64 16777216))]),
      .qp 17 (some (19, false)) 23 (.bin .gtr .i64 (.tmp 21) (.tmp 22)),
      .qp 18 none 24 (.pick (.tmp 19) (.const (.bool true)) (.tmp 23))]))
  (.cond (.tmp 24)
    (.seq (.reg [.p none 2 (.mv (.const (.int .i64 0))),
        .p none 3 (.mv (.const (.bool false)))])
    .ret)
    .skip))
  (.seq (.reg [.p none 25 (.fa 1 (.tmp 1)),
      .l none (some 26) (.ld none (.tmp 25)),
      .p none 27 (.div .quo .i64 (.tmp 26) (.const (.int .i64 4100))),
      .p none 4 (.mv (.tmp 27))])
  (.seq (.reg [.p none 28 (.fa 1 (.tmp 1)),
      .l none (some 29) (.ld none (.tmp 28)),
      .p none 30 (.div .rem .i64 (.tmp 29) (.const (.int .i64 4100))),
      .p none 5 (.mv (.tmp 30))])
  (.seq (.seq (.reg [.p none 31 (.mv (.tmp 5)),
      .p none 32 (.bin .gtr .i64 (.tmp 31) (.const (.int .i64 0)))])
  (.cond (.tmp 32)
    (.seq (.reg [.p none 33 (.mv (.tmp 5)),
        .p none 34 (.bin .sub .i64 (.tmp 33) (.const (.int .i64 4))),
        .p none 5 (.mv (.tmp 34))])
    (.seq (.reg [.p none 35 (.mv (.tmp 5)),
        .p none 36 (.bin .lss .i64 (.tmp 35) (.const (.int .i64 1)))])
    (.cond (.tmp 36)
      (.seq (.reg [.p none 2 (.mv (.const (.int .i64 0))),
          .p none 3 (.mv (.const (.bool false)))])
      .ret)
      .skip)))
    .skip))
  (.seq (.reg [.p none 37 (.mv (.tmp 4)),
      .p none 38 (.bin .mul .i64 (.tmp 37) (.const (.int .i64 4096))),
      .p none 39 (.mv (.tmp 5)),
      .p none 40 (.bin .add .i64 (.tmp 38) (.tmp 39)),
      .p none 2 (.mv (.tmp 40)),
      .p none 3 (.mv (.const (.bool true)))])
  .ret))))))
theorem C51 : compile Try.prog 41 (Try.f51.body.getD .skip) = some M51 := by kernel_rfl

/-- winnowref1.Open -/
def M52 : MC :=
  (.seq (.reg [.p none 2 (.mv (.const (.slice none 0 0))),
      .p none 3 (.mv (.const (.int .i64 0)))])
  (.seq (.seq (.reg [.p none 6 (.mv (.tmp 0)),
      .p none 7 (.len (.tmp 6)),
      .p none 8 (.bin .lss .i64 (.tmp 7) (.const (.int .i64 4)))])
  (.cond (.tmp 8)
    (.seq (.reg [.p none 2 (.mv (.const (.slice none 0 0))),
        .p none 3 (.mv (.const (.int .i64 11)))])
    .ret)
    .skip))
  (.seq (.reg [.l none (some 9) (.bs 5 0 1 [] []),
      .p none 10 (.mv (.tmp 0)),
      .p none 11 (.mv (.tmp 0)),
      .p none 12 (.len (.tmp 11)),
      .p none 13 (.bin .sub .i64 (.tmp 12) (.const (.int .i64 4))),
      .p none 14 (.slc 1 (.tmp 10) none (some (.tmp 13)) none),
      .l none (some 15) (.app 5 1 1 [(.int .u8 0)] (.tmp 9) (.tmp 14)),
      .p none 4 (.mv (.tmp 15))])
  (.seq (.reg [.p none 16 (.mv (.tmp 4)),
      .l none (some 17) (.call 61 [(.tmp 16)]),
      .p none 5 (.mv (.tmp 17))])
  (.seq (.seq (.reg [.p none 18 (.mv (.tmp 5)),
      .p none 19 (.mv (.tmp 0)),
      .l none (some 20) (.call 73 [(.tmp 18), (.tmp 19)]),
      .p none 21 (.not (.tmp 20))])
  (.cond (.tmp 21)
    (.seq (.reg [.p none 2 (.mv (.const (.slice none 0 0))),
        .p none 3 (.mv (.const (.int .i64 10)))])
    .ret)
    .skip))
  (.seq (.reg [.p none 22 (.mv (.tmp 4)),
      .p none 2 (.mv (.tmp 22)),
      .p none 3 (.mv (.const (.int .i64 0)))])
  .ret))))))
theorem C52 : compile Try.prog 23 (Try.f52.body.getD .skip) = some M52 := by kernel_rfl

/-- winnowref2.Word -/
def M53 : MC :=
  (.seq (.reg [.p none 2 (.mv (.const (.int .u64 0)))])
  (.seq (.reg [.p none 3 (.mv (.const (.int .u64 0)))])
  (.seq (.reg [.p none 4 (.mv (.const (.int .u64 1)))])
  (.seq (.seq (.reg [.p none 5 (.mv (.const (.int .i64 0)))])
  (.block 0
    (.loop
      (.seq (.seq (.reg [.p none 6 (.mv (.tmp 5)),
          .p none 7 (.mv (.tmp 0)),
          .p none 8 (.len (.tmp 7)),
          .p none 9 (.bin .lss .i64 (.tmp 6) (.tmp 8)),
          .p none 10 (.mv (.tmp 9)),
          .split 10,
          .p (some (10, true)) 11 (.mv (.tmp 5)),
          .p (some (10, true)) 12 (.bin .lss .i64 (.tmp 11) (.const (.int .i64 8))),
          .p none 13 (.pick (.tmp 10) (.tmp 12) (.const (.bool false)))])
      (.cond (.tmp 13)
        .skip
        (.exit 0)))
      (.seq (.block 1
        (.seq (.reg [.p none 16 (.mv (.tmp 3)),
            .p none 17 (.mv (.tmp 0)),
            .p none 18 (.mv (.tmp 5)),
            .p none 19 (.idx 1 (.tmp 17) (.tmp 18)),
            .l none (some 20) (.ld none (.tmp 19)),
            .p none 21 (.conv .u64 (.tmp 20)),
            .p none 22 (.mv (.tmp 4)),
            .p none 23 (.bin .mul .u64 (.tmp 21) (.tmp 22)),
            .p none 24 (.bin .add .u64 (.tmp 16) (.tmp 23)),
            .p none 3 (.mv (.tmp 24))])
        (.reg [.p none 25 (.mv (.tmp 4)),
            .p none 26 (.bin .mul .u64 (.tmp 25) (.const (.int .u64 256))),
            .p none 4 (.mv (.tmp 26))])))
      (.reg [.p none 14 (.mv (.tmp 5)),
          .p none 15 (.bin .add .i64 (.tmp 14) (.const (.int .i64 1))),
          .p none 5 (.mv (.tmp 15))]))))))
  (.seq (.reg [.p none 27 (.mv (.tmp 3)),
      .p none 2 (.mv (.tmp 27))])
  .ret)))))
theorem C53 : compile Try.prog 28 (Try.f53.body.getD .skip) = some M53 := by kernel_rfl

/-- winnowref8.May -/
def M54 : MC :=
  (.seq (.reg [.l none (some 1) (.bx 36 (.tmp 0)),
      .p none 2 (.mv (.const (.bool false)))])
  (.seq (.seq (.reg [.p none 4 (.fa 0 (.tmp 1)),
      .l none (some 5) (.ld none (.tmp 4)),
      .p none 6 (.bin .lss .i64 (.tmp 5) (.const (.int .i64 0))),
      .p none 7 (.mv (.tmp 6)),
      .split 7,
      .p (some (7, false)) 8 (.fa 0 (.tmp 1)),
      .l (some (7, false)) (some 9) (.ld none (.tmp 8)),
      .p (some (7, false)) 10 (.bin .gtr .i64 (.tmp 9) (.const (.int .i64 268435456))),
      .p none 11 (.pick (.tmp 7) (.const (.bool true)) (.tmp 10)),
      .p none 12 (.mv (.tmp 11)),
      .split 12,
      .p (some (12, false)) 13 (.fa 1 (.tmp 1)),
      .l (some (12, false)) (some 14) (.ld none (.tmp 13)),
      .p (some (12, false)) 15 (.bin .lss .i64 (.tmp 14) (.const (.int .i64 0))),
      .p none 16 (.pick (.tmp 12) (.const (.bool true)) (.tmp 15))])
  (.cond (.tmp 16)
    (.seq (.reg [.p none 2 (.mv (.const (.bool false)))])
    .ret)
    .skip))
  (.seq (.reg [.p none 17 (.fa 1 (.tmp 1)),
      .l none (some 18) (.ld none (.tmp 17)),
      .l none (some 19) (.call 74 [(.tmp 18)]),
      .p none 3 (.mv (.tmp 19))])
  (.seq (.reg [.p none 20 (.mv (.tmp 3)),
      .p none 21 (.bin .gtr .i64 (.tmp 20) (.const (.int .i64 0))),
      .p none 2 (.mv (.tmp 21))])
  .ret))))
theorem C54 : compile Try.prog 22 (Try.f54.body.getD .skip) = some M54 := by kernel_rfl

/-- winnowref1.Seal -/
def M61 : MC :=
  (.seq (.reg [.p none 2 (.mv (.const (.slice none 0 0)))])
  (.seq (.reg [.l none (some 5) (.bs 5 0 1 [] []),
      .p none 6 (.mv (.tmp 0)),
      .l none (some 7) (.app 5 1 1 [(.int .u8 0)] (.tmp 5) (.tmp 6)),
      .p none 3 (.mv (.tmp 7))])
  (.seq (.reg [.p none 8 (.mv (.tmp 0)),
      .l none (some 9) (.call 82 [(.tmp 8)]),
      .p none 4 (.mv (.tmp 9))])
  (.seq (.reg [.p none 10 (.mv (.tmp 3)),
      .p none 11 (.mv (.tmp 4)),
      .p none 12 (.conv .u8 (.tmp 11)),
      .p none 13 (.mv (.tmp 4)),
      .p none 14 (.shf .shr (.tmp 13) (.const (.int .u64 8))),
      .p none 15 (.conv .u8 (.tmp 14)),
      .p none 16 (.mv (.tmp 4)),
      .p none 17 (.shf .shr (.tmp 16) (.const (.int .u64 16))),
      .p none 18 (.conv .u8 (.tmp 17)),
      .p none 19 (.mv (.tmp 4)),
      .p none 20 (.shf .shr (.tmp 19) (.const (.int .u64 24))),
      .p none 21 (.conv .u8 (.tmp 20)),
      .l none (some 22) (.bs 5 4 1 [(.int .u8 0), (.int .u8 0), (.int .u8 0), (.int .u8 0)] [(0, 1, (.tmp 12)), (1, 1, (.tmp 15)), (2, 1, (.tmp 18)), (3, 1, (.tmp 21))]),
      .l none (some 23) (.app 5 1 1 [(.int .u8 0)] (.tmp 10) (.tmp 22)),
      .p none 2 (.mv (.tmp 23))])
  .ret))))
theorem C61 : compile Try.prog 24 (Try.f61.body.getD .skip) = some M61 := by kernel_rfl

/-- crc.four -/
def M70 : MC :=
  (.seq (.reg [.p none 2 (.mv (.const (.slice none 0 0)))])
  (.seq (.reg [.p none 3 (.mv (.tmp 0)),
      .p none 4 (.conv .u8 (.tmp 3)),
      .p none 5 (.mv (.tmp 0)),
      .p none 6 (.shf .shr (.tmp 5) (.const (.int .u64 8))),
      .p none 7 (.conv .u8 (.tmp 6)),
      .p none 8 (.mv (.tmp 0)),
      .p none 9 (.shf .shr (.tmp 8) (.const (.int .u64 16))),
      .p none 10 (.conv .u8 (.tmp 9)),
      .p none 11 (.mv (.tmp 0)),
      .p none 12 (.shf .shr (.tmp 11) (.const (.int .u64 24))),
      .p none 13 (.conv .u8 (.tmp 12)),
      .l none (some 14) (.bs 5 4 1 [(.int .u8 0), (.int .u8 0), (.int .u8 0), (.int .u8 0)] [(0, 1, (.tmp 4)), (1, 1, (.tmp 7)), (2, 1, (.tmp 10)), (3, 1, (.tmp 13))]),
      .p none 2 (.mv (.tmp 14))])
  .ret))
theorem C70 : compile Try.prog 15 (Try.f70.body.getD .skip) = some M70 := by kernel_rfl

/-- crc.Sum -/
def M71 : MC :=
  (.seq (.reg [.p none 2 (.mv (.const (.int .u32 0)))])
  (.seq (.reg [.p none 3 (.mv (.tmp 0)),
      .l none (some 4) (.call 97 [(.const (.int .u32 0)), (.tmp 3)]),
      .p none 2 (.mv (.tmp 4))])
  .ret))
theorem C71 : compile Try.prog 5 (Try.f71.body.getD .skip) = some M71 := by kernel_rfl

/-- foot.pagesOf -/
def M72 : MC :=
  (.seq (.reg [.p none 2 (.mv (.const (.int .i64 0)))])
  (.seq (.reg [.p none 3 (.mv (.tmp 0)),
      .p none 4 (.mv (.tmp 0)),
      .p none 5 (.bin .add .i64 (.tmp 4) (.const (.int .i64 4096))),
      .p none 6 (.bin .sub .i64 (.tmp 5) (.const (.int .i64 1))),
      .p none 7 (.div .quo .i64 (.tmp 6) (.const (.int .i64 4096))),
      .p none 8 (.bin .mul .i64 (.const (.int .i64 4)) (.tmp 7)),
      .p none 9 (.bin .add .i64 (.tmp 3) (.tmp 8)),
      .p none 2 (.mv (.tmp 9))])
  .ret))
theorem C72 : compile Try.prog 10 (Try.f72.body.getD .skip) = some M72 := by kernel_rfl

/-- winnowref1.same -/
def M73 : MC :=
  (.seq (.reg [.p none 4 (.mv (.const (.bool false)))])
  (.seq (.seq (.reg [.p none 6 (.mv (.tmp 0)),
      .p none 7 (.len (.tmp 6)),
      .p none 8 (.mv (.tmp 1)),
      .p none 9 (.len (.tmp 8)),
      .p none 10 (.bin .neq .i64 (.tmp 7) (.tmp 9))])
  (.cond (.tmp 10)
    (.seq (.reg [.p none 4 (.mv (.const (.bool false)))])
    .ret)
    .skip))
  (.seq (.seq (.reg [.p none 5 (.mv (.const (.int .i64 0)))])
  (.block 0
    (.loop
      (.seq (.seq (.reg [.p none 11 (.mv (.tmp 5)),
          .p none 12 (.mv (.tmp 0)),
          .p none 13 (.len (.tmp 12)),
          .p none 14 (.bin .lss .i64 (.tmp 11) (.tmp 13))])
      (.cond (.tmp 14)
        .skip
        (.exit 0)))
      (.seq (.block 1
        (.seq (.dreg (.line [.qp 0 none 17 (.mv (.tmp 0)),
            .qp 1 none 18 (.mv (.tmp 5)),
            .qp 2 none 19 (.idx 1 (.tmp 17) (.tmp 18)),
            .qp 4 none 21 (.mv (.tmp 1)),
            .qp 5 none 22 (.mv (.tmp 5)),
            .qp 6 none 23 (.idx 1 (.tmp 21) (.tmp 22)),
            .ql 7 none 24 none (.tmp 23),
            .l 3 none (some 20) (.ld none (.tmp 19)),
            .qp 8 none 25 (.bin .neq .u8 (.tmp 20) (.tmp 24))]))
        (.cond (.tmp 25)
          (.seq (.reg [.p none 4 (.mv (.const (.bool false)))])
          .ret)
          .skip)))
      (.reg [.p none 15 (.mv (.tmp 5)),
          .p none 16 (.bin .add .i64 (.tmp 15) (.const (.int .i64 1))),
          .p none 5 (.mv (.tmp 16))]))))))
  (.seq (.reg [.p none 4 (.mv (.const (.bool true)))])
  .ret))))
theorem C73 : compile Try.prog 26 (Try.f73.body.getD .skip) = some M73 := by kernel_rfl

/-- winnowref8.bodyOf -/
def M74 : MC :=
  (.seq (.reg [.p none 2 (.mv (.const (.int .i64 0)))])
  (.seq (.reg [.p none 5 (.mv (.tmp 0)),
      .p none 6 (.bin .add .i64 (.tmp 5) (.const (.int .i64 4096))),
      .p none 7 (.bin .add .i64 (.tmp 6) (.const (.int .i64 3))),
      .p none 8 (.div .quo .i64 (.tmp 7) (.const (.int .i64 4100))),
      .p none 3 (.mv (.tmp 8))])
  (.seq (.reg [.p none 9 (.mv (.tmp 0)),
      .p none 10 (.mv (.tmp 3)),
      .p none 11 (.bin .mul .i64 (.const (.int .i64 4)) (.tmp 10)),
      .p none 12 (.bin .sub .i64 (.tmp 9) (.tmp 11)),
      .p none 4 (.mv (.tmp 12))])
  (.seq (.seq (.reg [.p none 13 (.mv (.tmp 0)),
      .p none 14 (.bin .lss .i64 (.tmp 13) (.const (.int .i64 1))),
      .p none 15 (.mv (.tmp 14)),
      .split 15,
      .p (some (15, false)) 16 (.mv (.tmp 0)),
      .l (some (15, false)) (some 17) (.call 98 [(.const (.int .i64 16777216))]),
      .p (some (15, false)) 18 (.bin .gtr .i64 (.tmp 16) (.tmp 17)),
      .p none 19 (.pick (.tmp 15) (.const (.bool true)) (.tmp 18)),
      .p none 20 (.mv (.tmp 19)),
      .split 20,
      .p (some (20, false)) 21 (.mv (.tmp 4)),
      .p (some (20, false)) 22 (.bin .lss .i64 (.tmp 21) (.const (.int .i64 1))),
      .p none 23 (.pick (.tmp 20) (.const (.bool true)) (.tmp 22)),
      .p none 24 (.mv (.tmp 23)),
      .split 24,
      .p (some (24, false)) 25 (.mv (.tmp 4)),
      .p (some (24, false)) 26 (.bin .gtr .i64 (.tmp 25) (.const (.int .i64 16777216))),
      .p none 27 (.pick (.tmp 24) (.const (.bool true)) (.tmp 26)),
      .p none 28 (.mv (.tmp 27)),
      .split 28,
      .p (some (28, false)) 29 (.mv (.tmp 4)),
      .l (some (28, false)) (some 30) (.call 98 [(.tmp 29)]),
      .p (some (28, false)) 31 (.mv (.tmp 0)),
      .p (some (28, false)) 32 (.bin .neq .i64 (.tmp 30) (.tmp 31)),
      .p none 33 (.pick (.tmp 28) (.const (.bool true)) (.tmp 32))])
  (.cond (.tmp 33)
    (.seq (.reg [.p none 2 (.mv (.const (.int .i64 0)))])
    .ret)
    .skip))
  (.seq (.reg [.p none 34 (.mv (.tmp 4)),
      .p none 2 (.mv (.tmp 34))])
  .ret)))))
theorem C74 : compile Try.prog 35 (Try.f74.body.getD .skip) = some M74 := by kernel_rfl

/-- winnowref1.Sum -/
def M82 : MC :=
  (.seq (.reg [.p none 2 (.mv (.const (.int .u32 0)))])
  (.seq (.reg [.p none 3 (.mv (.tmp 0)),
      .l none (some 4) (.call 100 [(.const (.int .u32 0)), (.tmp 3)]),
      .p none 2 (.mv (.tmp 4))])
  .ret))
theorem C82 : compile Try.prog 5 (Try.f82.body.getD .skip) = some M82 := by kernel_rfl

/-- crc.Extend -/
def M97 : MC :=
  (.seq (.reg [.p none 4 (.mv (.const (.int .u32 0)))])
  (.seq (.reg [.p none 9 (.mv (.tmp 0)),
      .p none 10 (.bin .xor .u32 (.const (.int .u32 4294967295)) (.tmp 9)),
      .p none 5 (.mv (.tmp 10))])
  (.seq (.reg [.l none (some 11) (.call 111 []),
      .l none (some 6) (.al 142 (List.replicate 16 (.int .u32 0))),
      .l none none (.st 16 (.tmp 6) (.tmp 11))])
  (.seq (.seq (.reg [.p none 12 (.mv (.tmp 1)),
      .p none 13 (.len (.tmp 12)),
      .p none 14 (.mv (.const (.int .i64 0)))])
  (.block 0
    (.loop
      (.seq (.reg [.p none 15 (.bin .lss .i64 (.tmp 14) (.tmp 13))])
      (.seq (.cond (.tmp 15)
        .skip
        (.exit 0))
      (.seq (.block 1
        (.seq (.reg [.p none 16 (.idx 1 (.tmp 12) (.tmp 14)),
            .l none (some 17) (.ld none (.tmp 16)),
            .p none 8 (.mv (.tmp 17))])
        (.seq (.reg [.p none 18 (.mv (.tmp 5)),
            .p none 19 (.mv (.tmp 8)),
            .p none 20 (.conv .u32 (.tmp 19)),
            .p none 21 (.bin .xor .u32 (.tmp 18) (.tmp 20)),
            .p none 5 (.mv (.tmp 21))])
        (.seq (.reg [.p none 22 (.mv (.tmp 5)),
            .p none 23 (.shf .shr (.tmp 22) (.const (.int .u64 4))),
            .p none 24 (.mv (.tmp 5)),
            .p none 25 (.bin .and .u32 (.tmp 24) (.const (.int .u32 15))),
            .p none 26 (.idxa 16 1 (.tmp 6) (.tmp 25)),
            .l none (some 27) (.ld none (.tmp 26)),
            .p none 28 (.bin .xor .u32 (.tmp 23) (.tmp 27)),
            .p none 5 (.mv (.tmp 28))])
        (.reg [.p none 29 (.mv (.tmp 5)),
            .p none 30 (.shf .shr (.tmp 29) (.const (.int .u64 4))),
            .p none 31 (.mv (.tmp 5)),
            .p none 32 (.bin .and .u32 (.tmp 31) (.const (.int .u32 15))),
            .p none 33 (.idxa 16 1 (.tmp 6) (.tmp 32)),
            .l none (some 34) (.ld none (.tmp 33)),
            .p none 35 (.bin .xor .u32 (.tmp 30) (.tmp 34)),
            .p none 5 (.mv (.tmp 35))])))))
      (.reg [.p none 36 (.bin .add .i64 (.tmp 14) (.const (.int .i64 1))),
          .p none 14 (.mv (.tmp 36))])))))))
  (.seq (.reg [.p none 37 (.mv (.tmp 5)),
      .p none 38 (.bin .xor .u32 (.const (.int .u32 4294967295)) (.tmp 37)),
      .p none 4 (.mv (.tmp 38))])
  .ret)))))
theorem C97 : compile Try.prog 39 (Try.f97.body.getD .skip) = some M97 := by kernel_rfl

/-- winnowref8.pagesOf -/
def M98 : MC :=
  (.seq (.reg [.p none 2 (.mv (.const (.int .i64 0)))])
  (.seq (.reg [.p none 3 (.mv (.tmp 0)),
      .p none 4 (.mv (.tmp 0)),
      .p none 5 (.bin .add .i64 (.tmp 4) (.const (.int .i64 4096))),
      .p none 6 (.bin .sub .i64 (.tmp 5) (.const (.int .i64 1))),
      .p none 7 (.div .quo .i64 (.tmp 6) (.const (.int .i64 4096))),
      .p none 8 (.bin .mul .i64 (.const (.int .i64 4)) (.tmp 7)),
      .p none 9 (.bin .add .i64 (.tmp 3) (.tmp 8)),
      .p none 2 (.mv (.tmp 9))])
  .ret))
theorem C98 : compile Try.prog 10 (Try.f98.body.getD .skip) = some M98 := by kernel_rfl

/-- winnowref1.Extend -/
def M100 : MC :=
  (.seq (.reg [.p none 4 (.mv (.const (.int .u32 0)))])
  (.seq (.reg [.p none 8 (.mv (.tmp 0)),
      .p none 9 (.bin .xor .u32 (.const (.int .u32 4294967295)) (.tmp 8)),
      .p none 5 (.mv (.tmp 9))])
  (.seq (.seq (.reg [.p none 6 (.mv (.const (.int .i64 0)))])
  (.block 0
    (.loop
      (.seq (.seq (.reg [.p none 10 (.mv (.tmp 6)),
          .p none 11 (.mv (.tmp 1)),
          .p none 12 (.len (.tmp 11)),
          .p none 13 (.bin .lss .i64 (.tmp 10) (.tmp 12))])
      (.cond (.tmp 13)
        .skip
        (.exit 0)))
      (.seq (.block 1
        (.seq (.reg [.p none 16 (.mv (.tmp 5)),
            .p none 17 (.mv (.tmp 1)),
            .p none 18 (.mv (.tmp 6)),
            .p none 19 (.idx 1 (.tmp 17) (.tmp 18)),
            .l none (some 20) (.ld none (.tmp 19)),
            .p none 21 (.conv .u32 (.tmp 20)),
            .p none 22 (.bin .xor .u32 (.tmp 16) (.tmp 21)),
            .p none 5 (.mv (.tmp 22))])
        (.seq (.reg [.p none 7 (.mv (.const (.int .i64 0)))])
        (.block 2
          (.loop
            (.seq (.seq (.reg [.p none 23 (.mv (.tmp 7)),
                .p none 24 (.bin .lss .i64 (.tmp 23) (.const (.int .i64 8)))])
            (.cond (.tmp 24)
              .skip
              (.exit 2)))
            (.seq (.block 3
              (.reg [.p none 27 (.mv (.tmp 5)),
                  .l none (some 28) (.call 112 [(.tmp 27)]),
                  .p none 5 (.mv (.tmp 28))]))
            (.reg [.p none 25 (.mv (.tmp 7)),
                .p none 26 (.bin .add .i64 (.tmp 25) (.const (.int .i64 1))),
                .p none 7 (.mv (.tmp 26))]))))))))
      (.reg [.p none 14 (.mv (.tmp 6)),
          .p none 15 (.bin .add .i64 (.tmp 14) (.const (.int .i64 1))),
          .p none 6 (.mv (.tmp 15))]))))))
  (.seq (.reg [.p none 29 (.mv (.tmp 5)),
      .p none 30 (.bin .xor .u32 (.const (.int .u32 4294967295)) (.tmp 29)),
      .p none 4 (.mv (.tmp 30))])
  .ret))))
theorem C100 : compile Try.prog 31 (Try.f100.body.getD .skip) = some M100 := by kernel_rfl

/-- crc.sums -/
def M111 : MC :=
  (.seq (.reg [.l none (some 0) (.al 142 (List.replicate 16 (.int .u32 0)))])
  (.seq (.reg [.l none (some 1) (.al 142 (List.replicate 16 (.int .u32 0)))])
  (.seq (.seq (.reg [.p none 4 (.mv (.const (.int .i64 0)))])
  (.block 0
    (.loop
      (.seq (.reg [.p none 5 (.bin .lss .i64 (.tmp 4) (.const (.int .i64 16)))])
      (.seq (.cond (.tmp 5)
        .skip
        (.exit 0))
      (.seq (.block 1
        (.seq (.reg [.p none 6 (.mv (.tmp 4)),
            .p none 2 (.mv (.tmp 6))])
        (.seq (.reg [.p none 7 (.mv (.tmp 2)),
            .p none 8 (.conv .u32 (.tmp 7)),
            .p none 3 (.mv (.tmp 8))])
        (.seq (.seq (.reg [.p none 9 (.mv (.const (.int .i64 0)))])
        (.block 2
          (.loop
            (.seq (.reg [.p none 10 (.bin .lss .i64 (.tmp 9) (.const (.int .i64 4)))])
            (.seq (.cond (.tmp 10)
              .skip
              (.exit 2))
            (.seq (.block 3
              (.reg [.p none 11 (.mv (.tmp 3)),
                  .l none (some 12) (.call 115 [(.tmp 11)]),
                  .p none 3 (.mv (.tmp 12))]))
            (.reg [.p none 13 (.bin .add .i64 (.tmp 9) (.const (.int .i64 1))),
                .p none 9 (.mv (.tmp 13))])))))))
        (.reg [.p none 14 (.mv (.tmp 2)),
            .p none 15 (.mv (.tmp 3)),
            .p none 16 (.idxa 16 1 (.tmp 1) (.tmp 14)),
            .l none none (.st 1 (.tmp 16) (.tmp 15))])))))
      (.reg [.p none 17 (.bin .add .i64 (.tmp 4) (.const (.int .i64 1))),
          .p none 4 (.mv (.tmp 17))])))))))
  (.seq (.reg [.l none (some 18) (.ld (some 16) (.tmp 1)),
      .l none none (.st 16 (.tmp 0) (.tmp 18))])
  .ret))))
theorem C111 : compile Try.prog 19 (Try.f111.body.getD .skip) = some M111 := by kernel_rfl

/-- winnowref1.M -/
def M112 : MC :=
  (.seq (.reg [.p none 2 (.mv (.const (.int .u32 0)))])
  (.seq (.seq (.reg [.p none 3 (.mv (.tmp 0)),
      .p none 4 (.div .rem .u32 (.tmp 3) (.const (.int .u32 2))),
      .p none 5 (.bin .eql .u32 (.tmp 4) (.const (.int .u32 1)))])
  (.cond (.tmp 5)
    (.seq (.reg [.p none 6 (.mv (.tmp 0)),
        .p none 7 (.shf .shr (.tmp 6) (.const (.int .u64 1))),
        .p none 8 (.bin .xor .u32 (.tmp 7) (.const (.int .u32 2197175160))),
        .p none 2 (.mv (.tmp 8))])
    .ret)
    .skip))
  (.seq (.reg [.p none 9 (.mv (.tmp 0)),
      .p none 10 (.shf .shr (.tmp 9) (.const (.int .u64 1))),
      .p none 2 (.mv (.tmp 10))])
  .ret)))
theorem C112 : compile Try.prog 11 (Try.f112.body.getD .skip) = some M112 := by kernel_rfl

/-- crc.step -/
def M115 : MC :=
  (.seq (.reg [.p none 2 (.mv (.const (.int .u32 0)))])
  (.seq (.seq (.reg [.p none 3 (.mv (.tmp 0)),
      .p none 4 (.bin .and .u32 (.tmp 3) (.const (.int .u32 1))),
      .p none 5 (.bin .eql .u32 (.tmp 4) (.const (.int .u32 1)))])
  (.cond (.tmp 5)
    (.seq (.reg [.p none 6 (.mv (.tmp 0)),
        .p none 7 (.shf .shr (.tmp 6) (.const (.int .u64 1))),
        .p none 8 (.bin .xor .u32 (.tmp 7) (.const (.int .u32 2197175160))),
        .p none 2 (.mv (.tmp 8))])
    .ret)
    .skip))
  (.seq (.reg [.p none 9 (.mv (.tmp 0)),
      .p none 10 (.shf .shr (.tmp 9) (.const (.int .u64 1))),
      .p none 2 (.mv (.tmp 10))])
  .ret)))
theorem C115 : compile Try.prog 11 (Try.f115.body.getD .skip) = some M115 := by kernel_rfl
end Go.Proofs.Ythhmhmnhbababaa.E
