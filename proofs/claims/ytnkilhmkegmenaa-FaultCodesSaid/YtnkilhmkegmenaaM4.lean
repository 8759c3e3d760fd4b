/- The intermediate code of the functions that are walked here, each with the proof that it is the translation of the model's code. -/
import Derived.Test.YtnkilhmkegmenaaE6
import Derived.KernelRfl
namespace Go.Proofs.Ytnkilhmkegmenaa.E
open Go


/-- winnowlaw16.FaultRound -/
def M9 : MC :=
  (.seq (.reg [.p none 6 (.mv (.const (.bool false)))])
  (.seq (.reg [.p none 16 (.mv (.tmp 0)),
      .l none (some 17) (.call 31 [(.tmp 16)]),
      .p none 15 (.mv (.tmp 17)),
      .p none 18 (.ext 0 (.tmp 15)),
      .p none 19 (.ext 1 (.tmp 15)),
      .p none 7 (.mv (.tmp 18)),
      .p none 8 (.mv (.tmp 19))])
  (.seq (.seq (.reg [.p none 20 (.mv (.tmp 8)),
      .p none 21 (.bin .eql .i64 (.tmp 20) (.const (.int .i64 0)))])
  (.cond (.tmp 21)
    (.seq (.reg [.p none 23 (.mv (.tmp 7)),
        .l none (some 24) (.call 33 [(.tmp 23)]),
        .p none 22 (.mv (.tmp 24)),
        .p none 25 (.ext 0 (.tmp 22)),
        .p none 26 (.ext 1 (.tmp 22)),
        .p none 9 (.mv (.tmp 25)),
        .p none 10 (.mv (.tmp 26))])
    (.seq (.reg [.p none 27 (.mv (.tmp 10)),
        .p none 28 (.bin .neq .i64 (.tmp 27) (.const (.int .i64 0))),
        .p none 29 (.mv (.tmp 28)),
        .split 29,
        .p (some (29, false)) 30 (.mv (.tmp 9)),
        .p (some (29, false)) 31 (.mv (.tmp 0)),
        .l (some (29, false)) (some 32) (.call 22 [(.tmp 30), (.tmp 31)]),
        .p (some (29, false)) 33 (.not (.tmp 32)),
        .p none 34 (.pick (.tmp 29) (.const (.bool true)) (.tmp 33)),
        .p none 35 (.mv (.tmp 34)),
        .split 35,
        .p (some (35, false)) 36 (.mv (.tmp 2)),
        .p (some (35, false)) 37 (.bin .geq .i64 (.tmp 36) (.const (.int .i64 0))),
        .p (some (35, false)) 38 (.mv (.tmp 37)),
        .split 38,
        .p (some (38, true)) 39 (.mv (.tmp 2)),
        .p (some (38, true)) 40 (.mv (.tmp 0)),
        .p (some (38, true)) 41 (.len (.tmp 40)),
        .p (some (38, true)) 42 (.bin .leq .i64 (.tmp 39) (.tmp 41)),
        .p (some (35, false)) 43 (.pick (.tmp 38) (.tmp 42) (.const (.bool false))),
        .p (some (35, false)) 44 (.mv (.tmp 43)),
        .split 44,
        .p (some (44, true)) 45 (.mv (.tmp 0)),
        .p (some (44, true)) 46 (.mv (.tmp 2)),
        .p (some (44, true)) 47 (.slc 8 (.tmp 45) none (some (.tmp 46)) none),
        .l (some (44, true)) (some 48) (.call 35 [(.tmp 47)]),
        .p (some (44, true)) 49 (.bin .neq .i64 (.tmp 48) (.const (.int .i64 0))),
        .p (some (35, false)) 50 (.pick (.tmp 44) (.tmp 49) (.const (.bool false))),
        .p none 51 (.pick (.tmp 35) (.const (.bool true)) (.tmp 50))])
    (.cond (.tmp 51)
      (.seq (.reg [.p none 6 (.mv (.const (.bool false)))])
      .ret)
      .skip)))
    .skip))
  (.seq (.reg [.p none 53 (.mv (.tmp 1)),
      .l none (some 54) (.call 33 [(.tmp 53)]),
      .p none 52 (.mv (.tmp 54)),
      .p none 55 (.ext 0 (.tmp 52)),
      .p none 56 (.ext 1 (.tmp 52)),
      .p none 11 (.mv (.tmp 55)),
      .p none 12 (.mv (.tmp 56))])
  (.seq (.seq (.reg [.p none 57 (.mv (.tmp 12)),
      .p none 58 (.bin .neq .i64 (.tmp 57) (.const (.int .i64 0)))])
  (.cond (.tmp 58)
    (.seq (.reg [.p none 59 (.mv (.tmp 12)),
        .p none 60 (.bin .eql .i64 (.tmp 59) (.const (.int .i64 160))),
        .p none 61 (.mv (.tmp 60)),
        .split 61,
        .p (some (61, true)) 62 (.mv (.tmp 11)),
        .p (some (61, true)) 63 (.len (.tmp 62)),
        .p (some (61, true)) 64 (.bin .eql .i64 (.tmp 63) (.const (.int .i64 0))),
        .p none 65 (.pick (.tmp 61) (.tmp 64) (.const (.bool false))),
        .p none 66 (.mv (.tmp 65)),
        .split 66,
        .l (some (66, true)) (some 67) (.call 29 []),
        .p none 68 (.pick (.tmp 66) (.tmp 67) (.const (.bool false))),
        .p none 6 (.mv (.tmp 68))])
    .ret)
    .skip))
  (.seq (.reg [.p none 70 (.mv (.tmp 11)),
      .l none (some 71) (.call 31 [(.tmp 70)]),
      .p none 69 (.mv (.tmp 71)),
      .p none 72 (.ext 0 (.tmp 69)),
      .p none 73 (.ext 1 (.tmp 69)),
      .p none 13 (.mv (.tmp 72)),
      .p none 14 (.mv (.tmp 73))])
  (.seq (.reg [.p none 74 (.mv (.tmp 14)),
      .p none 75 (.bin .eql .i64 (.tmp 74) (.const (.int .i64 0))),
      .p none 76 (.mv (.tmp 75)),
      .split 76,
      .p (some (76, true)) 77 (.mv (.tmp 13)),
      .p (some (76, true)) 78 (.mv (.tmp 1)),
      .l (some (76, true)) (some 79) (.call 14 [(.tmp 77), (.tmp 78)]),
      .p none 80 (.pick (.tmp 76) (.tmp 79) (.const (.bool false))),
      .p none 81 (.mv (.tmp 80)),
      .split 81,
      .l (some (81, true)) (some 82) (.call 29 []),
      .p none 83 (.pick (.tmp 81) (.tmp 82) (.const (.bool false))),
      .p none 6 (.mv (.tmp 83))])
  .ret)))))))
theorem C9 : compile Try.prog 84 (Try.f9.body.getD .skip) = some M9 := by kernel_rfl

/-- fault.Encode -/
def M31 : MC :=
  (.seq (.reg [.p none 2 (.mv (.const (.slice none 0 0))),
      .p none 3 (.mv (.const (.int .i64 0)))])
  (.seq (.seq (.reg [.p none 8 (.mv (.tmp 0)),
      .l none (some 9) (.call 35 [(.tmp 8)]),
      .p none 4 (.mv (.tmp 9))])
  (.seq (.reg [.p none 10 (.mv (.tmp 4)),
      .p none 11 (.bin .neq .i64 (.tmp 10) (.const (.int .i64 0)))])
  (.cond (.tmp 11)
    (.seq (.reg [.p none 12 (.mv (.tmp 4)),
        .p none 2 (.mv (.const (.slice none 0 0))),
        .p none 3 (.mv (.tmp 12))])
    .ret)
    .skip)))
  (.seq (.reg [.p none 13 (.mv (.tmp 0)),
      .p none 14 (.len (.tmp 13)),
      .l none (some 15) (.call 43 [(.tmp 14)]),
      .p none 5 (.mv (.tmp 15))])
  (.seq (.seq (.reg [.p none 16 (.mv (.tmp 0)),
      .p none 17 (.len (.tmp 16)),
      .p none 18 (.mv (.const (.int .i64 0)))])
  (.block 0
    (.loop
      (.seq (.reg [.p none 19 (.bin .lss .i64 (.tmp 18) (.tmp 17))])
      (.seq (.cond (.tmp 19)
        .skip
        (.exit 0))
      (.seq (.block 1
        (.seq (.reg [.p none 20 (.idx 8 (.tmp 16) (.tmp 18)),
            .l none (some 21) (.ld (some 8) (.tmp 20)),
            .l none (some 7) (.al 25 [(.int .i64 0), (.int .i64 0), (.int .i64 0), (.int .i64 0), (.int .i64 0), (.int .i64 0), (.int .i64 0), (.int .u32 0)]),
            .l none none (.st 8 (.tmp 7) (.tmp 21))])
        (.seq (.reg [.p none 22 (.mv (.tmp 5)),
            .p none 23 (.fa 0 (.tmp 7)),
            .l none (some 24) (.ld none (.tmp 23)),
            .p none 25 (.conv .u8 (.tmp 24)),
            .p none 26 (.fa 1 (.tmp 7)),
            .l none (some 27) (.ld none (.tmp 26)),
            .p none 28 (.conv .u8 (.tmp 27)),
            .l none (some 29) (.bs 5 2 1 [(.int .u8 0), (.int .u8 0)] [(0, 1, (.tmp 25)), (1, 1, (.tmp 28))]),
            .l none (some 30) (.app 5 1 1 [(.int .u8 0)] (.tmp 22) (.tmp 29)),
            .p none 5 (.mv (.tmp 30))])
        (.seq (.reg [.p none 31 (.mv (.tmp 5)),
            .p none 32 (.fa 2 (.tmp 7)),
            .l none (some 33) (.ld none (.tmp 32)),
            .l none (some 34) (.call 43 [(.tmp 33)]),
            .l none (some 35) (.app 5 1 1 [(.int .u8 0)] (.tmp 31) (.tmp 34)),
            .p none 5 (.mv (.tmp 35))])
        (.seq (.reg [.p none 36 (.mv (.tmp 5)),
            .p none 37 (.fa 3 (.tmp 7)),
            .l none (some 38) (.ld none (.tmp 37)),
            .l none (some 39) (.call 43 [(.tmp 38)]),
            .l none (some 40) (.app 5 1 1 [(.int .u8 0)] (.tmp 36) (.tmp 39)),
            .p none 5 (.mv (.tmp 40))])
        (.seq (.reg [.p none 41 (.mv (.tmp 5)),
            .p none 42 (.fa 4 (.tmp 7)),
            .l none (some 43) (.ld none (.tmp 42)),
            .p none 44 (.conv .u8 (.tmp 43)),
            .l none (some 45) (.bs 5 1 1 [(.int .u8 0)] [(0, 1, (.tmp 44))]),
            .l none (some 46) (.app 5 1 1 [(.int .u8 0)] (.tmp 41) (.tmp 45)),
            .p none 5 (.mv (.tmp 46))])
        (.seq (.reg [.p none 47 (.mv (.tmp 5)),
            .p none 48 (.fa 5 (.tmp 7)),
            .l none (some 49) (.ld none (.tmp 48)),
            .l none (some 50) (.call 43 [(.tmp 49)]),
            .l none (some 51) (.app 5 1 1 [(.int .u8 0)] (.tmp 47) (.tmp 50)),
            .p none 5 (.mv (.tmp 51))])
        (.seq (.reg [.p none 52 (.mv (.tmp 5)),
            .p none 53 (.fa 6 (.tmp 7)),
            .l none (some 54) (.ld none (.tmp 53)),
            .p none 55 (.conv .u64 (.tmp 54)),
            .l none (some 56) (.call 44 [(.tmp 55), (.const (.int .i64 8))]),
            .l none (some 57) (.app 5 1 1 [(.int .u8 0)] (.tmp 52) (.tmp 56)),
            .p none 5 (.mv (.tmp 57))])
        (.reg [.p none 58 (.mv (.tmp 5)),
            .p none 59 (.fa 7 (.tmp 7)),
            .l none (some 60) (.ld none (.tmp 59)),
            .p none 61 (.conv .u64 (.tmp 60)),
            .l none (some 62) (.call 44 [(.tmp 61), (.const (.int .i64 4))]),
            .l none (some 63) (.app 5 1 1 [(.int .u8 0)] (.tmp 58) (.tmp 62)),
            .p none 5 (.mv (.tmp 63))])))))))))
      (.reg [.p none 64 (.bin .add .i64 (.tmp 18) (.const (.int .i64 1))),
          .p none 18 (.mv (.tmp 64))])))))))
  (.seq (.reg [.p none 65 (.mv (.tmp 5)),
      .p none 2 (.mv (.tmp 65)),
      .p none 3 (.mv (.const (.int .i64 0)))])
  .ret)))))
theorem C31 : compile Try.prog 66 (Try.f31.body.getD .skip) = some M31 := by kernel_rfl

/-- fault.Decode -/
def M33 : MC :=
  (.seq (.reg [.p none 2 (.mv (.const (.slice none 0 0))),
      .p none 3 (.mv (.const (.int .i64 0)))])
  (.seq (.reg [.p none 6 (.mv (.tmp 0)),
      .l none (some 7) (.call 46 [(.tmp 6)]),
      .p none 4 (.mv (.tmp 7))])
  (.seq (.reg [.p none 5 (.mv (.const (.slice none 0 0)))])
  (.seq (.seq (.reg [.p none 8 (.mv (.tmp 4)),
      .l none (some 9) (.call 47 [(.tmp 8), (.const (.int .i64 256))]),
      .p none 10 (.mv (.const (.int .i64 0)))])
  (.block 0
    (.loop
      (.seq (.reg [.p none 11 (.bin .lss .i64 (.tmp 10) (.tmp 9))])
      (.seq (.cond (.tmp 11)
        .skip
        (.exit 0))
      (.seq (.block 1
        (.reg [.p none 12 (.mv (.tmp 5)),
            .p none 13 (.mv (.tmp 4)),
            .l none (some 14) (.call 48 [(.tmp 13), (.const (.int .i64 1))]),
            .p none 15 (.conv .i64 (.tmp 14)),
            .p none 16 (.mv (.tmp 4)),
            .l none (some 17) (.call 48 [(.tmp 16), (.const (.int .i64 1))]),
            .p none 18 (.conv .i64 (.tmp 17)),
            .p none 19 (.mv (.tmp 4)),
            .l none (some 20) (.call 47 [(.tmp 19), (.const (.int .i64 65535))]),
            .p none 21 (.mv (.tmp 4)),
            .l none (some 22) (.call 47 [(.tmp 21), (.const (.int .i64 16))]),
            .p none 23 (.mv (.tmp 4)),
            .l none (some 24) (.call 48 [(.tmp 23), (.const (.int .i64 1))]),
            .p none 25 (.conv .i64 (.tmp 24)),
            .p none 26 (.mv (.tmp 4)),
            .l none (some 27) (.call 47 [(.tmp 26), (.const (.int .i64 65535))]),
            .p none 28 (.mv (.tmp 4)),
            .l none (some 29) (.call 48 [(.tmp 28), (.const (.int .i64 8))]),
            .p none 30 (.conv .i64 (.tmp 29)),
            .p none 31 (.mv (.tmp 4)),
            .l none (some 32) (.call 48 [(.tmp 31), (.const (.int .i64 4))]),
            .p none 33 (.conv .u32 (.tmp 32)),
            .p none 34 (.bld [(.int .i64 0), (.int .i64 0), (.int .i64 0), (.int .i64 0), (.int .i64 0), (.int .i64 0), (.int .i64 0), (.int .u32 0)] [(0, 1, (.tmp 15)), (1, 1, (.tmp 18)), (2, 1, (.tmp 20)), (3, 1, (.tmp 22)), (4, 1, (.tmp 25)), (5, 1, (.tmp 27)), (6, 1, (.tmp 30)), (7, 1, (.tmp 33))]),
            .l none (some 35) (.bs 25 1 8 [(.int .i64 0), (.int .i64 0), (.int .i64 0), (.int .i64 0), (.int .i64 0), (.int .i64 0), (.int .i64 0), (.int .u32 0)] [(0, 8, (.tmp 34))]),
            .l none (some 36) (.app 25 64 8 [(.int .i64 0), (.int .i64 0), (.int .i64 0), (.int .i64 0), (.int .i64 0), (.int .i64 0), (.int .i64 0), (.int .u32 0)] (.tmp 12) (.tmp 35)),
            .p none 5 (.mv (.tmp 36))]))
      (.reg [.p none 37 (.bin .add .i64 (.tmp 10) (.const (.int .i64 1))),
          .p none 10 (.mv (.tmp 37))])))))))
  (.seq (.seq (.reg [.p none 38 (.mv (.tmp 4)),
      .l none (some 39) (.call 49 [(.tmp 38)]),
      .p none 40 (.fld 0 none (.tmp 39)),
      .p none 41 (.bin .neq .i64 (.tmp 40) (.const (.int .i64 0))),
      .p none 42 (.mv (.tmp 41)),
      .split 42,
      .p (some (42, false)) 43 (.mv (.tmp 5)),
      .l (some (42, false)) (some 44) (.call 35 [(.tmp 43)]),
      .p (some (42, false)) 45 (.bin .neq .i64 (.tmp 44) (.const (.int .i64 0))),
      .p none 46 (.pick (.tmp 42) (.const (.bool true)) (.tmp 45))])
  (.cond (.tmp 46)
    (.seq (.reg [.p none 2 (.mv (.const (.slice none 0 0))),
        .p none 3 (.mv (.const (.int .i64 160)))])
    .ret)
    .skip))
  (.seq (.reg [.p none 47 (.mv (.tmp 5)),
      .p none 2 (.mv (.tmp 47)),
      .p none 3 (.mv (.const (.int .i64 0)))])
  .ret))))))
theorem C33 : compile Try.prog 48 (Try.f33.body.getD .skip) = some M33 := by kernel_rfl

/-- nums.Put -/
def M43 : MC :=
  (.seq (.reg [.p none 2 (.mv (.const (.slice none 0 0)))])
  (.seq (.seq (.reg [.p none 4 (.mv (.tmp 0)),
      .p none 5 (.bin .lss .i64 (.tmp 4) (.const (.int .i64 0)))])
  (.cond (.tmp 5)
    (.seq (.reg [.p none 2 (.mv (.const (.slice none 0 0)))])
    .ret)
    .skip))
  (.seq (.reg [.p none 3 (.mv (.const (.slice none 0 0)))])
  (.seq (.block 0
    (.loop
      (.seq (.seq (.reg [.p none 6 (.mv (.tmp 0)),
          .p none 7 (.bin .geq .i64 (.tmp 6) (.const (.int .i64 128)))])
      (.cond (.tmp 7)
        .skip
        (.exit 0)))
      (.block 1
        (.seq (.reg [.p none 8 (.mv (.tmp 3)),
            .p none 9 (.mv (.tmp 0)),
            .p none 10 (.conv .u8 (.tmp 9)),
            .p none 11 (.bin .or .u8 (.tmp 10) (.const (.int .u8 128))),
            .l none (some 12) (.bs 5 1 1 [(.int .u8 0)] [(0, 1, (.tmp 11))]),
            .l none (some 13) (.app 5 1 1 [(.int .u8 0)] (.tmp 8) (.tmp 12)),
            .p none 3 (.mv (.tmp 13))])
        (.reg [.p none 14 (.mv (.tmp 0)),
            .p none 15 (.shf .shr (.tmp 14) (.const (.int .u64 7))),
            .p none 0 (.mv (.tmp 15))]))))))
  (.seq (.reg [.p none 16 (.mv (.tmp 3)),
      .p none 17 (.mv (.tmp 0)),
      .p none 18 (.conv .u8 (.tmp 17)),
      .l none (some 19) (.bs 5 1 1 [(.int .u8 0)] [(0, 1, (.tmp 18))]),
      .l none (some 20) (.app 5 1 1 [(.int .u8 0)] (.tmp 16) (.tmp 19)),
      .p none 2 (.mv (.tmp 20))])
  .ret)))))
theorem C43 : compile Try.prog 21 (Try.f43.body.getD .skip) = some M43 := by kernel_rfl

/-- nums.Fixed -/
def M44 : MC :=
  (.seq (.reg [.p none 4 (.mv (.const (.slice none 0 0)))])
  (.seq (.seq (.reg [.p none 7 (.mv (.tmp 1)),
      .p none 8 (.bin .lss .i64 (.tmp 7) (.const (.int .i64 1))),
      .p none 9 (.mv (.tmp 8)),
      .split 9,
      .p (some (9, false)) 10 (.mv (.tmp 1)),
      .p (some (9, false)) 11 (.bin .gtr .i64 (.tmp 10) (.const (.int .i64 8))),
      .p none 12 (.pick (.tmp 9) (.const (.bool true)) (.tmp 11))])
  (.cond (.tmp 12)
    (.seq (.reg [.p none 4 (.mv (.const (.slice none 0 0)))])
    .ret)
    .skip))
  (.seq (.reg [.p none 13 (.mv (.tmp 1)),
      .l none (some 14) (.mks 5 1 1 [(.int .u8 0)] (.tmp 13) (.tmp 13)),
      .p none 5 (.mv (.tmp 14))])
  (.seq (.seq (.reg [.p none 15 (.mv (.tmp 5)),
      .p none 16 (.len (.tmp 15)),
      .p none 17 (.mv (.const (.int .i64 0)))])
  (.block 0
    (.loop
      (.seq (.reg [.p none 18 (.bin .lss .i64 (.tmp 17) (.tmp 16))])
      (.seq (.cond (.tmp 18)
        .skip
        (.exit 0))
      (.seq (.block 1
        (.seq (.reg [.p none 19 (.mv (.tmp 17)),
            .p none 6 (.mv (.tmp 19))])
        (.reg [.p none 20 (.mv (.tmp 5)),
            .p none 21 (.mv (.tmp 6)),
            .p none 22 (.mv (.tmp 0)),
            .p none 23 (.mv (.tmp 6)),
            .p none 24 (.bin .mul .i64 (.const (.int .i64 8)) (.tmp 23)),
            .p none 25 (.shf .shr (.tmp 22) (.tmp 24)),
            .p none 26 (.conv .u8 (.tmp 25)),
            .p none 27 (.idx 1 (.tmp 20) (.tmp 21)),
            .l none none (.st 1 (.tmp 27) (.tmp 26))])))
      (.reg [.p none 28 (.bin .add .i64 (.tmp 17) (.const (.int .i64 1))),
          .p none 17 (.mv (.tmp 28))])))))))
  (.seq (.reg [.p none 29 (.mv (.tmp 5)),
      .p none 4 (.mv (.tmp 29))])
  .ret)))))
theorem C44 : compile Try.prog 30 (Try.f44.body.getD .skip) = some M44 := by kernel_rfl

/-- nums.NewCursor -/
def M46 : MC :=
  (.seq (.reg [.p none 2 (.mv (.const (.pointer none)))])
  (.seq (.reg [.p none 3 (.mv (.tmp 0)),
      .l none (some 4) (.app 5 1 1 [(.int .u8 0)] (.const (.slice none 0 0)) (.tmp 3)),
      .p none 5 (.bld [(.slice none 0 0), (.int .i64 0), (.int .i64 0)] [(0, 1, (.tmp 4))]),
      .l none (some 6) (.bx 94 (.tmp 5)),
      .p none 2 (.mv (.tmp 6))])
  .ret))
theorem C46 : compile Try.prog 7 (Try.f46.body.getD .skip) = some M46 := by kernel_rfl

/-- (*nums.Cursor).Num -/
def M47 : MC :=
  (.seq (.reg [.l none (some 3) (.bx 2 (.tmp 1)),
      .p none 4 (.mv (.const (.int .i64 0)))])
  (.seq (.reg [.l none (some 5) (.al 2 [(.int .i64 0)])])
  (.seq (.reg [.p none 6 (.mv (.tmp 0)),
      .p none 7 (.mkf (.func 60) [] [(.tmp 3), (.tmp 5)]),
      .l none (some 8) (.call 59 [(.tmp 6), (.tmp 7)])])
  (.seq (.reg [.l none (some 9) (.ld none (.tmp 5)),
      .p none 4 (.mv (.tmp 9))])
  .ret))))
theorem C47 : compile Try.prog 10 (Try.f47.body.getD .skip) = some M47 := by kernel_rfl

/-- (*nums.Cursor).Fixed -/
def M48 : MC :=
  (.seq (.reg [.l none (some 3) (.bx 3 (.tmp 1)),
      .p none 4 (.mv (.const (.int .u64 0)))])
  (.seq (.reg [.l none (some 5) (.al 77 [(.int .u64 0)])])
  (.seq (.reg [.p none 6 (.mv (.tmp 0)),
      .p none 7 (.mkf (.func 62) [] [(.tmp 3), (.tmp 5)]),
      .l none (some 8) (.call 59 [(.tmp 6), (.tmp 7)])])
  (.seq (.reg [.l none (some 9) (.ld none (.tmp 5)),
      .p none 4 (.mv (.tmp 9))])
  .ret))))
theorem C48 : compile Try.prog 10 (Try.f48.body.getD .skip) = some M48 := by kernel_rfl

/-- (*nums.Cursor).End -/
def M49 : MC :=
  (.seq (.reg [.l none (some 2) (.al 83 [(.int .i64 0), (.int .i64 0)])])
  (.seq (.block 0
    (.seq (.reg [.p none 4 (.mv (.tmp 0)),
        .p none 5 (.isnil false 0 (.tmp 4)),
        .p none 3 (.mv (.tmp 5))])
    (.cond (.tmp 3)
      (.seq (.reg [.p none 6 (.bld [(.int .i64 0), (.int .i64 0)] [(0, 1, (.const (.int .i64 1)))]),
          .l none none (.st 2 (.tmp 2) (.tmp 6))])
      .ret)
      (.seq (.reg [.p none 8 (.mv (.tmp 0)),
          .p none 9 (.nilchk (.tmp 8)),
          .p none 10 (.fa 2 (.tmp 9)),
          .l none (some 11) (.ld none (.tmp 10)),
          .p none 12 (.bin .neq .i64 (.tmp 11) (.const (.int .i64 0))),
          .p none 7 (.mv (.tmp 12))])
      (.cond (.tmp 7)
        (.seq (.dreg (.line [.qp 0 none 13 (.mv (.tmp 0)),
            .qp 1 none 14 (.nilchk (.tmp 13)),
            .qp 2 none 15 (.fa 2 (.tmp 14)),
            .qp 4 none 17 (.mv (.tmp 0)),
            .qp 5 none 18 (.nilchk (.tmp 17)),
            .qp 6 none 19 (.fa 1 (.tmp 18)),
            .ql 7 none 20 none (.tmp 19),
            .l 3 none (some 16) (.ld none (.tmp 15)),
            .qp 8 none 21 (.bld [(.int .i64 0), (.int .i64 0)] [(0, 1, (.tmp 16)), (1, 1, (.tmp 20))]),
            .l 9 none none (.st 2 (.tmp 2) (.tmp 21))]))
        .ret)
        (.seq (.dreg (.line [.qp 0 none 23 (.mv (.tmp 0)),
            .qp 1 none 24 (.nilchk (.tmp 23)),
            .qp 2 none 25 (.fa 1 (.tmp 24)),
            .qp 4 none 27 (.mv (.tmp 0)),
            .qp 5 none 28 (.nilchk (.tmp 27)),
            .qp 6 none 29 (.fa 0 (.tmp 28)),
            .ql 7 none 30 none (.tmp 29),
            .qp 8 none 31 (.len (.tmp 30)),
            .l 3 none (some 26) (.ld none (.tmp 25)),
            .qp 9 none 32 (.bin .lss .i64 (.tmp 26) (.tmp 31)),
            .qp 10 none 22 (.mv (.tmp 32))]))
        (.cond (.tmp 22)
          (.seq (.reg [.p none 33 (.mv (.tmp 0)),
              .p none 34 (.nilchk (.tmp 33)),
              .p none 35 (.fa 1 (.tmp 34)),
              .l none (some 36) (.ld none (.tmp 35)),
              .p none 37 (.bld [(.int .i64 0), (.int .i64 0)] [(0, 1, (.const (.int .i64 22))), (1, 1, (.tmp 36))]),
              .l none none (.st 2 (.tmp 2) (.tmp 37))])
          .ret)
          .skip)))))))
  (.seq (.reg [.p none 38 (.bld [(.int .i64 0), (.int .i64 0)] []),
      .l none none (.st 2 (.tmp 2) (.tmp 38))])
  .ret)))
theorem C49 : compile Try.prog 39 (Try.f49.body.getD .skip) = some M49 := by kernel_rfl

/-- (*nums.Cursor).reads -/
def M59 : MC :=
  (.seq (.seq (.reg [.p none 6 (.mv (.tmp 0)),
      .p none 7 (.isnil false 0 (.tmp 6)),
      .p none 8 (.mv (.tmp 7)),
      .split 8,
      .p (some (8, false)) 9 (.mv (.tmp 0)),
      .p (some (8, false)) 10 (.nilchk (.tmp 9)),
      .p (some (8, false)) 11 (.fa 2 (.tmp 10)),
      .l (some (8, false)) (some 12) (.ld none (.tmp 11)),
      .p (some (8, false)) 13 (.bin .neq .i64 (.tmp 12) (.const (.int .i64 0))),
      .p none 14 (.pick (.tmp 8) (.const (.bool true)) (.tmp 13))])
  (.cond (.tmp 14)
    .ret
    .skip))
  (.seq (.dreg (.line [.qp 0 none 16 (.mv (.tmp 1)),
      .qp 1 none 17 (.mv (.tmp 0)),
      .qp 2 none 18 (.nilchk (.tmp 17)),
      .qp 3 none 19 (.fa 0 (.tmp 18)),
      .qp 5 none 21 (.mv (.tmp 0)),
      .qp 6 none 22 (.nilchk (.tmp 21)),
      .qp 7 none 23 (.fa 1 (.tmp 22)),
      .ql 8 none 24 none (.tmp 23),
      .l 4 none (some 20) (.ld none (.tmp 19)),
      .qp 9 none 25 (.slc 1 (.tmp 20) (some (.tmp 24)) none none),
      .l 10 none (some 26) (.callv (.tmp 16) [(.tmp 25)]),
      .qp 11 none 15 (.mv (.tmp 26)),
      .qp 12 none 27 (.ext 0 (.tmp 15)),
      .qp 13 none 28 (.ext 1 (.tmp 15)),
      .qp 14 none 4 (.mv (.tmp 27)),
      .qp 15 none 5 (.mv (.tmp 28))]))
  (.seq (.seq (.reg [.p none 29 (.mv (.tmp 5)),
      .p none 30 (.bin .neq .i64 (.tmp 29) (.const (.int .i64 0)))])
  (.cond (.tmp 30)
    (.seq (.reg [.p none 31 (.mv (.tmp 0)),
        .p none 32 (.mv (.tmp 5)),
        .p none 33 (.nilchk (.tmp 31)),
        .p none 34 (.fa 2 (.tmp 33)),
        .l none none (.st 1 (.tmp 34) (.tmp 32))])
    .ret)
    .skip))
  (.reg [.p none 35 (.mv (.tmp 0)),
      .p none 36 (.nilchk (.tmp 35)),
      .p none 37 (.fa 1 (.tmp 36)),
      .l none (some 38) (.ld none (.tmp 37)),
      .p none 39 (.mv (.tmp 4)),
      .p none 40 (.bin .add .i64 (.tmp 38) (.tmp 39)),
      .p none 41 (.nilchk (.tmp 35)),
      .p none 42 (.fa 1 (.tmp 41)),
      .l none none (.st 1 (.tmp 42) (.tmp 40))]))))
theorem C59 : compile Try.prog 43 (Try.f59.body.getD .skip) = some M59 := by kernel_rfl

/-- (*nums.Cursor).Num$1 -/
def M60 : MC :=
  (.seq (.reg [.p none 4 (.mv (.const (.int .i64 0))),
      .p none 5 (.mv (.const (.int .i64 0)))])
  (.seq (.reg [.p none 10 (.mv (.tmp 0)),
      .l none (some 11) (.call 61 [(.tmp 10)]),
      .p none 9 (.mv (.tmp 11)),
      .p none 12 (.ext 0 (.tmp 9)),
      .p none 13 (.ext 1 (.tmp 9)),
      .p none 14 (.ext 2 (.tmp 9)),
      .p none 6 (.mv (.tmp 12)),
      .p none 7 (.mv (.tmp 13)),
      .p none 8 (.mv (.tmp 14))])
  (.seq (.seq (.reg [.p none 15 (.mv (.tmp 8)),
      .p none 16 (.bin .eql .i64 (.tmp 15) (.const (.int .i64 0))),
      .p none 17 (.mv (.tmp 16)),
      .split 17,
      .p (some (17, true)) 18 (.mv (.tmp 6)),
      .l (some (17, true)) (some 19) (.ld none (.tmp 1)),
      .p (some (17, true)) 20 (.bin .gtr .i64 (.tmp 18) (.tmp 19)),
      .p none 21 (.pick (.tmp 17) (.tmp 20) (.const (.bool false)))])
  (.cond (.tmp 21)
    (.reg [.p none 8 (.mv (.const (.int .i64 23)))])
    .skip))
  (.seq (.seq (.reg [.p none 22 (.mv (.tmp 8)),
      .p none 23 (.bin .eql .i64 (.tmp 22) (.const (.int .i64 0)))])
  (.cond (.tmp 23)
    (.reg [.p none 24 (.mv (.tmp 6)),
        .l none none (.st 1 (.tmp 2) (.tmp 24))])
    .skip))
  (.seq (.reg [.p none 25 (.mv (.tmp 7)),
      .p none 26 (.mv (.tmp 8)),
      .p none 4 (.mv (.tmp 25)),
      .p none 5 (.mv (.tmp 26))])
  .ret)))))
theorem C60 : compile Try.prog 27 (Try.f60.body.getD .skip) = some M60 := by kernel_rfl

/-- nums.Get -/
def M61 : MC :=
  (.seq (.reg [.p none 2 (.mv (.const (.int .i64 0))),
      .p none 3 (.mv (.const (.int .i64 0))),
      .p none 4 (.mv (.const (.int .i64 0)))])
  (.seq (.reg [.p none 5 (.mv (.const (.int .i64 0)))])
  (.seq (.seq (.reg [.p none 8 (.mv (.tmp 0)),
      .p none 9 (.len (.tmp 8)),
      .p none 10 (.mv (.const (.int .i64 0)))])
  (.block 0
    (.loop
      (.seq (.reg [.p none 11 (.bin .lss .i64 (.tmp 10) (.tmp 9))])
      (.seq (.cond (.tmp 11)
        .skip
        (.exit 0))
      (.seq (.block 1
        (.seq (.reg [.p none 12 (.mv (.tmp 10)),
            .p none 13 (.idx 1 (.tmp 8) (.tmp 10)),
            .l none (some 14) (.ld none (.tmp 13)),
            .p none 6 (.mv (.tmp 12)),
            .p none 7 (.mv (.tmp 14))])
        (.seq (.seq (.reg [.p none 15 (.mv (.tmp 6)),
            .p none 16 (.bin .eql .i64 (.tmp 15) (.const (.int .i64 8))),
            .p none 17 (.mv (.tmp 16)),
            .split 17,
            .p (some (17, true)) 18 (.mv (.tmp 7)),
            .p (some (17, true)) 19 (.bin .geq .u8 (.tmp 18) (.const (.int .u8 128))),
            .p none 20 (.pick (.tmp 17) (.tmp 19) (.const (.bool false)))])
        (.cond (.tmp 20)
          (.seq (.reg [.p none 2 (.mv (.const (.int .i64 0))),
              .p none 3 (.mv (.const (.int .i64 0))),
              .p none 4 (.mv (.const (.int .i64 21)))])
          .ret)
          .skip))
        (.seq (.reg [.p none 21 (.mv (.tmp 5)),
            .p none 22 (.mv (.tmp 7)),
            .p none 23 (.bin .and .u8 (.tmp 22) (.const (.int .u8 127))),
            .p none 24 (.conv .i64 (.tmp 23)),
            .p none 25 (.mv (.tmp 6)),
            .p none 26 (.bin .mul .i64 (.const (.int .i64 7)) (.tmp 25)),
            .p none 27 (.shf .shl (.tmp 24) (.tmp 26)),
            .p none 28 (.bin .or .i64 (.tmp 21) (.tmp 27)),
            .p none 5 (.mv (.tmp 28))])
        (.seq (.reg [.p none 29 (.mv (.tmp 7)),
            .p none 30 (.bin .lss .u8 (.tmp 29) (.const (.int .u8 128)))])
        (.cond (.tmp 30)
          (.seq (.seq (.reg [.p none 31 (.mv (.tmp 7)),
              .p none 32 (.bin .eql .u8 (.tmp 31) (.const (.int .u8 0))),
              .p none 33 (.mv (.tmp 32)),
              .split 33,
              .p (some (33, true)) 34 (.mv (.tmp 6)),
              .p (some (33, true)) 35 (.bin .gtr .i64 (.tmp 34) (.const (.int .i64 0))),
              .p none 36 (.pick (.tmp 33) (.tmp 35) (.const (.bool false)))])
          (.cond (.tmp 36)
            (.seq (.reg [.p none 2 (.mv (.const (.int .i64 0))),
                .p none 3 (.mv (.const (.int .i64 0))),
                .p none 4 (.mv (.const (.int .i64 21)))])
            .ret)
            .skip))
          (.seq (.reg [.p none 37 (.mv (.tmp 5)),
              .p none 38 (.mv (.tmp 6)),
              .p none 39 (.bin .add .i64 (.tmp 38) (.const (.int .i64 1))),
              .p none 2 (.mv (.tmp 37)),
              .p none 3 (.mv (.tmp 39)),
              .p none 4 (.mv (.const (.int .i64 0)))])
          .ret))
          .skip))))))
      (.reg [.p none 40 (.bin .add .i64 (.tmp 10) (.const (.int .i64 1))),
          .p none 10 (.mv (.tmp 40))])))))))
  (.seq (.reg [.p none 2 (.mv (.const (.int .i64 0))),
      .p none 3 (.mv (.const (.int .i64 0))),
      .p none 4 (.mv (.const (.int .i64 20)))])
  .ret))))
theorem C61 : compile Try.prog 41 (Try.f61.body.getD .skip) = some M61 := by kernel_rfl

/-- (*nums.Cursor).Fixed$1 -/
def M62 : MC :=
  (.seq (.reg [.p none 4 (.mv (.const (.int .i64 0))),
      .p none 5 (.mv (.const (.int .i64 0)))])
  (.seq (.block 0
    (.seq (.reg [.l none (some 7) (.ld none (.tmp 1)),
        .p none 8 (.bin .lss .i64 (.tmp 7) (.const (.int .i64 1))),
        .p none 9 (.mv (.tmp 8)),
        .split 9,
        .l (some (9, false)) (some 10) (.ld none (.tmp 1)),
        .p (some (9, false)) 11 (.bin .gtr .i64 (.tmp 10) (.const (.int .i64 8))),
        .p none 12 (.pick (.tmp 9) (.const (.bool true)) (.tmp 11)),
        .p none 6 (.mv (.tmp 12))])
    (.cond (.tmp 6)
      (.seq (.reg [.p none 4 (.mv (.const (.int .i64 0))),
          .p none 5 (.mv (.const (.int .i64 23)))])
      .ret)
      (.seq (.reg [.l none (some 14) (.ld none (.tmp 1)),
          .p none 15 (.mv (.tmp 0)),
          .p none 16 (.len (.tmp 15)),
          .p none 17 (.bin .gtr .i64 (.tmp 14) (.tmp 16)),
          .p none 13 (.mv (.tmp 17))])
      (.cond (.tmp 13)
        (.seq (.reg [.p none 4 (.mv (.const (.int .i64 0))),
            .p none 5 (.mv (.const (.int .i64 20)))])
        .ret)
        .skip)))))
  (.seq (.reg [.p none 18 (.mv (.tmp 0)),
      .l none (some 19) (.ld none (.tmp 1)),
      .p none 20 (.slc 1 (.tmp 18) none (some (.tmp 19)) none),
      .l none (some 21) (.call 63 [(.tmp 20)]),
      .l none none (.st 1 (.tmp 2) (.tmp 21))])
  (.seq (.reg [.l none (some 22) (.ld none (.tmp 1)),
      .p none 4 (.mv (.tmp 22)),
      .p none 5 (.mv (.const (.int .i64 0)))])
  .ret))))
theorem C62 : compile Try.prog 23 (Try.f62.body.getD .skip) = some M62 := by kernel_rfl

/-- nums.Word -/
def M63 : MC :=
  (.seq (.reg [.p none 2 (.mv (.const (.int .u64 0)))])
  (.seq (.reg [.p none 3 (.mv (.const (.int .u64 0)))])
  (.seq (.seq (.reg [.p none 5 (.mv (.tmp 0)),
      .p none 6 (.len (.tmp 5)),
      .p none 7 (.mm false .i64 (.tmp 6) [(.const (.int .i64 8))]),
      .p none 8 (.mv (.const (.int .i64 0)))])
  (.block 0
    (.loop
      (.seq (.reg [.p none 9 (.bin .lss .i64 (.tmp 8) (.tmp 7))])
      (.seq (.cond (.tmp 9)
        .skip
        (.exit 0))
      (.seq (.block 1
        (.seq (.reg [.p none 10 (.mv (.tmp 8)),
            .p none 4 (.mv (.tmp 10))])
        (.reg [.p none 11 (.mv (.tmp 3)),
            .p none 12 (.mv (.tmp 0)),
            .p none 13 (.mv (.tmp 4)),
            .p none 14 (.idx 1 (.tmp 12) (.tmp 13)),
            .l none (some 15) (.ld none (.tmp 14)),
            .p none 16 (.conv .u64 (.tmp 15)),
            .p none 17 (.mv (.tmp 4)),
            .p none 18 (.bin .mul .i64 (.const (.int .i64 8)) (.tmp 17)),
            .p none 19 (.shf .shl (.tmp 16) (.tmp 18)),
            .p none 20 (.bin .or .u64 (.tmp 11) (.tmp 19)),
            .p none 3 (.mv (.tmp 20))])))
      (.reg [.p none 21 (.bin .add .i64 (.tmp 8) (.const (.int .i64 1))),
          .p none 8 (.mv (.tmp 21))])))))))
  (.seq (.reg [.p none 22 (.mv (.tmp 3)),
      .p none 2 (.mv (.tmp 22))])
  .ret))))
theorem C63 : compile Try.prog 23 (Try.f63.body.getD .skip) = some M63 := by kernel_rfl

/-- winnowlaw16.FaultCodes -/
def M8 : MC :=
  (.seq (.reg [.p none 4 (.mv (.const (.bool false)))])
  (.seq (.reg [.p none 31 (.mv (.tmp 0)),
      .l none (some 32) (.call 19 [(.tmp 31)]),
      .p none 5 (.mv (.tmp 32))])
  (.seq (.reg [.p none 34 (.mv (.tmp 5)),
      .p none 35 (.mv (.tmp 0)),
      .p none 36 (.len (.tmp 35)),
      .p none 37 (.slc 8 (.tmp 34) none (some (.tmp 36)) none),
      .l none (some 38) (.call 31 [(.tmp 37)]),
      .p none 33 (.mv (.tmp 38)),
      .p none 39 (.ext 0 (.tmp 33)),
      .p none 40 (.ext 1 (.tmp 33)),
      .p none 6 (.mv (.tmp 39)),
      .p none 7 (.mv (.tmp 40))])
  (.seq (.reg [.p none 42 (.mv (.tmp 5)),
      .p none 43 (.mv (.tmp 0)),
      .p none 44 (.len (.tmp 43)),
      .p none 45 (.slc 8 (.tmp 42) none (some (.tmp 44)) none),
      .l none (some 46) (.call 31 [(.tmp 45)]),
      .p none 41 (.mv (.tmp 46)),
      .p none 47 (.ext 0 (.tmp 41)),
      .p none 48 (.ext 1 (.tmp 41)),
      .p none 8 (.mv (.tmp 47)),
      .p none 9 (.mv (.tmp 48))])
  (.seq (.reg [.p none 49 (.mv (.tmp 6)),
      .l none (some 50) (.call 12 [(.tmp 49), (.const (.int .u8 7))]),
      .p none 10 (.mv (.tmp 50))])
  (.seq (.reg [.p none 52 (.mv (.tmp 0)),
      .l none (some 53) (.call 32 [(.tmp 52)]),
      .p none 51 (.mv (.tmp 53)),
      .p none 54 (.ext 0 (.tmp 51)),
      .p none 55 (.ext 1 (.tmp 51)),
      .p none 11 (.mv (.tmp 54)),
      .p none 12 (.mv (.tmp 55))])
  (.seq (.reg [.p none 56 (.mv (.tmp 1)),
      .l none (some 57) (.call 10 [(.tmp 56)]),
      .p none 13 (.mv (.tmp 57))])
  (.seq (.reg [.p none 59 (.mv (.tmp 13)),
      .p none 60 (.mv (.tmp 1)),
      .p none 61 (.len (.tmp 60)),
      .p none 62 (.slc 1 (.tmp 59) none (some (.tmp 61)) none),
      .l none (some 63) (.call 33 [(.tmp 62)]),
      .p none 58 (.mv (.tmp 63)),
      .p none 64 (.ext 0 (.tmp 58)),
      .p none 65 (.ext 1 (.tmp 58)),
      .p none 14 (.mv (.tmp 64)),
      .p none 15 (.mv (.tmp 65))])
  (.seq (.reg [.p none 67 (.mv (.tmp 13)),
      .p none 68 (.mv (.tmp 1)),
      .p none 69 (.len (.tmp 68)),
      .p none 70 (.slc 1 (.tmp 67) none (some (.tmp 69)) none),
      .l none (some 71) (.call 33 [(.tmp 70)]),
      .p none 66 (.mv (.tmp 71)),
      .p none 72 (.ext 0 (.tmp 66)),
      .p none 73 (.ext 1 (.tmp 66)),
      .p none 16 (.mv (.tmp 72)),
      .p none 17 (.mv (.tmp 73))])
  (.seq (.reg [.p none 74 (.mv (.tmp 14)),
      .l none (some 75) (.call 25 [(.tmp 74), (.const (.int .i64 78))]),
      .p none 18 (.mv (.tmp 75))])
  (.seq (.reg [.p none 77 (.mv (.tmp 1)),
      .l none (some 78) (.call 34 [(.tmp 77)]),
      .p none 76 (.mv (.tmp 78)),
      .p none 79 (.ext 0 (.tmp 76)),
      .p none 80 (.ext 1 (.tmp 76)),
      .p none 19 (.mv (.tmp 79)),
      .p none 20 (.mv (.tmp 80))])
  (.seq (.reg [.p none 81 (.mv (.tmp 5)),
      .p none 82 (.mv (.tmp 0)),
      .p none 83 (.len (.tmp 82)),
      .p none 84 (.slc 8 (.tmp 81) none (some (.tmp 83)) none),
      .l none (some 85) (.call 35 [(.tmp 84)]),
      .p none 86 (.mv (.tmp 0)),
      .l none (some 87) (.call 28 [(.tmp 86)]),
      .p none 88 (.bin .eql .i64 (.tmp 85) (.tmp 87)),
      .p none 89 (.mv (.tmp 88)),
      .split 89,
      .p (some (89, true)) 90 (.mv (.tmp 7)),
      .p (some (89, true)) 91 (.mv (.tmp 12)),
      .p (some (89, true)) 92 (.bin .eql .i64 (.tmp 90) (.tmp 91)),
      .p none 93 (.pick (.tmp 89) (.tmp 92) (.const (.bool false))),
      .p none 94 (.mv (.tmp 93)),
      .split 94,
      .p (some (94, true)) 95 (.mv (.tmp 9)),
      .p (some (94, true)) 96 (.mv (.tmp 12)),
      .p (some (94, true)) 97 (.bin .eql .i64 (.tmp 95) (.tmp 96)),
      .p none 98 (.pick (.tmp 94) (.tmp 97) (.const (.bool false))),
      .p none 99 (.mv (.tmp 98)),
      .split 99,
      .p (some (99, true)) 100 (.mv (.tmp 8)),
      .p (some (99, true)) 101 (.mv (.tmp 11)),
      .l (some (99, true)) (some 102) (.call 14 [(.tmp 100), (.tmp 101)]),
      .p none 103 (.pick (.tmp 99) (.tmp 102) (.const (.bool false))),
      .p none 104 (.mv (.tmp 103)),
      .split 104,
      .p (some (104, true)) 105 (.mv (.tmp 10)),
      .p (some (104, true)) 106 (.mv (.tmp 11)),
      .p (some (104, true)) 107 (.len (.tmp 106)),
      .p (some (104, true)) 108 (.bin .add .i64 (.tmp 107) (.const (.int .i64 64))),
      .p (some (104, true)) 109 (.bin .eql .i64 (.tmp 105) (.tmp 108)),
      .p none 110 (.pick (.tmp 104) (.tmp 109) (.const (.bool false))),
      .p none 111 (.mv (.tmp 110)),
      .split 111,
      .p (some (111, true)) 112 (.mv (.tmp 5)),
      .p (some (111, true)) 113 (.mv (.tmp 0)),
      .l (some (111, true)) (some 114) (.call 19 [(.tmp 113)]),
      .l (some (111, true)) (some 115) (.call 22 [(.tmp 112), (.tmp 114)]),
      .p none 116 (.pick (.tmp 111) (.tmp 115) (.const (.bool false))),
      .p none 21 (.mv (.tmp 116))])
  (.seq (.seq (.reg [.p none 117 (.mv (.tmp 21)),
      .p none 118 (.not (.tmp 117)),
      .p none 119 (.mv (.tmp 118)),
      .split 119,
      .p (some (119, false)) 120 (.mv (.tmp 15)),
      .p (some (119, false)) 121 (.mv (.tmp 20)),
      .p (some (119, false)) 122 (.bin .neq .i64 (.tmp 120) (.tmp 121)),
      .p none 123 (.pick (.tmp 119) (.const (.bool true)) (.tmp 122)),
      .p none 124 (.mv (.tmp 123)),
      .split 124,
      .p (some (124, false)) 125 (.mv (.tmp 17)),
      .p (some (124, false)) 126 (.mv (.tmp 20)),
      .p (some (124, false)) 127 (.bin .neq .i64 (.tmp 125) (.tmp 126)),
      .p none 128 (.pick (.tmp 124) (.const (.bool true)) (.tmp 127)),
      .p none 129 (.mv (.tmp 128)),
      .split 129,
      .p (some (129, false)) 130 (.mv (.tmp 16)),
      .p (some (129, false)) 131 (.mv (.tmp 19)),
      .l (some (129, false)) (some 132) (.call 22 [(.tmp 130), (.tmp 131)]),
      .p (some (129, false)) 133 (.not (.tmp 132)),
      .p none 134 (.pick (.tmp 129) (.const (.bool true)) (.tmp 133)),
      .p none 135 (.mv (.tmp 134)),
      .split 135,
      .p (some (135, false)) 136 (.mv (.tmp 18)),
      .p (some (135, false)) 137 (.mv (.tmp 19)),
      .p (some (135, false)) 138 (.len (.tmp 137)),
      .p (some (135, false)) 139 (.bin .add .i64 (.tmp 138) (.const (.int .i64 64))),
      .p (some (135, false)) 140 (.bin .neq .i64 (.tmp 136) (.tmp 139)),
      .p none 141 (.pick (.tmp 135) (.const (.bool true)) (.tmp 140)),
      .p none 142 (.mv (.tmp 141)),
      .split 142,
      .p (some (142, false)) 143 (.mv (.tmp 13)),
      .p (some (142, false)) 144 (.mv (.tmp 1)),
      .l (some (142, false)) (some 145) (.call 10 [(.tmp 144)]),
      .l (some (142, false)) (some 146) (.call 14 [(.tmp 143), (.tmp 145)]),
      .p (some (142, false)) 147 (.not (.tmp 146)),
      .p none 148 (.pick (.tmp 142) (.const (.bool true)) (.tmp 147))])
  (.cond (.tmp 148)
    (.seq (.reg [.p none 4 (.mv (.const (.bool false)))])
    .ret)
    .skip))
  (.seq (.reg [.p none 150 (.mv (.tmp 5)),
      .p none 151 (.mv (.tmp 0)),
      .p none 152 (.len (.tmp 151)),
      .p none 153 (.slc 8 (.tmp 150) none (some (.tmp 152)) none),
      .l none (some 154) (.call 36 [(.tmp 153)]),
      .l none (some 155) (.call 31 [(.tmp 154)]),
      .p none 149 (.mv (.tmp 155)),
      .p none 156 (.ext 0 (.tmp 149)),
      .p none 157 (.ext 1 (.tmp 149)),
      .p none 22 (.mv (.tmp 156)),
      .p none 23 (.mv (.tmp 157))])
  (.seq (.reg [.p none 159 (.mv (.tmp 0)),
      .l none (some 160) (.call 19 [(.tmp 159)]),
      .p none 161 (.mv (.tmp 0)),
      .p none 162 (.len (.tmp 161)),
      .p none 163 (.slc 8 (.tmp 160) none (some (.tmp 162)) none),
      .l none (some 164) (.call 36 [(.tmp 163)]),
      .l none (some 165) (.call 32 [(.tmp 164)]),
      .p none 158 (.mv (.tmp 165)),
      .p none 166 (.ext 0 (.tmp 158)),
      .p none 167 (.ext 1 (.tmp 158)),
      .p none 24 (.mv (.tmp 166)),
      .p none 25 (.mv (.tmp 167))])
  (.seq (.reg [.p none 169 (.mv (.tmp 13)),
      .p none 170 (.mv (.tmp 1)),
      .p none 171 (.len (.tmp 170)),
      .p none 172 (.slc 1 (.tmp 169) none (some (.tmp 171)) none),
      .p none 173 (.mv (.tmp 1)),
      .p none 174 (.len (.tmp 173)),
      .p none 175 (.bin .sub .i64 (.tmp 174) (.const (.int .i64 1))),
      .l none (some 176) (.call 15 [(.tmp 172), (.tmp 175)]),
      .l none (some 177) (.call 33 [(.tmp 176)]),
      .p none 168 (.mv (.tmp 177)),
      .p none 178 (.ext 0 (.tmp 168)),
      .p none 179 (.ext 1 (.tmp 168)),
      .p none 26 (.mv (.tmp 178)),
      .p none 27 (.mv (.tmp 179))])
  (.seq (.reg [.p none 181 (.mv (.tmp 1)),
      .l none (some 182) (.call 10 [(.tmp 181)]),
      .p none 183 (.mv (.tmp 1)),
      .p none 184 (.len (.tmp 183)),
      .p none 185 (.slc 1 (.tmp 182) none (some (.tmp 184)) none),
      .p none 186 (.mv (.tmp 1)),
      .p none 187 (.len (.tmp 186)),
      .p none 188 (.bin .sub .i64 (.tmp 187) (.const (.int .i64 1))),
      .l none (some 189) (.call 15 [(.tmp 185), (.tmp 188)]),
      .l none (some 190) (.call 34 [(.tmp 189)]),
      .p none 180 (.mv (.tmp 190)),
      .p none 191 (.ext 0 (.tmp 180)),
      .p none 192 (.ext 1 (.tmp 180)),
      .p none 28 (.mv (.tmp 191)),
      .p none 29 (.mv (.tmp 192))])
  (.seq (.seq (.reg [.p none 193 (.mv (.tmp 0)),
      .p none 194 (.len (.tmp 193)),
      .p none 195 (.bin .gtr .i64 (.tmp 194) (.const (.int .i64 0)))])
  (.cond (.tmp 195)
    (.seq (.reg [.p none 196 (.mv (.tmp 0)),
        .l none (some 197) (.call 19 [(.tmp 196)]),
        .p none 198 (.mv (.tmp 0)),
        .p none 199 (.len (.tmp 198)),
        .p none 200 (.slc 8 (.tmp 197) none (some (.tmp 199)) none),
        .l none (some 201) (.call 36 [(.tmp 200)]),
        .p none 30 (.mv (.tmp 201))])
    (.seq (.reg [.p none 202 (.mv (.tmp 30)),
        .p none 203 (.mv (.tmp 30)),
        .p none 204 (.idx 8 (.tmp 203) (.const (.int .i64 0))),
        .p none 205 (.fa 3 (.tmp 204)),
        .l none (some 206) (.ld none (.tmp 205)),
        .p none 207 (.bin .add .i64 (.tmp 206) (.const (.int .i64 99))),
        .p none 208 (.idx 8 (.tmp 202) (.const (.int .i64 0))),
        .p none 209 (.fa 3 (.tmp 208)),
        .l none none (.st 1 (.tmp 209) (.tmp 207))])
    (.seq (.reg [.p none 210 (.mv (.tmp 5)),
        .p none 211 (.mv (.tmp 5)),
        .p none 212 (.idx 8 (.tmp 211) (.const (.int .i64 0))),
        .p none 213 (.fa 3 (.tmp 212)),
        .l none (some 214) (.ld none (.tmp 213)),
        .p none 215 (.bin .add .i64 (.tmp 214) (.const (.int .i64 99))),
        .p none 216 (.idx 8 (.tmp 210) (.const (.int .i64 0))),
        .p none 217 (.fa 3 (.tmp 216)),
        .l none none (.st 1 (.tmp 217) (.tmp 215))])
    (.seq (.seq (.reg [.p none 218 (.mv (.tmp 5)),
        .p none 219 (.mv (.tmp 0)),
        .p none 220 (.len (.tmp 219)),
        .p none 221 (.slc 8 (.tmp 218) none (some (.tmp 220)) none),
        .l none (some 222) (.call 35 [(.tmp 221)]),
        .p none 223 (.mv (.tmp 30)),
        .l none (some 224) (.call 28 [(.tmp 223)]),
        .p none 225 (.bin .neq .i64 (.tmp 222) (.tmp 224))])
    (.cond (.tmp 225)
      (.seq (.reg [.p none 4 (.mv (.const (.bool false)))])
      .ret)
      .skip))
    (.reg [.p none 226 (.mv (.tmp 5)),
        .p none 227 (.mv (.tmp 5)),
        .p none 228 (.idx 8 (.tmp 227) (.const (.int .i64 0))),
        .p none 229 (.fa 3 (.tmp 228)),
        .l none (some 230) (.ld none (.tmp 229)),
        .p none 231 (.bin .sub .i64 (.tmp 230) (.const (.int .i64 99))),
        .p none 232 (.idx 8 (.tmp 226) (.const (.int .i64 0))),
        .p none 233 (.fa 3 (.tmp 232)),
        .l none none (.st 1 (.tmp 233) (.tmp 231))])))))
    .skip))
  (.seq (.reg [.p none 234 (.mv (.tmp 5)),
      .p none 235 (.mv (.tmp 0)),
      .p none 236 (.len (.tmp 235)),
      .p none 237 (.slc 8 (.tmp 234) none (some (.tmp 236)) none),
      .l none (some 238) (.call 35 [(.tmp 237)]),
      .p none 239 (.mv (.tmp 0)),
      .l none (some 240) (.call 19 [(.tmp 239)]),
      .p none 241 (.mv (.tmp 0)),
      .p none 242 (.len (.tmp 241)),
      .p none 243 (.slc 8 (.tmp 240) none (some (.tmp 242)) none),
      .l none (some 244) (.call 36 [(.tmp 243)]),
      .l none (some 245) (.call 28 [(.tmp 244)]),
      .p none 246 (.bin .eql .i64 (.tmp 238) (.tmp 245)),
      .p none 247 (.mv (.tmp 246)),
      .split 247,
      .p (some (247, true)) 248 (.mv (.tmp 22)),
      .p (some (247, true)) 249 (.mv (.tmp 24)),
      .l (some (247, true)) (some 250) (.call 14 [(.tmp 248), (.tmp 249)]),
      .p none 251 (.pick (.tmp 247) (.tmp 250) (.const (.bool false))),
      .p none 252 (.mv (.tmp 251)),
      .split 252,
      .p (some (252, true)) 253 (.mv (.tmp 23)),
      .p (some (252, true)) 254 (.mv (.tmp 25)),
      .p (some (252, true)) 255 (.bin .eql .i64 (.tmp 253) (.tmp 254)),
      .p none 256 (.pick (.tmp 252) (.tmp 255) (.const (.bool false))),
      .p none 257 (.mv (.tmp 256)),
      .split 257,
      .p (some (257, true)) 258 (.mv (.tmp 26)),
      .p (some (257, true)) 259 (.mv (.tmp 28)),
      .l (some (257, true)) (some 260) (.call 22 [(.tmp 258), (.tmp 259)]),
      .p none 261 (.pick (.tmp 257) (.tmp 260) (.const (.bool false))),
      .p none 262 (.mv (.tmp 261)),
      .split 262,
      .p (some (262, true)) 263 (.mv (.tmp 27)),
      .p (some (262, true)) 264 (.mv (.tmp 29)),
      .p (some (262, true)) 265 (.bin .eql .i64 (.tmp 263) (.tmp 264)),
      .p none 266 (.pick (.tmp 262) (.tmp 265) (.const (.bool false))),
      .p none 267 (.mv (.tmp 266)),
      .split 267,
      .p (some (267, true)) 268 (.mv (.tmp 16)),
      .p (some (267, true)) 269 (.mv (.tmp 19)),
      .l (some (267, true)) (some 270) (.call 22 [(.tmp 268), (.tmp 269)]),
      .p none 271 (.pick (.tmp 267) (.tmp 270) (.const (.bool false))),
      .p none 4 (.mv (.tmp 271))])
  .ret)))))))))))))))))))
theorem C8 : compile Try.prog 272 (Try.f8.body.getD .skip) = some M8 := by kernel_rfl

/-- winnowref16.Encode -/
def M32 : MC :=
  (.seq (.reg [.p none 2 (.mv (.const (.slice none 0 0))),
      .p none 3 (.mv (.const (.int .i64 0)))])
  (.seq (.reg [.p none 10 (.mv (.tmp 0)),
      .l none (some 11) (.call 28 [(.tmp 10)]),
      .p none 4 (.mv (.tmp 11))])
  (.seq (.seq (.reg [.p none 12 (.mv (.tmp 4)),
      .p none 13 (.bin .neq .i64 (.tmp 12) (.const (.int .i64 0)))])
  (.cond (.tmp 13)
    (.seq (.reg [.p none 14 (.mv (.tmp 4)),
        .p none 2 (.mv (.const (.slice none 0 0))),
        .p none 3 (.mv (.tmp 14))])
    .ret)
    .skip))
  (.seq (.reg [.p none 15 (.mv (.tmp 0)),
      .p none 16 (.len (.tmp 15)),
      .l none (some 17) (.call 45 [(.tmp 16)]),
      .p none 5 (.mv (.tmp 17))])
  (.seq (.seq (.reg [.p none 6 (.mv (.const (.int .i64 0)))])
  (.block 0
    (.loop
      (.seq (.seq (.reg [.p none 18 (.mv (.tmp 6)),
          .p none 19 (.mv (.tmp 0)),
          .p none 20 (.len (.tmp 19)),
          .p none 21 (.bin .lss .i64 (.tmp 18) (.tmp 20))])
      (.cond (.tmp 21)
        .skip
        (.exit 0)))
      (.seq (.block 1
        (.seq (.reg [.p none 24 (.mv (.tmp 0)),
            .p none 25 (.mv (.tmp 6)),
            .p none 26 (.idx 8 (.tmp 24) (.tmp 25)),
            .l none (some 27) (.ld (some 8) (.tmp 26)),
            .l none (some 7) (.al 25 [(.int .i64 0), (.int .i64 0), (.int .i64 0), (.int .i64 0), (.int .i64 0), (.int .i64 0), (.int .i64 0), (.int .u32 0)]),
            .l none none (.st 8 (.tmp 7) (.tmp 27))])
        (.seq (.reg [.p none 28 (.mv (.tmp 5)),
            .p none 29 (.fa 0 (.tmp 7)),
            .l none (some 30) (.ld none (.tmp 29)),
            .p none 31 (.conv .u8 (.tmp 30)),
            .p none 32 (.fa 1 (.tmp 7)),
            .l none (some 33) (.ld none (.tmp 32)),
            .p none 34 (.conv .u8 (.tmp 33)),
            .l none (some 35) (.bs 5 2 1 [(.int .u8 0), (.int .u8 0)] [(0, 1, (.tmp 31)), (1, 1, (.tmp 34))]),
            .l none (some 36) (.app 5 1 1 [(.int .u8 0)] (.tmp 28) (.tmp 35)),
            .p none 5 (.mv (.tmp 36))])
        (.seq (.reg [.p none 37 (.mv (.tmp 5)),
            .p none 38 (.fa 2 (.tmp 7)),
            .l none (some 39) (.ld none (.tmp 38)),
            .l none (some 40) (.call 45 [(.tmp 39)]),
            .l none (some 41) (.app 5 1 1 [(.int .u8 0)] (.tmp 37) (.tmp 40)),
            .p none 5 (.mv (.tmp 41))])
        (.seq (.reg [.p none 42 (.mv (.tmp 5)),
            .p none 43 (.fa 3 (.tmp 7)),
            .l none (some 44) (.ld none (.tmp 43)),
            .l none (some 45) (.call 45 [(.tmp 44)]),
            .l none (some 46) (.app 5 1 1 [(.int .u8 0)] (.tmp 42) (.tmp 45)),
            .p none 5 (.mv (.tmp 46))])
        (.seq (.reg [.p none 47 (.mv (.tmp 5)),
            .p none 48 (.fa 4 (.tmp 7)),
            .l none (some 49) (.ld none (.tmp 48)),
            .p none 50 (.conv .u8 (.tmp 49)),
            .l none (some 51) (.bs 5 1 1 [(.int .u8 0)] [(0, 1, (.tmp 50))]),
            .l none (some 52) (.app 5 1 1 [(.int .u8 0)] (.tmp 47) (.tmp 51)),
            .p none 5 (.mv (.tmp 52))])
        (.seq (.reg [.p none 53 (.mv (.tmp 5)),
            .p none 54 (.fa 5 (.tmp 7)),
            .l none (some 55) (.ld none (.tmp 54)),
            .l none (some 56) (.call 45 [(.tmp 55)]),
            .l none (some 57) (.app 5 1 1 [(.int .u8 0)] (.tmp 53) (.tmp 56)),
            .p none 5 (.mv (.tmp 57))])
        (.seq (.seq (.reg [.p none 8 (.mv (.const (.int .i64 0)))])
        (.block 2
          (.loop
            (.seq (.seq (.reg [.p none 58 (.mv (.tmp 8)),
                .p none 59 (.bin .lss .i64 (.tmp 58) (.const (.int .i64 8)))])
            (.cond (.tmp 59)
              .skip
              (.exit 2)))
            (.seq (.block 3
              (.reg [.p none 62 (.mv (.tmp 5)),
                  .p none 63 (.fa 6 (.tmp 7)),
                  .l none (some 64) (.ld none (.tmp 63)),
                  .p none 65 (.conv .u64 (.tmp 64)),
                  .p none 66 (.mv (.tmp 8)),
                  .p none 67 (.bin .mul .i64 (.const (.int .i64 8)) (.tmp 66)),
                  .p none 68 (.shf .shr (.tmp 65) (.tmp 67)),
                  .p none 69 (.conv .u8 (.tmp 68)),
                  .l none (some 70) (.bs 5 1 1 [(.int .u8 0)] [(0, 1, (.tmp 69))]),
                  .l none (some 71) (.app 5 1 1 [(.int .u8 0)] (.tmp 62) (.tmp 70)),
                  .p none 5 (.mv (.tmp 71))]))
            (.reg [.p none 60 (.mv (.tmp 8)),
                .p none 61 (.bin .add .i64 (.tmp 60) (.const (.int .i64 1))),
                .p none 8 (.mv (.tmp 61))]))))))
        (.seq (.reg [.p none 9 (.mv (.const (.int .i64 0)))])
        (.block 4
          (.loop
            (.seq (.seq (.reg [.p none 72 (.mv (.tmp 9)),
                .p none 73 (.bin .lss .i64 (.tmp 72) (.const (.int .i64 4)))])
            (.cond (.tmp 73)
              .skip
              (.exit 4)))
            (.seq (.block 5
              (.reg [.p none 76 (.mv (.tmp 5)),
                  .p none 77 (.fa 7 (.tmp 7)),
                  .l none (some 78) (.ld none (.tmp 77)),
                  .p none 79 (.mv (.tmp 9)),
                  .p none 80 (.bin .mul .i64 (.const (.int .i64 8)) (.tmp 79)),
                  .p none 81 (.shf .shr (.tmp 78) (.tmp 80)),
                  .p none 82 (.conv .u8 (.tmp 81)),
                  .l none (some 83) (.bs 5 1 1 [(.int .u8 0)] [(0, 1, (.tmp 82))]),
                  .l none (some 84) (.app 5 1 1 [(.int .u8 0)] (.tmp 76) (.tmp 83)),
                  .p none 5 (.mv (.tmp 84))]))
            (.reg [.p none 74 (.mv (.tmp 9)),
                .p none 75 (.bin .add .i64 (.tmp 74) (.const (.int .i64 1))),
                .p none 9 (.mv (.tmp 75))]))))))))))))))
      (.reg [.p none 22 (.mv (.tmp 6)),
          .p none 23 (.bin .add .i64 (.tmp 22) (.const (.int .i64 1))),
          .p none 6 (.mv (.tmp 23))]))))))
  (.seq (.reg [.p none 85 (.mv (.tmp 5)),
      .p none 2 (.mv (.tmp 85)),
      .p none 3 (.mv (.const (.int .i64 0)))])
  .ret))))))
theorem C32 : compile Try.prog 86 (Try.f32.body.getD .skip) = some M32 := by kernel_rfl

/-- winnowref16.Decode -/
def M34 : MC :=
  (.seq (.reg [.p none 2 (.mv (.const (.slice none 0 0))),
      .p none 3 (.mv (.const (.int .i64 0)))])
  (.seq (.reg [.p none 11 (.mv (.tmp 0)),
      .p none 12 (.bld [(.slice none 0 0), (.int .i64 0)] [(0, 1, (.tmp 11))]),
      .l none (some 13) (.bx 87 (.tmp 12)),
      .p none 4 (.mv (.tmp 13))])
  (.seq (.reg [.p none 14 (.mv (.tmp 4)),
      .l none (some 15) (.call 50 [(.tmp 14)]),
      .p none 5 (.mv (.tmp 15))])
  (.seq (.reg [.p none 6 (.mv (.const (.slice none 0 0)))])
  (.seq (.seq (.reg [.p none 7 (.mv (.const (.int .i64 0)))])
  (.block 0
    (.loop
      (.seq (.seq (.reg [.p none 16 (.mv (.tmp 7)),
          .p none 17 (.mv (.tmp 5)),
          .p none 18 (.bin .lss .i64 (.tmp 16) (.tmp 17)),
          .p none 19 (.mv (.tmp 18)),
          .split 19,
          .p (some (19, true)) 20 (.mv (.tmp 7)),
          .p (some (19, true)) 21 (.bin .leq .i64 (.tmp 20) (.const (.int .i64 256))),
          .p none 22 (.pick (.tmp 19) (.tmp 21) (.const (.bool false)))])
      (.cond (.tmp 22)
        .skip
        (.exit 0)))
      (.seq (.block 1
        (.seq (.reg [.p none 25 (.bld [(.int .i64 0), (.int .i64 0), (.int .i64 0), (.int .i64 0), (.int .i64 0), (.int .i64 0), (.int .i64 0), (.int .u32 0)] []),
            .l none (some 8) (.al 25 [(.int .i64 0), (.int .i64 0), (.int .i64 0), (.int .i64 0), (.int .i64 0), (.int .i64 0), (.int .i64 0), (.int .u32 0)]),
            .l none none (.st 8 (.tmp 8) (.tmp 25))])
        (.seq (.reg [.p none 26 (.mv (.tmp 4)),
            .l none (some 27) (.call 51 [(.tmp 26), (.const (.int .i64 1))]),
            .p none 28 (.conv .i64 (.tmp 27)),
            .p none 29 (.fa 0 (.tmp 8)),
            .l none none (.st 1 (.tmp 29) (.tmp 28))])
        (.seq (.reg [.p none 30 (.mv (.tmp 4)),
            .l none (some 31) (.call 51 [(.tmp 30), (.const (.int .i64 1))]),
            .p none 32 (.conv .i64 (.tmp 31)),
            .p none 33 (.fa 1 (.tmp 8)),
            .l none none (.st 1 (.tmp 33) (.tmp 32))])
        (.seq (.reg [.p none 34 (.mv (.tmp 4)),
            .l none (some 35) (.call 50 [(.tmp 34)]),
            .p none 36 (.fa 2 (.tmp 8)),
            .l none none (.st 1 (.tmp 36) (.tmp 35))])
        (.seq (.reg [.p none 37 (.mv (.tmp 4)),
            .l none (some 38) (.call 50 [(.tmp 37)]),
            .p none 39 (.fa 3 (.tmp 8)),
            .l none none (.st 1 (.tmp 39) (.tmp 38))])
        (.seq (.reg [.p none 40 (.mv (.tmp 4)),
            .l none (some 41) (.call 51 [(.tmp 40), (.const (.int .i64 1))]),
            .p none 42 (.conv .i64 (.tmp 41)),
            .p none 43 (.fa 4 (.tmp 8)),
            .l none none (.st 1 (.tmp 43) (.tmp 42))])
        (.seq (.reg [.p none 44 (.mv (.tmp 4)),
            .l none (some 45) (.call 50 [(.tmp 44)]),
            .p none 46 (.fa 5 (.tmp 8)),
            .l none none (.st 1 (.tmp 46) (.tmp 45))])
        (.seq (.reg [.p none 47 (.mv (.tmp 4)),
            .l none (some 48) (.call 51 [(.tmp 47), (.const (.int .i64 8))]),
            .p none 49 (.conv .i64 (.tmp 48)),
            .p none 50 (.fa 6 (.tmp 8)),
            .l none none (.st 1 (.tmp 50) (.tmp 49))])
        (.seq (.reg [.p none 51 (.mv (.tmp 4)),
            .l none (some 52) (.call 51 [(.tmp 51), (.const (.int .i64 4))]),
            .p none 53 (.conv .u32 (.tmp 52)),
            .p none 54 (.fa 7 (.tmp 8)),
            .l none none (.st 1 (.tmp 54) (.tmp 53))])
        (.reg [.p none 55 (.mv (.tmp 6)),
            .l none (some 56) (.ld (some 8) (.tmp 8)),
            .l none (some 57) (.bs 25 1 8 [(.int .i64 0), (.int .i64 0), (.int .i64 0), (.int .i64 0), (.int .i64 0), (.int .i64 0), (.int .i64 0), (.int .u32 0)] [(0, 8, (.tmp 56))]),
            .l none (some 58) (.app 25 64 8 [(.int .i64 0), (.int .i64 0), (.int .i64 0), (.int .i64 0), (.int .i64 0), (.int .i64 0), (.int .i64 0), (.int .u32 0)] (.tmp 55) (.tmp 57)),
            .p none 6 (.mv (.tmp 58))])))))))))))
      (.reg [.p none 23 (.mv (.tmp 7)),
          .p none 24 (.bin .add .i64 (.tmp 23) (.const (.int .i64 1))),
          .p none 7 (.mv (.tmp 24))]))))))
  (.seq (.reg [.p none 60 (.mv (.tmp 6)),
      .l none (some 61) (.call 32 [(.tmp 60)]),
      .p none 59 (.mv (.tmp 61)),
      .p none 62 (.ext 0 (.tmp 59)),
      .p none 63 (.ext 1 (.tmp 59)),
      .p none 9 (.mv (.tmp 62)),
      .p none 10 (.mv (.tmp 63))])
  (.seq (.seq (.reg [.p none 64 (.mv (.tmp 10)),
      .p none 65 (.bin .neq .i64 (.tmp 64) (.const (.int .i64 0))),
      .p none 66 (.mv (.tmp 65)),
      .split 66,
      .p (some (66, false)) 67 (.mv (.tmp 9)),
      .p (some (66, false)) 68 (.mv (.tmp 0)),
      .l (some (66, false)) (some 69) (.call 52 [(.tmp 67), (.tmp 68)]),
      .p (some (66, false)) 70 (.not (.tmp 69)),
      .p none 71 (.pick (.tmp 66) (.const (.bool true)) (.tmp 70))])
  (.cond (.tmp 71)
    (.seq (.reg [.p none 2 (.mv (.const (.slice none 0 0))),
        .p none 3 (.mv (.const (.int .i64 160)))])
    .ret)
    .skip))
  (.seq (.reg [.p none 72 (.mv (.tmp 6)),
      .p none 2 (.mv (.tmp 72)),
      .p none 3 (.mv (.const (.int .i64 0)))])
  .ret))))))))
theorem C34 : compile Try.prog 73 (Try.f34.body.getD .skip) = some M34 := by kernel_rfl

/-- winnowlaw16.back -/
def M36 : MC :=
  (.seq (.reg [.p none 2 (.mv (.const (.slice none 0 0)))])
  (.seq (.seq (.reg [.p none 6 (.mv (.tmp 0)),
      .p none 7 (.len (.tmp 6)),
      .p none 8 (.bin .sub .i64 (.tmp 7) (.const (.int .i64 1))),
      .p none 3 (.mv (.const (.int .i64 0))),
      .p none 4 (.mv (.tmp 8))])
  (.block 0
    (.loop
      (.seq (.seq (.reg [.p none 9 (.mv (.tmp 3)),
          .p none 10 (.mv (.tmp 4)),
          .p none 11 (.bin .lss .i64 (.tmp 9) (.tmp 10))])
      (.cond (.tmp 11)
        .skip
        (.exit 0)))
      (.seq (.block 1
        (.seq (.reg [.p none 16 (.mv (.tmp 0)),
            .p none 17 (.mv (.tmp 3)),
            .p none 18 (.idx 8 (.tmp 16) (.tmp 17)),
            .l none (some 19) (.ld (some 8) (.tmp 18)),
            .l none (some 5) (.al 25 [(.int .i64 0), (.int .i64 0), (.int .i64 0), (.int .i64 0), (.int .i64 0), (.int .i64 0), (.int .i64 0), (.int .u32 0)]),
            .l none none (.st 8 (.tmp 5) (.tmp 19))])
        (.seq (.reg [.p none 20 (.mv (.tmp 0)),
            .p none 21 (.mv (.tmp 3)),
            .p none 22 (.mv (.tmp 0)),
            .p none 23 (.mv (.tmp 4)),
            .p none 24 (.idx 8 (.tmp 22) (.tmp 23)),
            .l none (some 25) (.ld (some 8) (.tmp 24)),
            .p none 26 (.idx 8 (.tmp 20) (.tmp 21)),
            .l none none (.st 8 (.tmp 26) (.tmp 25))])
        (.reg [.p none 27 (.mv (.tmp 0)),
            .p none 28 (.mv (.tmp 4)),
            .l none (some 29) (.ld (some 8) (.tmp 5)),
            .p none 30 (.idx 8 (.tmp 27) (.tmp 28)),
            .l none none (.st 8 (.tmp 30) (.tmp 29))]))))
      (.reg [.p none 12 (.mv (.tmp 3)),
          .p none 13 (.bin .add .i64 (.tmp 12) (.const (.int .i64 1))),
          .p none 14 (.mv (.tmp 4)),
          .p none 15 (.bin .sub .i64 (.tmp 14) (.const (.int .i64 1))),
          .p none 3 (.mv (.tmp 13)),
          .p none 4 (.mv (.tmp 15))]))))))
  (.seq (.reg [.p none 31 (.mv (.tmp 0)),
      .p none 2 (.mv (.tmp 31))])
  .ret)))
theorem C36 : compile Try.prog 32 (Try.f36.body.getD .skip) = some M36 := by kernel_rfl

/-- winnowref2.Put -/
def M45 : MC :=
  (.seq (.reg [.p none 2 (.mv (.const (.slice none 0 0)))])
  (.seq (.reg [.p none 3 (.mv (.const (.slice none 0 0)))])
  (.seq (.seq (.reg [.p none 4 (.mv (.tmp 0)),
      .p none 5 (.bin .lss .i64 (.tmp 4) (.const (.int .i64 0)))])
  (.cond (.tmp 5)
    (.seq (.reg [.p none 6 (.mv (.tmp 3)),
        .p none 2 (.mv (.tmp 6))])
    .ret)
    .skip))
  (.seq (.block 0
    (.loop
      (.seq (.seq (.reg [.p none 7 (.mv (.tmp 0)),
          .p none 8 (.bin .geq .i64 (.tmp 7) (.const (.int .i64 128)))])
      (.cond (.tmp 8)
        .skip
        (.exit 0)))
      (.block 1
        (.seq (.reg [.p none 9 (.mv (.tmp 3)),
            .p none 10 (.mv (.tmp 0)),
            .p none 11 (.div .rem .i64 (.tmp 10) (.const (.int .i64 128))),
            .p none 12 (.bin .add .i64 (.tmp 11) (.const (.int .i64 128))),
            .p none 13 (.conv .u8 (.tmp 12)),
            .l none (some 14) (.bs 5 1 1 [(.int .u8 0)] [(0, 1, (.tmp 13))]),
            .l none (some 15) (.app 5 1 1 [(.int .u8 0)] (.tmp 9) (.tmp 14)),
            .p none 3 (.mv (.tmp 15))])
        (.reg [.p none 16 (.mv (.tmp 0)),
            .p none 17 (.div .quo .i64 (.tmp 16) (.const (.int .i64 128))),
            .p none 0 (.mv (.tmp 17))]))))))
  (.seq (.reg [.p none 18 (.mv (.tmp 3)),
      .p none 19 (.mv (.tmp 0)),
      .p none 20 (.conv .u8 (.tmp 19)),
      .l none (some 21) (.bs 5 1 1 [(.int .u8 0)] [(0, 1, (.tmp 20))]),
      .l none (some 22) (.app 5 1 1 [(.int .u8 0)] (.tmp 18) (.tmp 21)),
      .p none 3 (.mv (.tmp 22))])
  (.seq (.reg [.p none 23 (.mv (.tmp 3)),
      .p none 2 (.mv (.tmp 23))])
  .ret))))))
theorem C45 : compile Try.prog 24 (Try.f45.body.getD .skip) = some M45 := by kernel_rfl

/-- (*winnowref16.View).number -/
def M50 : MC :=
  (.seq (.reg [.p none 2 (.mv (.const (.int .i64 0)))])
  (.seq (.seq (.dreg (.line [.qp 0 none 6 (.mv (.tmp 0)),
      .qp 1 none 7 (.nilchk (.tmp 6)),
      .qp 2 none 8 (.fa 1 (.tmp 7)),
      .qp 4 none 10 (.mv (.tmp 0)),
      .qp 5 none 11 (.nilchk (.tmp 10)),
      .qp 6 none 12 (.fa 0 (.tmp 11)),
      .ql 7 none 13 none (.tmp 12),
      .qp 8 none 14 (.len (.tmp 13)),
      .l 3 none (some 9) (.ld none (.tmp 8)),
      .qp 9 none 15 (.bin .geq .i64 (.tmp 9) (.tmp 14))]))
  (.cond (.tmp 15)
    (.seq (.reg [.p none 2 (.mv (.const (.int .i64 0)))])
    .ret)
    .skip))
  (.seq (.dreg (.line [.qp 0 none 17 (.mv (.tmp 0)),
      .qp 1 none 18 (.nilchk (.tmp 17)),
      .qp 2 none 19 (.fa 0 (.tmp 18)),
      .qp 4 none 21 (.mv (.tmp 0)),
      .qp 5 none 22 (.nilchk (.tmp 21)),
      .qp 6 none 23 (.fa 1 (.tmp 22)),
      .ql 7 none 24 none (.tmp 23),
      .l 3 none (some 20) (.ld none (.tmp 19)),
      .qp 8 none 25 (.slc 1 (.tmp 20) (some (.tmp 24)) none none),
      .l 9 none (some 26) (.call 64 [(.tmp 25)]),
      .qp 10 none 16 (.mv (.tmp 26)),
      .qp 11 none 27 (.ext 0 (.tmp 16)),
      .qp 12 none 28 (.ext 1 (.tmp 16)),
      .qp 13 none 29 (.ext 2 (.tmp 16)),
      .qp 14 none 3 (.mv (.tmp 27)),
      .qp 15 none 4 (.mv (.tmp 28)),
      .qp 16 none 5 (.mv (.tmp 29))]))
  (.seq (.seq (.reg [.p none 30 (.mv (.tmp 5)),
      .p none 31 (.bin .neq .i64 (.tmp 30) (.const (.int .i64 0)))])
  (.cond (.tmp 31)
    (.seq (.reg [.p none 32 (.mv (.tmp 0)),
        .p none 33 (.mv (.tmp 0)),
        .p none 34 (.nilchk (.tmp 33)),
        .p none 35 (.fa 0 (.tmp 34)),
        .l none (some 36) (.ld none (.tmp 35)),
        .p none 37 (.len (.tmp 36)),
        .p none 38 (.nilchk (.tmp 32)),
        .p none 39 (.fa 1 (.tmp 38)),
        .l none none (.st 1 (.tmp 39) (.tmp 37))])
    (.seq (.reg [.p none 2 (.mv (.const (.int .i64 0)))])
    .ret))
    .skip))
  (.seq (.reg [.p none 40 (.mv (.tmp 0)),
      .p none 41 (.mv (.tmp 0)),
      .p none 42 (.nilchk (.tmp 41)),
      .p none 43 (.fa 1 (.tmp 42)),
      .l none (some 44) (.ld none (.tmp 43)),
      .p none 45 (.mv (.tmp 4)),
      .p none 46 (.bin .add .i64 (.tmp 44) (.tmp 45)),
      .p none 47 (.nilchk (.tmp 40)),
      .p none 48 (.fa 1 (.tmp 47)),
      .l none none (.st 1 (.tmp 48) (.tmp 46))])
  (.seq (.reg [.p none 49 (.mv (.tmp 3)),
      .p none 2 (.mv (.tmp 49))])
  .ret))))))
theorem C50 : compile Try.prog 50 (Try.f50.body.getD .skip) = some M50 := by kernel_rfl

/-- (*winnowref16.View).word -/
def M51 : MC :=
  (.seq (.reg [.p none 4 (.mv (.const (.int .u64 0)))])
  (.seq (.reg [.p none 5 (.mv (.const (.int .u64 0)))])
  (.seq (.seq (.reg [.p none 6 (.mv (.const (.int .i64 0)))])
  (.block 0
    (.loop
      (.seq (.seq (.reg [.p none 7 (.mv (.tmp 6)),
          .p none 8 (.mv (.tmp 1)),
          .p none 9 (.bin .lss .i64 (.tmp 7) (.tmp 8))])
      (.cond (.tmp 9)
        .skip
        (.exit 0)))
      (.seq (.block 1
        (.seq (.seq (.dreg (.line [.qp 0 none 12 (.mv (.tmp 0)),
            .qp 1 none 13 (.nilchk (.tmp 12)),
            .qp 2 none 14 (.fa 1 (.tmp 13)),
            .qp 4 none 16 (.mv (.tmp 0)),
            .qp 5 none 17 (.nilchk (.tmp 16)),
            .qp 6 none 18 (.fa 0 (.tmp 17)),
            .ql 7 none 19 none (.tmp 18),
            .qp 8 none 20 (.len (.tmp 19)),
            .l 3 none (some 15) (.ld none (.tmp 14)),
            .qp 9 none 21 (.bin .lss .i64 (.tmp 15) (.tmp 20))]))
        (.cond (.tmp 21)
          (.dreg (.line [.qp 0 none 22 (.mv (.tmp 5)),
              .qp 1 none 23 (.mv (.tmp 0)),
              .qp 2 none 24 (.nilchk (.tmp 23)),
              .qp 3 none 25 (.fa 0 (.tmp 24)),
              .qp 5 none 27 (.mv (.tmp 0)),
              .qp 6 none 28 (.nilchk (.tmp 27)),
              .qp 7 none 29 (.fa 1 (.tmp 28)),
              .qp 12 none 34 (.mv (.tmp 6)),
              .qp 13 none 35 (.bin .mul .i64 (.const (.int .i64 8)) (.tmp 34)),
              .ql 8 none 30 none (.tmp 29),
              .l 4 none (some 26) (.ld none (.tmp 25)),
              .qp 9 none 31 (.idx 1 (.tmp 26) (.tmp 30)),
              .l 10 none (some 32) (.ld none (.tmp 31)),
              .qp 11 none 33 (.conv .u64 (.tmp 32)),
              .qp 14 none 36 (.shf .shl (.tmp 33) (.tmp 35)),
              .qp 15 none 37 (.bin .add .u64 (.tmp 22) (.tmp 36)),
              .qp 16 none 5 (.mv (.tmp 37))]))
          .skip))
        (.reg [.p none 38 (.mv (.tmp 0)),
            .p none 39 (.nilchk (.tmp 38)),
            .p none 40 (.fa 1 (.tmp 39)),
            .l none (some 41) (.ld none (.tmp 40)),
            .p none 42 (.bin .add .i64 (.tmp 41) (.const (.int .i64 1))),
            .p none 43 (.nilchk (.tmp 38)),
            .p none 44 (.fa 1 (.tmp 43)),
            .l none none (.st 1 (.tmp 44) (.tmp 42))])))
      (.reg [.p none 10 (.mv (.tmp 6)),
          .p none 11 (.bin .add .i64 (.tmp 10) (.const (.int .i64 1))),
          .p none 6 (.mv (.tmp 11))]))))))
  (.seq (.reg [.p none 45 (.mv (.tmp 5)),
      .p none 4 (.mv (.tmp 45))])
  .ret))))
theorem C51 : compile Try.prog 46 (Try.f51.body.getD .skip) = some M51 := by kernel_rfl

/-- winnowref16.same -/
def M52 : MC :=
  (.seq (.reg [.p none 4 (.mv (.const (.bool false)))])
  (.seq (.seq (.reg [.p none 6 (.mv (.tmp 0)),
      .p none 7 (.len (.tmp 6)),
      .p none 8 (.mv (.tmp 1)),
      .p none 9 (.len (.tmp 8)),
      .p none 10 (.bin .neq .i64 (.tmp 7) (.tmp 9))])
  (.cond (.tmp 10)
    (.seq (.reg [.p none 4 (.mv (.const (.bool false)))])
    .ret)
    .skip))
  (.seq (.seq (.reg [.p none 5 (.mv (.const (.int .i64 0)))])
  (.block 0
    (.loop
      (.seq (.seq (.reg [.p none 11 (.mv (.tmp 5)),
          .p none 12 (.mv (.tmp 0)),
          .p none 13 (.len (.tmp 12)),
          .p none 14 (.bin .lss .i64 (.tmp 11) (.tmp 13))])
      (.cond (.tmp 14)
        .skip
        (.exit 0)))
      (.seq (.block 1
        (.seq (.dreg (.line [.qp 0 none 17 (.mv (.tmp 0)),
            .qp 1 none 18 (.mv (.tmp 5)),
            .qp 2 none 19 (.idx 1 (.tmp 17) (.tmp 18)),
            .qp 4 none 21 (.mv (.tmp 1)),
            .qp 5 none 22 (.mv (.tmp 5)),
            .qp 6 none 23 (.idx 1 (.tmp 21) (.tmp 22)),
            .ql 7 none 24 none (.tmp 23),
            .l 3 none (some 20) (.ld none (.tmp 19)),
            .qp 8 none 25 (.bin .neq .u8 (.tmp 20) (.tmp 24))]))
        (.cond (.tmp 25)
          (.seq (.reg [.p none 4 (.mv (.const (.bool false)))])
          .ret)
          .skip)))
      (.reg [.p none 15 (.mv (.tmp 5)),
          .p none 16 (.bin .add .i64 (.tmp 15) (.const (.int .i64 1))),
          .p none 5 (.mv (.tmp 16))]))))))
  (.seq (.reg [.p none 4 (.mv (.const (.bool true)))])
  .ret))))
theorem C52 : compile Try.prog 26 (Try.f52.body.getD .skip) = some M52 := by kernel_rfl

/-- winnowref2.Get -/
def M64 : MC :=
  (.seq (.reg [.p none 2 (.mv (.const (.int .i64 0))),
      .p none 3 (.mv (.const (.int .i64 0))),
      .p none 4 (.mv (.const (.int .i64 0)))])
  (.seq (.reg [.p none 5 (.mv (.const (.int .i64 0)))])
  (.seq (.reg [.p none 6 (.mv (.const (.int .i64 1)))])
  (.seq (.seq (.reg [.p none 7 (.mv (.const (.int .i64 0)))])
  (.block 0
    (.loop
      (.seq (.seq (.reg [.p none 9 (.mv (.tmp 7)),
          .p none 10 (.mv (.tmp 0)),
          .p none 11 (.len (.tmp 10)),
          .p none 12 (.bin .lss .i64 (.tmp 9) (.tmp 11))])
      (.cond (.tmp 12)
        .skip
        (.exit 0)))
      (.seq (.block 1
        (.seq (.reg [.p none 15 (.mv (.tmp 0)),
            .p none 16 (.mv (.tmp 7)),
            .p none 17 (.idx 1 (.tmp 15) (.tmp 16)),
            .l none (some 18) (.ld none (.tmp 17)),
            .p none 19 (.conv .i64 (.tmp 18)),
            .p none 20 (.div .rem .i64 (.tmp 19) (.const (.int .i64 128))),
            .p none 8 (.mv (.tmp 20))])
        (.seq (.reg [.p none 21 (.mv (.tmp 5)),
            .p none 22 (.mv (.tmp 8)),
            .p none 23 (.mv (.tmp 6)),
            .p none 24 (.bin .mul .i64 (.tmp 22) (.tmp 23)),
            .p none 25 (.bin .add .i64 (.tmp 21) (.tmp 24)),
            .p none 5 (.mv (.tmp 25))])
        (.seq (.seq (.reg [.p none 26 (.mv (.tmp 0)),
            .p none 27 (.mv (.tmp 7)),
            .p none 28 (.idx 1 (.tmp 26) (.tmp 27)),
            .l none (some 29) (.ld none (.tmp 28)),
            .p none 30 (.bin .lss .u8 (.tmp 29) (.const (.int .u8 128)))])
        (.cond (.tmp 30)
          (.seq (.seq (.reg [.p none 31 (.mv (.tmp 7)),
              .p none 32 (.bin .gtr .i64 (.tmp 31) (.const (.int .i64 0))),
              .p none 33 (.mv (.tmp 32)),
              .split 33,
              .p (some (33, true)) 34 (.mv (.tmp 0)),
              .p (some (33, true)) 35 (.mv (.tmp 7)),
              .p (some (33, true)) 36 (.idx 1 (.tmp 34) (.tmp 35)),
              .l (some (33, true)) (some 37) (.ld none (.tmp 36)),
              .p (some (33, true)) 38 (.bin .eql .u8 (.tmp 37) (.const (.int .u8 0))),
              .p none 39 (.pick (.tmp 33) (.tmp 38) (.const (.bool false)))])
          (.cond (.tmp 39)
            (.seq (.reg [.p none 2 (.mv (.const (.int .i64 0))),
                .p none 3 (.mv (.const (.int .i64 0))),
                .p none 4 (.mv (.const (.int .i64 21)))])
            .ret)
            .skip))
          (.seq (.reg [.p none 40 (.mv (.tmp 5)),
              .p none 41 (.mv (.tmp 7)),
              .p none 42 (.bin .add .i64 (.tmp 41) (.const (.int .i64 1))),
              .p none 2 (.mv (.tmp 40)),
              .p none 3 (.mv (.tmp 42)),
              .p none 4 (.mv (.const (.int .i64 0)))])
          .ret))
          .skip))
        (.seq (.seq (.reg [.p none 43 (.mv (.tmp 7)),
            .p none 44 (.bin .eql .i64 (.tmp 43) (.const (.int .i64 8)))])
        (.cond (.tmp 44)
          (.seq (.reg [.p none 2 (.mv (.const (.int .i64 0))),
              .p none 3 (.mv (.const (.int .i64 0))),
              .p none 4 (.mv (.const (.int .i64 21)))])
          .ret)
          .skip))
        (.reg [.p none 45 (.mv (.tmp 6)),
            .p none 46 (.bin .mul .i64 (.tmp 45) (.const (.int .i64 128))),
            .p none 6 (.mv (.tmp 46))]))))))
      (.reg [.p none 13 (.mv (.tmp 7)),
          .p none 14 (.bin .add .i64 (.tmp 13) (.const (.int .i64 1))),
          .p none 7 (.mv (.tmp 14))]))))))
  (.seq (.reg [.p none 2 (.mv (.const (.int .i64 0))),
      .p none 3 (.mv (.const (.int .i64 0))),
      .p none 4 (.mv (.const (.int .i64 20)))])
  .ret)))))
theorem C64 : compile Try.prog 47 (Try.f64.body.getD .skip) = some M64 := by kernel_rfl
end Go.Proofs.Ytnkilhmkegmenaa.E
