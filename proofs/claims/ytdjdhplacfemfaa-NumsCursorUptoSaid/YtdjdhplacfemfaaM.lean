/- The intermediate code of the functions that are walked here, each with the proof that it is the translation of the model's code. -/
import Derived.Test.YtdjdhplacfemfaaE6
import Derived.KernelRfl
namespace Go.Proofs.Ytdjdhplacfemfaa.E
open Go
theorem mixed : Try.prog.follows .mixedOrders = true := by kernel_rfl

/-- winnowlaw2.NumsCursor -/
noncomputable def M9 : MC :=
  (.seq (.reg [.p none 4 (.mv (.const (.bool false)))])
  (.seq (.reg [.p none 18 (.mv (.tmp 0)),
      .l none (some 19) (.call 17 [(.tmp 18)]),
      .p none 5 (.mv (.tmp 19))])
  (.seq (.reg [.p none 20 (.mv (.tmp 5)),
      .p none 21 (.mv (.tmp 0)),
      .p none 22 (.len (.tmp 21)),
      .p none 23 (.slc 1 (.tmp 20) none (some (.tmp 22)) none),
      .l none (some 24) (.call 28 [(.tmp 23)]),
      .p none 6 (.mv (.tmp 24))])
  (.seq (.seq (.reg [.p none 25 (.mv (.tmp 6)),
      .p none 26 (.isnil false 0 (.tmp 25)),
      .p none 27 (.mv (.tmp 26)),
      .split 27,
      .p (some (27, false)) 28 (.mv (.tmp 5)),
      .p (some (27, false)) 29 (.mv (.tmp 0)),
      .l (some (27, false)) (some 30) (.call 22 [(.tmp 28), (.tmp 29)]),
      .p (some (27, false)) 31 (.not (.tmp 30)),
      .p none 32 (.pick (.tmp 27) (.const (.bool true)) (.tmp 31))])
  (.cond (.tmp 32)
    (.seq (.reg [.p none 4 (.mv (.const (.bool false)))])
    .ret)
    .skip))
  (.seq (.reg [.p none 33 (.mv (.tmp 0)),
      .l none (some 34) (.call 29 [(.tmp 33)]),
      .p none 7 (.mv (.tmp 34))])
  (.seq (.seq (.reg [.p none 8 (.mv (.const (.int .i64 0)))])
  (.block 0
    (.loop
      (.seq (.seq (.reg [.p none 35 (.mv (.tmp 8)),
          .p none 36 (.mv (.tmp 5)),
          .p none 37 (.len (.tmp 36)),
          .p none 38 (.bin .lss .i64 (.tmp 35) (.tmp 37))])
      (.cond (.tmp 38)
        .skip
        (.exit 0)))
      (.seq (.block 1
        (.reg [.p none 41 (.mv (.tmp 5)),
            .p none 42 (.mv (.tmp 8)),
            .p none 43 (.idx 1 (.tmp 41) (.tmp 42)),
            .l none none (.st 1 (.tmp 43) (.const (.int .u8 255)))]))
      (.reg [.p none 39 (.mv (.tmp 8)),
          .p none 40 (.bin .add .i64 (.tmp 39) (.const (.int .i64 1))),
          .p none 8 (.mv (.tmp 40))]))))))
  (.seq (.reg [.p none 9 (.mv (.const (.pointer none)))])
  (.seq (.reg [.p none 10 (.mv (.const (.pointer none)))])
  (.seq (.reg [.p none 44 (.bld [(.slice none 0 0), (.int .i64 0), (.int .i64 0)] []),
      .l none (some 45) (.bx 46 (.tmp 44)),
      .p none 11 (.mv (.tmp 45))])
  (.seq (.reg [.p none 46 (.bld [(.slice none 0 0), (.int .i64 0), (.bool false), (.int .i64 0), (.int .i64 0)] []),
      .l none (some 47) (.bx 50 (.tmp 46)),
      .p none 12 (.mv (.tmp 47))])
  (.seq (.seq (.reg [.p none 48 (.mv (.tmp 6)),
      .l none (some 49) (.call 30 [(.tmp 48)]),
      .p none 50 (.mv (.tmp 7)),
      .l none (some 51) (.call 31 [(.tmp 50)]),
      .p none 52 (.bin .neq .i64 (.tmp 49) (.tmp 51)),
      .p none 53 (.mv (.tmp 52)),
      .split 53,
      .p (some (53, false)) 54 (.mv (.tmp 6)),
      .l (some (53, false)) (some 55) (.call 32 [(.tmp 54)]),
      .p (some (53, false)) 56 (.mv (.tmp 7)),
      .l (some (53, false)) (some 57) (.call 33 [(.tmp 56)]),
      .p (some (53, false)) 58 (.aeq true [1, 1] (.tmp 55) (.tmp 57)),
      .p none 59 (.pick (.tmp 53) (.const (.bool true)) (.tmp 58)),
      .p none 60 (.mv (.tmp 59)),
      .split 60,
      .p (some (60, false)) 61 (.mv (.tmp 9)),
      .l (some (60, false)) (some 62) (.call 32 [(.tmp 61)]),
      .p (some (60, false)) 63 (.mv (.tmp 10)),
      .l (some (60, false)) (some 64) (.call 33 [(.tmp 63)]),
      .p (some (60, false)) 65 (.aeq true [1, 1] (.tmp 62) (.tmp 64)),
      .p none 66 (.pick (.tmp 60) (.const (.bool true)) (.tmp 65)),
      .p none 67 (.mv (.tmp 66)),
      .split 67,
      .p (some (67, false)) 68 (.mv (.tmp 11)),
      .l (some (67, false)) (some 69) (.call 32 [(.tmp 68)]),
      .p (some (67, false)) 70 (.mv (.tmp 12)),
      .l (some (67, false)) (some 71) (.call 33 [(.tmp 70)]),
      .p (some (67, false)) 72 (.aeq true [1, 1] (.tmp 69) (.tmp 71)),
      .p none 73 (.pick (.tmp 67) (.const (.bool true)) (.tmp 72))])
  (.cond (.tmp 73)
    (.seq (.reg [.p none 4 (.mv (.const (.bool false)))])
    .ret)
    .skip))
  (.seq (.reg [.p none 74 (.bld [(.slice none 0 0), (.slice none 0 0), (.slice none 0 0)] []),
      .l none (some 75) (.bx 56 (.tmp 74)),
      .p none 13 (.mv (.tmp 75))])
  (.seq (.seq (.reg [.p none 14 (.mv (.const (.int .i64 0)))])
  (.block 2
    (.loop
      (.seq (.seq (.reg [.p none 76 (.mv (.tmp 14)),
          .p none 77 (.mv (.tmp 1)),
          .p none 78 (.len (.tmp 77)),
          .p none 79 (.bin .lss .i64 (.tmp 76) (.tmp 78))])
      (.cond (.tmp 79)
        .skip
        (.exit 2)))
      (.seq (.block 3
        (.seq (.reg [.p none 82 (.mv (.tmp 13)),
            .p none 83 (.mv (.tmp 6)),
            .p none 84 (.mv (.tmp 7)),
            .p none 85 (.mv (.tmp 1)),
            .p none 86 (.mv (.tmp 14)),
            .p none 87 (.idx 2 (.tmp 85) (.tmp 86)),
            .l none (some 88) (.ld (some 2) (.tmp 87)),
            .l none (some 89) (.call 34 [(.tmp 82), (.tmp 83), (.tmp 84), (.tmp 88)]),
            .p none 15 (.mv (.tmp 89))])
        (.seq (.reg [.p none 90 (.mv (.tmp 13)),
            .p none 91 (.mv (.tmp 9)),
            .p none 92 (.mv (.tmp 10)),
            .p none 93 (.mv (.tmp 1)),
            .p none 94 (.mv (.tmp 14)),
            .p none 95 (.idx 2 (.tmp 93) (.tmp 94)),
            .l none (some 96) (.ld (some 2) (.tmp 95)),
            .l none (some 97) (.call 34 [(.tmp 90), (.tmp 91), (.tmp 92), (.tmp 96)]),
            .p none 16 (.mv (.tmp 97))])
        (.seq (.reg [.p none 98 (.mv (.tmp 13)),
            .p none 99 (.mv (.tmp 11)),
            .p none 100 (.mv (.tmp 12)),
            .p none 101 (.mv (.tmp 1)),
            .p none 102 (.mv (.tmp 14)),
            .p none 103 (.idx 2 (.tmp 101) (.tmp 102)),
            .l none (some 104) (.ld (some 2) (.tmp 103)),
            .l none (some 105) (.call 34 [(.tmp 98), (.tmp 99), (.tmp 100), (.tmp 104)]),
            .p none 17 (.mv (.tmp 105))])
        (.seq (.reg [.p none 106 (.mv (.tmp 15)),
            .p none 107 (.not (.tmp 106)),
            .p none 108 (.mv (.tmp 107)),
            .split 108,
            .p (some (108, false)) 109 (.mv (.tmp 16)),
            .p (some (108, false)) 110 (.not (.tmp 109)),
            .p none 111 (.pick (.tmp 108) (.const (.bool true)) (.tmp 110)),
            .p none 112 (.mv (.tmp 111)),
            .split 112,
            .p (some (112, false)) 113 (.mv (.tmp 17)),
            .p (some (112, false)) 114 (.not (.tmp 113)),
            .p none 115 (.pick (.tmp 112) (.const (.bool true)) (.tmp 114)),
            .p none 116 (.mv (.tmp 115)),
            .split 116,
            .p (some (116, false)) 117 (.mv (.tmp 13)),
            .l (some (116, false)) (some 118) (.call 35 [(.tmp 117)]),
            .p (some (116, false)) 119 (.not (.tmp 118)),
            .p none 120 (.pick (.tmp 116) (.const (.bool true)) (.tmp 119))])
        (.cond (.tmp 120)
          (.seq (.reg [.p none 4 (.mv (.const (.bool false)))])
          .ret)
          .skip))))))
      (.reg [.p none 80 (.mv (.tmp 14)),
          .p none 81 (.bin .add .i64 (.tmp 80) (.const (.int .i64 1))),
          .p none 14 (.mv (.tmp 81))]))))))
  (.seq (.reg [.p none 121 (.mv (.tmp 13)),
      .l none (some 122) (.call 36 [(.tmp 121)]),
      .p none 4 (.mv (.tmp 122))])
  .ret))))))))))))))
theorem C9 : compile Try.prog 123 (Try.f9.body.getD .skip) = some M9 := by kernel_rfl

/-- winnowlaw2.same -/
noncomputable def M13 : MC :=
  (.seq (.reg [.p none 4 (.mv (.const (.bool false)))])
  (.seq (.seq (.reg [.p none 6 (.mv (.tmp 0)),
      .p none 7 (.len (.tmp 6)),
      .p none 8 (.mv (.tmp 1)),
      .p none 9 (.len (.tmp 8)),
      .p none 10 (.bin .neq .i64 (.tmp 7) (.tmp 9))])
  (.cond (.tmp 10)
    (.seq (.reg [.p none 4 (.mv (.const (.bool false)))])
    .ret)
    .skip))
  (.seq (.seq (.reg [.p none 5 (.mv (.const (.int .i64 0)))])
  (.block 0
    (.loop
      (.seq (.seq (.reg [.p none 11 (.mv (.tmp 5)),
          .p none 12 (.mv (.tmp 0)),
          .p none 13 (.len (.tmp 12)),
          .p none 14 (.bin .lss .i64 (.tmp 11) (.tmp 13))])
      (.cond (.tmp 14)
        .skip
        (.exit 0)))
      (.seq (.block 1
        (.seq (.dreg (.line [.qp 0 none 17 (.mv (.tmp 0)),
            .qp 1 none 18 (.mv (.tmp 5)),
            .qp 2 none 19 (.idx 1 (.tmp 17) (.tmp 18)),
            .qp 4 none 21 (.mv (.tmp 1)),
            .qp 5 none 22 (.mv (.tmp 5)),
            .qp 6 none 23 (.idx 1 (.tmp 21) (.tmp 22)),
            .ql 7 none 24 none (.tmp 23),
            .l 3 none (some 20) (.ld none (.tmp 19)),
            .qp 8 none 25 (.bin .neq .u8 (.tmp 20) (.tmp 24))]))
        (.cond (.tmp 25)
          (.seq (.reg [.p none 4 (.mv (.const (.bool false)))])
          .ret)
          .skip)))
      (.reg [.p none 15 (.mv (.tmp 5)),
          .p none 16 (.bin .add .i64 (.tmp 15) (.const (.int .i64 1))),
          .p none 5 (.mv (.tmp 16))]))))))
  (.seq (.reg [.p none 4 (.mv (.const (.bool true)))])
  .ret))))
theorem C13 : compile Try.prog 26 (Try.f13.body.getD .skip) = some M13 := by kernel_rfl

/-- winnowlaw2.spare -/
noncomputable def M17 : MC :=
  (.seq (.reg [.p none 2 (.mv (.const (.slice none 0 0)))])
  (.seq (.reg [.p none 5 (.mv (.tmp 0)),
      .p none 6 (.len (.tmp 5)),
      .p none 7 (.bin .add .i64 (.tmp 6) (.const (.int .i64 64))),
      .l none (some 8) (.mks 5 1 1 [(.int .u8 0)] (.tmp 7) (.tmp 7)),
      .p none 3 (.mv (.tmp 8))])
  (.seq (.seq (.reg [.p none 4 (.mv (.const (.int .i64 0)))])
  (.block 0
    (.loop
      (.seq (.seq (.reg [.p none 9 (.mv (.tmp 4)),
          .p none 10 (.mv (.tmp 3)),
          .p none 11 (.len (.tmp 10)),
          .p none 12 (.bin .lss .i64 (.tmp 9) (.tmp 11))])
      (.cond (.tmp 12)
        .skip
        (.exit 0)))
      (.seq (.block 1
        (.seq (.reg [.p none 15 (.mv (.tmp 3)),
            .p none 16 (.mv (.tmp 4)),
            .p none 17 (.idx 1 (.tmp 15) (.tmp 16)),
            .l none none (.st 1 (.tmp 17) (.const (.int .u8 150)))])
        (.seq (.reg [.p none 18 (.mv (.tmp 4)),
            .p none 19 (.mv (.tmp 0)),
            .p none 20 (.len (.tmp 19)),
            .p none 21 (.bin .lss .i64 (.tmp 18) (.tmp 20))])
        (.cond (.tmp 21)
          (.reg [.p none 22 (.mv (.tmp 3)),
              .p none 23 (.mv (.tmp 4)),
              .p none 24 (.mv (.tmp 0)),
              .p none 25 (.mv (.tmp 4)),
              .p none 26 (.idx 1 (.tmp 24) (.tmp 25)),
              .l none (some 27) (.ld none (.tmp 26)),
              .p none 28 (.idx 1 (.tmp 22) (.tmp 23)),
              .l none none (.st 1 (.tmp 28) (.tmp 27))])
          .skip))))
      (.reg [.p none 13 (.mv (.tmp 4)),
          .p none 14 (.bin .add .i64 (.tmp 13) (.const (.int .i64 1))),
          .p none 4 (.mv (.tmp 14))]))))))
  (.seq (.reg [.p none 29 (.mv (.tmp 3)),
      .p none 2 (.mv (.tmp 29))])
  .ret))))
theorem C17 : compile Try.prog 30 (Try.f17.body.getD .skip) = some M17 := by kernel_rfl

/-- nums.Get -/
noncomputable def M18 : MC :=
  (.seq (.reg [.p none 2 (.mv (.const (.int .i64 0))),
      .p none 3 (.mv (.const (.int .i64 0))),
      .p none 4 (.mv (.const (.int .i64 0)))])
  (.seq (.reg [.p none 5 (.mv (.const (.int .i64 0)))])
  (.seq (.seq (.reg [.p none 8 (.mv (.tmp 0)),
      .p none 9 (.len (.tmp 8)),
      .p none 10 (.mv (.const (.int .i64 0)))])
  (.block 0
    (.loop
      (.seq (.reg [.p none 11 (.bin .lss .i64 (.tmp 10) (.tmp 9))])
      (.seq (.cond (.tmp 11)
        .skip
        (.exit 0))
      (.seq (.block 1
        (.seq (.reg [.p none 12 (.mv (.tmp 10)),
            .p none 13 (.idx 1 (.tmp 8) (.tmp 10)),
            .l none (some 14) (.ld none (.tmp 13)),
            .p none 6 (.mv (.tmp 12)),
            .p none 7 (.mv (.tmp 14))])
        (.seq (.seq (.reg [.p none 15 (.mv (.tmp 6)),
            .p none 16 (.bin .eql .i64 (.tmp 15) (.const (.int .i64 8))),
            .p none 17 (.mv (.tmp 16)),
            .split 17,
            .p (some (17, true)) 18 (.mv (.tmp 7)),
            .p (some (17, true)) 19 (.bin .geq .u8 (.tmp 18) (.const (.int .u8 128))),
            .p none 20 (.pick (.tmp 17) (.tmp 19) (.const (.bool false)))])
        (.cond (.tmp 20)
          (.seq (.reg [.p none 2 (.mv (.const (.int .i64 0))),
              .p none 3 (.mv (.const (.int .i64 0))),
              .p none 4 (.mv (.const (.int .i64 21)))])
          .ret)
          .skip))
        (.seq (.reg [.p none 21 (.mv (.tmp 5)),
            .p none 22 (.mv (.tmp 7)),
            .p none 23 (.bin .and .u8 (.tmp 22) (.const (.int .u8 127))),
            .p none 24 (.conv .i64 (.tmp 23)),
            .p none 25 (.mv (.tmp 6)),
            .p none 26 (.bin .mul .i64 (.const (.int .i64 7)) (.tmp 25)),
            .p none 27 (.shf .shl (.tmp 24) (.tmp 26)),
            .p none 28 (.bin .or .i64 (.tmp 21) (.tmp 27)),
            .p none 5 (.mv (.tmp 28))])
        (.seq (.reg [.p none 29 (.mv (.tmp 7)),
            .p none 30 (.bin .lss .u8 (.tmp 29) (.const (.int .u8 128)))])
        (.cond (.tmp 30)
          (.seq (.seq (.reg [.p none 31 (.mv (.tmp 7)),
              .p none 32 (.bin .eql .u8 (.tmp 31) (.const (.int .u8 0))),
              .p none 33 (.mv (.tmp 32)),
              .split 33,
              .p (some (33, true)) 34 (.mv (.tmp 6)),
              .p (some (33, true)) 35 (.bin .gtr .i64 (.tmp 34) (.const (.int .i64 0))),
              .p none 36 (.pick (.tmp 33) (.tmp 35) (.const (.bool false)))])
          (.cond (.tmp 36)
            (.seq (.reg [.p none 2 (.mv (.const (.int .i64 0))),
                .p none 3 (.mv (.const (.int .i64 0))),
                .p none 4 (.mv (.const (.int .i64 21)))])
            .ret)
            .skip))
          (.seq (.reg [.p none 37 (.mv (.tmp 5)),
              .p none 38 (.mv (.tmp 6)),
              .p none 39 (.bin .add .i64 (.tmp 38) (.const (.int .i64 1))),
              .p none 2 (.mv (.tmp 37)),
              .p none 3 (.mv (.tmp 39)),
              .p none 4 (.mv (.const (.int .i64 0)))])
          .ret))
          .skip))))))
      (.reg [.p none 40 (.bin .add .i64 (.tmp 10) (.const (.int .i64 1))),
          .p none 10 (.mv (.tmp 40))])))))))
  (.seq (.reg [.p none 2 (.mv (.const (.int .i64 0))),
      .p none 3 (.mv (.const (.int .i64 0))),
      .p none 4 (.mv (.const (.int .i64 20)))])
  .ret))))
theorem C18 : compile Try.prog 41 (Try.f18.body.getD .skip) = some M18 := by kernel_rfl

/-- winnowref2.Get -/
noncomputable def M19 : MC :=
  (.seq (.reg [.p none 2 (.mv (.const (.int .i64 0))),
      .p none 3 (.mv (.const (.int .i64 0))),
      .p none 4 (.mv (.const (.int .i64 0)))])
  (.seq (.reg [.p none 5 (.mv (.const (.int .i64 0)))])
  (.seq (.reg [.p none 6 (.mv (.const (.int .i64 1)))])
  (.seq (.seq (.reg [.p none 7 (.mv (.const (.int .i64 0)))])
  (.block 0
    (.loop
      (.seq (.seq (.reg [.p none 9 (.mv (.tmp 7)),
          .p none 10 (.mv (.tmp 0)),
          .p none 11 (.len (.tmp 10)),
          .p none 12 (.bin .lss .i64 (.tmp 9) (.tmp 11))])
      (.cond (.tmp 12)
        .skip
        (.exit 0)))
      (.seq (.block 1
        (.seq (.reg [.p none 15 (.mv (.tmp 0)),
            .p none 16 (.mv (.tmp 7)),
            .p none 17 (.idx 1 (.tmp 15) (.tmp 16)),
            .l none (some 18) (.ld none (.tmp 17)),
            .p none 19 (.conv .i64 (.tmp 18)),
            .p none 20 (.div .rem .i64 (.tmp 19) (.const (.int .i64 128))),
            .p none 8 (.mv (.tmp 20))])
        (.seq (.reg [.p none 21 (.mv (.tmp 5)),
            .p none 22 (.mv (.tmp 8)),
            .p none 23 (.mv (.tmp 6)),
            .p none 24 (.bin .mul .i64 (.tmp 22) (.tmp 23)),
            .p none 25 (.bin .add .i64 (.tmp 21) (.tmp 24)),
            .p none 5 (.mv (.tmp 25))])
        (.seq (.seq (.reg [.p none 26 (.mv (.tmp 0)),
            .p none 27 (.mv (.tmp 7)),
            .p none 28 (.idx 1 (.tmp 26) (.tmp 27)),
            .l none (some 29) (.ld none (.tmp 28)),
            .p none 30 (.bin .lss .u8 (.tmp 29) (.const (.int .u8 128)))])
        (.cond (.tmp 30)
          (.seq (.seq (.reg [.p none 31 (.mv (.tmp 7)),
              .p none 32 (.bin .gtr .i64 (.tmp 31) (.const (.int .i64 0))),
              .p none 33 (.mv (.tmp 32)),
              .split 33,
              .p (some (33, true)) 34 (.mv (.tmp 0)),
              .p (some (33, true)) 35 (.mv (.tmp 7)),
              .p (some (33, true)) 36 (.idx 1 (.tmp 34) (.tmp 35)),
              .l (some (33, true)) (some 37) (.ld none (.tmp 36)),
              .p (some (33, true)) 38 (.bin .eql .u8 (.tmp 37) (.const (.int .u8 0))),
              .p none 39 (.pick (.tmp 33) (.tmp 38) (.const (.bool false)))])
          (.cond (.tmp 39)
            (.seq (.reg [.p none 2 (.mv (.const (.int .i64 0))),
                .p none 3 (.mv (.const (.int .i64 0))),
                .p none 4 (.mv (.const (.int .i64 21)))])
            .ret)
            .skip))
          (.seq (.reg [.p none 40 (.mv (.tmp 5)),
              .p none 41 (.mv (.tmp 7)),
              .p none 42 (.bin .add .i64 (.tmp 41) (.const (.int .i64 1))),
              .p none 2 (.mv (.tmp 40)),
              .p none 3 (.mv (.tmp 42)),
              .p none 4 (.mv (.const (.int .i64 0)))])
          .ret))
          .skip))
        (.seq (.seq (.reg [.p none 43 (.mv (.tmp 7)),
            .p none 44 (.bin .eql .i64 (.tmp 43) (.const (.int .i64 8)))])
        (.cond (.tmp 44)
          (.seq (.reg [.p none 2 (.mv (.const (.int .i64 0))),
              .p none 3 (.mv (.const (.int .i64 0))),
              .p none 4 (.mv (.const (.int .i64 21)))])
          .ret)
          .skip))
        (.reg [.p none 45 (.mv (.tmp 6)),
            .p none 46 (.bin .mul .i64 (.tmp 45) (.const (.int .i64 128))),
            .p none 6 (.mv (.tmp 46))]))))))
      (.reg [.p none 13 (.mv (.tmp 7)),
          .p none 14 (.bin .add .i64 (.tmp 13) (.const (.int .i64 1))),
          .p none 7 (.mv (.tmp 14))]))))))
  (.seq (.reg [.p none 2 (.mv (.const (.int .i64 0))),
      .p none 3 (.mv (.const (.int .i64 0))),
      .p none 4 (.mv (.const (.int .i64 20)))])
  .ret)))))
theorem C19 : compile Try.prog 47 (Try.f19.body.getD .skip) = some M19 := by kernel_rfl

/-- nums.Word -/
noncomputable def M20 : MC :=
  (.seq (.reg [.p none 2 (.mv (.const (.int .u64 0)))])
  (.seq (.reg [.p none 3 (.mv (.const (.int .u64 0)))])
  (.seq (.seq (.reg [.p none 5 (.mv (.tmp 0)),
      .p none 6 (.len (.tmp 5)),
      .p none 7 (.mm false .i64 (.tmp 6) [(.const (.int .i64 8))]),
      .p none 8 (.mv (.const (.int .i64 0)))])
  (.block 0
    (.loop
      (.seq (.reg [.p none 9 (.bin .lss .i64 (.tmp 8) (.tmp 7))])
      (.seq (.cond (.tmp 9)
        .skip
        (.exit 0))
      (.seq (.block 1
        (.seq (.reg [.p none 10 (.mv (.tmp 8)),
            .p none 4 (.mv (.tmp 10))])
        (.reg [.p none 11 (.mv (.tmp 3)),
            .p none 12 (.mv (.tmp 0)),
            .p none 13 (.mv (.tmp 4)),
            .p none 14 (.idx 1 (.tmp 12) (.tmp 13)),
            .l none (some 15) (.ld none (.tmp 14)),
            .p none 16 (.conv .u64 (.tmp 15)),
            .p none 17 (.mv (.tmp 4)),
            .p none 18 (.bin .mul .i64 (.const (.int .i64 8)) (.tmp 17)),
            .p none 19 (.shf .shl (.tmp 16) (.tmp 18)),
            .p none 20 (.bin .or .u64 (.tmp 11) (.tmp 19)),
            .p none 3 (.mv (.tmp 20))])))
      (.reg [.p none 21 (.bin .add .i64 (.tmp 8) (.const (.int .i64 1))),
          .p none 8 (.mv (.tmp 21))])))))))
  (.seq (.reg [.p none 22 (.mv (.tmp 3)),
      .p none 2 (.mv (.tmp 22))])
  .ret))))
theorem C20 : compile Try.prog 23 (Try.f20.body.getD .skip) = some M20 := by kernel_rfl

/-- winnowref2.Word -/
noncomputable def M21 : MC :=
  (.seq (.reg [.p none 2 (.mv (.const (.int .u64 0)))])
  (.seq (.reg [.p none 3 (.mv (.const (.int .u64 0)))])
  (.seq (.reg [.p none 4 (.mv (.const (.int .u64 1)))])
  (.seq (.seq (.reg [.p none 5 (.mv (.const (.int .i64 0)))])
  (.block 0
    (.loop
      (.seq (.seq (.reg [.p none 6 (.mv (.tmp 5)),
          .p none 7 (.mv (.tmp 0)),
          .p none 8 (.len (.tmp 7)),
          .p none 9 (.bin .lss .i64 (.tmp 6) (.tmp 8)),
          .p none 10 (.mv (.tmp 9)),
          .split 10,
          .p (some (10, true)) 11 (.mv (.tmp 5)),
          .p (some (10, true)) 12 (.bin .lss .i64 (.tmp 11) (.const (.int .i64 8))),
          .p none 13 (.pick (.tmp 10) (.tmp 12) (.const (.bool false)))])
      (.cond (.tmp 13)
        .skip
        (.exit 0)))
      (.seq (.block 1
        (.seq (.reg [.p none 16 (.mv (.tmp 3)),
            .p none 17 (.mv (.tmp 0)),
            .p none 18 (.mv (.tmp 5)),
            .p none 19 (.idx 1 (.tmp 17) (.tmp 18)),
            .l none (some 20) (.ld none (.tmp 19)),
            .p none 21 (.conv .u64 (.tmp 20)),
            .p none 22 (.mv (.tmp 4)),
            .p none 23 (.bin .mul .u64 (.tmp 21) (.tmp 22)),
            .p none 24 (.bin .add .u64 (.tmp 16) (.tmp 23)),
            .p none 3 (.mv (.tmp 24))])
        (.reg [.p none 25 (.mv (.tmp 4)),
            .p none 26 (.bin .mul .u64 (.tmp 25) (.const (.int .u64 256))),
            .p none 4 (.mv (.tmp 26))])))
      (.reg [.p none 14 (.mv (.tmp 5)),
          .p none 15 (.bin .add .i64 (.tmp 14) (.const (.int .i64 1))),
          .p none 5 (.mv (.tmp 15))]))))))
  (.seq (.reg [.p none 27 (.mv (.tmp 3)),
      .p none 2 (.mv (.tmp 27))])
  .ret)))))
theorem C21 : compile Try.prog 28 (Try.f21.body.getD .skip) = some M21 := by kernel_rfl

/-- winnowlaw2.kept -/
noncomputable def M22 : MC :=
  (.seq (.reg [.p none 4 (.mv (.const (.bool false)))])
  (.seq (.seq (.reg [.p none 6 (.mv (.tmp 0)),
      .p none 7 (.len (.tmp 6)),
      .p none 8 (.mv (.tmp 1)),
      .p none 9 (.len (.tmp 8)),
      .p none 10 (.bin .add .i64 (.tmp 9) (.const (.int .i64 64))),
      .p none 11 (.bin .neq .i64 (.tmp 7) (.tmp 10))])
  (.cond (.tmp 11)
    (.seq (.reg [.p none 4 (.mv (.const (.bool false)))])
    .ret)
    .skip))
  (.seq (.seq (.reg [.p none 5 (.mv (.const (.int .i64 0)))])
  (.block 0
    (.loop
      (.seq (.seq (.reg [.p none 12 (.mv (.tmp 5)),
          .p none 13 (.mv (.tmp 0)),
          .p none 14 (.len (.tmp 13)),
          .p none 15 (.bin .lss .i64 (.tmp 12) (.tmp 14))])
      (.cond (.tmp 15)
        .skip
        (.exit 0)))
      (.seq (.block 1
        (.seq (.dreg (.line [.qp 0 none 18 (.mv (.tmp 5)),
            .qp 1 none 19 (.mv (.tmp 1)),
            .qp 2 none 20 (.len (.tmp 19)),
            .qp 3 none 21 (.bin .lss .i64 (.tmp 18) (.tmp 20)),
            .qp 4 none 22 (.mv (.tmp 21)),
            .split 22,
            .qp 5 (some (22, true)) 23 (.mv (.tmp 0)),
            .qp 6 (some (22, true)) 24 (.mv (.tmp 5)),
            .qp 7 (some (22, true)) 25 (.idx 1 (.tmp 23) (.tmp 24)),
            .qp 9 (some (22, true)) 27 (.mv (.tmp 1)),
            .qp 10 (some (22, true)) 28 (.mv (.tmp 5)),
            .qp 11 (some (22, true)) 29 (.idx 1 (.tmp 27) (.tmp 28)),
            .ql 12 (some (22, true)) 30 none (.tmp 29),
            .l 8 (some (22, true)) (some 26) (.ld none (.tmp 25)),
            .qp 13 (some (22, true)) 31 (.bin .neq .u8 (.tmp 26) (.tmp 30)),
            .qp 14 none 32 (.pick (.tmp 22) (.tmp 31) (.const (.bool false))),
            .qp 15 none 33 (.mv (.tmp 32)),
            .split 33,
            .qp 16 (some (33, false)) 34 (.mv (.tmp 5)),
            .qp 17 (some (33, false)) 35 (.mv (.tmp 1)),
            .qp 18 (some (33, false)) 36 (.len (.tmp 35)),
            .qp 19 (some (33, false)) 37 (.bin .geq .i64 (.tmp 34) (.tmp 36)),
            .qp 20 (some (33, false)) 38 (.mv (.tmp 37)),
            .split 38,
            .qp 21 (some (38, true)) 39 (.mv (.tmp 0)),
            .qp 22 (some (38, true)) 40 (.mv (.tmp 5)),
            .qp 23 (some (38, true)) 41 (.idx 1 (.tmp 39) (.tmp 40)),
            .l 24 (some (38, true)) (some 42) (.ld none (.tmp 41)),
            .qp 25 (some (38, true)) 43 (.bin .neq .u8 (.tmp 42) (.const (.int .u8 150))),
            .qp 26 (some (33, false)) 44 (.pick (.tmp 38) (.tmp 43) (.const (.bool false))),
            .qp 27 none 45 (.pick (.tmp 33) (.const (.bool true)) (.tmp 44))]))
        (.cond (.tmp 45)
          (.seq (.reg [.p none 4 (.mv (.const (.bool false)))])
          .ret)
          .skip)))
      (.reg [.p none 16 (.mv (.tmp 5)),
          .p none 17 (.bin .add .i64 (.tmp 16) (.const (.int .i64 1))),
          .p none 5 (.mv (.tmp 17))]))))))
  (.seq (.reg [.p none 4 (.mv (.const (.bool true)))])
  .ret))))
theorem C22 : compile Try.prog 46 (Try.f22.body.getD .skip) = some M22 := by kernel_rfl

/-- nums.NewCursor -/
noncomputable def M28 : MC :=
  (.seq (.reg [.p none 2 (.mv (.const (.pointer none)))])
  (.seq (.reg [.p none 3 (.mv (.tmp 0)),
      .l none (some 4) (.app 5 1 1 [(.int .u8 0)] (.const (.slice none 0 0)) (.tmp 3)),
      .p none 5 (.bld [(.slice none 0 0), (.int .i64 0), (.int .i64 0)] [(0, 1, (.tmp 4))]),
      .l none (some 6) (.bx 46 (.tmp 5)),
      .p none 2 (.mv (.tmp 6))])
  .ret))
theorem C28 : compile Try.prog 7 (Try.f28.body.getD .skip) = some M28 := by kernel_rfl

/-- winnowref2.NewCursor -/
noncomputable def M29 : MC :=
  (.seq (.reg [.p none 2 (.mv (.const (.pointer none)))])
  (.seq (.reg [.p none 4 (.bld [(.slice none 0 0), (.int .i64 0), (.bool false), (.int .i64 0), (.int .i64 0)] []),
      .l none (some 5) (.bx 50 (.tmp 4)),
      .p none 3 (.mv (.tmp 5))])
  (.seq (.reg [.p none 6 (.mv (.tmp 3)),
      .p none 7 (.mv (.tmp 3)),
      .p none 8 (.nilchk (.tmp 7)),
      .p none 9 (.fa 0 (.tmp 8)),
      .l none (some 10) (.ld none (.tmp 9)),
      .p none 11 (.mv (.tmp 0)),
      .l none (some 12) (.app 5 1 1 [(.int .u8 0)] (.tmp 10) (.tmp 11)),
      .p none 13 (.nilchk (.tmp 6)),
      .p none 14 (.fa 0 (.tmp 13)),
      .l none none (.st 1 (.tmp 14) (.tmp 12))])
  (.seq (.reg [.p none 15 (.mv (.tmp 3)),
      .p none 2 (.mv (.tmp 15))])
  .ret))))
theorem C29 : compile Try.prog 16 (Try.f29.body.getD .skip) = some M29 := by kernel_rfl

/-- (*nums.Cursor).Rest -/
noncomputable def M30 : MC :=
  (.seq (.reg [.p none 2 (.mv (.const (.int .i64 0)))])
  (.seq (.seq (.reg [.p none 3 (.mv (.tmp 0)),
      .p none 4 (.isnil false 0 (.tmp 3)),
      .p none 5 (.mv (.tmp 4)),
      .split 5,
      .p (some (5, false)) 6 (.mv (.tmp 0)),
      .p (some (5, false)) 7 (.nilchk (.tmp 6)),
      .p (some (5, false)) 8 (.fa 2 (.tmp 7)),
      .l (some (5, false)) (some 9) (.ld none (.tmp 8)),
      .p (some (5, false)) 10 (.bin .neq .i64 (.tmp 9) (.const (.int .i64 0))),
      .p none 11 (.pick (.tmp 5) (.const (.bool true)) (.tmp 10))])
  (.cond (.tmp 11)
    (.seq (.reg [.p none 2 (.mv (.const (.int .i64 0)))])
    .ret)
    .skip))
  (.seq (.dreg (.line [.qp 0 none 12 (.mv (.tmp 0)),
      .qp 1 none 13 (.nilchk (.tmp 12)),
      .qp 2 none 14 (.fa 0 (.tmp 13)),
      .qp 5 none 17 (.mv (.tmp 0)),
      .qp 6 none 18 (.nilchk (.tmp 17)),
      .qp 7 none 19 (.fa 1 (.tmp 18)),
      .ql 8 none 20 none (.tmp 19),
      .l 3 none (some 15) (.ld none (.tmp 14)),
      .qp 4 none 16 (.len (.tmp 15)),
      .qp 9 none 21 (.bin .sub .i64 (.tmp 16) (.tmp 20)),
      .qp 10 none 2 (.mv (.tmp 21))]))
  .ret)))
theorem C30 : compile Try.prog 22 (Try.f30.body.getD .skip) = some M30 := by kernel_rfl

/-- (*winnowref2.Cursor).Rest -/
noncomputable def M31 : MC :=
  (.seq (.reg [.p none 2 (.mv (.const (.int .i64 0)))])
  (.seq (.seq (.reg [.p none 3 (.mv (.tmp 0)),
      .p none 4 (.isnil false 0 (.tmp 3)),
      .p none 5 (.mv (.tmp 4)),
      .split 5,
      .p (some (5, false)) 6 (.mv (.tmp 0)),
      .p (some (5, false)) 7 (.nilchk (.tmp 6)),
      .p (some (5, false)) 8 (.fa 2 (.tmp 7)),
      .l (some (5, false)) (some 9) (.ld none (.tmp 8)),
      .p none 10 (.pick (.tmp 5) (.const (.bool true)) (.tmp 9))])
  (.cond (.tmp 10)
    (.seq (.reg [.p none 2 (.mv (.const (.int .i64 0)))])
    .ret)
    .skip))
  (.seq (.dreg (.line [.qp 0 none 11 (.mv (.tmp 0)),
      .qp 1 none 12 (.nilchk (.tmp 11)),
      .qp 2 none 13 (.fa 0 (.tmp 12)),
      .qp 5 none 16 (.mv (.tmp 0)),
      .qp 6 none 17 (.nilchk (.tmp 16)),
      .qp 7 none 18 (.fa 1 (.tmp 17)),
      .ql 8 none 19 none (.tmp 18),
      .l 3 none (some 14) (.ld none (.tmp 13)),
      .qp 4 none 15 (.len (.tmp 14)),
      .qp 9 none 20 (.bin .sub .i64 (.tmp 15) (.tmp 19)),
      .qp 10 none 2 (.mv (.tmp 20))]))
  .ret)))
theorem C31 : compile Try.prog 21 (Try.f31.body.getD .skip) = some M31 := by kernel_rfl

/-- (*nums.Cursor).End -/
noncomputable def M32 : MC :=
  (.seq (.reg [.l none (some 2) (.al 48 [(.int .i64 0), (.int .i64 0)])])
  (.seq (.block 0
    (.seq (.reg [.p none 4 (.mv (.tmp 0)),
        .p none 5 (.isnil false 0 (.tmp 4)),
        .p none 3 (.mv (.tmp 5))])
    (.cond (.tmp 3)
      (.seq (.reg [.p none 6 (.bld [(.int .i64 0), (.int .i64 0)] [(0, 1, (.const (.int .i64 1)))]),
          .l none none (.st 2 (.tmp 2) (.tmp 6))])
      .ret)
      (.seq (.reg [.p none 8 (.mv (.tmp 0)),
          .p none 9 (.nilchk (.tmp 8)),
          .p none 10 (.fa 2 (.tmp 9)),
          .l none (some 11) (.ld none (.tmp 10)),
          .p none 12 (.bin .neq .i64 (.tmp 11) (.const (.int .i64 0))),
          .p none 7 (.mv (.tmp 12))])
      (.cond (.tmp 7)
        (.seq (.dreg (.line [.qp 0 none 13 (.mv (.tmp 0)),
            .qp 1 none 14 (.nilchk (.tmp 13)),
            .qp 2 none 15 (.fa 2 (.tmp 14)),
            .qp 4 none 17 (.mv (.tmp 0)),
            .qp 5 none 18 (.nilchk (.tmp 17)),
            .qp 6 none 19 (.fa 1 (.tmp 18)),
            .ql 7 none 20 none (.tmp 19),
            .l 3 none (some 16) (.ld none (.tmp 15)),
            .qp 8 none 21 (.bld [(.int .i64 0), (.int .i64 0)] [(0, 1, (.tmp 16)), (1, 1, (.tmp 20))]),
            .l 9 none none (.st 2 (.tmp 2) (.tmp 21))]))
        .ret)
        (.seq (.dreg (.line [.qp 0 none 23 (.mv (.tmp 0)),
            .qp 1 none 24 (.nilchk (.tmp 23)),
            .qp 2 none 25 (.fa 1 (.tmp 24)),
            .qp 4 none 27 (.mv (.tmp 0)),
            .qp 5 none 28 (.nilchk (.tmp 27)),
            .qp 6 none 29 (.fa 0 (.tmp 28)),
            .ql 7 none 30 none (.tmp 29),
            .qp 8 none 31 (.len (.tmp 30)),
            .l 3 none (some 26) (.ld none (.tmp 25)),
            .qp 9 none 32 (.bin .lss .i64 (.tmp 26) (.tmp 31)),
            .qp 10 none 22 (.mv (.tmp 32))]))
        (.cond (.tmp 22)
          (.seq (.reg [.p none 33 (.mv (.tmp 0)),
              .p none 34 (.nilchk (.tmp 33)),
              .p none 35 (.fa 1 (.tmp 34)),
              .l none (some 36) (.ld none (.tmp 35)),
              .p none 37 (.bld [(.int .i64 0), (.int .i64 0)] [(0, 1, (.const (.int .i64 22))), (1, 1, (.tmp 36))]),
              .l none none (.st 2 (.tmp 2) (.tmp 37))])
          .ret)
          .skip)))))))
  (.seq (.reg [.p none 38 (.bld [(.int .i64 0), (.int .i64 0)] []),
      .l none none (.st 2 (.tmp 2) (.tmp 38))])
  .ret)))
theorem C32 : compile Try.prog 39 (Try.f32.body.getD .skip) = some M32 := by kernel_rfl

/-- (*winnowref2.Cursor).End -/
noncomputable def M33 : MC :=
  (.seq (.reg [.l none (some 2) (.al 48 [(.int .i64 0), (.int .i64 0)])])
  (.seq (.seq (.reg [.p none 3 (.mv (.tmp 0)),
      .p none 4 (.isnil false 0 (.tmp 3))])
  (.cond (.tmp 4)
    (.seq (.reg [.p none 5 (.bld [(.int .i64 0), (.int .i64 0)] [(0, 1, (.const (.int .i64 1)))]),
        .l none none (.st 2 (.tmp 2) (.tmp 5))])
    .ret)
    .skip))
  (.seq (.seq (.reg [.p none 6 (.mv (.tmp 0)),
      .p none 7 (.nilchk (.tmp 6)),
      .p none 8 (.fa 2 (.tmp 7)),
      .l none (some 9) (.ld none (.tmp 8))])
  (.cond (.tmp 9)
    (.seq (.reg [.p none 10 (.mv (.tmp 0)),
        .p none 11 (.nilchk (.tmp 10)),
        .p none 12 (.fa 3 (.tmp 11)),
        .l none (some 13) (.ld (some 2) (.tmp 12)),
        .l none none (.st 2 (.tmp 2) (.tmp 13))])
    .ret)
    .skip))
  (.seq (.seq (.dreg (.line [.qp 0 none 14 (.mv (.tmp 0)),
      .qp 1 none 15 (.nilchk (.tmp 14)),
      .qp 2 none 16 (.fa 1 (.tmp 15)),
      .qp 4 none 18 (.mv (.tmp 0)),
      .qp 5 none 19 (.nilchk (.tmp 18)),
      .qp 6 none 20 (.fa 0 (.tmp 19)),
      .ql 7 none 21 none (.tmp 20),
      .qp 8 none 22 (.len (.tmp 21)),
      .l 3 none (some 17) (.ld none (.tmp 16)),
      .qp 9 none 23 (.bin .lss .i64 (.tmp 17) (.tmp 22))]))
  (.cond (.tmp 23)
    (.seq (.reg [.p none 24 (.mv (.tmp 0)),
        .p none 25 (.nilchk (.tmp 24)),
        .p none 26 (.fa 1 (.tmp 25)),
        .l none (some 27) (.ld none (.tmp 26)),
        .p none 28 (.bld [(.int .i64 0), (.int .i64 0)] [(0, 1, (.const (.int .i64 22))), (1, 1, (.tmp 27))]),
        .l none none (.st 2 (.tmp 2) (.tmp 28))])
    .ret)
    .skip))
  (.seq (.reg [.p none 29 (.bld [(.int .i64 0), (.int .i64 0)] []),
      .l none none (.st 2 (.tmp 2) (.tmp 29))])
  .ret)))))
theorem C33 : compile Try.prog 30 (Try.f33.body.getD .skip) = some M33 := by kernel_rfl

/-- (*winnowlaw2.Taken).told -/
noncomputable def M34 : MC :=
  (.seq (.reg [.l none (some 7) (.bx 59 (.tmp 3)),
      .p none 8 (.mv (.const (.bool false)))])
  (.seq (.seq (.reg [.p none 11 (.fa 0 (.tmp 7)),
      .l none (some 12) (.ld none (.tmp 11))])
  (.block 0
    (.seq (.reg [.p none 14 (.bin .eql .i64 (.tmp 12) (.const (.int .i64 0))),
        .p none 13 (.mv (.tmp 14))])
    (.cond (.tmp 13)
      (.seq (.dreg (.line [.qp 0 none 15 (.mv (.tmp 1)),
          .qp 1 none 16 (.fa 1 (.tmp 7)),
          .qp 4 none 19 (.mv (.tmp 2)),
          .qp 5 none 20 (.fa 1 (.tmp 7)),
          .ql 6 none 21 none (.tmp 20),
          .l 2 none (some 17) (.ld none (.tmp 16)),
          .l 3 none (some 18) (.call 40 [(.tmp 15), (.tmp 17)]),
          .l 7 none (some 22) (.call 41 [(.tmp 19), (.tmp 21)]),
          .qp 8 none 23 (.bin .neq .i64 (.tmp 18) (.tmp 22))]))
      (.cond (.tmp 23)
        (.seq (.reg [.p none 8 (.mv (.const (.bool false)))])
        .ret)
        .skip))
      (.seq (.reg [.p none 25 (.bin .eql .i64 (.tmp 12) (.const (.int .i64 1))),
          .p none 24 (.mv (.tmp 25))])
      (.cond (.tmp 24)
        (.seq (.dreg (.line [.qp 0 none 26 (.mv (.tmp 1)),
            .qp 1 none 27 (.fa 1 (.tmp 7)),
            .qp 4 none 30 (.mv (.tmp 2)),
            .qp 5 none 31 (.fa 1 (.tmp 7)),
            .ql 6 none 32 none (.tmp 31),
            .l 2 none (some 28) (.ld none (.tmp 27)),
            .l 3 none (some 29) (.call 42 [(.tmp 26), (.tmp 28)]),
            .l 7 none (some 33) (.call 43 [(.tmp 30), (.tmp 32)]),
            .qp 8 none 34 (.bin .neq .u64 (.tmp 29) (.tmp 33))]))
        (.cond (.tmp 34)
          (.seq (.reg [.p none 8 (.mv (.const (.bool false)))])
          .ret)
          .skip))
        (.seq (.reg [.p none 36 (.bin .eql .i64 (.tmp 12) (.const (.int .i64 2))),
            .p none 35 (.mv (.tmp 36))])
        (.cond (.tmp 35)
          (.seq (.reg [.p none 37 (.mv (.tmp 1)),
              .p none 38 (.fa 1 (.tmp 7)),
              .l none (some 39) (.ld none (.tmp 38)),
              .l none (some 40) (.call 44 [(.tmp 37), (.tmp 39)]),
              .p none 9 (.mv (.tmp 40))])
          (.seq (.reg [.p none 41 (.mv (.tmp 9)),
              .p none 42 (.mv (.tmp 2)),
              .p none 43 (.fa 1 (.tmp 7)),
              .l none (some 44) (.ld none (.tmp 43)),
              .l none (some 45) (.call 45 [(.tmp 42), (.tmp 44)]),
              .l none (some 46) (.call 13 [(.tmp 41), (.tmp 45)]),
              .p none 10 (.mv (.tmp 46))])
          (.seq (.reg [.p none 47 (.mv (.tmp 0)),
              .p none 48 (.mv (.tmp 9)),
              .l none (some 49) (.call 46 [(.tmp 47), (.tmp 48)])])
          (.seq (.reg [.p none 50 (.mv (.tmp 10)),
              .p none 51 (.not (.tmp 50))])
          (.cond (.tmp 51)
            (.seq (.reg [.p none 8 (.mv (.const (.bool false)))])
            .ret)
            .skip)))))
          (.seq (.reg [.p none 53 (.bin .eql .i64 (.tmp 12) (.const (.int .i64 3))),
              .p none 52 (.mv (.tmp 53))])
          (.cond (.tmp 52)
            (.seq (.dreg (.line [.qp 0 none 54 (.mv (.tmp 1)),
                .qp 1 none 55 (.fa 1 (.tmp 7)),
                .qp 4 none 58 (.mv (.tmp 2)),
                .qp 5 none 59 (.fa 1 (.tmp 7)),
                .ql 6 none 60 none (.tmp 59),
                .l 2 none (some 56) (.ld none (.tmp 55)),
                .l 3 none (some 57) (.call 47 [(.tmp 54), (.tmp 56)]),
                .l 7 none (some 61) (.call 48 [(.tmp 58), (.tmp 60)]),
                .qp 8 none 62 (.sbin .neq (.tmp 57) (.tmp 61))]))
            (.cond (.tmp 62)
              (.seq (.reg [.p none 8 (.mv (.const (.bool false)))])
              .ret)
              .skip))
            (.seq (.reg [.p none 64 (.bin .eql .i64 (.tmp 12) (.const (.int .i64 4))),
                .p none 63 (.mv (.tmp 64))])
            (.cond (.tmp 63)
              (.seq (.reg [.p none 65 (.mv (.tmp 1)),
                  .p none 66 (.fa 1 (.tmp 7)),
                  .l none (some 67) (.ld none (.tmp 66)),
                  .l none (some 68) (.call 49 [(.tmp 65), (.tmp 67)])])
              (.reg [.p none 69 (.mv (.tmp 2)),
                  .p none 70 (.fa 1 (.tmp 7)),
                  .l none (some 71) (.ld none (.tmp 70)),
                  .l none (some 72) (.call 50 [(.tmp 69), (.tmp 71)])]))
              .skip))))))))))))
  (.seq (.reg [.p none 73 (.mv (.tmp 1)),
      .l none (some 74) (.call 30 [(.tmp 73)]),
      .p none 75 (.mv (.tmp 2)),
      .l none (some 76) (.call 31 [(.tmp 75)]),
      .p none 77 (.bin .eql .i64 (.tmp 74) (.tmp 76)),
      .p none 78 (.mv (.tmp 77)),
      .split 78,
      .p (some (78, true)) 79 (.mv (.tmp 1)),
      .l (some (78, true)) (some 80) (.call 32 [(.tmp 79)]),
      .p (some (78, true)) 81 (.mv (.tmp 2)),
      .l (some (78, true)) (some 82) (.call 33 [(.tmp 81)]),
      .p (some (78, true)) 83 (.aeq false [1, 1] (.tmp 80) (.tmp 82)),
      .p none 84 (.pick (.tmp 78) (.tmp 83) (.const (.bool false))),
      .p none 8 (.mv (.tmp 84))])
  .ret)))
theorem C34 : compile Try.prog 85 (Try.f34.body.getD .skip) = some M34 := by kernel_rfl

/-- (*winnowlaw2.Taken).stands -/
noncomputable def M35 : MC :=
  (.seq (.reg [.p none 2 (.mv (.const (.bool false)))])
  (.seq (.seq (.reg [.p none 3 (.mv (.const (.int .i64 0)))])
  (.block 0
    (.loop
      (.seq (.seq (.reg [.p none 5 (.mv (.tmp 3)),
          .p none 6 (.mv (.tmp 0)),
          .p none 7 (.nilchk (.tmp 6)),
          .p none 8 (.fa 0 (.tmp 7)),
          .l none (some 9) (.ld none (.tmp 8)),
          .p none 10 (.len (.tmp 9)),
          .p none 11 (.bin .lss .i64 (.tmp 5) (.tmp 10))])
      (.cond (.tmp 11)
        .skip
        (.exit 0)))
      (.seq (.block 1
        (.seq (.seq (.dreg (.line [.qp 0 none 14 (.mv (.tmp 0)),
            .qp 1 none 15 (.nilchk (.tmp 14)),
            .qp 2 none 16 (.fa 0 (.tmp 15)),
            .qp 4 none 18 (.mv (.tmp 3)),
            .qp 7 none 21 (.mv (.tmp 0)),
            .qp 8 none 22 (.nilchk (.tmp 21)),
            .qp 9 none 23 (.fa 1 (.tmp 22)),
            .qp 11 none 25 (.mv (.tmp 3)),
            .ql 10 none 24 none (.tmp 23),
            .qp 12 none 26 (.idx 1 (.tmp 24) (.tmp 25)),
            .ql 3 none 17 none (.tmp 16),
            .qp 5 none 19 (.idx 1 (.tmp 17) (.tmp 18)),
            .ql 13 none 27 none (.tmp 26),
            .l 6 none (some 20) (.ld none (.tmp 19)),
            .l 14 none (some 28) (.call 13 [(.tmp 20), (.tmp 27)]),
            .qp 15 none 29 (.not (.tmp 28))]))
        (.cond (.tmp 29)
          (.seq (.reg [.p none 2 (.mv (.const (.bool false)))])
          .ret)
          .skip))
        (.seq (.reg [.p none 30 (.mv (.tmp 0)),
            .p none 31 (.nilchk (.tmp 30)),
            .p none 32 (.fa 0 (.tmp 31)),
            .l none (some 33) (.ld none (.tmp 32)),
            .p none 34 (.mv (.tmp 3)),
            .p none 35 (.idx 1 (.tmp 33) (.tmp 34)),
            .l none (some 36) (.ld none (.tmp 35)),
            .p none 37 (.len (.tmp 36)),
            .p none 4 (.mv (.tmp 37))])
        (.block 2
          (.loop
            (.seq (.seq (.reg [.p none 38 (.mv (.tmp 4)),
                .p none 39 (.mv (.tmp 0)),
                .p none 40 (.nilchk (.tmp 39)),
                .p none 41 (.fa 2 (.tmp 40)),
                .l none (some 42) (.ld none (.tmp 41)),
                .p none 43 (.mv (.tmp 3)),
                .p none 44 (.idx 1 (.tmp 42) (.tmp 43)),
                .l none (some 45) (.ld none (.tmp 44)),
                .p none 46 (.len (.tmp 45)),
                .p none 47 (.bin .lss .i64 (.tmp 38) (.tmp 46))])
            (.cond (.tmp 47)
              .skip
              (.exit 2)))
            (.seq (.block 3
              (.seq (.reg [.p none 50 (.mv (.tmp 0)),
                  .p none 51 (.nilchk (.tmp 50)),
                  .p none 52 (.fa 2 (.tmp 51)),
                  .l none (some 53) (.ld none (.tmp 52)),
                  .p none 54 (.mv (.tmp 3)),
                  .p none 55 (.idx 1 (.tmp 53) (.tmp 54)),
                  .l none (some 56) (.ld none (.tmp 55)),
                  .p none 57 (.mv (.tmp 4)),
                  .p none 58 (.idx 1 (.tmp 56) (.tmp 57)),
                  .l none (some 59) (.ld none (.tmp 58)),
                  .p none 60 (.mv (.tmp 3)),
                  .p none 61 (.div .rem .i64 (.tmp 60) (.const (.int .i64 55))),
                  .p none 62 (.bin .add .i64 (.const (.int .i64 200)) (.tmp 61)),
                  .p none 63 (.conv .u8 (.tmp 62)),
                  .p none 64 (.bin .neq .u8 (.tmp 59) (.tmp 63))])
              (.cond (.tmp 64)
                (.seq (.reg [.p none 2 (.mv (.const (.bool false)))])
                .ret)
                .skip)))
            (.reg [.p none 48 (.mv (.tmp 4)),
                .p none 49 (.bin .add .i64 (.tmp 48) (.const (.int .i64 1))),
                .p none 4 (.mv (.tmp 49))]))))))))
      (.reg [.p none 12 (.mv (.tmp 3)),
          .p none 13 (.bin .add .i64 (.tmp 12) (.const (.int .i64 1))),
          .p none 3 (.mv (.tmp 13))]))))))
  (.seq (.reg [.p none 2 (.mv (.const (.bool true)))])
  .ret)))
theorem C35 : compile Try.prog 65 (Try.f35.body.getD .skip) = some M35 := by kernel_rfl

/-- (*winnowlaw2.Taken).ends -/
noncomputable def M36 : MC :=
  (.seq (.reg [.p none 2 (.mv (.const (.bool false)))])
  (.seq (.seq (.reg [.p none 3 (.mv (.const (.int .i64 0)))])
  (.block 0
    (.loop
      (.seq (.seq (.reg [.p none 4 (.mv (.tmp 3)),
          .p none 5 (.mv (.tmp 0)),
          .p none 6 (.nilchk (.tmp 5)),
          .p none 7 (.fa 0 (.tmp 6)),
          .l none (some 8) (.ld none (.tmp 7)),
          .p none 9 (.len (.tmp 8)),
          .p none 10 (.bin .lss .i64 (.tmp 4) (.tmp 9))])
      (.cond (.tmp 10)
        .skip
        (.exit 0)))
      (.seq (.block 1
        (.reg [.p none 13 (.mv (.tmp 0)),
            .p none 14 (.mv (.tmp 3)),
            .l none (some 15) (.call 51 [(.tmp 13), (.tmp 14)])]))
      (.reg [.p none 11 (.mv (.tmp 3)),
          .p none 12 (.bin .add .i64 (.tmp 11) (.const (.int .i64 2))),
          .p none 3 (.mv (.tmp 12))]))))))
  (.seq (.reg [.p none 16 (.mv (.tmp 0)),
      .l none (some 17) (.call 35 [(.tmp 16)]),
      .p none 2 (.mv (.tmp 17))])
  .ret)))
theorem C36 : compile Try.prog 18 (Try.f36.body.getD .skip) = some M36 := by kernel_rfl

/-- (*nums.Cursor).Num -/
noncomputable def M40 : MC :=
  (.seq (.reg [.l none (some 3) (.bx 2 (.tmp 1)),
      .p none 4 (.mv (.const (.int .i64 0)))])
  (.seq (.reg [.l none (some 5) (.al 2 [(.int .i64 0)])])
  (.seq (.reg [.p none 6 (.mv (.tmp 0)),
      .p none 7 (.mkf (.func 53) [] [(.tmp 3), (.tmp 5)]),
      .l none (some 8) (.call 52 [(.tmp 6), (.tmp 7)])])
  (.seq (.reg [.l none (some 9) (.ld none (.tmp 5)),
      .p none 4 (.mv (.tmp 9))])
  .ret))))
theorem C40 : compile Try.prog 10 (Try.f40.body.getD .skip) = some M40 := by kernel_rfl

/-- (*winnowref2.Cursor).Num -/
noncomputable def M41 : MC :=
  (.seq (.reg [.p none 4 (.mv (.const (.int .i64 0)))])
  (.seq (.seq (.reg [.p none 8 (.mv (.tmp 0)),
      .p none 9 (.isnil false 0 (.tmp 8)),
      .p none 10 (.mv (.tmp 9)),
      .split 10,
      .p (some (10, false)) 11 (.mv (.tmp 0)),
      .p (some (10, false)) 12 (.nilchk (.tmp 11)),
      .p (some (10, false)) 13 (.fa 2 (.tmp 12)),
      .l (some (10, false)) (some 14) (.ld none (.tmp 13)),
      .p none 15 (.pick (.tmp 10) (.const (.bool true)) (.tmp 14))])
  (.cond (.tmp 15)
    (.seq (.reg [.p none 4 (.mv (.const (.int .i64 0)))])
    .ret)
    .skip))
  (.seq (.dreg (.line [.qp 0 none 17 (.mv (.tmp 0)),
      .qp 1 none 18 (.nilchk (.tmp 17)),
      .qp 2 none 19 (.fa 0 (.tmp 18)),
      .qp 4 none 21 (.mv (.tmp 0)),
      .qp 5 none 22 (.nilchk (.tmp 21)),
      .qp 6 none 23 (.fa 1 (.tmp 22)),
      .ql 7 none 24 none (.tmp 23),
      .l 3 none (some 20) (.ld none (.tmp 19)),
      .qp 8 none 25 (.slc 1 (.tmp 20) (some (.tmp 24)) none none),
      .l 9 none (some 26) (.call 19 [(.tmp 25)]),
      .qp 10 none 16 (.mv (.tmp 26)),
      .qp 11 none 27 (.ext 0 (.tmp 16)),
      .qp 12 none 28 (.ext 1 (.tmp 16)),
      .qp 13 none 29 (.ext 2 (.tmp 16)),
      .qp 14 none 5 (.mv (.tmp 27)),
      .qp 15 none 6 (.mv (.tmp 28)),
      .qp 16 none 7 (.mv (.tmp 29))]))
  (.seq (.seq (.reg [.p none 30 (.mv (.tmp 7)),
      .p none 31 (.bin .eql .i64 (.tmp 30) (.const (.int .i64 0))),
      .p none 32 (.mv (.tmp 31)),
      .split 32,
      .p (some (32, true)) 33 (.mv (.tmp 5)),
      .p (some (32, true)) 34 (.mv (.tmp 1)),
      .p (some (32, true)) 35 (.bin .gtr .i64 (.tmp 33) (.tmp 34)),
      .p none 36 (.pick (.tmp 32) (.tmp 35) (.const (.bool false)))])
  (.cond (.tmp 36)
    (.reg [.p none 7 (.mv (.const (.int .i64 23)))])
    .skip))
  (.seq (.seq (.reg [.p none 37 (.mv (.tmp 7)),
      .p none 38 (.bin .neq .i64 (.tmp 37) (.const (.int .i64 0)))])
  (.cond (.tmp 38)
    (.seq (.reg [.p none 39 (.mv (.tmp 0)),
        .p none 40 (.mv (.tmp 7)),
        .l none (some 41) (.call 50 [(.tmp 39), (.tmp 40)])])
    (.seq (.reg [.p none 4 (.mv (.const (.int .i64 0)))])
    .ret))
    .skip))
  (.seq (.reg [.p none 42 (.mv (.tmp 0)),
      .p none 43 (.mv (.tmp 0)),
      .p none 44 (.nilchk (.tmp 43)),
      .p none 45 (.fa 1 (.tmp 44)),
      .l none (some 46) (.ld none (.tmp 45)),
      .p none 47 (.mv (.tmp 6)),
      .p none 48 (.bin .add .i64 (.tmp 46) (.tmp 47)),
      .p none 49 (.nilchk (.tmp 42)),
      .p none 50 (.fa 1 (.tmp 49)),
      .l none none (.st 1 (.tmp 50) (.tmp 48))])
  (.seq (.reg [.p none 51 (.mv (.tmp 5)),
      .p none 4 (.mv (.tmp 51))])
  .ret)))))))
theorem C41 : compile Try.prog 52 (Try.f41.body.getD .skip) = some M41 := by kernel_rfl

/-- (*nums.Cursor).Fixed -/
noncomputable def M42 : MC :=
  (.seq (.reg [.l none (some 3) (.bx 3 (.tmp 1)),
      .p none 4 (.mv (.const (.int .u64 0)))])
  (.seq (.reg [.l none (some 5) (.al 25 [(.int .u64 0)])])
  (.seq (.reg [.p none 6 (.mv (.tmp 0)),
      .p none 7 (.mkf (.func 54) [] [(.tmp 3), (.tmp 5)]),
      .l none (some 8) (.call 52 [(.tmp 6), (.tmp 7)])])
  (.seq (.reg [.l none (some 9) (.ld none (.tmp 5)),
      .p none 4 (.mv (.tmp 9))])
  .ret))))
theorem C42 : compile Try.prog 10 (Try.f42.body.getD .skip) = some M42 := by kernel_rfl

/-- (*winnowref2.Cursor).Fixed -/
noncomputable def M43 : MC :=
  (.seq (.reg [.p none 4 (.mv (.const (.int .u64 0)))])
  (.seq (.seq (.reg [.p none 6 (.mv (.tmp 0)),
      .p none 7 (.isnil false 0 (.tmp 6)),
      .p none 8 (.mv (.tmp 7)),
      .split 8,
      .p (some (8, false)) 9 (.mv (.tmp 0)),
      .p (some (8, false)) 10 (.nilchk (.tmp 9)),
      .p (some (8, false)) 11 (.fa 2 (.tmp 10)),
      .l (some (8, false)) (some 12) (.ld none (.tmp 11)),
      .p none 13 (.pick (.tmp 8) (.const (.bool true)) (.tmp 12))])
  (.cond (.tmp 13)
    (.seq (.reg [.p none 4 (.mv (.const (.int .u64 0)))])
    .ret)
    .skip))
  (.seq (.seq (.reg [.p none 14 (.mv (.tmp 1)),
      .p none 15 (.bin .lss .i64 (.tmp 14) (.const (.int .i64 1))),
      .p none 16 (.mv (.tmp 15)),
      .split 16,
      .p (some (16, false)) 17 (.mv (.tmp 1)),
      .p (some (16, false)) 18 (.bin .gtr .i64 (.tmp 17) (.const (.int .i64 8))),
      .p none 19 (.pick (.tmp 16) (.const (.bool true)) (.tmp 18))])
  (.cond (.tmp 19)
    (.seq (.reg [.p none 20 (.mv (.tmp 0)),
        .l none (some 21) (.call 50 [(.tmp 20), (.const (.int .i64 23))])])
    (.seq (.reg [.p none 4 (.mv (.const (.int .u64 0)))])
    .ret))
    .skip))
  (.seq (.reg [.p none 22 (.mv (.tmp 0)),
      .p none 23 (.mv (.tmp 1)),
      .l none (some 24) (.call 45 [(.tmp 22), (.tmp 23)]),
      .p none 5 (.mv (.tmp 24))])
  (.seq (.reg [.p none 25 (.mv (.tmp 5)),
      .l none (some 26) (.call 21 [(.tmp 25)]),
      .p none 4 (.mv (.tmp 26))])
  .ret)))))
theorem C43 : compile Try.prog 27 (Try.f43.body.getD .skip) = some M43 := by kernel_rfl

/-- (*nums.Cursor).Take -/
noncomputable def M44 : MC :=
  (.seq (.reg [.l none (some 3) (.bx 3 (.tmp 1)),
      .p none 4 (.mv (.const (.slice none 0 0)))])
  (.seq (.reg [.l none (some 5) (.al 22 [(.slice none 0 0)])])
  (.seq (.reg [.p none 6 (.mv (.tmp 0)),
      .p none 7 (.mkf (.func 55) [] [(.tmp 3), (.tmp 5)]),
      .l none (some 8) (.call 52 [(.tmp 6), (.tmp 7)])])
  (.seq (.reg [.l none (some 9) (.ld none (.tmp 5)),
      .p none 4 (.mv (.tmp 9))])
  .ret))))
theorem C44 : compile Try.prog 10 (Try.f44.body.getD .skip) = some M44 := by kernel_rfl

/-- (*winnowref2.Cursor).Take -/
noncomputable def M45 : MC :=
  (.seq (.reg [.p none 4 (.mv (.const (.slice none 0 0)))])
  (.seq (.reg [.p none 5 (.mv (.const (.slice none 0 0)))])
  (.seq (.seq (.reg [.p none 6 (.mv (.tmp 0)),
      .p none 7 (.isnil false 0 (.tmp 6)),
      .p none 8 (.mv (.tmp 7)),
      .split 8,
      .p (some (8, false)) 9 (.mv (.tmp 0)),
      .p (some (8, false)) 10 (.nilchk (.tmp 9)),
      .p (some (8, false)) 11 (.fa 2 (.tmp 10)),
      .l (some (8, false)) (some 12) (.ld none (.tmp 11)),
      .p none 13 (.pick (.tmp 8) (.const (.bool true)) (.tmp 12))])
  (.cond (.tmp 13)
    (.seq (.reg [.p none 14 (.mv (.tmp 5)),
        .p none 4 (.mv (.tmp 14))])
    .ret)
    .skip))
  (.seq (.seq (.reg [.p none 15 (.mv (.tmp 1)),
      .p none 16 (.bin .lss .i64 (.tmp 15) (.const (.int .i64 0)))])
  (.cond (.tmp 16)
    (.seq (.reg [.p none 17 (.mv (.tmp 0)),
        .l none (some 18) (.call 50 [(.tmp 17), (.const (.int .i64 23))])])
    (.seq (.reg [.p none 19 (.mv (.tmp 5)),
        .p none 4 (.mv (.tmp 19))])
    .ret))
    .skip))
  (.seq (.seq (.reg [.p none 20 (.mv (.tmp 1)),
      .p none 21 (.mv (.tmp 0)),
      .l none (some 22) (.call 31 [(.tmp 21)]),
      .p none 23 (.bin .gtr .i64 (.tmp 20) (.tmp 22))])
  (.cond (.tmp 23)
    (.seq (.reg [.p none 24 (.mv (.tmp 0)),
        .l none (some 25) (.call 50 [(.tmp 24), (.const (.int .i64 20))])])
    (.seq (.reg [.p none 26 (.mv (.tmp 5)),
        .p none 4 (.mv (.tmp 26))])
    .ret))
    .skip))
  (.seq (.dreg (.line [.qp 0 none 27 (.mv (.tmp 5)),
      .qp 1 none 28 (.mv (.tmp 0)),
      .qp 2 none 29 (.nilchk (.tmp 28)),
      .qp 3 none 30 (.fa 0 (.tmp 29)),
      .qp 5 none 32 (.mv (.tmp 0)),
      .qp 6 none 33 (.nilchk (.tmp 32)),
      .qp 7 none 34 (.fa 1 (.tmp 33)),
      .qp 9 none 36 (.mv (.tmp 0)),
      .qp 10 none 37 (.nilchk (.tmp 36)),
      .qp 11 none 38 (.fa 1 (.tmp 37)),
      .qp 13 none 40 (.mv (.tmp 1)),
      .ql 12 none 39 none (.tmp 38),
      .qp 14 none 41 (.bin .add .i64 (.tmp 39) (.tmp 40)),
      .ql 8 none 35 none (.tmp 34),
      .l 4 none (some 31) (.ld none (.tmp 30)),
      .qp 15 none 42 (.slc 1 (.tmp 31) (some (.tmp 35)) (some (.tmp 41)) none),
      .l 16 none (some 43) (.app 5 1 1 [(.int .u8 0)] (.tmp 27) (.tmp 42)),
      .qp 17 none 5 (.mv (.tmp 43))]))
  (.seq (.reg [.p none 44 (.mv (.tmp 0)),
      .p none 45 (.mv (.tmp 0)),
      .p none 46 (.nilchk (.tmp 45)),
      .p none 47 (.fa 1 (.tmp 46)),
      .l none (some 48) (.ld none (.tmp 47)),
      .p none 49 (.mv (.tmp 1)),
      .p none 50 (.bin .add .i64 (.tmp 48) (.tmp 49)),
      .p none 51 (.nilchk (.tmp 44)),
      .p none 52 (.fa 1 (.tmp 51)),
      .l none none (.st 1 (.tmp 52) (.tmp 50))])
  (.seq (.reg [.p none 53 (.mv (.tmp 5)),
      .p none 4 (.mv (.tmp 53))])
  .ret))))))))
theorem C45 : compile Try.prog 54 (Try.f45.body.getD .skip) = some M45 := by kernel_rfl

/-- (*winnowlaw2.Taken).keep -/
noncomputable def M46 : MC :=
  (.seq (.reg [.p none 4 (.mv (.const (.slice none 0 0)))])
  (.seq (.reg [.p none 5 (.mv (.tmp 4)),
      .p none 6 (.mv (.tmp 1)),
      .l none (some 7) (.app 5 1 1 [(.int .u8 0)] (.tmp 5) (.tmp 6)),
      .p none 4 (.mv (.tmp 7))])
  (.seq (.reg [.p none 8 (.mv (.tmp 0)),
      .p none 9 (.mv (.tmp 0)),
      .p none 10 (.nilchk (.tmp 9)),
      .p none 11 (.fa 0 (.tmp 10)),
      .l none (some 12) (.ld none (.tmp 11)),
      .p none 13 (.mv (.tmp 1)),
      .l none (some 14) (.bs 22 1 1 [(.slice none 0 0)] [(0, 1, (.tmp 13))]),
      .l none (some 15) (.app 22 24 1 [(.slice none 0 0)] (.tmp 12) (.tmp 14)),
      .p none 16 (.nilchk (.tmp 8)),
      .p none 17 (.fa 0 (.tmp 16)),
      .l none none (.st 1 (.tmp 17) (.tmp 15))])
  (.seq (.reg [.p none 18 (.mv (.tmp 0)),
      .p none 19 (.mv (.tmp 0)),
      .p none 20 (.nilchk (.tmp 19)),
      .p none 21 (.fa 1 (.tmp 20)),
      .l none (some 22) (.ld none (.tmp 21)),
      .p none 23 (.mv (.tmp 4)),
      .l none (some 24) (.bs 22 1 1 [(.slice none 0 0)] [(0, 1, (.tmp 23))]),
      .l none (some 25) (.app 22 24 1 [(.slice none 0 0)] (.tmp 22) (.tmp 24)),
      .p none 26 (.nilchk (.tmp 18)),
      .p none 27 (.fa 1 (.tmp 26)),
      .l none none (.st 1 (.tmp 27) (.tmp 25))])
  (.seq (.reg [.p none 28 (.mv (.tmp 0)),
      .p none 29 (.mv (.tmp 0)),
      .p none 30 (.nilchk (.tmp 29)),
      .p none 31 (.fa 2 (.tmp 30)),
      .l none (some 32) (.ld none (.tmp 31)),
      .l none (some 33) (.bs 22 1 1 [(.slice none 0 0)] [(0, 1, (.const (.slice none 0 0)))]),
      .l none (some 34) (.app 22 24 1 [(.slice none 0 0)] (.tmp 32) (.tmp 33)),
      .p none 35 (.nilchk (.tmp 28)),
      .p none 36 (.fa 2 (.tmp 35)),
      .l none none (.st 1 (.tmp 36) (.tmp 34))])
  (.seq (.reg [.p none 37 (.mv (.tmp 0)),
      .p none 38 (.nilchk (.tmp 37)),
      .p none 39 (.fa 0 (.tmp 38)),
      .l none (some 40) (.ld none (.tmp 39)),
      .p none 41 (.len (.tmp 40)),
      .p none 42 (.div .rem .i64 (.tmp 41) (.const (.int .i64 2))),
      .p none 43 (.bin .eql .i64 (.tmp 42) (.const (.int .i64 0)))])
  (.cond (.tmp 43)
    (.reg [.p none 44 (.mv (.tmp 0)),
        .p none 45 (.mv (.tmp 0)),
        .p none 46 (.nilchk (.tmp 45)),
        .p none 47 (.fa 0 (.tmp 46)),
        .l none (some 48) (.ld none (.tmp 47)),
        .p none 49 (.len (.tmp 48)),
        .p none 50 (.bin .sub .i64 (.tmp 49) (.const (.int .i64 1))),
        .l none (some 51) (.call 51 [(.tmp 44), (.tmp 50)])])
    .skip)))))))
theorem C46 : compile Try.prog 52 (Try.f46.body.getD .skip) = some M46 := by kernel_rfl

/-- (*nums.Cursor).Text -/
noncomputable def M47 : MC :=
  (.seq (.reg [.l none (some 3) (.bx 3 (.tmp 1)),
      .p none 4 (.mv (.const (.string ⟨#[]⟩)))])
  (.seq (.reg [.l none (some 5) (.al 9 [(.string ⟨#[]⟩)])])
  (.seq (.reg [.p none 6 (.mv (.tmp 0)),
      .p none 7 (.mkf (.func 56) [] [(.tmp 3), (.tmp 5)]),
      .l none (some 8) (.call 52 [(.tmp 6), (.tmp 7)])])
  (.seq (.reg [.l none (some 9) (.ld none (.tmp 5)),
      .p none 4 (.mv (.tmp 9))])
  .ret))))
theorem C47 : compile Try.prog 10 (Try.f47.body.getD .skip) = some M47 := by kernel_rfl

/-- (*winnowref2.Cursor).Text -/
noncomputable def M48 : MC :=
  (.seq (.reg [.p none 4 (.mv (.const (.string ⟨#[]⟩)))])
  (.seq (.seq (.reg [.p none 8 (.mv (.tmp 0)),
      .p none 9 (.isnil false 0 (.tmp 8)),
      .p none 10 (.mv (.tmp 9)),
      .split 10,
      .p (some (10, false)) 11 (.mv (.tmp 0)),
      .p (some (10, false)) 12 (.nilchk (.tmp 11)),
      .p (some (10, false)) 13 (.fa 2 (.tmp 12)),
      .l (some (10, false)) (some 14) (.ld none (.tmp 13)),
      .p none 15 (.pick (.tmp 10) (.const (.bool true)) (.tmp 14))])
  (.cond (.tmp 15)
    (.seq (.reg [.p none 4 (.mv (.const (.string ⟨#[]⟩)))])
    .ret)
    .skip))
  (.seq (.reg [.p none 16 (.mv (.tmp 0)),
      .p none 17 (.nilchk (.tmp 16)),
      .p none 18 (.fa 1 (.tmp 17)),
      .l none (some 19) (.ld none (.tmp 18)),
      .p none 5 (.mv (.tmp 19))])
  (.seq (.reg [.p none 20 (.mv (.tmp 0)),
      .p none 21 (.mv (.tmp 1)),
      .l none (some 22) (.call 41 [(.tmp 20), (.tmp 21)]),
      .p none 6 (.mv (.tmp 22))])
  (.seq (.seq (.reg [.p none 23 (.mv (.tmp 0)),
      .p none 24 (.nilchk (.tmp 23)),
      .p none 25 (.fa 2 (.tmp 24)),
      .l none (some 26) (.ld none (.tmp 25))])
  (.cond (.tmp 26)
    (.seq (.reg [.p none 4 (.mv (.const (.string ⟨#[]⟩)))])
    .ret)
    .skip))
  (.seq (.seq (.reg [.p none 27 (.mv (.tmp 6)),
      .p none 28 (.mv (.tmp 0)),
      .l none (some 29) (.call 31 [(.tmp 28)]),
      .p none 30 (.bin .gtr .i64 (.tmp 27) (.tmp 29))])
  (.cond (.tmp 30)
    (.seq (.reg [.p none 31 (.mv (.tmp 0)),
        .p none 32 (.mv (.tmp 5)),
        .p none 33 (.nilchk (.tmp 31)),
        .p none 34 (.fa 1 (.tmp 33)),
        .l none none (.st 1 (.tmp 34) (.tmp 32))])
    (.seq (.reg [.p none 35 (.mv (.tmp 0)),
        .l none (some 36) (.call 50 [(.tmp 35), (.const (.int .i64 20))])])
    (.seq (.reg [.p none 4 (.mv (.const (.string ⟨#[]⟩)))])
    .ret)))
    .skip))
  (.seq (.reg [.p none 37 (.mv (.tmp 0)),
      .p none 38 (.mv (.tmp 6)),
      .l none (some 39) (.call 45 [(.tmp 37), (.tmp 38)]),
      .p none 7 (.mv (.tmp 39))])
  (.seq (.reg [.p none 40 (.mv (.tmp 7)),
      .l none (some 41) (.b2s (.tmp 40)),
      .p none 4 (.mv (.tmp 41))])
  .ret))))))))
theorem C48 : compile Try.prog 42 (Try.f48.body.getD .skip) = some M48 := by kernel_rfl

/-- (*nums.Cursor).Fail -/
noncomputable def M49 : MC :=
  (.seq (.reg [.l none (some 3) (.bx 29 (.tmp 1))])
  (.reg [.p none 4 (.mv (.tmp 0)),
      .p none 5 (.mkf (.func 57) [] [(.tmp 3)]),
      .l none (some 6) (.call 52 [(.tmp 4), (.tmp 5)])]))
theorem C49 : compile Try.prog 7 (Try.f49.body.getD .skip) = some M49 := by kernel_rfl

/-- (*winnowref2.Cursor).Fail -/
noncomputable def M50 : MC :=
  (.seq (.seq (.reg [.p none 4 (.mv (.tmp 0)),
      .p none 5 (.isnil false 0 (.tmp 4)),
      .p none 6 (.mv (.tmp 5)),
      .split 6,
      .p (some (6, false)) 7 (.mv (.tmp 0)),
      .p (some (6, false)) 8 (.nilchk (.tmp 7)),
      .p (some (6, false)) 9 (.fa 2 (.tmp 8)),
      .l (some (6, false)) (some 10) (.ld none (.tmp 9)),
      .p none 11 (.pick (.tmp 6) (.const (.bool true)) (.tmp 10)),
      .p none 12 (.mv (.tmp 11)),
      .split 12,
      .p (some (12, false)) 13 (.mv (.tmp 1)),
      .p (some (12, false)) 14 (.bin .eql .i64 (.tmp 13) (.const (.int .i64 0))),
      .p none 15 (.pick (.tmp 12) (.const (.bool true)) (.tmp 14))])
  (.cond (.tmp 15)
    .ret
    .skip))
  (.seq (.reg [.p none 16 (.mv (.tmp 0)),
      .p none 17 (.nilchk (.tmp 16)),
      .p none 18 (.fa 2 (.tmp 17)),
      .l none none (.st 1 (.tmp 18) (.const (.bool true)))])
  (.reg [.p none 19 (.mv (.tmp 0)),
      .p none 20 (.mv (.tmp 1)),
      .p none 21 (.mv (.tmp 0)),
      .p none 22 (.nilchk (.tmp 21)),
      .p none 23 (.fa 1 (.tmp 22)),
      .l none (some 24) (.ld none (.tmp 23)),
      .p none 25 (.bld [(.int .i64 0), (.int .i64 0)] [(0, 1, (.tmp 20)), (1, 1, (.tmp 24))]),
      .p none 26 (.nilchk (.tmp 19)),
      .p none 27 (.fa 3 (.tmp 26)),
      .l none none (.st 2 (.tmp 27) (.tmp 25))])))
theorem C50 : compile Try.prog 28 (Try.f50.body.getD .skip) = some M50 := by kernel_rfl

/-- (*winnowlaw2.Taken).mark -/
noncomputable def M51 : MC :=
  (.seq (.reg [.p none 7 (.mv (.tmp 0)),
      .p none 8 (.nilchk (.tmp 7)),
      .p none 9 (.fa 0 (.tmp 8)),
      .l none (some 10) (.ld none (.tmp 9)),
      .p none 11 (.mv (.tmp 1)),
      .p none 12 (.idx 1 (.tmp 10) (.tmp 11)),
      .l none (some 13) (.ld none (.tmp 12)),
      .p none 4 (.mv (.tmp 13))])
  (.seq (.seq (.reg [.p none 5 (.mv (.const (.int .i64 0)))])
  (.block 0
    (.loop
      (.seq (.seq (.reg [.p none 14 (.mv (.tmp 5)),
          .p none 15 (.mv (.tmp 4)),
          .p none 16 (.len (.tmp 15)),
          .p none 17 (.bin .lss .i64 (.tmp 14) (.tmp 16))])
      (.cond (.tmp 17)
        .skip
        (.exit 0)))
      (.seq (.block 1
        (.seq (.reg [.p none 20 (.mv (.tmp 4)),
            .p none 21 (.mv (.tmp 5)),
            .p none 22 (.mv (.tmp 1)),
            .p none 23 (.div .rem .i64 (.tmp 22) (.const (.int .i64 199))),
            .p none 24 (.conv .u8 (.tmp 23)),
            .p none 25 (.idx 1 (.tmp 20) (.tmp 21)),
            .l none none (.st 1 (.tmp 25) (.tmp 24))])
        (.reg [.p none 26 (.mv (.tmp 0)),
            .p none 27 (.nilchk (.tmp 26)),
            .p none 28 (.fa 1 (.tmp 27)),
            .l none (some 29) (.ld none (.tmp 28)),
            .p none 30 (.mv (.tmp 1)),
            .p none 31 (.idx 1 (.tmp 29) (.tmp 30)),
            .l none (some 32) (.ld none (.tmp 31)),
            .p none 33 (.mv (.tmp 5)),
            .p none 34 (.mv (.tmp 1)),
            .p none 35 (.div .rem .i64 (.tmp 34) (.const (.int .i64 199))),
            .p none 36 (.conv .u8 (.tmp 35)),
            .p none 37 (.idx 1 (.tmp 32) (.tmp 33)),
            .l none none (.st 1 (.tmp 37) (.tmp 36))])))
      (.reg [.p none 18 (.mv (.tmp 5)),
          .p none 19 (.bin .add .i64 (.tmp 18) (.const (.int .i64 1))),
          .p none 5 (.mv (.tmp 19))]))))))
  (.seq (.seq (.reg [.p none 6 (.mv (.const (.int .i64 0)))])
  (.block 2
    (.loop
      (.seq (.seq (.reg [.p none 38 (.mv (.tmp 6)),
          .p none 39 (.bin .lss .i64 (.tmp 38) (.const (.int .i64 64)))])
      (.cond (.tmp 39)
        .skip
        (.exit 2)))
      (.seq (.block 3
        (.reg [.p none 42 (.mv (.tmp 4)),
            .p none 43 (.mv (.tmp 1)),
            .p none 44 (.div .rem .i64 (.tmp 43) (.const (.int .i64 55))),
            .p none 45 (.bin .add .i64 (.const (.int .i64 200)) (.tmp 44)),
            .p none 46 (.conv .u8 (.tmp 45)),
            .l none (some 47) (.bs 5 1 1 [(.int .u8 0)] [(0, 1, (.tmp 46))]),
            .l none (some 48) (.app 5 1 1 [(.int .u8 0)] (.tmp 42) (.tmp 47)),
            .p none 4 (.mv (.tmp 48))]))
      (.reg [.p none 40 (.mv (.tmp 6)),
          .p none 41 (.bin .add .i64 (.tmp 40) (.const (.int .i64 1))),
          .p none 6 (.mv (.tmp 41))]))))))
  (.reg [.p none 49 (.mv (.tmp 0)),
      .p none 50 (.nilchk (.tmp 49)),
      .p none 51 (.fa 2 (.tmp 50)),
      .l none (some 52) (.ld none (.tmp 51)),
      .p none 53 (.mv (.tmp 1)),
      .p none 54 (.mv (.tmp 4)),
      .p none 55 (.idx 1 (.tmp 52) (.tmp 53)),
      .l none none (.st 1 (.tmp 55) (.tmp 54))]))))
theorem C51 : compile Try.prog 56 (Try.f51.body.getD .skip) = some M51 := by kernel_rfl

/-- (*nums.Cursor).reads -/
noncomputable def M52 : MC :=
  (.seq (.seq (.reg [.p none 6 (.mv (.tmp 0)),
      .p none 7 (.isnil false 0 (.tmp 6)),
      .p none 8 (.mv (.tmp 7)),
      .split 8,
      .p (some (8, false)) 9 (.mv (.tmp 0)),
      .p (some (8, false)) 10 (.nilchk (.tmp 9)),
      .p (some (8, false)) 11 (.fa 2 (.tmp 10)),
      .l (some (8, false)) (some 12) (.ld none (.tmp 11)),
      .p (some (8, false)) 13 (.bin .neq .i64 (.tmp 12) (.const (.int .i64 0))),
      .p none 14 (.pick (.tmp 8) (.const (.bool true)) (.tmp 13))])
  (.cond (.tmp 14)
    .ret
    .skip))
  (.seq (.dreg (.line [.qp 0 none 16 (.mv (.tmp 1)),
      .qp 1 none 17 (.mv (.tmp 0)),
      .qp 2 none 18 (.nilchk (.tmp 17)),
      .qp 3 none 19 (.fa 0 (.tmp 18)),
      .qp 5 none 21 (.mv (.tmp 0)),
      .qp 6 none 22 (.nilchk (.tmp 21)),
      .qp 7 none 23 (.fa 1 (.tmp 22)),
      .ql 8 none 24 none (.tmp 23),
      .l 4 none (some 20) (.ld none (.tmp 19)),
      .qp 9 none 25 (.slc 1 (.tmp 20) (some (.tmp 24)) none none),
      .l 10 none (some 26) (.callv (.tmp 16) [(.tmp 25)]),
      .qp 11 none 15 (.mv (.tmp 26)),
      .qp 12 none 27 (.ext 0 (.tmp 15)),
      .qp 13 none 28 (.ext 1 (.tmp 15)),
      .qp 14 none 4 (.mv (.tmp 27)),
      .qp 15 none 5 (.mv (.tmp 28))]))
  (.seq (.seq (.reg [.p none 29 (.mv (.tmp 5)),
      .p none 30 (.bin .neq .i64 (.tmp 29) (.const (.int .i64 0)))])
  (.cond (.tmp 30)
    (.seq (.reg [.p none 31 (.mv (.tmp 0)),
        .p none 32 (.mv (.tmp 5)),
        .p none 33 (.nilchk (.tmp 31)),
        .p none 34 (.fa 2 (.tmp 33)),
        .l none none (.st 1 (.tmp 34) (.tmp 32))])
    .ret)
    .skip))
  (.reg [.p none 35 (.mv (.tmp 0)),
      .p none 36 (.nilchk (.tmp 35)),
      .p none 37 (.fa 1 (.tmp 36)),
      .l none (some 38) (.ld none (.tmp 37)),
      .p none 39 (.mv (.tmp 4)),
      .p none 40 (.bin .add .i64 (.tmp 38) (.tmp 39)),
      .p none 41 (.nilchk (.tmp 35)),
      .p none 42 (.fa 1 (.tmp 41)),
      .l none none (.st 1 (.tmp 42) (.tmp 40))]))))
theorem C52 : compile Try.prog 43 (Try.f52.body.getD .skip) = some M52 := by kernel_rfl

/-- (*nums.Cursor).Num$1 -/
noncomputable def M53 : MC :=
  (.seq (.reg [.p none 4 (.mv (.const (.int .i64 0))),
      .p none 5 (.mv (.const (.int .i64 0)))])
  (.seq (.reg [.p none 10 (.mv (.tmp 0)),
      .l none (some 11) (.call 18 [(.tmp 10)]),
      .p none 9 (.mv (.tmp 11)),
      .p none 12 (.ext 0 (.tmp 9)),
      .p none 13 (.ext 1 (.tmp 9)),
      .p none 14 (.ext 2 (.tmp 9)),
      .p none 6 (.mv (.tmp 12)),
      .p none 7 (.mv (.tmp 13)),
      .p none 8 (.mv (.tmp 14))])
  (.seq (.seq (.reg [.p none 15 (.mv (.tmp 8)),
      .p none 16 (.bin .eql .i64 (.tmp 15) (.const (.int .i64 0))),
      .p none 17 (.mv (.tmp 16)),
      .split 17,
      .p (some (17, true)) 18 (.mv (.tmp 6)),
      .l (some (17, true)) (some 19) (.ld none (.tmp 1)),
      .p (some (17, true)) 20 (.bin .gtr .i64 (.tmp 18) (.tmp 19)),
      .p none 21 (.pick (.tmp 17) (.tmp 20) (.const (.bool false)))])
  (.cond (.tmp 21)
    (.reg [.p none 8 (.mv (.const (.int .i64 23)))])
    .skip))
  (.seq (.seq (.reg [.p none 22 (.mv (.tmp 8)),
      .p none 23 (.bin .eql .i64 (.tmp 22) (.const (.int .i64 0)))])
  (.cond (.tmp 23)
    (.reg [.p none 24 (.mv (.tmp 6)),
        .l none none (.st 1 (.tmp 2) (.tmp 24))])
    .skip))
  (.seq (.reg [.p none 25 (.mv (.tmp 7)),
      .p none 26 (.mv (.tmp 8)),
      .p none 4 (.mv (.tmp 25)),
      .p none 5 (.mv (.tmp 26))])
  .ret)))))
theorem C53 : compile Try.prog 27 (Try.f53.body.getD .skip) = some M53 := by kernel_rfl

/-- (*nums.Cursor).Fixed$1 -/
noncomputable def M54 : MC :=
  (.seq (.reg [.p none 4 (.mv (.const (.int .i64 0))),
      .p none 5 (.mv (.const (.int .i64 0)))])
  (.seq (.block 0
    (.seq (.reg [.l none (some 7) (.ld none (.tmp 1)),
        .p none 8 (.bin .lss .i64 (.tmp 7) (.const (.int .i64 1))),
        .p none 9 (.mv (.tmp 8)),
        .split 9,
        .l (some (9, false)) (some 10) (.ld none (.tmp 1)),
        .p (some (9, false)) 11 (.bin .gtr .i64 (.tmp 10) (.const (.int .i64 8))),
        .p none 12 (.pick (.tmp 9) (.const (.bool true)) (.tmp 11)),
        .p none 6 (.mv (.tmp 12))])
    (.cond (.tmp 6)
      (.seq (.reg [.p none 4 (.mv (.const (.int .i64 0))),
          .p none 5 (.mv (.const (.int .i64 23)))])
      .ret)
      (.seq (.reg [.l none (some 14) (.ld none (.tmp 1)),
          .p none 15 (.mv (.tmp 0)),
          .p none 16 (.len (.tmp 15)),
          .p none 17 (.bin .gtr .i64 (.tmp 14) (.tmp 16)),
          .p none 13 (.mv (.tmp 17))])
      (.cond (.tmp 13)
        (.seq (.reg [.p none 4 (.mv (.const (.int .i64 0))),
            .p none 5 (.mv (.const (.int .i64 20)))])
        .ret)
        .skip)))))
  (.seq (.reg [.p none 18 (.mv (.tmp 0)),
      .l none (some 19) (.ld none (.tmp 1)),
      .p none 20 (.slc 1 (.tmp 18) none (some (.tmp 19)) none),
      .l none (some 21) (.call 20 [(.tmp 20)]),
      .l none none (.st 1 (.tmp 2) (.tmp 21))])
  (.seq (.reg [.l none (some 22) (.ld none (.tmp 1)),
      .p none 4 (.mv (.tmp 22)),
      .p none 5 (.mv (.const (.int .i64 0)))])
  .ret))))
theorem C54 : compile Try.prog 23 (Try.f54.body.getD .skip) = some M54 := by kernel_rfl

/-- (*nums.Cursor).Take$1 -/
noncomputable def M55 : MC :=
  (.seq (.reg [.p none 4 (.mv (.const (.int .i64 0))),
      .p none 5 (.mv (.const (.int .i64 0)))])
  (.seq (.block 0
    (.seq (.reg [.l none (some 7) (.ld none (.tmp 1)),
        .p none 8 (.bin .lss .i64 (.tmp 7) (.const (.int .i64 0))),
        .p none 6 (.mv (.tmp 8))])
    (.cond (.tmp 6)
      (.seq (.reg [.p none 4 (.mv (.const (.int .i64 0))),
          .p none 5 (.mv (.const (.int .i64 23)))])
      .ret)
      (.seq (.reg [.l none (some 10) (.ld none (.tmp 1)),
          .p none 11 (.mv (.tmp 0)),
          .p none 12 (.len (.tmp 11)),
          .p none 13 (.bin .gtr .i64 (.tmp 10) (.tmp 12)),
          .p none 9 (.mv (.tmp 13))])
      (.cond (.tmp 9)
        (.seq (.reg [.p none 4 (.mv (.const (.int .i64 0))),
            .p none 5 (.mv (.const (.int .i64 20)))])
        .ret)
        .skip)))))
  (.seq (.dreg (.line [.qp 1 none 15 (.mv (.tmp 0)),
      .ql 2 none 16 none (.tmp 1),
      .qp 3 none 17 (.slc 1 (.tmp 15) none (some (.tmp 16)) none),
      .l 0 none (some 14) (.ld none (.tmp 2)),
      .l 4 none (some 18) (.app 5 1 1 [(.int .u8 0)] (.tmp 14) (.tmp 17)),
      .l 5 none none (.st 1 (.tmp 2) (.tmp 18))]))
  (.seq (.reg [.l none (some 19) (.ld none (.tmp 1)),
      .p none 4 (.mv (.tmp 19)),
      .p none 5 (.mv (.const (.int .i64 0)))])
  .ret))))
theorem C55 : compile Try.prog 20 (Try.f55.body.getD .skip) = some M55 := by kernel_rfl

/-- (*nums.Cursor).Text$1 -/
noncomputable def M56 : MC :=
  (.seq (.reg [.p none 4 (.mv (.const (.int .i64 0))),
      .p none 5 (.mv (.const (.int .i64 0)))])
  (.seq (.reg [.p none 10 (.mv (.tmp 0)),
      .l none (some 11) (.call 18 [(.tmp 10)]),
      .p none 9 (.mv (.tmp 11)),
      .p none 12 (.ext 0 (.tmp 9)),
      .p none 13 (.ext 1 (.tmp 9)),
      .p none 14 (.ext 2 (.tmp 9)),
      .p none 6 (.mv (.tmp 12)),
      .p none 7 (.mv (.tmp 13)),
      .p none 8 (.mv (.tmp 14))])
  (.seq (.block 0
    (.seq (.reg [.p none 16 (.mv (.tmp 8)),
        .p none 17 (.bin .neq .i64 (.tmp 16) (.const (.int .i64 0))),
        .p none 15 (.mv (.tmp 17))])
    (.cond (.tmp 15)
      (.seq (.reg [.p none 18 (.mv (.tmp 8)),
          .p none 4 (.mv (.const (.int .i64 0))),
          .p none 5 (.mv (.tmp 18))])
      .ret)
      (.seq (.reg [.p none 20 (.mv (.tmp 6)),
          .l none (some 21) (.ld none (.tmp 1)),
          .p none 22 (.bin .gtr .i64 (.tmp 20) (.tmp 21)),
          .p none 19 (.mv (.tmp 22))])
      (.cond (.tmp 19)
        (.seq (.reg [.p none 4 (.mv (.const (.int .i64 0))),
            .p none 5 (.mv (.const (.int .i64 23)))])
        .ret)
        (.seq (.reg [.p none 24 (.mv (.tmp 6)),
            .p none 25 (.mv (.tmp 0)),
            .p none 26 (.len (.tmp 25)),
            .p none 27 (.mv (.tmp 7)),
            .p none 28 (.bin .sub .i64 (.tmp 26) (.tmp 27)),
            .p none 29 (.bin .gtr .i64 (.tmp 24) (.tmp 28)),
            .p none 23 (.mv (.tmp 29))])
        (.cond (.tmp 23)
          (.seq (.reg [.p none 4 (.mv (.const (.int .i64 0))),
              .p none 5 (.mv (.const (.int .i64 20)))])
          .ret)
          .skip)))))))
  (.seq (.reg [.p none 30 (.mv (.tmp 0)),
      .p none 31 (.mv (.tmp 7)),
      .p none 32 (.mv (.tmp 7)),
      .p none 33 (.mv (.tmp 6)),
      .p none 34 (.bin .add .i64 (.tmp 32) (.tmp 33)),
      .p none 35 (.slc 1 (.tmp 30) (some (.tmp 31)) (some (.tmp 34)) none),
      .l none (some 36) (.b2s (.tmp 35)),
      .l none none (.st 1 (.tmp 2) (.tmp 36))])
  (.seq (.reg [.p none 37 (.mv (.tmp 7)),
      .p none 38 (.mv (.tmp 6)),
      .p none 39 (.bin .add .i64 (.tmp 37) (.tmp 38)),
      .p none 4 (.mv (.tmp 39)),
      .p none 5 (.mv (.const (.int .i64 0)))])
  .ret)))))
theorem C56 : compile Try.prog 40 (Try.f56.body.getD .skip) = some M56 := by kernel_rfl

/-- (*nums.Cursor).Fail$1 -/
noncomputable def M57 : MC :=
  (.seq (.reg [.p none 3 (.mv (.const (.int .i64 0))),
      .p none 4 (.mv (.const (.int .i64 0)))])
  (.seq (.dreg (.line [.qp 1 none 3 (.mv (.const (.int .i64 0))),
      .l 0 none (some 5) (.ld none (.tmp 1)),
      .qp 2 none 4 (.mv (.tmp 5))]))
  .ret))
theorem C57 : compile Try.prog 6 (Try.f57.body.getD .skip) = some M57 := by kernel_rfl
end Go.Proofs.Ytdjdhplacfemfaa.E
