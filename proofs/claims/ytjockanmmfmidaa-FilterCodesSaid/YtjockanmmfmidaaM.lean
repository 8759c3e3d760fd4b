/- The intermediate code of the functions that are walked here, each with the proof that it is the translation of the model's code. -/
import Derived.Test.YtjockanmmfmidaaE6
import Derived.KernelRfl
namespace Go.Proofs.Ytjockanmmfmidaa.E
open Go
theorem mixed : Try.prog.follows .mixedOrders = true := by kernel_rfl

/-- winnowlaw7.FilterBuilds -/
def M4 : MC :=
  (.seq (.reg [.p none 6 (.mv (.const (.bool false)))])
  (.seq (.reg [.p none 20 (.mv (.tmp 0)),
      .l none (some 21) (.call 9 [(.tmp 20)]),
      .p none 7 (.mv (.tmp 21))])
  (.seq (.reg [.p none 23 (.mv (.tmp 7)),
      .p none 24 (.mv (.tmp 0)),
      .p none 25 (.len (.tmp 24)),
      .p none 26 (.slc 1 (.tmp 23) none (some (.tmp 25)) none),
      .p none 27 (.mv (.tmp 1)),
      .l none (some 28) (.call 10 [(.tmp 26), (.tmp 27)]),
      .p none 22 (.mv (.tmp 28)),
      .p none 29 (.ext 0 (.tmp 22)),
      .p none 30 (.ext 1 (.tmp 22)),
      .l none (some 8) (.al 30 [(.bool false), (.int .i64 0), (.slice none 0 0)]),
      .l none none (.st 3 (.tmp 8) (.tmp 29)),
      .p none 9 (.mv (.tmp 30))])
  (.seq (.reg [.p none 32 (.mv (.tmp 7)),
      .p none 33 (.mv (.tmp 0)),
      .p none 34 (.len (.tmp 33)),
      .p none 35 (.slc 1 (.tmp 32) none (some (.tmp 34)) none),
      .p none 36 (.mv (.tmp 1)),
      .l none (some 37) (.call 10 [(.tmp 35), (.tmp 36)]),
      .p none 31 (.mv (.tmp 37)),
      .p none 38 (.ext 0 (.tmp 31)),
      .p none 39 (.ext 1 (.tmp 31)),
      .l none (some 10) (.al 30 [(.bool false), (.int .i64 0), (.slice none 0 0)]),
      .l none none (.st 3 (.tmp 10) (.tmp 38)),
      .p none 11 (.mv (.tmp 39))])
  (.seq (.reg [.p none 40 (.fa 2 (.tmp 8)),
      .l none (some 41) (.ld none (.tmp 40)),
      .l none (some 42) (.call 11 [(.tmp 41), (.const (.int .u8 7))]),
      .p none 12 (.mv (.tmp 42))])
  (.seq (.reg [.p none 44 (.mv (.tmp 0)),
      .p none 45 (.mv (.tmp 1)),
      .l none (some 46) (.call 12 [(.tmp 44), (.tmp 45)]),
      .p none 43 (.mv (.tmp 46)),
      .p none 47 (.ext 0 (.tmp 43)),
      .p none 48 (.ext 1 (.tmp 43)),
      .l none (some 13) (.al 30 [(.bool false), (.int .i64 0), (.slice none 0 0)]),
      .l none none (.st 3 (.tmp 13) (.tmp 47)),
      .p none 14 (.mv (.tmp 48))])
  (.seq (.seq (.reg [.p none 15 (.mv (.const (.int .i64 0)))])
  (.block 0
    (.loop
      (.seq (.seq (.reg [.p none 49 (.mv (.tmp 15)),
          .p none 50 (.mv (.tmp 2)),
          .p none 51 (.len (.tmp 50)),
          .p none 52 (.bin .lss .i64 (.tmp 49) (.tmp 51))])
      (.cond (.tmp 52)
        .skip
        (.exit 0)))
      (.seq (.block 1
        (.seq (.dreg (.line [.qp 1 none 56 (.mv (.tmp 2)),
            .qp 2 none 57 (.mv (.tmp 15)),
            .qp 3 none 58 (.idx 1 (.tmp 56) (.tmp 57)),
            .qp 7 none 62 (.mv (.tmp 2)),
            .qp 8 none 63 (.mv (.tmp 15)),
            .qp 9 none 64 (.idx 1 (.tmp 62) (.tmp 63)),
            .ql 6 none 61 (some 3) (.tmp 13),
            .ql 0 none 55 (some 3) (.tmp 10),
            .ql 10 none 65 none (.tmp 64),
            .l 4 none (some 59) (.ld none (.tmp 58)),
            .l 5 none (some 60) (.call 13 [(.tmp 55), (.tmp 59)]),
            .l 11 none (some 66) (.call 14 [(.tmp 61), (.tmp 65)]),
            .qp 12 none 67 (.beq true (.tmp 60) (.tmp 66))]))
        (.cond (.tmp 67)
          (.seq (.reg [.p none 6 (.mv (.const (.bool false)))])
          .ret)
          .skip)))
      (.reg [.p none 53 (.mv (.tmp 15)),
          .p none 54 (.bin .add .i64 (.tmp 53) (.const (.int .i64 1))),
          .p none 15 (.mv (.tmp 54))]))))))
  (.seq (.seq (.reg [.p none 68 (.mv (.tmp 9)),
      .p none 69 (.mv (.tmp 14)),
      .p none 70 (.bin .neq .i64 (.tmp 68) (.tmp 69)),
      .p none 71 (.mv (.tmp 70)),
      .split 71,
      .p (some (71, false)) 72 (.mv (.tmp 11)),
      .p (some (71, false)) 73 (.mv (.tmp 14)),
      .p (some (71, false)) 74 (.bin .neq .i64 (.tmp 72) (.tmp 73)),
      .p none 75 (.pick (.tmp 71) (.const (.bool true)) (.tmp 74)),
      .p none 76 (.mv (.tmp 75)),
      .split 76,
      .l (some (76, false)) (some 77) (.ld (some 3) (.tmp 10)),
      .l (some (76, false)) (some 78) (.ld (some 3) (.tmp 13)),
      .l (some (76, false)) (some 79) (.call 15 [(.tmp 77), (.tmp 78)]),
      .p (some (76, false)) 80 (.not (.tmp 79)),
      .p none 81 (.pick (.tmp 76) (.const (.bool true)) (.tmp 80)),
      .p none 82 (.mv (.tmp 81)),
      .split 82,
      .p (some (82, false)) 83 (.mv (.tmp 12)),
      .p (some (82, false)) 84 (.fa 2 (.tmp 13)),
      .l (some (82, false)) (some 85) (.ld none (.tmp 84)),
      .p (some (82, false)) 86 (.len (.tmp 85)),
      .p (some (82, false)) 87 (.bin .add .i64 (.tmp 86) (.const (.int .i64 64))),
      .p (some (82, false)) 88 (.bin .neq .i64 (.tmp 83) (.tmp 87)),
      .p none 89 (.pick (.tmp 82) (.const (.bool true)) (.tmp 88)),
      .p none 90 (.mv (.tmp 89)),
      .split 90,
      .p (some (90, false)) 91 (.mv (.tmp 7)),
      .p (some (90, false)) 92 (.mv (.tmp 0)),
      .l (some (90, false)) (some 93) (.call 9 [(.tmp 92)]),
      .l (some (90, false)) (some 94) (.call 16 [(.tmp 91), (.tmp 93)]),
      .p (some (90, false)) 95 (.not (.tmp 94)),
      .p none 96 (.pick (.tmp 90) (.const (.bool true)) (.tmp 95))])
  (.cond (.tmp 96)
    (.seq (.reg [.p none 6 (.mv (.const (.bool false)))])
    .ret)
    .skip))
  (.seq (.reg [.p none 98 (.mv (.tmp 7)),
      .p none 99 (.mv (.tmp 0)),
      .p none 100 (.len (.tmp 99)),
      .p none 101 (.slc 1 (.tmp 98) none (some (.tmp 100)) none),
      .l none (some 102) (.call 17 [(.tmp 101)]),
      .p none 103 (.mv (.tmp 1)),
      .l none (some 104) (.call 10 [(.tmp 102), (.tmp 103)]),
      .p none 97 (.mv (.tmp 104)),
      .p none 105 (.ext 0 (.tmp 97)),
      .p none 106 (.ext 1 (.tmp 97)),
      .l none (some 16) (.al 30 [(.bool false), (.int .i64 0), (.slice none 0 0)]),
      .l none none (.st 3 (.tmp 16) (.tmp 105)),
      .p none 17 (.mv (.tmp 106))])
  (.seq (.reg [.p none 108 (.mv (.tmp 0)),
      .l none (some 109) (.call 9 [(.tmp 108)]),
      .p none 110 (.mv (.tmp 0)),
      .p none 111 (.len (.tmp 110)),
      .p none 112 (.slc 1 (.tmp 109) none (some (.tmp 111)) none),
      .l none (some 113) (.call 17 [(.tmp 112)]),
      .p none 114 (.mv (.tmp 1)),
      .l none (some 115) (.call 12 [(.tmp 113), (.tmp 114)]),
      .p none 107 (.mv (.tmp 115)),
      .p none 116 (.ext 0 (.tmp 107)),
      .p none 117 (.ext 1 (.tmp 107)),
      .l none (some 18) (.al 30 [(.bool false), (.int .i64 0), (.slice none 0 0)]),
      .l none none (.st 3 (.tmp 18) (.tmp 116)),
      .p none 19 (.mv (.tmp 117))])
  (.seq (.reg [.l none (some 118) (.ld (some 3) (.tmp 10)),
      .l none (some 119) (.ld (some 3) (.tmp 13)),
      .l none (some 120) (.call 15 [(.tmp 118), (.tmp 119)]),
      .p none 121 (.mv (.tmp 120)),
      .split 121,
      .l (some (121, true)) (some 122) (.ld (some 3) (.tmp 16)),
      .l (some (121, true)) (some 123) (.ld (some 3) (.tmp 18)),
      .l (some (121, true)) (some 124) (.call 15 [(.tmp 122), (.tmp 123)]),
      .p none 125 (.pick (.tmp 121) (.tmp 124) (.const (.bool false))),
      .p none 126 (.mv (.tmp 125)),
      .split 126,
      .p (some (126, true)) 127 (.mv (.tmp 17)),
      .p (some (126, true)) 128 (.mv (.tmp 19)),
      .p (some (126, true)) 129 (.bin .eql .i64 (.tmp 127) (.tmp 128)),
      .p none 130 (.pick (.tmp 126) (.tmp 129) (.const (.bool false))),
      .p none 6 (.mv (.tmp 130))])
  .ret)))))))))))
theorem C4 : compile Try.prog 131 (Try.f4.body.getD .skip) = some M4 := by kernel_rfl

/-- filter.Hash -/
def M7 : MC :=
  (.seq (.reg [.p none 2 (.mv (.const (.int .u64 0))),
      .p none 3 (.mv (.const (.int .u64 0)))])
  (.seq (.reg [.p none 4 (.mv (.const (.int .u64 14695981039346656037)))])
  (.seq (.seq (.reg [.p none 7 (.mv (.tmp 0)),
      .p none 8 (.lens (.tmp 7)),
      .p none 9 (.mv (.const (.int .i64 0)))])
  (.block 0
    (.loop
      (.seq (.reg [.p none 10 (.bin .lss .i64 (.tmp 9) (.tmp 8))])
      (.seq (.cond (.tmp 10)
        .skip
        (.exit 0))
      (.seq (.block 1
        (.seq (.reg [.p none 11 (.mv (.tmp 9)),
            .p none 5 (.mv (.tmp 11))])
        (.reg [.p none 12 (.mv (.tmp 4)),
            .p none 13 (.mv (.tmp 0)),
            .p none 14 (.mv (.tmp 5)),
            .p none 15 (.idxs (.tmp 13) (.tmp 14)),
            .p none 16 (.conv .u64 (.tmp 15)),
            .p none 17 (.bin .xor .u64 (.tmp 12) (.tmp 16)),
            .p none 18 (.bin .mul .u64 (.tmp 17) (.const (.int .u64 1099511628211))),
            .p none 4 (.mv (.tmp 18))])))
      (.reg [.p none 19 (.bin .add .i64 (.tmp 9) (.const (.int .i64 1))),
          .p none 9 (.mv (.tmp 19))])))))))
  (.seq (.reg [.p none 20 (.mv (.tmp 4)),
      .p none 21 (.bin .add .u64 (.tmp 20) (.const (.int .u64 11400714819323198485))),
      .p none 6 (.mv (.tmp 21))])
  (.seq (.reg [.p none 22 (.mv (.tmp 6)),
      .p none 23 (.mv (.tmp 6)),
      .p none 24 (.shf .shr (.tmp 23) (.const (.int .u64 30))),
      .p none 25 (.bin .xor .u64 (.tmp 22) (.tmp 24)),
      .p none 26 (.bin .mul .u64 (.tmp 25) (.const (.int .u64 13787848793156543929))),
      .p none 6 (.mv (.tmp 26))])
  (.seq (.reg [.p none 27 (.mv (.tmp 6)),
      .p none 28 (.mv (.tmp 6)),
      .p none 29 (.shf .shr (.tmp 28) (.const (.int .u64 27))),
      .p none 30 (.bin .xor .u64 (.tmp 27) (.tmp 29)),
      .p none 31 (.bin .mul .u64 (.tmp 30) (.const (.int .u64 10723151780598845931))),
      .p none 6 (.mv (.tmp 31))])
  (.seq (.reg [.p none 32 (.mv (.tmp 4)),
      .p none 33 (.mv (.tmp 6)),
      .p none 34 (.mv (.tmp 6)),
      .p none 35 (.shf .shr (.tmp 34) (.const (.int .u64 31))),
      .p none 36 (.bin .xor .u64 (.tmp 33) (.tmp 35)),
      .p none 37 (.bin .or .u64 (.tmp 36) (.const (.int .u64 1))),
      .p none 2 (.mv (.tmp 32)),
      .p none 3 (.mv (.tmp 37))])
  .ret)))))))
theorem C7 : compile Try.prog 38 (Try.f7.body.getD .skip) = some M7 := by kernel_rfl

/-- winnowref7.Hash -/
def M8 : MC :=
  (.seq (.reg [.p none 2 (.mv (.const (.int .u64 0))),
      .p none 3 (.mv (.const (.int .u64 0)))])
  (.seq (.reg [.p none 4 (.mv (.const (.int .u64 14695981039346656037)))])
  (.seq (.seq (.reg [.p none 5 (.mv (.const (.int .i64 0)))])
  (.block 0
    (.loop
      (.seq (.seq (.reg [.p none 7 (.mv (.tmp 5)),
          .p none 8 (.mv (.tmp 0)),
          .p none 9 (.lens (.tmp 8)),
          .p none 10 (.bin .lss .i64 (.tmp 7) (.tmp 9))])
      (.cond (.tmp 10)
        .skip
        (.exit 0)))
      (.seq (.block 1
        (.reg [.p none 13 (.mv (.tmp 4)),
            .p none 14 (.mv (.tmp 0)),
            .p none 15 (.mv (.tmp 5)),
            .p none 16 (.idxs (.tmp 14) (.tmp 15)),
            .p none 17 (.conv .u64 (.tmp 16)),
            .p none 18 (.bin .xor .u64 (.tmp 13) (.tmp 17)),
            .p none 19 (.bin .mul .u64 (.tmp 18) (.const (.int .u64 1099511628211))),
            .p none 4 (.mv (.tmp 19))]))
      (.reg [.p none 11 (.mv (.tmp 5)),
          .p none 12 (.bin .add .i64 (.tmp 11) (.const (.int .i64 1))),
          .p none 5 (.mv (.tmp 12))]))))))
  (.seq (.reg [.p none 20 (.mv (.tmp 4)),
      .p none 21 (.bin .add .u64 (.tmp 20) (.const (.int .u64 11400714819323198485))),
      .p none 6 (.mv (.tmp 21))])
  (.seq (.reg [.p none 22 (.mv (.tmp 6)),
      .p none 23 (.mv (.tmp 6)),
      .p none 24 (.shf .shr (.tmp 23) (.const (.int .u64 30))),
      .p none 25 (.bin .xor .u64 (.tmp 22) (.tmp 24)),
      .p none 26 (.bin .mul .u64 (.tmp 25) (.const (.int .u64 13787848793156543929))),
      .p none 6 (.mv (.tmp 26))])
  (.seq (.reg [.p none 27 (.mv (.tmp 6)),
      .p none 28 (.mv (.tmp 6)),
      .p none 29 (.shf .shr (.tmp 28) (.const (.int .u64 27))),
      .p none 30 (.bin .xor .u64 (.tmp 27) (.tmp 29)),
      .p none 31 (.bin .mul .u64 (.tmp 30) (.const (.int .u64 10723151780598845931))),
      .p none 6 (.mv (.tmp 31))])
  (.seq (.reg [.p none 32 (.mv (.tmp 4)),
      .p none 33 (.mv (.tmp 6)),
      .p none 34 (.mv (.tmp 6)),
      .p none 35 (.shf .shr (.tmp 34) (.const (.int .u64 31))),
      .p none 36 (.bin .xor .u64 (.tmp 33) (.tmp 35)),
      .p none 37 (.bin .or .u64 (.tmp 36) (.const (.int .u64 1))),
      .p none 2 (.mv (.tmp 32)),
      .p none 3 (.mv (.tmp 37))])
  .ret)))))))
theorem C8 : compile Try.prog 38 (Try.f8.body.getD .skip) = some M8 := by kernel_rfl

/-- winnowlaw7.texts -/
def M9 : MC :=
  (.seq (.reg [.p none 2 (.mv (.const (.slice none 0 0)))])
  (.seq (.reg [.p none 5 (.mv (.tmp 0)),
      .p none 6 (.len (.tmp 5)),
      .p none 7 (.bin .add .i64 (.tmp 6) (.const (.int .i64 64))),
      .l none (some 8) (.mks 9 16 1 [(.string ⟨#[]⟩)] (.tmp 7) (.tmp 7)),
      .p none 3 (.mv (.tmp 8))])
  (.seq (.seq (.reg [.p none 4 (.mv (.const (.int .i64 0)))])
  (.block 0
    (.loop
      (.seq (.seq (.reg [.p none 9 (.mv (.tmp 4)),
          .p none 10 (.mv (.tmp 3)),
          .p none 11 (.len (.tmp 10)),
          .p none 12 (.bin .lss .i64 (.tmp 9) (.tmp 11))])
      (.cond (.tmp 12)
        .skip
        (.exit 0)))
      (.seq (.block 1
        (.seq (.reg [.p none 15 (.mv (.tmp 3)),
            .p none 16 (.mv (.tmp 4)),
            .p none 17 (.idx 1 (.tmp 15) (.tmp 16)),
            .l none none (.st 1 (.tmp 17) (.const (.string ⟨#[109, 97, 114, 107]⟩)))])
        (.seq (.reg [.p none 18 (.mv (.tmp 4)),
            .p none 19 (.mv (.tmp 0)),
            .p none 20 (.len (.tmp 19)),
            .p none 21 (.bin .lss .i64 (.tmp 18) (.tmp 20))])
        (.cond (.tmp 21)
          (.reg [.p none 22 (.mv (.tmp 3)),
              .p none 23 (.mv (.tmp 4)),
              .p none 24 (.mv (.tmp 0)),
              .p none 25 (.mv (.tmp 4)),
              .p none 26 (.idx 1 (.tmp 24) (.tmp 25)),
              .l none (some 27) (.ld none (.tmp 26)),
              .p none 28 (.idx 1 (.tmp 22) (.tmp 23)),
              .l none none (.st 1 (.tmp 28) (.tmp 27))])
          .skip))))
      (.reg [.p none 13 (.mv (.tmp 4)),
          .p none 14 (.bin .add .i64 (.tmp 13) (.const (.int .i64 1))),
          .p none 4 (.mv (.tmp 14))]))))))
  (.seq (.reg [.p none 29 (.mv (.tmp 3)),
      .p none 2 (.mv (.tmp 29))])
  .ret))))
theorem C9 : compile Try.prog 30 (Try.f9.body.getD .skip) = some M9 := by kernel_rfl

/-- filter.Build -/
def M10 : MC :=
  (.seq (.reg [.l none (some 4) (.al 30 [(.bool false), (.int .i64 0), (.slice none 0 0)]),
      .p none 5 (.mv (.const (.int .i64 0)))])
  (.seq (.block 0
    (.seq (.reg [.p none 10 (.mv (.tmp 1)),
        .p none 11 (.bin .lss .i64 (.tmp 10) (.const (.int .i64 0))),
        .p none 12 (.mv (.tmp 11)),
        .split 12,
        .p (some (12, false)) 13 (.mv (.tmp 1)),
        .p (some (12, false)) 14 (.bin .gtr .i64 (.tmp 13) (.const (.int .i64 16))),
        .p none 15 (.pick (.tmp 12) (.const (.bool true)) (.tmp 14)),
        .p none 9 (.mv (.tmp 15))])
    (.cond (.tmp 9)
      (.seq (.reg [.p none 16 (.bld [(.bool false), (.int .i64 0), (.slice none 0 0)] []),
          .l none none (.st 3 (.tmp 4) (.tmp 16)),
          .p none 5 (.mv (.const (.int .i64 3)))])
      .ret)
      (.seq (.reg [.p none 18 (.mv (.tmp 0)),
          .p none 19 (.len (.tmp 18)),
          .p none 20 (.bin .eql .i64 (.tmp 19) (.const (.int .i64 0))),
          .p none 17 (.mv (.tmp 20))])
      (.cond (.tmp 17)
        (.seq (.reg [.p none 21 (.bld [(.bool false), (.int .i64 0), (.slice none 0 0)] []),
            .l none none (.st 3 (.tmp 4) (.tmp 21)),
            .p none 5 (.mv (.const (.int .i64 0)))])
        .ret)
        (.seq (.reg [.p none 23 (.mv (.tmp 1)),
            .p none 24 (.bin .eql .i64 (.tmp 23) (.const (.int .i64 0))),
            .p none 25 (.mv (.tmp 24)),
            .split 25,
            .p (some (25, false)) 26 (.mv (.tmp 0)),
            .p (some (25, false)) 27 (.len (.tmp 26)),
            .p (some (25, false)) 28 (.bin .gtr .i64 (.tmp 27) (.const (.int .i64 65536))),
            .p none 29 (.pick (.tmp 25) (.const (.bool true)) (.tmp 28)),
            .p none 22 (.mv (.tmp 29))])
        (.cond (.tmp 22)
          (.seq (.reg [.p none 30 (.bld [(.bool false), (.int .i64 0), (.slice none 0 0)] [(0, 1, (.const (.bool true)))]),
              .l none none (.st 3 (.tmp 4) (.tmp 30)),
              .p none 5 (.mv (.const (.int .i64 0)))])
          .ret)
          .skip)))))))
  (.seq (.reg [.p none 31 (.mv (.tmp 1)),
      .p none 32 (.bin .mul .i64 (.const (.int .i64 69)) (.tmp 31)),
      .p none 33 (.bin .add .i64 (.tmp 32) (.const (.int .i64 50))),
      .p none 34 (.div .quo .i64 (.tmp 33) (.const (.int .i64 100))),
      .p none 35 (.mm true .i64 (.tmp 34) [(.const (.int .i64 1))]),
      .p none 36 (.mm false .i64 (.tmp 35) [(.const (.int .i64 8))]),
      .p none 37 (.mv (.tmp 1)),
      .p none 38 (.mv (.tmp 0)),
      .p none 39 (.len (.tmp 38)),
      .p none 40 (.bin .mul .i64 (.tmp 37) (.tmp 39)),
      .p none 41 (.bin .add .i64 (.tmp 40) (.const (.int .i64 7))),
      .p none 42 (.div .quo .i64 (.tmp 41) (.const (.int .i64 8))),
      .p none 43 (.mm false .i64 (.tmp 42) [(.const (.int .i64 4096))]),
      .l none (some 44) (.mks 5 1 1 [(.int .u8 0)] (.tmp 43) (.tmp 43)),
      .p none 45 (.bld [(.bool false), (.int .i64 0), (.slice none 0 0)] [(1, 1, (.tmp 36)), (2, 1, (.tmp 44))]),
      .l none (some 6) (.al 30 [(.bool false), (.int .i64 0), (.slice none 0 0)]),
      .l none none (.st 3 (.tmp 6) (.tmp 45))])
  (.seq (.seq (.reg [.p none 46 (.mv (.tmp 0)),
      .p none 47 (.len (.tmp 46)),
      .p none 48 (.mv (.const (.int .i64 0)))])
  (.block 1
    (.loop
      (.seq (.reg [.p none 49 (.bin .lss .i64 (.tmp 48) (.tmp 47))])
      (.seq (.cond (.tmp 49)
        .skip
        (.exit 1))
      (.seq (.block 2
        (.seq (.reg [.p none 50 (.idx 1 (.tmp 46) (.tmp 48)),
            .l none (some 51) (.ld none (.tmp 50)),
            .p none 8 (.mv (.tmp 51))])
        (.reg [.p none 52 (.mv (.tmp 8)),
            .p none 53 (.fa 1 (.tmp 6)),
            .l none (some 54) (.ld none (.tmp 53)),
            .p none 55 (.fa 2 (.tmp 6)),
            .l none (some 56) (.ld none (.tmp 55)),
            .p none 57 (.len (.tmp 56)),
            .p none 58 (.mkf (.func 31) [] [(.tmp 6)]),
            .l none (some 59) (.call 30 [(.tmp 52), (.tmp 54), (.tmp 57), (.tmp 58)])])))
      (.reg [.p none 60 (.bin .add .i64 (.tmp 48) (.const (.int .i64 1))),
          .p none 48 (.mv (.tmp 60))])))))))
  (.seq (.reg [.l none (some 61) (.ld (some 3) (.tmp 6)),
      .l none none (.st 3 (.tmp 4) (.tmp 61)),
      .p none 5 (.mv (.const (.int .i64 0)))])
  .ret)))))
theorem C10 : compile Try.prog 62 (Try.f10.body.getD .skip) = some M10 := by kernel_rfl

/-- winnowlaw7.fill -/
def M11 : MC :=
  (.seq (.reg [.p none 4 (.mv (.const (.int .i64 0)))])
  (.seq (.seq (.reg [.p none 5 (.mv (.const (.int .i64 0)))])
  (.block 0
    (.loop
      (.seq (.seq (.reg [.p none 7 (.mv (.tmp 5)),
          .p none 8 (.mv (.tmp 0)),
          .p none 9 (.len (.tmp 8)),
          .p none 10 (.bin .lss .i64 (.tmp 7) (.tmp 9))])
      (.cond (.tmp 10)
        .skip
        (.exit 0)))
      (.seq (.block 1
        (.reg [.p none 13 (.mv (.tmp 0)),
            .p none 14 (.mv (.tmp 5)),
            .p none 15 (.mv (.tmp 1)),
            .p none 16 (.idx 1 (.tmp 13) (.tmp 14)),
            .l none none (.st 1 (.tmp 16) (.tmp 15))]))
      (.reg [.p none 11 (.mv (.tmp 5)),
          .p none 12 (.bin .add .i64 (.tmp 11) (.const (.int .i64 1))),
          .p none 5 (.mv (.tmp 12))]))))))
  (.seq (.seq (.reg [.p none 6 (.mv (.const (.int .i64 0)))])
  (.block 2
    (.loop
      (.seq (.seq (.reg [.p none 17 (.mv (.tmp 6)),
          .p none 18 (.bin .lss .i64 (.tmp 17) (.const (.int .i64 64)))])
      (.cond (.tmp 18)
        .skip
        (.exit 2)))
      (.seq (.block 3
        (.reg [.p none 21 (.mv (.tmp 0)),
            .p none 22 (.mv (.tmp 1)),
            .p none 23 (.bin .add .u8 (.tmp 22) (.const (.int .u8 1))),
            .l none (some 24) (.bs 5 1 1 [(.int .u8 0)] [(0, 1, (.tmp 23))]),
            .l none (some 25) (.app 5 1 1 [(.int .u8 0)] (.tmp 21) (.tmp 24)),
            .p none 0 (.mv (.tmp 25))]))
      (.reg [.p none 19 (.mv (.tmp 6)),
          .p none 20 (.bin .add .i64 (.tmp 19) (.const (.int .i64 1))),
          .p none 6 (.mv (.tmp 20))]))))))
  (.seq (.reg [.p none 26 (.mv (.tmp 0)),
      .p none 27 (.len (.tmp 26)),
      .p none 4 (.mv (.tmp 27))])
  .ret))))
theorem C11 : compile Try.prog 28 (Try.f11.body.getD .skip) = some M11 := by kernel_rfl

/-- winnowref7.Build -/
def M12 : MC :=
  (.seq (.reg [.l none (some 4) (.al 30 [(.bool false), (.int .i64 0), (.slice none 0 0)]),
      .p none 5 (.mv (.const (.int .i64 0)))])
  (.seq (.seq (.reg [.p none 11 (.mv (.tmp 1)),
      .p none 12 (.bin .lss .i64 (.tmp 11) (.const (.int .i64 0))),
      .p none 13 (.mv (.tmp 12)),
      .split 13,
      .p (some (13, false)) 14 (.mv (.tmp 1)),
      .p (some (13, false)) 15 (.bin .gtr .i64 (.tmp 14) (.const (.int .i64 16))),
      .p none 16 (.pick (.tmp 13) (.const (.bool true)) (.tmp 15))])
  (.cond (.tmp 16)
    (.seq (.reg [.p none 17 (.bld [(.bool false), (.int .i64 0), (.slice none 0 0)] []),
        .l none none (.st 3 (.tmp 4) (.tmp 17)),
        .p none 5 (.mv (.const (.int .i64 3)))])
    .ret)
    .skip))
  (.seq (.seq (.reg [.p none 18 (.mv (.tmp 0)),
      .p none 19 (.len (.tmp 18)),
      .p none 20 (.bin .eql .i64 (.tmp 19) (.const (.int .i64 0)))])
  (.cond (.tmp 20)
    (.seq (.reg [.p none 21 (.bld [(.bool false), (.int .i64 0), (.slice none 0 0)] []),
        .l none none (.st 3 (.tmp 4) (.tmp 21)),
        .p none 5 (.mv (.const (.int .i64 0)))])
    .ret)
    .skip))
  (.seq (.seq (.reg [.p none 22 (.mv (.tmp 1)),
      .p none 23 (.bin .eql .i64 (.tmp 22) (.const (.int .i64 0))),
      .p none 24 (.mv (.tmp 23)),
      .split 24,
      .p (some (24, false)) 25 (.mv (.tmp 0)),
      .p (some (24, false)) 26 (.len (.tmp 25)),
      .p (some (24, false)) 27 (.bin .gtr .i64 (.tmp 26) (.const (.int .i64 65536))),
      .p none 28 (.pick (.tmp 24) (.const (.bool true)) (.tmp 27))])
  (.cond (.tmp 28)
    (.seq (.reg [.p none 29 (.bld [(.bool false), (.int .i64 0), (.slice none 0 0)] [(0, 1, (.const (.bool true)))]),
        .l none none (.st 3 (.tmp 4) (.tmp 29)),
        .p none 5 (.mv (.const (.int .i64 0)))])
    .ret)
    .skip))
  (.seq (.reg [.p none 30 (.mv (.tmp 0)),
      .p none 31 (.len (.tmp 30)),
      .p none 32 (.mv (.tmp 1)),
      .p none 33 (.bin .mul .i64 (.tmp 31) (.tmp 32)),
      .p none 34 (.bin .add .i64 (.tmp 33) (.const (.int .i64 7))),
      .p none 35 (.div .quo .i64 (.tmp 34) (.const (.int .i64 8))),
      .p none 36 (.mm true .i64 (.tmp 35) [(.const (.int .i64 1))]),
      .p none 37 (.mm false .i64 (.tmp 36) [(.const (.int .i64 4096))]),
      .p none 6 (.mv (.tmp 37))])
  (.seq (.reg [.p none 38 (.mv (.tmp 1)),
      .p none 39 (.bin .mul .i64 (.const (.int .i64 69)) (.tmp 38)),
      .p none 40 (.bin .add .i64 (.tmp 39) (.const (.int .i64 50))),
      .p none 41 (.div .quo .i64 (.tmp 40) (.const (.int .i64 100))),
      .p none 42 (.mm true .i64 (.tmp 41) [(.const (.int .i64 1))]),
      .p none 43 (.mm false .i64 (.tmp 42) [(.const (.int .i64 8))]),
      .p none 44 (.mv (.tmp 6)),
      .l none (some 45) (.mks 5 1 1 [(.int .u8 0)] (.tmp 44) (.tmp 44)),
      .p none 46 (.bld [(.bool false), (.int .i64 0), (.slice none 0 0)] [(1, 1, (.tmp 43)), (2, 1, (.tmp 45))]),
      .l none (some 7) (.al 30 [(.bool false), (.int .i64 0), (.slice none 0 0)]),
      .l none none (.st 3 (.tmp 7) (.tmp 46))])
  (.seq (.seq (.reg [.p none 8 (.mv (.const (.int .i64 0)))])
  (.block 0
    (.loop
      (.seq (.seq (.reg [.p none 47 (.mv (.tmp 8)),
          .p none 48 (.mv (.tmp 0)),
          .p none 49 (.len (.tmp 48)),
          .p none 50 (.bin .lss .i64 (.tmp 47) (.tmp 49))])
      (.cond (.tmp 50)
        .skip
        (.exit 0)))
      (.seq (.block 1
        (.seq (.reg [.p none 9 (.mv (.const (.int .i64 0)))])
        (.block 2
          (.loop
            (.seq (.seq (.reg [.p none 53 (.mv (.tmp 9)),
                .p none 54 (.fa 1 (.tmp 7)),
                .l none (some 55) (.ld none (.tmp 54)),
                .p none 56 (.bin .lss .i64 (.tmp 53) (.tmp 55))])
            (.cond (.tmp 56)
              .skip
              (.exit 2)))
            (.seq (.block 3
              (.seq (.reg [.p none 59 (.mv (.tmp 0)),
                  .p none 60 (.mv (.tmp 8)),
                  .p none 61 (.idx 1 (.tmp 59) (.tmp 60)),
                  .l none (some 62) (.ld none (.tmp 61)),
                  .p none 63 (.mv (.tmp 9)),
                  .p none 64 (.mv (.tmp 6)),
                  .l none (some 65) (.call 32 [(.tmp 62), (.tmp 63), (.tmp 64)]),
                  .p none 10 (.mv (.tmp 65))])
              (.dreg (.line [.qp 0 none 66 (.fa 2 (.tmp 7)),
                  .qp 2 none 68 (.mv (.tmp 10)),
                  .qp 3 none 69 (.div .quo .u64 (.tmp 68) (.const (.int .u64 8))),
                  .qp 4 none 70 (.fa 2 (.tmp 7)),
                  .qp 6 none 72 (.mv (.tmp 10)),
                  .qp 7 none 73 (.div .quo .u64 (.tmp 72) (.const (.int .u64 8))),
                  .qp 10 none 76 (.mv (.tmp 10)),
                  .qp 11 none 77 (.div .rem .u64 (.tmp 76) (.const (.int .u64 8))),
                  .qp 12 none 78 (.shf .shl (.const (.int .u8 1)) (.tmp 77)),
                  .ql 5 none 71 none (.tmp 70),
                  .qp 8 none 74 (.idx 1 (.tmp 71) (.tmp 73)),
                  .ql 1 none 67 none (.tmp 66),
                  .l 9 none (some 75) (.ld none (.tmp 74)),
                  .qp 13 none 79 (.bin .or .u8 (.tmp 75) (.tmp 78)),
                  .qp 14 none 80 (.idx 1 (.tmp 67) (.tmp 69)),
                  .l 15 none none (.st 1 (.tmp 80) (.tmp 79))]))))
            (.reg [.p none 57 (.mv (.tmp 9)),
                .p none 58 (.bin .add .i64 (.tmp 57) (.const (.int .i64 1))),
                .p none 9 (.mv (.tmp 58))])))))))
      (.reg [.p none 51 (.mv (.tmp 8)),
          .p none 52 (.bin .add .i64 (.tmp 51) (.const (.int .i64 1))),
          .p none 8 (.mv (.tmp 52))]))))))
  (.seq (.reg [.l none (some 81) (.ld (some 3) (.tmp 7)),
      .l none none (.st 3 (.tmp 4) (.tmp 81)),
      .p none 5 (.mv (.const (.int .i64 0)))])
  .ret))))))))
theorem C12 : compile Try.prog 82 (Try.f12.body.getD .skip) = some M12 := by kernel_rfl

/-- filter.Has -/
def M13 : MC :=
  (.seq (.reg [.l none (some 2) (.bx 30 (.tmp 0)),
      .p none 4 (.mv (.const (.bool false)))])
  (.seq (.seq (.reg [.l none (some 5) (.ld (some 3) (.tmp 2)),
      .l none (some 6) (.call 33 [(.tmp 5)])])
  (.block 0
    (.seq (.reg [.p none 8 (.bin .eql .i64 (.tmp 6) (.const (.int .i64 1))),
        .p none 7 (.mv (.tmp 8))])
    (.cond (.tmp 7)
      (.seq (.reg [.p none 4 (.mv (.const (.bool true)))])
      .ret)
      (.seq (.reg [.p none 10 (.bin .eql .i64 (.tmp 6) (.const (.int .i64 3))),
          .p none 9 (.mv (.tmp 10))])
      (.cond (.tmp 9)
        (.seq (.reg [.p none 11 (.mv (.tmp 1)),
            .p none 12 (.fa 1 (.tmp 2)),
            .l none (some 13) (.ld none (.tmp 12)),
            .p none 14 (.fa 2 (.tmp 2)),
            .l none (some 15) (.ld none (.tmp 14)),
            .p none 16 (.len (.tmp 15)),
            .p none 17 (.mkf (.func 34) [] [(.tmp 2)]),
            .l none (some 18) (.call 30 [(.tmp 11), (.tmp 13), (.tmp 16), (.tmp 17)]),
            .p none 4 (.mv (.tmp 18))])
        .ret)
        .skip))))))
  (.seq (.reg [.p none 4 (.mv (.const (.bool false)))])
  .ret)))
theorem C13 : compile Try.prog 19 (Try.f13.body.getD .skip) = some M13 := by kernel_rfl

/-- winnowref7.Has -/
def M14 : MC :=
  (.seq (.reg [.l none (some 2) (.bx 30 (.tmp 0)),
      .p none 4 (.mv (.const (.bool false)))])
  (.seq (.seq (.reg [.l none (some 7) (.ld (some 3) (.tmp 2)),
      .l none (some 8) (.call 25 [(.tmp 7)]),
      .p none 9 (.bin .neq .i64 (.tmp 8) (.const (.int .i64 0)))])
  (.cond (.tmp 9)
    (.seq (.reg [.p none 4 (.mv (.const (.bool false)))])
    .ret)
    .skip))
  (.seq (.seq (.reg [.p none 10 (.fa 2 (.tmp 2)),
      .l none (some 11) (.ld none (.tmp 10)),
      .p none 12 (.len (.tmp 11)),
      .p none 13 (.bin .eql .i64 (.tmp 12) (.const (.int .i64 0)))])
  (.cond (.tmp 13)
    (.seq (.reg [.p none 14 (.fa 0 (.tmp 2)),
        .l none (some 15) (.ld none (.tmp 14)),
        .p none 4 (.mv (.tmp 15))])
    .ret)
    .skip))
  (.seq (.seq (.reg [.p none 5 (.mv (.const (.int .i64 0)))])
  (.block 0
    (.loop
      (.seq (.seq (.reg [.p none 16 (.mv (.tmp 5)),
          .p none 17 (.fa 1 (.tmp 2)),
          .l none (some 18) (.ld none (.tmp 17)),
          .p none 19 (.bin .lss .i64 (.tmp 16) (.tmp 18))])
      (.cond (.tmp 19)
        .skip
        (.exit 0)))
      (.seq (.block 1
        (.seq (.reg [.p none 22 (.mv (.tmp 1)),
            .p none 23 (.mv (.tmp 5)),
            .p none 24 (.fa 2 (.tmp 2)),
            .l none (some 25) (.ld none (.tmp 24)),
            .p none 26 (.len (.tmp 25)),
            .l none (some 27) (.call 32 [(.tmp 22), (.tmp 23), (.tmp 26)]),
            .p none 6 (.mv (.tmp 27))])
        (.seq (.reg [.p none 28 (.fa 2 (.tmp 2)),
            .l none (some 29) (.ld none (.tmp 28)),
            .p none 30 (.mv (.tmp 6)),
            .p none 31 (.div .quo .u64 (.tmp 30) (.const (.int .u64 8))),
            .p none 32 (.idx 1 (.tmp 29) (.tmp 31)),
            .l none (some 33) (.ld none (.tmp 32)),
            .p none 34 (.mv (.tmp 6)),
            .p none 35 (.div .rem .u64 (.tmp 34) (.const (.int .u64 8))),
            .p none 36 (.shf .shr (.tmp 33) (.tmp 35)),
            .p none 37 (.div .rem .u8 (.tmp 36) (.const (.int .u8 2))),
            .p none 38 (.bin .eql .u8 (.tmp 37) (.const (.int .u8 0)))])
        (.cond (.tmp 38)
          (.seq (.reg [.p none 4 (.mv (.const (.bool false)))])
          .ret)
          .skip))))
      (.reg [.p none 20 (.mv (.tmp 5)),
          .p none 21 (.bin .add .i64 (.tmp 20) (.const (.int .i64 1))),
          .p none 5 (.mv (.tmp 21))]))))))
  (.seq (.reg [.p none 4 (.mv (.const (.bool true)))])
  .ret)))))
theorem C14 : compile Try.prog 39 (Try.f14.body.getD .skip) = some M14 := by kernel_rfl

/-- winnowlaw7.alike -/
def M15 : MC :=
  (.seq (.reg [.l none (some 2) (.bx 30 (.tmp 0)),
      .l none (some 3) (.bx 30 (.tmp 1)),
      .p none 4 (.mv (.const (.bool false)))])
  (.seq (.reg [.p none 5 (.fa 0 (.tmp 2)),
      .l none (some 6) (.ld none (.tmp 5)),
      .p none 7 (.fa 0 (.tmp 3)),
      .l none (some 8) (.ld none (.tmp 7)),
      .p none 9 (.beq false (.tmp 6) (.tmp 8)),
      .p none 10 (.mv (.tmp 9)),
      .split 10,
      .p (some (10, true)) 11 (.fa 1 (.tmp 2)),
      .l (some (10, true)) (some 12) (.ld none (.tmp 11)),
      .p (some (10, true)) 13 (.fa 1 (.tmp 3)),
      .l (some (10, true)) (some 14) (.ld none (.tmp 13)),
      .p (some (10, true)) 15 (.bin .eql .i64 (.tmp 12) (.tmp 14)),
      .p none 16 (.pick (.tmp 10) (.tmp 15) (.const (.bool false))),
      .p none 17 (.mv (.tmp 16)),
      .split 17,
      .p (some (17, true)) 18 (.fa 2 (.tmp 2)),
      .l (some (17, true)) (some 19) (.ld none (.tmp 18)),
      .p (some (17, true)) 20 (.fa 2 (.tmp 3)),
      .l (some (17, true)) (some 21) (.ld none (.tmp 20)),
      .l (some (17, true)) (some 22) (.call 26 [(.tmp 19), (.tmp 21)]),
      .p none 23 (.pick (.tmp 17) (.tmp 22) (.const (.bool false))),
      .p none 4 (.mv (.tmp 23))])
  .ret))
theorem C15 : compile Try.prog 24 (Try.f15.body.getD .skip) = some M15 := by kernel_rfl

/-- winnowlaw7.sameTexts -/
def M16 : MC :=
  (.seq (.reg [.p none 4 (.mv (.const (.bool false)))])
  (.seq (.seq (.reg [.p none 6 (.mv (.tmp 0)),
      .p none 7 (.len (.tmp 6)),
      .p none 8 (.mv (.tmp 1)),
      .p none 9 (.len (.tmp 8)),
      .p none 10 (.bin .neq .i64 (.tmp 7) (.tmp 9))])
  (.cond (.tmp 10)
    (.seq (.reg [.p none 4 (.mv (.const (.bool false)))])
    .ret)
    .skip))
  (.seq (.seq (.reg [.p none 5 (.mv (.const (.int .i64 0)))])
  (.block 0
    (.loop
      (.seq (.seq (.reg [.p none 11 (.mv (.tmp 5)),
          .p none 12 (.mv (.tmp 0)),
          .p none 13 (.len (.tmp 12)),
          .p none 14 (.bin .lss .i64 (.tmp 11) (.tmp 13))])
      (.cond (.tmp 14)
        .skip
        (.exit 0)))
      (.seq (.block 1
        (.seq (.dreg (.line [.qp 0 none 17 (.mv (.tmp 0)),
            .qp 1 none 18 (.mv (.tmp 5)),
            .qp 2 none 19 (.idx 1 (.tmp 17) (.tmp 18)),
            .qp 4 none 21 (.mv (.tmp 1)),
            .qp 5 none 22 (.mv (.tmp 5)),
            .qp 6 none 23 (.idx 1 (.tmp 21) (.tmp 22)),
            .ql 7 none 24 none (.tmp 23),
            .l 3 none (some 20) (.ld none (.tmp 19)),
            .qp 8 none 25 (.sbin .neq (.tmp 20) (.tmp 24))]))
        (.cond (.tmp 25)
          (.seq (.reg [.p none 4 (.mv (.const (.bool false)))])
          .ret)
          .skip)))
      (.reg [.p none 15 (.mv (.tmp 5)),
          .p none 16 (.bin .add .i64 (.tmp 15) (.const (.int .i64 1))),
          .p none 5 (.mv (.tmp 16))]))))))
  (.seq (.reg [.p none 4 (.mv (.const (.bool true)))])
  .ret))))
theorem C16 : compile Try.prog 26 (Try.f16.body.getD .skip) = some M16 := by kernel_rfl

/-- winnowlaw7.lettered -/
def M17 : MC :=
  (.seq (.reg [.p none 2 (.mv (.const (.slice none 0 0)))])
  (.seq (.seq (.reg [.p none 3 (.mv (.const (.int .i64 0)))])
  (.block 0
    (.loop
      (.seq (.seq (.reg [.p none 4 (.mv (.tmp 3)),
          .p none 5 (.mv (.tmp 0)),
          .p none 6 (.len (.tmp 5)),
          .p none 7 (.bin .lss .i64 (.tmp 4) (.tmp 6))])
      (.cond (.tmp 7)
        .skip
        (.exit 0)))
      (.seq (.block 1
        (.reg [.p none 10 (.mv (.tmp 0)),
            .p none 11 (.mv (.tmp 3)),
            .p none 12 (.mv (.tmp 0)),
            .p none 13 (.mv (.tmp 3)),
            .p none 14 (.idx 1 (.tmp 12) (.tmp 13)),
            .l none (some 15) (.ld none (.tmp 14)),
            .p none 16 (.sbin .add (.tmp 15) (.const (.string ⟨#[122]⟩))),
            .p none 17 (.idx 1 (.tmp 10) (.tmp 11)),
            .l none none (.st 1 (.tmp 17) (.tmp 16))]))
      (.reg [.p none 8 (.mv (.tmp 3)),
          .p none 9 (.bin .add .i64 (.tmp 8) (.const (.int .i64 1))),
          .p none 3 (.mv (.tmp 9))]))))))
  (.seq (.reg [.p none 18 (.mv (.tmp 0)),
      .p none 2 (.mv (.tmp 18))])
  .ret)))
theorem C17 : compile Try.prog 19 (Try.f17.body.getD .skip) = some M17 := by kernel_rfl

/-- winnowref7.Check -/
def M25 : MC :=
  (.seq (.reg [.l none (some 1) (.bx 30 (.tmp 0)),
      .p none 2 (.mv (.const (.int .i64 0)))])
  (.seq (.seq (.reg [.p none 3 (.fa 1 (.tmp 1)),
      .l none (some 4) (.ld none (.tmp 3)),
      .p none 5 (.bin .eql .i64 (.tmp 4) (.const (.int .i64 0))),
      .p none 6 (.mv (.tmp 5)),
      .split 6,
      .p (some (6, true)) 7 (.fa 2 (.tmp 1)),
      .l (some (6, true)) (some 8) (.ld none (.tmp 7)),
      .p (some (6, true)) 9 (.len (.tmp 8)),
      .p (some (6, true)) 10 (.bin .eql .i64 (.tmp 9) (.const (.int .i64 0))),
      .p none 11 (.pick (.tmp 6) (.tmp 10) (.const (.bool false)))])
  (.cond (.tmp 11)
    (.seq (.reg [.p none 2 (.mv (.const (.int .i64 0)))])
    .ret)
    .skip))
  (.seq (.seq (.reg [.p none 12 (.fa 0 (.tmp 1)),
      .l none (some 13) (.ld none (.tmp 12)),
      .p none 14 (.mv (.tmp 13)),
      .split 14,
      .p (some (14, false)) 15 (.fa 1 (.tmp 1)),
      .l (some (14, false)) (some 16) (.ld none (.tmp 15)),
      .p (some (14, false)) 17 (.bin .lss .i64 (.tmp 16) (.const (.int .i64 1))),
      .p none 18 (.pick (.tmp 14) (.const (.bool true)) (.tmp 17)),
      .p none 19 (.mv (.tmp 18)),
      .split 19,
      .p (some (19, false)) 20 (.fa 1 (.tmp 1)),
      .l (some (19, false)) (some 21) (.ld none (.tmp 20)),
      .p (some (19, false)) 22 (.bin .gtr .i64 (.tmp 21) (.const (.int .i64 8))),
      .p none 23 (.pick (.tmp 19) (.const (.bool true)) (.tmp 22)),
      .p none 24 (.mv (.tmp 23)),
      .split 24,
      .p (some (24, false)) 25 (.fa 2 (.tmp 1)),
      .l (some (24, false)) (some 26) (.ld none (.tmp 25)),
      .p (some (24, false)) 27 (.len (.tmp 26)),
      .p (some (24, false)) 28 (.bin .lss .i64 (.tmp 27) (.const (.int .i64 1))),
      .p none 29 (.pick (.tmp 24) (.const (.bool true)) (.tmp 28)),
      .p none 30 (.mv (.tmp 29)),
      .split 30,
      .p (some (30, false)) 31 (.fa 2 (.tmp 1)),
      .l (some (30, false)) (some 32) (.ld none (.tmp 31)),
      .p (some (30, false)) 33 (.len (.tmp 32)),
      .p (some (30, false)) 34 (.bin .gtr .i64 (.tmp 33) (.const (.int .i64 4096))),
      .p none 35 (.pick (.tmp 30) (.const (.bool true)) (.tmp 34))])
  (.cond (.tmp 35)
    (.seq (.reg [.p none 2 (.mv (.const (.int .i64 70)))])
    .ret)
    .skip))
  (.seq (.reg [.p none 2 (.mv (.const (.int .i64 0)))])
  .ret))))
theorem C25 : compile Try.prog 36 (Try.f25.body.getD .skip) = some M25 := by kernel_rfl

/-- winnowlaw7.same -/
def M26 : MC :=
  (.seq (.reg [.p none 4 (.mv (.const (.bool false)))])
  (.seq (.seq (.reg [.p none 6 (.mv (.tmp 0)),
      .p none 7 (.len (.tmp 6)),
      .p none 8 (.mv (.tmp 1)),
      .p none 9 (.len (.tmp 8)),
      .p none 10 (.bin .neq .i64 (.tmp 7) (.tmp 9))])
  (.cond (.tmp 10)
    (.seq (.reg [.p none 4 (.mv (.const (.bool false)))])
    .ret)
    .skip))
  (.seq (.seq (.reg [.p none 5 (.mv (.const (.int .i64 0)))])
  (.block 0
    (.loop
      (.seq (.seq (.reg [.p none 11 (.mv (.tmp 5)),
          .p none 12 (.mv (.tmp 0)),
          .p none 13 (.len (.tmp 12)),
          .p none 14 (.bin .lss .i64 (.tmp 11) (.tmp 13))])
      (.cond (.tmp 14)
        .skip
        (.exit 0)))
      (.seq (.block 1
        (.seq (.dreg (.line [.qp 0 none 17 (.mv (.tmp 0)),
            .qp 1 none 18 (.mv (.tmp 5)),
            .qp 2 none 19 (.idx 1 (.tmp 17) (.tmp 18)),
            .qp 4 none 21 (.mv (.tmp 1)),
            .qp 5 none 22 (.mv (.tmp 5)),
            .qp 6 none 23 (.idx 1 (.tmp 21) (.tmp 22)),
            .ql 7 none 24 none (.tmp 23),
            .l 3 none (some 20) (.ld none (.tmp 19)),
            .qp 8 none 25 (.bin .neq .u8 (.tmp 20) (.tmp 24))]))
        (.cond (.tmp 25)
          (.seq (.reg [.p none 4 (.mv (.const (.bool false)))])
          .ret)
          .skip)))
      (.reg [.p none 15 (.mv (.tmp 5)),
          .p none 16 (.bin .add .i64 (.tmp 15) (.const (.int .i64 1))),
          .p none 5 (.mv (.tmp 16))]))))))
  (.seq (.reg [.p none 4 (.mv (.const (.bool true)))])
  .ret))))
theorem C26 : compile Try.prog 26 (Try.f26.body.getD .skip) = some M26 := by kernel_rfl

/-- filter.each -/
def M30 : MC :=
  (.seq (.reg [.p none 8 (.mv (.const (.bool false)))])
  (.seq (.reg [.p none 12 (.mv (.tmp 0)),
      .l none (some 13) (.call 7 [(.tmp 12)]),
      .p none 11 (.mv (.tmp 13)),
      .p none 14 (.ext 0 (.tmp 11)),
      .p none 15 (.ext 1 (.tmp 11)),
      .p none 9 (.mv (.tmp 14)),
      .p none 10 (.mv (.tmp 15))])
  (.seq (.seq (.reg [.p none 16 (.mv (.tmp 1)),
      .p none 17 (.mv (.const (.int .i64 0)))])
  (.block 0
    (.loop
      (.seq (.reg [.p none 18 (.bin .lss .i64 (.tmp 17) (.tmp 16))])
      (.seq (.cond (.tmp 18)
        .skip
        (.exit 0))
      (.seq (.block 1
        (.seq (.seq (.reg [.p none 19 (.mv (.tmp 3)),
            .p none 20 (.mv (.tmp 9)),
            .p none 21 (.mv (.tmp 2)),
            .p none 22 (.bin .mul .i64 (.const (.int .i64 8)) (.tmp 21)),
            .p none 23 (.conv .u64 (.tmp 22)),
            .p none 24 (.div .rem .u64 (.tmp 20) (.tmp 23)),
            .l none (some 25) (.callv (.tmp 19) [(.tmp 24)]),
            .p none 26 (.not (.tmp 25))])
        (.cond (.tmp 26)
          (.seq (.reg [.p none 8 (.mv (.const (.bool false)))])
          .ret)
          .skip))
        (.reg [.p none 27 (.mv (.tmp 9)),
            .p none 28 (.mv (.tmp 10)),
            .p none 29 (.bin .add .u64 (.tmp 27) (.tmp 28)),
            .p none 9 (.mv (.tmp 29))])))
      (.reg [.p none 30 (.bin .add .i64 (.tmp 17) (.const (.int .i64 1))),
          .p none 17 (.mv (.tmp 30))])))))))
  (.seq (.reg [.p none 8 (.mv (.const (.bool true)))])
  .ret))))
theorem C30 : compile Try.prog 31 (Try.f30.body.getD .skip) = some M30 := by kernel_rfl

/-- filter.Build$1 -/
def M31 : MC :=
  (.seq (.reg [.p none 3 (.mv (.const (.bool false)))])
  (.seq (.reg [.p none 4 (.fa 2 (.tmp 1)),
      .l none (some 5) (.ld none (.tmp 4)),
      .p none 6 (.mv (.tmp 0)),
      .p none 7 (.div .quo .u64 (.tmp 6) (.const (.int .u64 8))),
      .p none 8 (.idx 1 (.tmp 5) (.tmp 7)),
      .l none (some 9) (.ld none (.tmp 8)),
      .p none 10 (.mv (.tmp 0)),
      .p none 11 (.div .rem .u64 (.tmp 10) (.const (.int .u64 8))),
      .p none 12 (.shf .shl (.const (.int .u8 1)) (.tmp 11)),
      .p none 13 (.bin .or .u8 (.tmp 9) (.tmp 12)),
      .p none 14 (.idx 1 (.tmp 5) (.tmp 7)),
      .l none none (.st 1 (.tmp 14) (.tmp 13))])
  (.seq (.reg [.p none 3 (.mv (.const (.bool true)))])
  .ret)))
theorem C31 : compile Try.prog 15 (Try.f31.body.getD .skip) = some M31 := by kernel_rfl

/-- winnowref7.place -/
def M32 : MC :=
  (.seq (.reg [.p none 6 (.mv (.const (.int .u64 0)))])
  (.seq (.reg [.p none 10 (.mv (.tmp 0)),
      .l none (some 11) (.call 8 [(.tmp 10)]),
      .p none 9 (.mv (.tmp 11)),
      .p none 12 (.ext 0 (.tmp 9)),
      .p none 13 (.ext 1 (.tmp 9)),
      .p none 7 (.mv (.tmp 12)),
      .p none 8 (.mv (.tmp 13))])
  (.seq (.reg [.p none 14 (.mv (.tmp 7)),
      .p none 15 (.mv (.tmp 1)),
      .p none 16 (.conv .u64 (.tmp 15)),
      .p none 17 (.mv (.tmp 8)),
      .p none 18 (.bin .mul .u64 (.tmp 16) (.tmp 17)),
      .p none 19 (.bin .add .u64 (.tmp 14) (.tmp 18)),
      .p none 20 (.mv (.tmp 2)),
      .p none 21 (.bin .mul .i64 (.const (.int .i64 8)) (.tmp 20)),
      .p none 22 (.conv .u64 (.tmp 21)),
      .p none 23 (.div .rem .u64 (.tmp 19) (.tmp 22)),
      .p none 6 (.mv (.tmp 23))])
  .ret)))
theorem C32 : compile Try.prog 24 (Try.f32.body.getD .skip) = some M32 := by kernel_rfl

/-- filter.kind -/
def M33 : MC :=
  (.seq (.reg [.l none (some 1) (.bx 30 (.tmp 0)),
      .p none 2 (.mv (.const (.int .i64 0)))])
  (.seq (.block 0
    (.seq (.reg [.p none 4 (.fa 0 (.tmp 1)),
        .l none (some 5) (.ld none (.tmp 4)),
        .p none 6 (.mv (.tmp 5)),
        .split 6,
        .p (some (6, true)) 7 (.fa 1 (.tmp 1)),
        .l (some (6, true)) (some 8) (.ld none (.tmp 7)),
        .p (some (6, true)) 9 (.bin .eql .i64 (.tmp 8) (.const (.int .i64 0))),
        .p none 10 (.pick (.tmp 6) (.tmp 9) (.const (.bool false))),
        .p none 11 (.mv (.tmp 10)),
        .split 11,
        .p (some (11, true)) 12 (.fa 2 (.tmp 1)),
        .l (some (11, true)) (some 13) (.ld none (.tmp 12)),
        .p (some (11, true)) 14 (.len (.tmp 13)),
        .p (some (11, true)) 15 (.bin .eql .i64 (.tmp 14) (.const (.int .i64 0))),
        .p none 16 (.pick (.tmp 11) (.tmp 15) (.const (.bool false))),
        .p none 3 (.mv (.tmp 16))])
    (.cond (.tmp 3)
      (.seq (.reg [.p none 2 (.mv (.const (.int .i64 1)))])
      .ret)
      (.seq (.reg [.p none 18 (.fa 0 (.tmp 1)),
          .l none (some 19) (.ld none (.tmp 18)),
          .p none 20 (.not (.tmp 19)),
          .p none 21 (.mv (.tmp 20)),
          .split 21,
          .p (some (21, true)) 22 (.fa 1 (.tmp 1)),
          .l (some (21, true)) (some 23) (.ld none (.tmp 22)),
          .p (some (21, true)) 24 (.bin .eql .i64 (.tmp 23) (.const (.int .i64 0))),
          .p none 25 (.pick (.tmp 21) (.tmp 24) (.const (.bool false))),
          .p none 26 (.mv (.tmp 25)),
          .split 26,
          .p (some (26, true)) 27 (.fa 2 (.tmp 1)),
          .l (some (26, true)) (some 28) (.ld none (.tmp 27)),
          .p (some (26, true)) 29 (.len (.tmp 28)),
          .p (some (26, true)) 30 (.bin .eql .i64 (.tmp 29) (.const (.int .i64 0))),
          .p none 31 (.pick (.tmp 26) (.tmp 30) (.const (.bool false))),
          .p none 17 (.mv (.tmp 31))])
      (.cond (.tmp 17)
        (.seq (.reg [.p none 2 (.mv (.const (.int .i64 2)))])
        .ret)
        (.seq (.reg [.p none 33 (.fa 0 (.tmp 1)),
            .l none (some 34) (.ld none (.tmp 33)),
            .p none 35 (.not (.tmp 34)),
            .p none 36 (.mv (.tmp 35)),
            .split 36,
            .p (some (36, true)) 37 (.fa 1 (.tmp 1)),
            .l (some (36, true)) (some 38) (.ld none (.tmp 37)),
            .p (some (36, true)) 39 (.bin .geq .i64 (.tmp 38) (.const (.int .i64 1))),
            .p none 40 (.pick (.tmp 36) (.tmp 39) (.const (.bool false))),
            .p none 41 (.mv (.tmp 40)),
            .split 41,
            .p (some (41, true)) 42 (.fa 1 (.tmp 1)),
            .l (some (41, true)) (some 43) (.ld none (.tmp 42)),
            .p (some (41, true)) 44 (.bin .leq .i64 (.tmp 43) (.const (.int .i64 8))),
            .p none 45 (.pick (.tmp 41) (.tmp 44) (.const (.bool false))),
            .p none 46 (.mv (.tmp 45)),
            .split 46,
            .p (some (46, true)) 47 (.fa 2 (.tmp 1)),
            .l (some (46, true)) (some 48) (.ld none (.tmp 47)),
            .p (some (46, true)) 49 (.len (.tmp 48)),
            .p (some (46, true)) 50 (.bin .geq .i64 (.tmp 49) (.const (.int .i64 1))),
            .p none 51 (.pick (.tmp 46) (.tmp 50) (.const (.bool false))),
            .p none 52 (.mv (.tmp 51)),
            .split 52,
            .p (some (52, true)) 53 (.fa 2 (.tmp 1)),
            .l (some (52, true)) (some 54) (.ld none (.tmp 53)),
            .p (some (52, true)) 55 (.len (.tmp 54)),
            .p (some (52, true)) 56 (.bin .leq .i64 (.tmp 55) (.const (.int .i64 4096))),
            .p none 57 (.pick (.tmp 52) (.tmp 56) (.const (.bool false))),
            .p none 32 (.mv (.tmp 57))])
        (.cond (.tmp 32)
          (.seq (.reg [.p none 2 (.mv (.const (.int .i64 3)))])
          .ret)
          .skip)))))))
  (.seq (.reg [.p none 2 (.mv (.const (.int .i64 0)))])
  .ret)))
theorem C33 : compile Try.prog 58 (Try.f33.body.getD .skip) = some M33 := by kernel_rfl

/-- filter.Has$1 -/
def M34 : MC :=
  (.seq (.reg [.p none 3 (.mv (.const (.bool false)))])
  (.seq (.reg [.p none 4 (.fa 2 (.tmp 1)),
      .l none (some 5) (.ld none (.tmp 4)),
      .p none 6 (.mv (.tmp 0)),
      .p none 7 (.div .quo .u64 (.tmp 6) (.const (.int .u64 8))),
      .p none 8 (.idx 1 (.tmp 5) (.tmp 7)),
      .l none (some 9) (.ld none (.tmp 8)),
      .p none 10 (.mv (.tmp 0)),
      .p none 11 (.div .rem .u64 (.tmp 10) (.const (.int .u64 8))),
      .p none 12 (.shf .shr (.tmp 9) (.tmp 11)),
      .p none 13 (.bin .and .u8 (.tmp 12) (.const (.int .u8 1))),
      .p none 14 (.bin .eql .u8 (.tmp 13) (.const (.int .u8 1))),
      .p none 3 (.mv (.tmp 14))])
  .ret))
theorem C34 : compile Try.prog 15 (Try.f34.body.getD .skip) = some M34 := by kernel_rfl
end Go.Proofs.Ytjockanmmfmidaa.E
