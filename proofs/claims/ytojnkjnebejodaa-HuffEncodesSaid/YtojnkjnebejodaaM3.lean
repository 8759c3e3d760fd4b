/- The intermediate code of the functions that are walked here, each with the proof that it is the translation of the model's code. -/
import Derived.Test.YtojnkjnebejodaaE6
import Derived.KernelRfl
namespace Go.Proofs.Ytojnkjnebejodaa.E
open Go


/-- winnowlaw4.HuffDecodes -/
def M5 : MC :=
  (.seq (.reg [.p none 4 (.mv (.const (.bool false)))])
  (.seq (.reg [.p none 18 (.mv (.tmp 0)),
      .l none (some 19) (.call 23 [(.tmp 18)]),
      .p none 5 (.mv (.tmp 19))])
  (.seq (.reg [.p none 21 (.mv (.tmp 5)),
      .p none 22 (.mv (.tmp 0)),
      .p none 23 (.len (.tmp 22)),
      .p none 24 (.slc 1 (.tmp 21) none (some (.tmp 23)) none),
      .p none 25 (.mv (.tmp 1)),
      .l none (some 26) (.call 24 [(.tmp 24), (.tmp 25)]),
      .p none 20 (.mv (.tmp 26)),
      .p none 27 (.ext 0 (.tmp 20)),
      .p none 28 (.ext 1 (.tmp 20)),
      .p none 6 (.mv (.tmp 27)),
      .p none 7 (.mv (.tmp 28))])
  (.seq (.reg [.p none 30 (.mv (.tmp 5)),
      .p none 31 (.mv (.tmp 0)),
      .p none 32 (.len (.tmp 31)),
      .p none 33 (.slc 1 (.tmp 30) none (some (.tmp 32)) none),
      .p none 34 (.mv (.tmp 1)),
      .l none (some 35) (.call 24 [(.tmp 33), (.tmp 34)]),
      .p none 29 (.mv (.tmp 35)),
      .p none 36 (.ext 0 (.tmp 29)),
      .p none 37 (.ext 1 (.tmp 29)),
      .p none 8 (.mv (.tmp 36)),
      .p none 9 (.mv (.tmp 37))])
  (.seq (.reg [.p none 38 (.mv (.tmp 6)),
      .l none (some 39) (.call 25 [(.tmp 38), (.const (.int .u8 7))]),
      .p none 10 (.mv (.tmp 39))])
  (.seq (.reg [.p none 41 (.mv (.tmp 0)),
      .p none 42 (.mv (.tmp 1)),
      .l none (some 43) (.call 26 [(.tmp 41), (.tmp 42)]),
      .p none 40 (.mv (.tmp 43)),
      .p none 44 (.ext 0 (.tmp 40)),
      .p none 45 (.ext 1 (.tmp 40)),
      .p none 11 (.mv (.tmp 44)),
      .p none 12 (.mv (.tmp 45))])
  (.seq (.seq (.reg [.p none 46 (.mv (.tmp 7)),
      .p none 47 (.mv (.tmp 12)),
      .p none 48 (.bin .neq .i64 (.tmp 46) (.tmp 47)),
      .p none 49 (.mv (.tmp 48)),
      .split 49,
      .p (some (49, false)) 50 (.mv (.tmp 9)),
      .p (some (49, false)) 51 (.mv (.tmp 12)),
      .p (some (49, false)) 52 (.bin .neq .i64 (.tmp 50) (.tmp 51)),
      .p none 53 (.pick (.tmp 49) (.const (.bool true)) (.tmp 52)),
      .p none 54 (.mv (.tmp 53)),
      .split 54,
      .p (some (54, false)) 55 (.mv (.tmp 8)),
      .p (some (54, false)) 56 (.mv (.tmp 11)),
      .l (some (54, false)) (some 57) (.call 27 [(.tmp 55), (.tmp 56)]),
      .p (some (54, false)) 58 (.not (.tmp 57)),
      .p none 59 (.pick (.tmp 54) (.const (.bool true)) (.tmp 58)),
      .p none 60 (.mv (.tmp 59)),
      .split 60,
      .p (some (60, false)) 61 (.mv (.tmp 10)),
      .p (some (60, false)) 62 (.mv (.tmp 11)),
      .p (some (60, false)) 63 (.len (.tmp 62)),
      .p (some (60, false)) 64 (.bin .add .i64 (.tmp 63) (.const (.int .i64 64))),
      .p (some (60, false)) 65 (.bin .neq .i64 (.tmp 61) (.tmp 64)),
      .p none 66 (.pick (.tmp 60) (.const (.bool true)) (.tmp 65)),
      .p none 67 (.mv (.tmp 66)),
      .split 67,
      .p (some (67, false)) 68 (.mv (.tmp 5)),
      .p (some (67, false)) 69 (.mv (.tmp 0)),
      .l (some (67, false)) (some 70) (.call 23 [(.tmp 69)]),
      .l (some (67, false)) (some 71) (.call 27 [(.tmp 68), (.tmp 70)]),
      .p (some (67, false)) 72 (.not (.tmp 71)),
      .p none 73 (.pick (.tmp 67) (.const (.bool true)) (.tmp 72))])
  (.cond (.tmp 73)
    (.seq (.reg [.p none 4 (.mv (.const (.bool false)))])
    .ret)
    .skip))
  (.seq (.reg [.p none 74 (.mv (.tmp 0)),
      .l none (some 75) (.call 23 [(.tmp 74)]),
      .p none 76 (.mv (.tmp 0)),
      .p none 77 (.len (.tmp 76)),
      .p none 78 (.slc 1 (.tmp 75) none (some (.tmp 77)) none),
      .p none 13 (.mv (.tmp 78))])
  (.seq (.seq (.reg [.p none 79 (.mv (.tmp 0)),
      .p none 80 (.len (.tmp 79)),
      .p none 81 (.bin .gtr .i64 (.tmp 80) (.const (.int .i64 0)))])
  (.cond (.tmp 81)
    (.seq (.reg [.p none 82 (.mv (.tmp 5)),
        .p none 83 (.mv (.tmp 0)),
        .p none 84 (.len (.tmp 83)),
        .p none 85 (.bin .sub .i64 (.tmp 84) (.const (.int .i64 1))),
        .p none 86 (.mv (.tmp 5)),
        .p none 87 (.mv (.tmp 0)),
        .p none 88 (.len (.tmp 87)),
        .p none 89 (.bin .sub .i64 (.tmp 88) (.const (.int .i64 1))),
        .p none 90 (.idx 1 (.tmp 86) (.tmp 89)),
        .l none (some 91) (.ld none (.tmp 90)),
        .p none 92 (.bin .add .u8 (.tmp 91) (.const (.int .u8 1))),
        .p none 93 (.idx 1 (.tmp 82) (.tmp 85)),
        .l none none (.st 1 (.tmp 93) (.tmp 92))])
    (.reg [.p none 94 (.mv (.tmp 13)),
        .p none 95 (.mv (.tmp 0)),
        .p none 96 (.len (.tmp 95)),
        .p none 97 (.bin .sub .i64 (.tmp 96) (.const (.int .i64 1))),
        .p none 98 (.mv (.tmp 13)),
        .p none 99 (.mv (.tmp 0)),
        .p none 100 (.len (.tmp 99)),
        .p none 101 (.bin .sub .i64 (.tmp 100) (.const (.int .i64 1))),
        .p none 102 (.idx 1 (.tmp 98) (.tmp 101)),
        .l none (some 103) (.ld none (.tmp 102)),
        .p none 104 (.bin .add .u8 (.tmp 103) (.const (.int .u8 1))),
        .p none 105 (.idx 1 (.tmp 94) (.tmp 97)),
        .l none none (.st 1 (.tmp 105) (.tmp 104))]))
    .skip))
  (.seq (.reg [.p none 107 (.mv (.tmp 5)),
      .p none 108 (.mv (.tmp 0)),
      .p none 109 (.len (.tmp 108)),
      .p none 110 (.slc 1 (.tmp 107) none (some (.tmp 109)) none),
      .p none 111 (.mv (.tmp 1)),
      .l none (some 112) (.call 24 [(.tmp 110), (.tmp 111)]),
      .p none 106 (.mv (.tmp 112)),
      .p none 113 (.ext 0 (.tmp 106)),
      .p none 114 (.ext 1 (.tmp 106)),
      .p none 14 (.mv (.tmp 113)),
      .p none 15 (.mv (.tmp 114))])
  (.seq (.reg [.p none 116 (.mv (.tmp 13)),
      .p none 117 (.mv (.tmp 1)),
      .l none (some 118) (.call 26 [(.tmp 116), (.tmp 117)]),
      .p none 115 (.mv (.tmp 118)),
      .p none 119 (.ext 0 (.tmp 115)),
      .p none 120 (.ext 1 (.tmp 115)),
      .p none 16 (.mv (.tmp 119)),
      .p none 17 (.mv (.tmp 120))])
  (.seq (.reg [.p none 121 (.mv (.tmp 14)),
      .p none 122 (.mv (.tmp 16)),
      .l none (some 123) (.call 27 [(.tmp 121), (.tmp 122)]),
      .p none 124 (.mv (.tmp 123)),
      .split 124,
      .p (some (124, true)) 125 (.mv (.tmp 15)),
      .p (some (124, true)) 126 (.mv (.tmp 17)),
      .p (some (124, true)) 127 (.bin .eql .i64 (.tmp 125) (.tmp 126)),
      .p none 128 (.pick (.tmp 124) (.tmp 127) (.const (.bool false))),
      .p none 4 (.mv (.tmp 128))])
  .ret))))))))))))
theorem C5 : compile Try.prog 129 (Try.f5.body.getD .skip) = some M5 := by kernel_rfl

/-- winnowlaw4.roomy -/
def M23 : MC :=
  (.seq (.reg [.p none 2 (.mv (.const (.slice none 0 0)))])
  (.seq (.reg [.p none 5 (.mv (.tmp 0)),
      .p none 6 (.len (.tmp 5)),
      .p none 7 (.bin .add .i64 (.tmp 6) (.const (.int .i64 64))),
      .l none (some 8) (.mks 5 1 1 [(.int .u8 0)] (.tmp 7) (.tmp 7)),
      .p none 3 (.mv (.tmp 8))])
  (.seq (.seq (.reg [.p none 4 (.mv (.const (.int .i64 0)))])
  (.block 0
    (.loop
      (.seq (.seq (.reg [.p none 9 (.mv (.tmp 4)),
          .p none 10 (.mv (.tmp 3)),
          .p none 11 (.len (.tmp 10)),
          .p none 12 (.bin .lss .i64 (.tmp 9) (.tmp 11))])
      (.cond (.tmp 12)
        .skip
        (.exit 0)))
      (.seq (.block 1
        (.seq (.reg [.p none 15 (.mv (.tmp 3)),
            .p none 16 (.mv (.tmp 4)),
            .p none 17 (.idx 1 (.tmp 15) (.tmp 16)),
            .l none none (.st 1 (.tmp 17) (.const (.int .u8 165)))])
        (.seq (.reg [.p none 18 (.mv (.tmp 4)),
            .p none 19 (.mv (.tmp 0)),
            .p none 20 (.len (.tmp 19)),
            .p none 21 (.bin .lss .i64 (.tmp 18) (.tmp 20))])
        (.cond (.tmp 21)
          (.reg [.p none 22 (.mv (.tmp 3)),
              .p none 23 (.mv (.tmp 4)),
              .p none 24 (.mv (.tmp 0)),
              .p none 25 (.mv (.tmp 4)),
              .p none 26 (.idx 1 (.tmp 24) (.tmp 25)),
              .l none (some 27) (.ld none (.tmp 26)),
              .p none 28 (.idx 1 (.tmp 22) (.tmp 23)),
              .l none none (.st 1 (.tmp 28) (.tmp 27))])
          .skip))))
      (.reg [.p none 13 (.mv (.tmp 4)),
          .p none 14 (.bin .add .i64 (.tmp 13) (.const (.int .i64 1))),
          .p none 4 (.mv (.tmp 14))]))))))
  (.seq (.reg [.p none 29 (.mv (.tmp 3)),
      .p none 2 (.mv (.tmp 29))])
  .ret))))
theorem C23 : compile Try.prog 30 (Try.f23.body.getD .skip) = some M23 := by kernel_rfl

/-- huff.Decode -/
def M24 : MC :=
  (.seq (.reg [.p none 4 (.mv (.const (.slice none 0 0))),
      .p none 5 (.mv (.const (.int .i64 0)))])
  (.seq (.seq (.reg [.p none 10 (.mv (.tmp 1)),
      .p none 11 (.bin .lss .i64 (.tmp 10) (.const (.int .i64 0))),
      .p none 12 (.mv (.tmp 11)),
      .split 12,
      .p (some (12, false)) 13 (.mv (.tmp 1)),
      .p (some (12, false)) 14 (.bin .gtr .i64 (.tmp 13) (.const (.int .i64 65536))),
      .p none 15 (.pick (.tmp 12) (.const (.bool true)) (.tmp 14))])
  (.cond (.tmp 15)
    (.seq (.reg [.p none 4 (.mv (.const (.slice none 0 0))),
        .p none 5 (.mv (.const (.int .i64 3)))])
    .ret)
    .skip))
  (.seq (.reg [.p none 16 (.mv (.tmp 0)),
      .l none (some 17) (.call 44 [(.tmp 16)]),
      .p none 6 (.mv (.tmp 17))])
  (.seq (.reg [.p none 19 (.mv (.tmp 6)),
      .l none (some 20) (.call 45 [(.tmp 19)]),
      .p none 18 (.mv (.tmp 20)),
      .p none 21 (.ext 0 (.tmp 18)),
      .p none 22 (.ext 1 (.tmp 18)),
      .p none 7 (.mv (.tmp 21)),
      .p none 8 (.mv (.tmp 22))])
  (.seq (.seq (.reg [.p none 23 (.mv (.tmp 8)),
      .p none 24 (.not (.tmp 23))])
  (.cond (.tmp 24)
    (.seq (.reg [.p none 4 (.mv (.const (.slice none 0 0))),
        .p none 5 (.mv (.const (.int .i64 40)))])
    .ret)
    .skip))
  (.seq (.reg [.p none 26 (.mv (.tmp 7)),
      .p none 27 (.mv (.tmp 6)),
      .p none 28 (.mv (.tmp 6)),
      .l none (some 29) (.call 48 [(.tmp 28)]),
      .l none (some 30) (.call 47 [(.tmp 27), (.tmp 29)]),
      .p none 31 (.mv (.tmp 1)),
      .l none (some 32) (.call 46 [(.tmp 26), (.tmp 30), (.tmp 31)]),
      .p none 25 (.mv (.tmp 32)),
      .p none 33 (.ext 0 (.tmp 25)),
      .p none 34 (.ext 1 (.tmp 25)),
      .p none 9 (.mv (.tmp 33)),
      .p none 8 (.mv (.tmp 34))])
  (.seq (.seq (.reg [.p none 35 (.mv (.tmp 8)),
      .p none 36 (.not (.tmp 35))])
  (.cond (.tmp 36)
    (.seq (.reg [.p none 4 (.mv (.const (.slice none 0 0))),
        .p none 5 (.mv (.const (.int .i64 40)))])
    .ret)
    .skip))
  (.seq (.reg [.p none 37 (.mv (.tmp 9)),
      .p none 4 (.mv (.tmp 37)),
      .p none 5 (.mv (.const (.int .i64 0)))])
  .ret))))))))
theorem C24 : compile Try.prog 38 (Try.f24.body.getD .skip) = some M24 := by kernel_rfl

/-- winnowlaw4.fill -/
def M25 : MC :=
  (.seq (.reg [.p none 4 (.mv (.const (.int .i64 0)))])
  (.seq (.seq (.reg [.p none 5 (.mv (.const (.int .i64 0)))])
  (.block 0
    (.loop
      (.seq (.seq (.reg [.p none 7 (.mv (.tmp 5)),
          .p none 8 (.mv (.tmp 0)),
          .p none 9 (.len (.tmp 8)),
          .p none 10 (.bin .lss .i64 (.tmp 7) (.tmp 9))])
      (.cond (.tmp 10)
        .skip
        (.exit 0)))
      (.seq (.block 1
        (.reg [.p none 13 (.mv (.tmp 0)),
            .p none 14 (.mv (.tmp 5)),
            .p none 15 (.mv (.tmp 1)),
            .p none 16 (.idx 1 (.tmp 13) (.tmp 14)),
            .l none none (.st 1 (.tmp 16) (.tmp 15))]))
      (.reg [.p none 11 (.mv (.tmp 5)),
          .p none 12 (.bin .add .i64 (.tmp 11) (.const (.int .i64 1))),
          .p none 5 (.mv (.tmp 12))]))))))
  (.seq (.seq (.reg [.p none 6 (.mv (.const (.int .i64 0)))])
  (.block 2
    (.loop
      (.seq (.seq (.reg [.p none 17 (.mv (.tmp 6)),
          .p none 18 (.bin .lss .i64 (.tmp 17) (.const (.int .i64 64)))])
      (.cond (.tmp 18)
        .skip
        (.exit 2)))
      (.seq (.block 3
        (.reg [.p none 21 (.mv (.tmp 0)),
            .p none 22 (.mv (.tmp 1)),
            .p none 23 (.bin .add .u8 (.tmp 22) (.const (.int .u8 1))),
            .l none (some 24) (.bs 5 1 1 [(.int .u8 0)] [(0, 1, (.tmp 23))]),
            .l none (some 25) (.app 5 1 1 [(.int .u8 0)] (.tmp 21) (.tmp 24)),
            .p none 0 (.mv (.tmp 25))]))
      (.reg [.p none 19 (.mv (.tmp 6)),
          .p none 20 (.bin .add .i64 (.tmp 19) (.const (.int .i64 1))),
          .p none 6 (.mv (.tmp 20))]))))))
  (.seq (.reg [.p none 26 (.mv (.tmp 0)),
      .p none 27 (.len (.tmp 26)),
      .p none 4 (.mv (.tmp 27))])
  .ret))))
theorem C25 : compile Try.prog 28 (Try.f25.body.getD .skip) = some M25 := by kernel_rfl

/-- winnowref4.Decode -/
def M26 : MC :=
  (.seq (.reg [.p none 4 (.mv (.const (.slice none 0 0))),
      .p none 5 (.mv (.const (.int .i64 0)))])
  (.seq (.seq (.reg [.p none 17 (.mv (.tmp 1)),
      .p none 18 (.bin .lss .i64 (.tmp 17) (.const (.int .i64 0))),
      .p none 19 (.mv (.tmp 18)),
      .split 19,
      .p (some (19, false)) 20 (.mv (.tmp 1)),
      .p (some (19, false)) 21 (.bin .gtr .i64 (.tmp 20) (.const (.int .i64 65536))),
      .p none 22 (.pick (.tmp 19) (.const (.bool true)) (.tmp 21))])
  (.cond (.tmp 22)
    (.seq (.reg [.p none 4 (.mv (.const (.slice none 0 0))),
        .p none 5 (.mv (.const (.int .i64 3)))])
    .ret)
    .skip))
  (.seq (.reg [.p none 24 (.mv (.tmp 0)),
      .l none (some 25) (.call 49 [(.tmp 24)]),
      .p none 23 (.mv (.tmp 25)),
      .p none 26 (.ext 0 (.tmp 23)),
      .p none 27 (.ext 1 (.tmp 23)),
      .p none 28 (.ext 2 (.tmp 23)),
      .p none 6 (.mv (.tmp 26)),
      .p none 7 (.mv (.tmp 27)),
      .p none 8 (.mv (.tmp 28))])
  (.seq (.seq (.reg [.p none 29 (.mv (.tmp 8)),
      .p none 30 (.not (.tmp 29))])
  (.cond (.tmp 30)
    (.seq (.reg [.p none 4 (.mv (.const (.slice none 0 0))),
        .p none 5 (.mv (.const (.int .i64 40)))])
    .ret)
    .skip))
  (.seq (.reg [.p none 32 (.mv (.tmp 6)),
      .l none (some 33) (.call 21 [(.tmp 32)]),
      .p none 31 (.mv (.tmp 33)),
      .p none 34 (.ext 0 (.tmp 31)),
      .p none 35 (.ext 1 (.tmp 31)),
      .p none 9 (.mv (.tmp 34)),
      .p none 10 (.mv (.tmp 35))])
  (.seq (.seq (.reg [.p none 36 (.mv (.tmp 10)),
      .p none 37 (.bin .neq .i64 (.tmp 36) (.const (.int .i64 0)))])
  (.cond (.tmp 37)
    (.seq (.reg [.p none 4 (.mv (.const (.slice none 0 0))),
        .p none 5 (.mv (.const (.int .i64 40)))])
    .ret)
    .skip))
  (.seq (.reg [.p none 38 (.mv (.tmp 0)),
      .p none 39 (.mv (.tmp 7)),
      .p none 40 (.slc 1 (.tmp 38) (some (.tmp 39)) none none),
      .p none 11 (.mv (.tmp 40))])
  (.seq (.reg [.p none 12 (.mv (.const (.int .i64 0)))])
  (.seq (.reg [.p none 13 (.mv (.const (.slice none 0 0)))])
  (.seq (.block 0
    (.loop
      (.seq (.seq (.reg [.p none 41 (.mv (.tmp 13)),
          .p none 42 (.len (.tmp 41)),
          .p none 43 (.mv (.tmp 1)),
          .p none 44 (.bin .lss .i64 (.tmp 42) (.tmp 43))])
      (.cond (.tmp 44)
        .skip
        (.exit 0)))
      (.block 1
        (.seq (.reg [.p none 14 (.mv (.const (.int .u32 0)))])
        (.seq (.reg [.p none 15 (.mv (.const (.int .i64 (-1))))])
        (.seq (.seq (.reg [.p none 16 (.mv (.const (.int .i64 1)))])
        (.block 2
          (.loop
            (.seq (.seq (.reg [.p none 45 (.mv (.tmp 16)),
                .p none 46 (.bin .leq .i64 (.tmp 45) (.const (.int .i64 15))),
                .p none 47 (.mv (.tmp 46)),
                .split 47,
                .p (some (47, true)) 48 (.mv (.tmp 15)),
                .p (some (47, true)) 49 (.bin .lss .i64 (.tmp 48) (.const (.int .i64 0))),
                .p none 50 (.pick (.tmp 47) (.tmp 49) (.const (.bool false)))])
            (.cond (.tmp 50)
              .skip
              (.exit 2)))
            (.seq (.block 3
              (.seq (.seq (.reg [.p none 53 (.mv (.tmp 12)),
                  .p none 54 (.mv (.tmp 11)),
                  .p none 55 (.len (.tmp 54)),
                  .p none 56 (.bin .mul .i64 (.const (.int .i64 8)) (.tmp 55)),
                  .p none 57 (.bin .geq .i64 (.tmp 53) (.tmp 56))])
              (.cond (.tmp 57)
                (.seq (.reg [.p none 4 (.mv (.const (.slice none 0 0))),
                    .p none 5 (.mv (.const (.int .i64 40)))])
                .ret)
                .skip))
              (.seq (.reg [.p none 58 (.mv (.tmp 14)),
                  .p none 59 (.bin .mul .u32 (.tmp 58) (.const (.int .u32 2))),
                  .p none 60 (.mv (.tmp 11)),
                  .p none 61 (.mv (.tmp 12)),
                  .l none (some 62) (.call 50 [(.tmp 60), (.tmp 61)]),
                  .p none 63 (.bin .add .u32 (.tmp 59) (.tmp 62)),
                  .p none 14 (.mv (.tmp 63))])
              (.seq (.reg [.p none 64 (.mv (.tmp 12)),
                  .p none 65 (.bin .add .i64 (.tmp 64) (.const (.int .i64 1))),
                  .p none 12 (.mv (.tmp 65))])
              (.reg [.p none 66 (.mv (.tmp 9)),
                  .p none 67 (.mv (.tmp 16)),
                  .p none 68 (.mv (.tmp 14)),
                  .l none (some 69) (.call 51 [(.tmp 66), (.tmp 67), (.tmp 68)]),
                  .p none 15 (.mv (.tmp 69))])))))
            (.reg [.p none 51 (.mv (.tmp 16)),
                .p none 52 (.bin .add .i64 (.tmp 51) (.const (.int .i64 1))),
                .p none 16 (.mv (.tmp 52))]))))))
        (.seq (.seq (.reg [.p none 70 (.mv (.tmp 15)),
            .p none 71 (.bin .lss .i64 (.tmp 70) (.const (.int .i64 0)))])
        (.cond (.tmp 71)
          (.seq (.reg [.p none 4 (.mv (.const (.slice none 0 0))),
              .p none 5 (.mv (.const (.int .i64 40)))])
          .ret)
          .skip))
        (.reg [.p none 72 (.mv (.tmp 13)),
            .p none 73 (.mv (.tmp 15)),
            .p none 74 (.conv .u8 (.tmp 73)),
            .l none (some 75) (.bs 5 1 1 [(.int .u8 0)] [(0, 1, (.tmp 74))]),
            .l none (some 76) (.app 5 1 1 [(.int .u8 0)] (.tmp 72) (.tmp 75)),
            .p none 13 (.mv (.tmp 76))])))))))))
  (.seq (.seq (.reg [.p none 77 (.mv (.tmp 11)),
      .p none 78 (.len (.tmp 77)),
      .p none 79 (.mv (.tmp 12)),
      .p none 80 (.bin .add .i64 (.tmp 79) (.const (.int .i64 7))),
      .p none 81 (.div .quo .i64 (.tmp 80) (.const (.int .i64 8))),
      .p none 82 (.bin .neq .i64 (.tmp 78) (.tmp 81))])
  (.cond (.tmp 82)
    (.seq (.reg [.p none 4 (.mv (.const (.slice none 0 0))),
        .p none 5 (.mv (.const (.int .i64 40)))])
    .ret)
    .skip))
  (.seq (.block 4
    (.loop
      (.seq (.seq (.reg [.p none 83 (.mv (.tmp 12)),
          .p none 84 (.mv (.tmp 11)),
          .p none 85 (.len (.tmp 84)),
          .p none 86 (.bin .mul .i64 (.const (.int .i64 8)) (.tmp 85)),
          .p none 87 (.bin .lss .i64 (.tmp 83) (.tmp 86))])
      (.cond (.tmp 87)
        .skip
        (.exit 4)))
      (.block 5
        (.seq (.seq (.reg [.p none 88 (.mv (.tmp 11)),
            .p none 89 (.mv (.tmp 12)),
            .l none (some 90) (.call 50 [(.tmp 88), (.tmp 89)]),
            .p none 91 (.bin .neq .u32 (.tmp 90) (.const (.int .u32 0)))])
        (.cond (.tmp 91)
          (.seq (.reg [.p none 4 (.mv (.const (.slice none 0 0))),
              .p none 5 (.mv (.const (.int .i64 40)))])
          .ret)
          .skip))
        (.reg [.p none 92 (.mv (.tmp 12)),
            .p none 93 (.bin .add .i64 (.tmp 92) (.const (.int .i64 1))),
            .p none 12 (.mv (.tmp 93))]))))))
  (.seq (.reg [.p none 94 (.mv (.tmp 13)),
      .p none 4 (.mv (.tmp 94)),
      .p none 5 (.mv (.const (.int .i64 0)))])
  .ret)))))))))))))
theorem C26 : compile Try.prog 95 (Try.f26.body.getD .skip) = some M26 := by kernel_rfl

/-- winnowlaw4.same -/
def M27 : MC :=
  (.seq (.reg [.p none 4 (.mv (.const (.bool false)))])
  (.seq (.seq (.reg [.p none 6 (.mv (.tmp 0)),
      .p none 7 (.len (.tmp 6)),
      .p none 8 (.mv (.tmp 1)),
      .p none 9 (.len (.tmp 8)),
      .p none 10 (.bin .neq .i64 (.tmp 7) (.tmp 9))])
  (.cond (.tmp 10)
    (.seq (.reg [.p none 4 (.mv (.const (.bool false)))])
    .ret)
    .skip))
  (.seq (.seq (.reg [.p none 5 (.mv (.const (.int .i64 0)))])
  (.block 0
    (.loop
      (.seq (.seq (.reg [.p none 11 (.mv (.tmp 5)),
          .p none 12 (.mv (.tmp 0)),
          .p none 13 (.len (.tmp 12)),
          .p none 14 (.bin .lss .i64 (.tmp 11) (.tmp 13))])
      (.cond (.tmp 14)
        .skip
        (.exit 0)))
      (.seq (.block 1
        (.seq (.dreg (.line [.qp 0 none 17 (.mv (.tmp 0)),
            .qp 1 none 18 (.mv (.tmp 5)),
            .qp 2 none 19 (.idx 1 (.tmp 17) (.tmp 18)),
            .qp 4 none 21 (.mv (.tmp 1)),
            .qp 5 none 22 (.mv (.tmp 5)),
            .qp 6 none 23 (.idx 1 (.tmp 21) (.tmp 22)),
            .ql 7 none 24 none (.tmp 23),
            .l 3 none (some 20) (.ld none (.tmp 19)),
            .qp 8 none 25 (.bin .neq .u8 (.tmp 20) (.tmp 24))]))
        (.cond (.tmp 25)
          (.seq (.reg [.p none 4 (.mv (.const (.bool false)))])
          .ret)
          .skip)))
      (.reg [.p none 15 (.mv (.tmp 5)),
          .p none 16 (.bin .add .i64 (.tmp 15) (.const (.int .i64 1))),
          .p none 5 (.mv (.tmp 16))]))))))
  (.seq (.reg [.p none 4 (.mv (.const (.bool true)))])
  .ret))))
theorem C27 : compile Try.prog 26 (Try.f27.body.getD .skip) = some M27 := by kernel_rfl

/-- nums.NewCursor -/
def M44 : MC :=
  (.seq (.reg [.p none 2 (.mv (.const (.pointer none)))])
  (.seq (.reg [.p none 3 (.mv (.tmp 0)),
      .l none (some 4) (.app 5 1 1 [(.int .u8 0)] (.const (.slice none 0 0)) (.tmp 3)),
      .p none 5 (.bld [(.slice none 0 0), (.int .i64 0), (.int .i64 0)] [(0, 1, (.tmp 4))]),
      .l none (some 6) (.bx 93 (.tmp 5)),
      .p none 2 (.mv (.tmp 6))])
  .ret))
theorem C44 : compile Try.prog 7 (Try.f44.body.getD .skip) = some M44 := by kernel_rfl

/-- huff.lengths -/
def M45 : MC :=
  (.seq (.reg [.p none 2 (.mv (.const (.slice none 0 0))),
      .p none 3 (.mv (.const (.bool false)))])
  (.seq (.reg [.p none 4 (.mv (.const (.slice none 0 0)))])
  (.seq (.reg [.p none 5 (.mv (.const (.int .i64 (-1))))])
  (.seq (.block 0
    (.loop
      (.block 1
        (.seq (.reg [.p none 9 (.mv (.tmp 0)),
            .l none (some 10) (.call 61 [(.tmp 9), (.const (.int .i64 256))]),
            .p none 6 (.mv (.tmp 10))])
        (.seq (.seq (.reg [.p none 11 (.mv (.tmp 6)),
            .p none 12 (.bin .eql .i64 (.tmp 11) (.const (.int .i64 0)))])
        (.cond (.tmp 12)
          (.exit 0)
          .skip))
        (.seq (.reg [.p none 13 (.mv (.tmp 0)),
            .l none (some 14) (.call 62 [(.tmp 13), (.const (.int .i64 1))]),
            .p none 15 (.conv .i64 (.tmp 14)),
            .p none 7 (.mv (.tmp 15))])
        (.seq (.seq (.reg [.p none 16 (.mv (.tmp 7)),
            .p none 17 (.bin .gtr .i64 (.tmp 16) (.const (.int .i64 15))),
            .p none 18 (.mv (.tmp 17)),
            .split 18,
            .p (some (18, false)) 19 (.mv (.tmp 7)),
            .p (some (18, false)) 20 (.mv (.tmp 5)),
            .p (some (18, false)) 21 (.bin .eql .i64 (.tmp 19) (.tmp 20)),
            .p none 22 (.pick (.tmp 18) (.const (.bool true)) (.tmp 21)),
            .p none 23 (.mv (.tmp 22)),
            .split 23,
            .p (some (23, false)) 24 (.mv (.tmp 4)),
            .p (some (23, false)) 25 (.len (.tmp 24)),
            .p (some (23, false)) 26 (.mv (.tmp 6)),
            .p (some (23, false)) 27 (.bin .add .i64 (.tmp 25) (.tmp 26)),
            .p (some (23, false)) 28 (.bin .gtr .i64 (.tmp 27) (.const (.int .i64 256))),
            .p none 29 (.pick (.tmp 23) (.const (.bool true)) (.tmp 28))])
        (.cond (.tmp 29)
          (.seq (.reg [.p none 2 (.mv (.const (.slice none 0 0))),
              .p none 3 (.mv (.const (.bool false)))])
          .ret)
          .skip))
        (.seq (.seq (.reg [.p none 30 (.mv (.tmp 6)),
            .p none 31 (.mv (.const (.int .i64 0)))])
        (.block 2
          (.loop
            (.seq (.reg [.p none 32 (.bin .lss .i64 (.tmp 31) (.tmp 30))])
            (.seq (.cond (.tmp 32)
              .skip
              (.exit 2))
            (.seq (.block 3
              (.reg [.p none 33 (.mv (.tmp 4)),
                  .p none 34 (.mv (.tmp 7)),
                  .l none (some 35) (.bs 3 1 1 [(.int .i64 0)] [(0, 1, (.tmp 34))]),
                  .l none (some 36) (.app 3 8 1 [(.int .i64 0)] (.tmp 33) (.tmp 35)),
                  .p none 4 (.mv (.tmp 36))]))
            (.reg [.p none 37 (.bin .add .i64 (.tmp 31) (.const (.int .i64 1))),
                .p none 31 (.mv (.tmp 37))])))))))
        (.reg [.p none 38 (.mv (.tmp 7)),
            .p none 5 (.mv (.tmp 38))])))))))))
  (.seq (.reg [.p none 39 (.mv (.tmp 0)),
      .l none (some 40) (.call 63 [(.tmp 39)]),
      .p none 41 (.fld 0 none (.tmp 40)),
      .p none 8 (.mv (.tmp 41))])
  (.seq (.reg [.p none 42 (.mv (.tmp 4)),
      .p none 43 (.mv (.tmp 5)),
      .p none 44 (.bin .neq .i64 (.tmp 43) (.const (.int .i64 0))),
      .p none 45 (.mv (.tmp 44)),
      .split 45,
      .p (some (45, true)) 46 (.mv (.tmp 8)),
      .p (some (45, true)) 47 (.bin .eql .i64 (.tmp 46) (.const (.int .i64 0))),
      .p (some (45, true)) 48 (.mv (.tmp 47)),
      .split 48,
      .p (some (48, false)) 49 (.mv (.tmp 8)),
      .p (some (48, false)) 50 (.bin .eql .i64 (.tmp 49) (.const (.int .i64 22))),
      .p (some (45, true)) 51 (.pick (.tmp 48) (.const (.bool true)) (.tmp 50)),
      .p none 52 (.pick (.tmp 45) (.tmp 51) (.const (.bool false))),
      .p none 2 (.mv (.tmp 42)),
      .p none 3 (.mv (.tmp 52))])
  .ret))))))
theorem C45 : compile Try.prog 53 (Try.f45.body.getD .skip) = some M45 := by kernel_rfl

/-- huff.words -/
def M46 : MC :=
  (.seq (.reg [.p none 6 (.mv (.const (.slice none 0 0))),
      .p none 7 (.mv (.const (.bool false)))])
  (.seq (.reg [.p none 18 (.mv (.tmp 0)),
      .l none (some 19) (.call 42 [(.tmp 18)]),
      .p none 17 (.mv (.tmp 19)),
      .p none 20 (.ext 0 (.tmp 17)),
      .p none 21 (.ext 1 (.tmp 17)),
      .p none 22 (.ext 2 (.tmp 17)),
      .l none (some 9) (.al 61 (List.replicate 16 (.int .i64 0))),
      .p none 8 (.mv (.tmp 20)),
      .l none none (.st 16 (.tmp 9) (.tmp 21)),
      .p none 10 (.mv (.tmp 22))])
  (.seq (.seq (.reg [.p none 23 (.mv (.tmp 10)),
      .p none 24 (.not (.tmp 23)),
      .p none 25 (.mv (.tmp 24)),
      .split 25,
      .p (some (25, false)) 26 (.mv (.tmp 2)),
      .p (some (25, false)) 27 (.mv (.tmp 1)),
      .p (some (25, false)) 28 (.len (.tmp 27)),
      .p (some (25, false)) 29 (.bin .mul .i64 (.const (.int .i64 8)) (.tmp 28)),
      .p (some (25, false)) 30 (.bin .gtr .i64 (.tmp 26) (.tmp 29)),
      .p none 31 (.pick (.tmp 25) (.const (.bool true)) (.tmp 30))])
  (.cond (.tmp 31)
    (.seq (.reg [.p none 6 (.mv (.const (.slice none 0 0))),
        .p none 7 (.mv (.const (.bool false)))])
    .ret)
    .skip))
  (.seq (.reg [.p none 32 (.mv (.tmp 2)),
      .l none (some 33) (.mks 5 1 1 [(.int .u8 0)] (.const (.int .i64 0)) (.tmp 32)),
      .p none 11 (.mv (.tmp 33))])
  (.seq (.reg [.p none 12 (.mv (.const (.int .i64 0)))])
  (.seq (.seq (.reg [.p none 34 (.mv (.tmp 2)),
      .p none 35 (.mv (.const (.int .i64 0)))])
  (.block 0
    (.loop
      (.seq (.reg [.p none 36 (.bin .lss .i64 (.tmp 35) (.tmp 34))])
      (.seq (.cond (.tmp 36)
        .skip
        (.exit 0))
      (.seq (.block 1
        (.seq (.reg [.p none 13 (.mv (.const (.int .i64 0))),
            .p none 14 (.mv (.const (.int .i64 0))),
            .p none 15 (.mv (.const (.int .i64 0)))])
        (.seq (.reg [.p none 16 (.mv (.const (.int .i64 1)))])
        (.block 2
          (.loop
            (.seq (.block 3
              (.seq (.seq (.reg [.p none 39 (.mv (.tmp 16)),
                  .p none 40 (.bin .gtr .i64 (.tmp 39) (.const (.int .i64 15))),
                  .p none 41 (.mv (.tmp 40)),
                  .split 41,
                  .p (some (41, false)) 42 (.mv (.tmp 12)),
                  .p (some (41, false)) 43 (.mv (.tmp 1)),
                  .p (some (41, false)) 44 (.len (.tmp 43)),
                  .p (some (41, false)) 45 (.bin .mul .i64 (.const (.int .i64 8)) (.tmp 44)),
                  .p (some (41, false)) 46 (.bin .eql .i64 (.tmp 42) (.tmp 45)),
                  .p none 47 (.pick (.tmp 41) (.const (.bool true)) (.tmp 46))])
              (.cond (.tmp 47)
                (.seq (.reg [.p none 6 (.mv (.const (.slice none 0 0))),
                    .p none 7 (.mv (.const (.bool false)))])
                .ret)
                .skip))
              (.seq (.reg [.p none 48 (.mv (.tmp 13)),
                  .p none 49 (.shf .shl (.tmp 48) (.const (.int .u64 1))),
                  .p none 50 (.mv (.tmp 1)),
                  .p none 51 (.mv (.tmp 12)),
                  .p none 52 (.div .quo .i64 (.tmp 51) (.const (.int .i64 8))),
                  .p none 53 (.idx 1 (.tmp 50) (.tmp 52)),
                  .l none (some 54) (.ld none (.tmp 53)),
                  .p none 55 (.mv (.tmp 12)),
                  .p none 56 (.div .rem .i64 (.tmp 55) (.const (.int .i64 8))),
                  .p none 57 (.shf .shr (.tmp 54) (.tmp 56)),
                  .p none 58 (.bin .and .u8 (.tmp 57) (.const (.int .u8 1))),
                  .p none 59 (.conv .i64 (.tmp 58)),
                  .p none 60 (.bin .or .i64 (.tmp 49) (.tmp 59)),
                  .p none 13 (.mv (.tmp 60))])
              (.seq (.reg [.p none 61 (.mv (.tmp 12)),
                  .p none 62 (.bin .add .i64 (.tmp 61) (.const (.int .i64 1))),
                  .p none 12 (.mv (.tmp 62))])
              (.seq (.reg [.p none 63 (.mv (.tmp 14)),
                  .p none 64 (.shf .shl (.tmp 63) (.const (.int .u64 1))),
                  .p none 14 (.mv (.tmp 64))])
              (.seq (.seq (.reg [.p none 65 (.mv (.tmp 13)),
                  .p none 66 (.mv (.tmp 14)),
                  .p none 67 (.bin .sub .i64 (.tmp 65) (.tmp 66)),
                  .p none 68 (.mv (.tmp 16)),
                  .p none 69 (.idxa 16 1 (.tmp 9) (.tmp 68)),
                  .l none (some 70) (.ld none (.tmp 69)),
                  .p none 71 (.bin .lss .i64 (.tmp 67) (.tmp 70))])
              (.cond (.tmp 71)
                (.seq (.reg [.p none 72 (.mv (.tmp 11)),
                    .p none 73 (.mv (.tmp 8)),
                    .p none 74 (.mv (.tmp 15)),
                    .p none 75 (.mv (.tmp 13)),
                    .p none 76 (.bin .add .i64 (.tmp 74) (.tmp 75)),
                    .p none 77 (.mv (.tmp 14)),
                    .p none 78 (.bin .sub .i64 (.tmp 76) (.tmp 77)),
                    .p none 79 (.idx 1 (.tmp 73) (.tmp 78)),
                    .l none (some 80) (.ld none (.tmp 79)),
                    .p none 81 (.conv .u8 (.tmp 80)),
                    .l none (some 82) (.bs 5 1 1 [(.int .u8 0)] [(0, 1, (.tmp 81))]),
                    .l none (some 83) (.app 5 1 1 [(.int .u8 0)] (.tmp 72) (.tmp 82)),
                    .p none 11 (.mv (.tmp 83))])
                (.exit 2))
                .skip))
              (.seq (.reg [.p none 84 (.mv (.tmp 14)),
                  .p none 85 (.mv (.tmp 16)),
                  .p none 86 (.idxa 16 1 (.tmp 9) (.tmp 85)),
                  .l none (some 87) (.ld none (.tmp 86)),
                  .p none 88 (.bin .add .i64 (.tmp 84) (.tmp 87)),
                  .p none 14 (.mv (.tmp 88))])
              (.reg [.p none 89 (.mv (.tmp 15)),
                  .p none 90 (.mv (.tmp 16)),
                  .p none 91 (.idxa 16 1 (.tmp 9) (.tmp 90)),
                  .l none (some 92) (.ld none (.tmp 91)),
                  .p none 93 (.bin .add .i64 (.tmp 89) (.tmp 92)),
                  .p none 15 (.mv (.tmp 93))]))))))))
            (.reg [.p none 37 (.mv (.tmp 16)),
                .p none 38 (.bin .add .i64 (.tmp 37) (.const (.int .i64 1))),
                .p none 16 (.mv (.tmp 38))])))))))
      (.reg [.p none 94 (.bin .add .i64 (.tmp 35) (.const (.int .i64 1))),
          .p none 35 (.mv (.tmp 94))])))))))
  (.seq (.seq (.reg [.p none 95 (.mv (.tmp 12)),
      .p none 96 (.bin .add .i64 (.tmp 95) (.const (.int .i64 7))),
      .p none 97 (.div .quo .i64 (.tmp 96) (.const (.int .i64 8))),
      .p none 98 (.mv (.tmp 1)),
      .p none 99 (.len (.tmp 98)),
      .p none 100 (.bin .neq .i64 (.tmp 97) (.tmp 99)),
      .p none 101 (.mv (.tmp 100)),
      .split 101,
      .p (some (101, false)) 102 (.mv (.tmp 12)),
      .p (some (101, false)) 103 (.div .rem .i64 (.tmp 102) (.const (.int .i64 8))),
      .p (some (101, false)) 104 (.bin .neq .i64 (.tmp 103) (.const (.int .i64 0))),
      .p (some (101, false)) 105 (.mv (.tmp 104)),
      .split 105,
      .p (some (105, true)) 106 (.mv (.tmp 1)),
      .p (some (105, true)) 107 (.mv (.tmp 12)),
      .p (some (105, true)) 108 (.div .quo .i64 (.tmp 107) (.const (.int .i64 8))),
      .p (some (105, true)) 109 (.idx 1 (.tmp 106) (.tmp 108)),
      .l (some (105, true)) (some 110) (.ld none (.tmp 109)),
      .p (some (105, true)) 111 (.mv (.tmp 12)),
      .p (some (105, true)) 112 (.div .rem .i64 (.tmp 111) (.const (.int .i64 8))),
      .p (some (105, true)) 113 (.shf .shr (.tmp 110) (.tmp 112)),
      .p (some (105, true)) 114 (.bin .neq .u8 (.tmp 113) (.const (.int .u8 0))),
      .p (some (101, false)) 115 (.pick (.tmp 105) (.tmp 114) (.const (.bool false))),
      .p none 116 (.pick (.tmp 101) (.const (.bool true)) (.tmp 115))])
  (.cond (.tmp 116)
    (.seq (.reg [.p none 6 (.mv (.const (.slice none 0 0))),
        .p none 7 (.mv (.const (.bool false)))])
    .ret)
    .skip))
  (.seq (.reg [.p none 117 (.mv (.tmp 11)),
      .p none 6 (.mv (.tmp 117)),
      .p none 7 (.mv (.const (.bool true)))])
  .ret))))))))
theorem C46 : compile Try.prog 118 (Try.f46.body.getD .skip) = some M46 := by kernel_rfl

/-- (*nums.Cursor).Take -/
def M47 : MC :=
  (.seq (.reg [.l none (some 3) (.bx 3 (.tmp 1)),
      .p none 4 (.mv (.const (.slice none 0 0)))])
  (.seq (.reg [.l none (some 5) (.al 40 [(.slice none 0 0)])])
  (.seq (.reg [.p none 6 (.mv (.tmp 0)),
      .p none 7 (.mkf (.func 65) [] [(.tmp 3), (.tmp 5)]),
      .l none (some 8) (.call 64 [(.tmp 6), (.tmp 7)])])
  (.seq (.reg [.l none (some 9) (.ld none (.tmp 5)),
      .p none 4 (.mv (.tmp 9))])
  .ret))))
theorem C47 : compile Try.prog 10 (Try.f47.body.getD .skip) = some M47 := by kernel_rfl

/-- (*nums.Cursor).Rest -/
def M48 : MC :=
  (.seq (.reg [.p none 2 (.mv (.const (.int .i64 0)))])
  (.seq (.seq (.reg [.p none 3 (.mv (.tmp 0)),
      .p none 4 (.isnil false 0 (.tmp 3)),
      .p none 5 (.mv (.tmp 4)),
      .split 5,
      .p (some (5, false)) 6 (.mv (.tmp 0)),
      .p (some (5, false)) 7 (.nilchk (.tmp 6)),
      .p (some (5, false)) 8 (.fa 2 (.tmp 7)),
      .l (some (5, false)) (some 9) (.ld none (.tmp 8)),
      .p (some (5, false)) 10 (.bin .neq .i64 (.tmp 9) (.const (.int .i64 0))),
      .p none 11 (.pick (.tmp 5) (.const (.bool true)) (.tmp 10))])
  (.cond (.tmp 11)
    (.seq (.reg [.p none 2 (.mv (.const (.int .i64 0)))])
    .ret)
    .skip))
  (.seq (.dreg (.line [.qp 0 none 12 (.mv (.tmp 0)),
      .qp 1 none 13 (.nilchk (.tmp 12)),
      .qp 2 none 14 (.fa 0 (.tmp 13)),
      .qp 5 none 17 (.mv (.tmp 0)),
      .qp 6 none 18 (.nilchk (.tmp 17)),
      .qp 7 none 19 (.fa 1 (.tmp 18)),
      .ql 8 none 20 none (.tmp 19),
      .l 3 none (some 15) (.ld none (.tmp 14)),
      .qp 4 none 16 (.len (.tmp 15)),
      .qp 9 none 21 (.bin .sub .i64 (.tmp 16) (.tmp 20)),
      .qp 10 none 2 (.mv (.tmp 21))]))
  .ret)))
theorem C48 : compile Try.prog 22 (Try.f48.body.getD .skip) = some M48 := by kernel_rfl

/-- winnowref4.readLens -/
def M49 : MC :=
  (.seq (.reg [.p none 2 (.mv (.const (.slice none 0 0))),
      .p none 3 (.mv (.const (.int .i64 0))),
      .p none 4 (.mv (.const (.bool false)))])
  (.seq (.reg [.p none 5 (.mv (.const (.slice none 0 0)))])
  (.seq (.reg [.p none 6 (.mv (.const (.int .i64 0)))])
  (.seq (.block 0
    (.loop
      (.seq (.seq (.reg [.p none 12 (.mv (.tmp 6)),
          .p none 13 (.mv (.tmp 0)),
          .p none 14 (.len (.tmp 13)),
          .p none 15 (.bin .lss .i64 (.tmp 12) (.tmp 14)),
          .p none 16 (.mv (.tmp 15)),
          .split 16,
          .p (some (16, true)) 17 (.mv (.tmp 0)),
          .p (some (16, true)) 18 (.mv (.tmp 6)),
          .p (some (16, true)) 19 (.idx 1 (.tmp 17) (.tmp 18)),
          .l (some (16, true)) (some 20) (.ld none (.tmp 19)),
          .p (some (16, true)) 21 (.bin .neq .u8 (.tmp 20) (.const (.int .u8 0))),
          .p none 22 (.pick (.tmp 16) (.tmp 21) (.const (.bool false)))])
      (.cond (.tmp 22)
        .skip
        (.exit 0)))
      (.block 1
        (.seq (.reg [.p none 24 (.mv (.tmp 0)),
            .p none 25 (.mv (.tmp 6)),
            .p none 26 (.slc 1 (.tmp 24) (some (.tmp 25)) none none),
            .l none (some 27) (.call 66 [(.tmp 26)]),
            .p none 23 (.mv (.tmp 27)),
            .p none 28 (.ext 0 (.tmp 23)),
            .p none 29 (.ext 1 (.tmp 23)),
            .p none 30 (.ext 2 (.tmp 23)),
            .p none 7 (.mv (.tmp 28)),
            .p none 8 (.mv (.tmp 29)),
            .p none 9 (.mv (.tmp 30))])
        (.seq (.seq (.reg [.p none 31 (.mv (.tmp 9)),
            .p none 32 (.bin .neq .i64 (.tmp 31) (.const (.int .i64 0))),
            .p none 33 (.mv (.tmp 32)),
            .split 33,
            .p (some (33, false)) 34 (.mv (.tmp 7)),
            .p (some (33, false)) 35 (.bin .lss .i64 (.tmp 34) (.const (.int .i64 1))),
            .p none 36 (.pick (.tmp 33) (.const (.bool true)) (.tmp 35)),
            .p none 37 (.mv (.tmp 36)),
            .split 37,
            .p (some (37, false)) 38 (.mv (.tmp 7)),
            .p (some (37, false)) 39 (.mv (.tmp 5)),
            .p (some (37, false)) 40 (.len (.tmp 39)),
            .p (some (37, false)) 41 (.bin .sub .i64 (.const (.int .i64 256)) (.tmp 40)),
            .p (some (37, false)) 42 (.bin .gtr .i64 (.tmp 38) (.tmp 41)),
            .p none 43 (.pick (.tmp 37) (.const (.bool true)) (.tmp 42)),
            .p none 44 (.mv (.tmp 43)),
            .split 44,
            .p (some (44, false)) 45 (.mv (.tmp 6)),
            .p (some (44, false)) 46 (.mv (.tmp 8)),
            .p (some (44, false)) 47 (.bin .add .i64 (.tmp 45) (.tmp 46)),
            .p (some (44, false)) 48 (.mv (.tmp 0)),
            .p (some (44, false)) 49 (.len (.tmp 48)),
            .p (some (44, false)) 50 (.bin .geq .i64 (.tmp 47) (.tmp 49)),
            .p none 51 (.pick (.tmp 44) (.const (.bool true)) (.tmp 50))])
        (.cond (.tmp 51)
          (.seq (.reg [.p none 2 (.mv (.const (.slice none 0 0))),
              .p none 3 (.mv (.const (.int .i64 0))),
              .p none 4 (.mv (.const (.bool false)))])
          .ret)
          .skip))
        (.seq (.reg [.p none 52 (.mv (.tmp 0)),
            .p none 53 (.mv (.tmp 6)),
            .p none 54 (.mv (.tmp 8)),
            .p none 55 (.bin .add .i64 (.tmp 53) (.tmp 54)),
            .p none 56 (.idx 1 (.tmp 52) (.tmp 55)),
            .l none (some 57) (.ld none (.tmp 56)),
            .p none 58 (.conv .i64 (.tmp 57)),
            .p none 10 (.mv (.tmp 58))])
        (.seq (.seq (.reg [.p none 59 (.mv (.tmp 10)),
            .p none 60 (.bin .gtr .i64 (.tmp 59) (.const (.int .i64 15))),
            .p none 61 (.mv (.tmp 60)),
            .split 61,
            .p (some (61, false)) 62 (.mv (.tmp 5)),
            .p (some (61, false)) 63 (.len (.tmp 62)),
            .p (some (61, false)) 64 (.bin .gtr .i64 (.tmp 63) (.const (.int .i64 0))),
            .p (some (61, false)) 65 (.mv (.tmp 64)),
            .split 65,
            .p (some (65, true)) 66 (.mv (.tmp 5)),
            .p (some (65, true)) 67 (.mv (.tmp 5)),
            .p (some (65, true)) 68 (.len (.tmp 67)),
            .p (some (65, true)) 69 (.bin .sub .i64 (.tmp 68) (.const (.int .i64 1))),
            .p (some (65, true)) 70 (.idx 1 (.tmp 66) (.tmp 69)),
            .l (some (65, true)) (some 71) (.ld none (.tmp 70)),
            .p (some (65, true)) 72 (.mv (.tmp 10)),
            .p (some (65, true)) 73 (.bin .eql .i64 (.tmp 71) (.tmp 72)),
            .p (some (61, false)) 74 (.pick (.tmp 65) (.tmp 73) (.const (.bool false))),
            .p none 75 (.pick (.tmp 61) (.const (.bool true)) (.tmp 74))])
        (.cond (.tmp 75)
          (.seq (.reg [.p none 2 (.mv (.const (.slice none 0 0))),
              .p none 3 (.mv (.const (.int .i64 0))),
              .p none 4 (.mv (.const (.bool false)))])
          .ret)
          .skip))
        (.seq (.seq (.reg [.p none 11 (.mv (.const (.int .i64 0)))])
        (.block 2
          (.loop
            (.seq (.seq (.reg [.p none 76 (.mv (.tmp 11)),
                .p none 77 (.mv (.tmp 7)),
                .p none 78 (.bin .lss .i64 (.tmp 76) (.tmp 77))])
            (.cond (.tmp 78)
              .skip
              (.exit 2)))
            (.seq (.block 3
              (.reg [.p none 81 (.mv (.tmp 5)),
                  .p none 82 (.mv (.tmp 10)),
                  .l none (some 83) (.bs 3 1 1 [(.int .i64 0)] [(0, 1, (.tmp 82))]),
                  .l none (some 84) (.app 3 8 1 [(.int .i64 0)] (.tmp 81) (.tmp 83)),
                  .p none 5 (.mv (.tmp 84))]))
            (.reg [.p none 79 (.mv (.tmp 11)),
                .p none 80 (.bin .add .i64 (.tmp 79) (.const (.int .i64 1))),
                .p none 11 (.mv (.tmp 80))]))))))
        (.reg [.p none 85 (.mv (.tmp 6)),
            .p none 86 (.mv (.tmp 8)),
            .p none 87 (.bin .add .i64 (.tmp 85) (.tmp 86)),
            .p none 88 (.bin .add .i64 (.tmp 87) (.const (.int .i64 1))),
            .p none 6 (.mv (.tmp 88))]))))))))))
  (.seq (.seq (.reg [.p none 89 (.mv (.tmp 6)),
      .p none 90 (.mv (.tmp 0)),
      .p none 91 (.len (.tmp 90)),
      .p none 92 (.bin .geq .i64 (.tmp 89) (.tmp 91)),
      .p none 93 (.mv (.tmp 92)),
      .split 93,
      .p (some (93, false)) 94 (.mv (.tmp 5)),
      .p (some (93, false)) 95 (.len (.tmp 94)),
      .p (some (93, false)) 96 (.bin .gtr .i64 (.tmp 95) (.const (.int .i64 0))),
      .p (some (93, false)) 97 (.mv (.tmp 96)),
      .split 97,
      .p (some (97, true)) 98 (.mv (.tmp 5)),
      .p (some (97, true)) 99 (.mv (.tmp 5)),
      .p (some (97, true)) 100 (.len (.tmp 99)),
      .p (some (97, true)) 101 (.bin .sub .i64 (.tmp 100) (.const (.int .i64 1))),
      .p (some (97, true)) 102 (.idx 1 (.tmp 98) (.tmp 101)),
      .l (some (97, true)) (some 103) (.ld none (.tmp 102)),
      .p (some (97, true)) 104 (.bin .eql .i64 (.tmp 103) (.const (.int .i64 0))),
      .p (some (93, false)) 105 (.pick (.tmp 97) (.tmp 104) (.const (.bool false))),
      .p none 106 (.pick (.tmp 93) (.const (.bool true)) (.tmp 105))])
  (.cond (.tmp 106)
    (.seq (.reg [.p none 2 (.mv (.const (.slice none 0 0))),
        .p none 3 (.mv (.const (.int .i64 0))),
        .p none 4 (.mv (.const (.bool false)))])
    .ret)
    .skip))
  (.seq (.reg [.p none 107 (.mv (.tmp 5)),
      .p none 108 (.mv (.tmp 6)),
      .p none 109 (.bin .add .i64 (.tmp 108) (.const (.int .i64 1))),
      .p none 2 (.mv (.tmp 107)),
      .p none 3 (.mv (.tmp 109)),
      .p none 4 (.mv (.const (.bool true)))])
  .ret))))))
theorem C49 : compile Try.prog 110 (Try.f49.body.getD .skip) = some M49 := by kernel_rfl

/-- winnowref4.bit -/
def M50 : MC :=
  (.seq (.reg [.p none 4 (.mv (.const (.int .u32 0)))])
  (.seq (.reg [.p none 5 (.mv (.tmp 0)),
      .p none 6 (.mv (.tmp 1)),
      .p none 7 (.div .quo .i64 (.tmp 6) (.const (.int .i64 8))),
      .p none 8 (.idx 1 (.tmp 5) (.tmp 7)),
      .l none (some 9) (.ld none (.tmp 8)),
      .p none 10 (.mv (.tmp 1)),
      .p none 11 (.div .rem .i64 (.tmp 10) (.const (.int .i64 8))),
      .p none 12 (.shf .shr (.tmp 9) (.tmp 11)),
      .p none 13 (.conv .u32 (.tmp 12)),
      .p none 14 (.div .rem .u32 (.tmp 13) (.const (.int .u32 2))),
      .p none 4 (.mv (.tmp 14))])
  .ret))
theorem C50 : compile Try.prog 15 (Try.f50.body.getD .skip) = some M50 := by kernel_rfl

/-- winnowref4.find -/
def M51 : MC :=
  (.seq (.reg [.p none 6 (.mv (.const (.int .i64 0)))])
  (.seq (.seq (.reg [.p none 7 (.mv (.const (.int .i64 0)))])
  (.block 0
    (.loop
      (.seq (.seq (.reg [.p none 8 (.mv (.tmp 7)),
          .p none 9 (.mv (.tmp 0)),
          .p none 10 (.len (.tmp 9)),
          .p none 11 (.bin .lss .i64 (.tmp 8) (.tmp 10))])
      (.cond (.tmp 11)
        .skip
        (.exit 0)))
      (.seq (.block 1
        (.seq (.reg [.p none 14 (.mv (.tmp 0)),
            .p none 15 (.mv (.tmp 7)),
            .p none 16 (.idx 2 (.tmp 14) (.tmp 15)),
            .p none 17 (.fa 0 (.tmp 16)),
            .l none (some 18) (.ld none (.tmp 17)),
            .p none 19 (.mv (.tmp 1)),
            .p none 20 (.bin .eql .i64 (.tmp 18) (.tmp 19)),
            .p none 21 (.mv (.tmp 20)),
            .split 21,
            .p (some (21, true)) 22 (.mv (.tmp 0)),
            .p (some (21, true)) 23 (.mv (.tmp 7)),
            .p (some (21, true)) 24 (.idx 2 (.tmp 22) (.tmp 23)),
            .p (some (21, true)) 25 (.fa 1 (.tmp 24)),
            .l (some (21, true)) (some 26) (.ld none (.tmp 25)),
            .p (some (21, true)) 27 (.mv (.tmp 2)),
            .p (some (21, true)) 28 (.bin .eql .u32 (.tmp 26) (.tmp 27)),
            .p none 29 (.pick (.tmp 21) (.tmp 28) (.const (.bool false))),
            .p none 30 (.mv (.tmp 29)),
            .split 30,
            .p (some (30, true)) 31 (.mv (.tmp 1)),
            .p (some (30, true)) 32 (.bin .gtr .i64 (.tmp 31) (.const (.int .i64 0))),
            .p none 33 (.pick (.tmp 30) (.tmp 32) (.const (.bool false)))])
        (.cond (.tmp 33)
          (.seq (.reg [.p none 34 (.mv (.tmp 7)),
              .p none 6 (.mv (.tmp 34))])
          .ret)
          .skip)))
      (.reg [.p none 12 (.mv (.tmp 7)),
          .p none 13 (.bin .add .i64 (.tmp 12) (.const (.int .i64 1))),
          .p none 7 (.mv (.tmp 13))]))))))
  (.seq (.reg [.p none 6 (.mv (.const (.int .i64 (-1))))])
  .ret)))
theorem C51 : compile Try.prog 35 (Try.f51.body.getD .skip) = some M51 := by kernel_rfl

/-- (*nums.Cursor).Num -/
def M61 : MC :=
  (.seq (.reg [.l none (some 3) (.bx 2 (.tmp 1)),
      .p none 4 (.mv (.const (.int .i64 0)))])
  (.seq (.reg [.l none (some 5) (.al 2 [(.int .i64 0)])])
  (.seq (.reg [.p none 6 (.mv (.tmp 0)),
      .p none 7 (.mkf (.func 72) [] [(.tmp 3), (.tmp 5)]),
      .l none (some 8) (.call 64 [(.tmp 6), (.tmp 7)])])
  (.seq (.reg [.l none (some 9) (.ld none (.tmp 5)),
      .p none 4 (.mv (.tmp 9))])
  .ret))))
theorem C61 : compile Try.prog 10 (Try.f61.body.getD .skip) = some M61 := by kernel_rfl

/-- (*nums.Cursor).Fixed -/
def M62 : MC :=
  (.seq (.reg [.l none (some 3) (.bx 3 (.tmp 1)),
      .p none 4 (.mv (.const (.int .u64 0)))])
  (.seq (.reg [.l none (some 5) (.al 95 [(.int .u64 0)])])
  (.seq (.reg [.p none 6 (.mv (.tmp 0)),
      .p none 7 (.mkf (.func 74) [] [(.tmp 3), (.tmp 5)]),
      .l none (some 8) (.call 64 [(.tmp 6), (.tmp 7)])])
  (.seq (.reg [.l none (some 9) (.ld none (.tmp 5)),
      .p none 4 (.mv (.tmp 9))])
  .ret))))
theorem C62 : compile Try.prog 10 (Try.f62.body.getD .skip) = some M62 := by kernel_rfl

/-- (*nums.Cursor).End -/
def M63 : MC :=
  (.seq (.reg [.l none (some 2) (.al 98 [(.int .i64 0), (.int .i64 0)])])
  (.seq (.block 0
    (.seq (.reg [.p none 4 (.mv (.tmp 0)),
        .p none 5 (.isnil false 0 (.tmp 4)),
        .p none 3 (.mv (.tmp 5))])
    (.cond (.tmp 3)
      (.seq (.reg [.p none 6 (.bld [(.int .i64 0), (.int .i64 0)] [(0, 1, (.const (.int .i64 1)))]),
          .l none none (.st 2 (.tmp 2) (.tmp 6))])
      .ret)
      (.seq (.reg [.p none 8 (.mv (.tmp 0)),
          .p none 9 (.nilchk (.tmp 8)),
          .p none 10 (.fa 2 (.tmp 9)),
          .l none (some 11) (.ld none (.tmp 10)),
          .p none 12 (.bin .neq .i64 (.tmp 11) (.const (.int .i64 0))),
          .p none 7 (.mv (.tmp 12))])
      (.cond (.tmp 7)
        (.seq (.dreg (.line [.qp 0 none 13 (.mv (.tmp 0)),
            .qp 1 none 14 (.nilchk (.tmp 13)),
            .qp 2 none 15 (.fa 2 (.tmp 14)),
            .qp 4 none 17 (.mv (.tmp 0)),
            .qp 5 none 18 (.nilchk (.tmp 17)),
            .qp 6 none 19 (.fa 1 (.tmp 18)),
            .ql 7 none 20 none (.tmp 19),
            .l 3 none (some 16) (.ld none (.tmp 15)),
            .qp 8 none 21 (.bld [(.int .i64 0), (.int .i64 0)] [(0, 1, (.tmp 16)), (1, 1, (.tmp 20))]),
            .l 9 none none (.st 2 (.tmp 2) (.tmp 21))]))
        .ret)
        (.seq (.dreg (.line [.qp 0 none 23 (.mv (.tmp 0)),
            .qp 1 none 24 (.nilchk (.tmp 23)),
            .qp 2 none 25 (.fa 1 (.tmp 24)),
            .qp 4 none 27 (.mv (.tmp 0)),
            .qp 5 none 28 (.nilchk (.tmp 27)),
            .qp 6 none 29 (.fa 0 (.tmp 28)),
            .ql 7 none 30 none (.tmp 29),
            .qp 8 none 31 (.len (.tmp 30)),
            .l 3 none (some 26) (.ld none (.tmp 25)),
            .qp 9 none 32 (.bin .lss .i64 (.tmp 26) (.tmp 31)),
            .qp 10 none 22 (.mv (.tmp 32))]))
        (.cond (.tmp 22)
          (.seq (.reg [.p none 33 (.mv (.tmp 0)),
              .p none 34 (.nilchk (.tmp 33)),
              .p none 35 (.fa 1 (.tmp 34)),
              .l none (some 36) (.ld none (.tmp 35)),
              .p none 37 (.bld [(.int .i64 0), (.int .i64 0)] [(0, 1, (.const (.int .i64 22))), (1, 1, (.tmp 36))]),
              .l none none (.st 2 (.tmp 2) (.tmp 37))])
          .ret)
          .skip)))))))
  (.seq (.reg [.p none 38 (.bld [(.int .i64 0), (.int .i64 0)] []),
      .l none none (.st 2 (.tmp 2) (.tmp 38))])
  .ret)))
theorem C63 : compile Try.prog 39 (Try.f63.body.getD .skip) = some M63 := by kernel_rfl

/-- (*nums.Cursor).reads -/
def M64 : MC :=
  (.seq (.seq (.reg [.p none 6 (.mv (.tmp 0)),
      .p none 7 (.isnil false 0 (.tmp 6)),
      .p none 8 (.mv (.tmp 7)),
      .split 8,
      .p (some (8, false)) 9 (.mv (.tmp 0)),
      .p (some (8, false)) 10 (.nilchk (.tmp 9)),
      .p (some (8, false)) 11 (.fa 2 (.tmp 10)),
      .l (some (8, false)) (some 12) (.ld none (.tmp 11)),
      .p (some (8, false)) 13 (.bin .neq .i64 (.tmp 12) (.const (.int .i64 0))),
      .p none 14 (.pick (.tmp 8) (.const (.bool true)) (.tmp 13))])
  (.cond (.tmp 14)
    .ret
    .skip))
  (.seq (.dreg (.line [.qp 0 none 16 (.mv (.tmp 1)),
      .qp 1 none 17 (.mv (.tmp 0)),
      .qp 2 none 18 (.nilchk (.tmp 17)),
      .qp 3 none 19 (.fa 0 (.tmp 18)),
      .qp 5 none 21 (.mv (.tmp 0)),
      .qp 6 none 22 (.nilchk (.tmp 21)),
      .qp 7 none 23 (.fa 1 (.tmp 22)),
      .ql 8 none 24 none (.tmp 23),
      .l 4 none (some 20) (.ld none (.tmp 19)),
      .qp 9 none 25 (.slc 1 (.tmp 20) (some (.tmp 24)) none none),
      .l 10 none (some 26) (.callv (.tmp 16) [(.tmp 25)]),
      .qp 11 none 15 (.mv (.tmp 26)),
      .qp 12 none 27 (.ext 0 (.tmp 15)),
      .qp 13 none 28 (.ext 1 (.tmp 15)),
      .qp 14 none 4 (.mv (.tmp 27)),
      .qp 15 none 5 (.mv (.tmp 28))]))
  (.seq (.seq (.reg [.p none 29 (.mv (.tmp 5)),
      .p none 30 (.bin .neq .i64 (.tmp 29) (.const (.int .i64 0)))])
  (.cond (.tmp 30)
    (.seq (.reg [.p none 31 (.mv (.tmp 0)),
        .p none 32 (.mv (.tmp 5)),
        .p none 33 (.nilchk (.tmp 31)),
        .p none 34 (.fa 2 (.tmp 33)),
        .l none none (.st 1 (.tmp 34) (.tmp 32))])
    .ret)
    .skip))
  (.reg [.p none 35 (.mv (.tmp 0)),
      .p none 36 (.nilchk (.tmp 35)),
      .p none 37 (.fa 1 (.tmp 36)),
      .l none (some 38) (.ld none (.tmp 37)),
      .p none 39 (.mv (.tmp 4)),
      .p none 40 (.bin .add .i64 (.tmp 38) (.tmp 39)),
      .p none 41 (.nilchk (.tmp 35)),
      .p none 42 (.fa 1 (.tmp 41)),
      .l none none (.st 1 (.tmp 42) (.tmp 40))]))))
theorem C64 : compile Try.prog 43 (Try.f64.body.getD .skip) = some M64 := by kernel_rfl

/-- (*nums.Cursor).Take$1 -/
def M65 : MC :=
  (.seq (.reg [.p none 4 (.mv (.const (.int .i64 0))),
      .p none 5 (.mv (.const (.int .i64 0)))])
  (.seq (.block 0
    (.seq (.reg [.l none (some 7) (.ld none (.tmp 1)),
        .p none 8 (.bin .lss .i64 (.tmp 7) (.const (.int .i64 0))),
        .p none 6 (.mv (.tmp 8))])
    (.cond (.tmp 6)
      (.seq (.reg [.p none 4 (.mv (.const (.int .i64 0))),
          .p none 5 (.mv (.const (.int .i64 23)))])
      .ret)
      (.seq (.reg [.l none (some 10) (.ld none (.tmp 1)),
          .p none 11 (.mv (.tmp 0)),
          .p none 12 (.len (.tmp 11)),
          .p none 13 (.bin .gtr .i64 (.tmp 10) (.tmp 12)),
          .p none 9 (.mv (.tmp 13))])
      (.cond (.tmp 9)
        (.seq (.reg [.p none 4 (.mv (.const (.int .i64 0))),
            .p none 5 (.mv (.const (.int .i64 20)))])
        .ret)
        .skip)))))
  (.seq (.dreg (.line [.qp 1 none 15 (.mv (.tmp 0)),
      .ql 2 none 16 none (.tmp 1),
      .qp 3 none 17 (.slc 1 (.tmp 15) none (some (.tmp 16)) none),
      .l 0 none (some 14) (.ld none (.tmp 2)),
      .l 4 none (some 18) (.app 5 1 1 [(.int .u8 0)] (.tmp 14) (.tmp 17)),
      .l 5 none none (.st 1 (.tmp 2) (.tmp 18))]))
  (.seq (.reg [.l none (some 19) (.ld none (.tmp 1)),
      .p none 4 (.mv (.tmp 19)),
      .p none 5 (.mv (.const (.int .i64 0)))])
  .ret))))
theorem C65 : compile Try.prog 20 (Try.f65.body.getD .skip) = some M65 := by kernel_rfl

/-- winnowref2.Get -/
def M66 : MC :=
  (.seq (.reg [.p none 2 (.mv (.const (.int .i64 0))),
      .p none 3 (.mv (.const (.int .i64 0))),
      .p none 4 (.mv (.const (.int .i64 0)))])
  (.seq (.reg [.p none 5 (.mv (.const (.int .i64 0)))])
  (.seq (.reg [.p none 6 (.mv (.const (.int .i64 1)))])
  (.seq (.seq (.reg [.p none 7 (.mv (.const (.int .i64 0)))])
  (.block 0
    (.loop
      (.seq (.seq (.reg [.p none 9 (.mv (.tmp 7)),
          .p none 10 (.mv (.tmp 0)),
          .p none 11 (.len (.tmp 10)),
          .p none 12 (.bin .lss .i64 (.tmp 9) (.tmp 11))])
      (.cond (.tmp 12)
        .skip
        (.exit 0)))
      (.seq (.block 1
        (.seq (.reg [.p none 15 (.mv (.tmp 0)),
            .p none 16 (.mv (.tmp 7)),
            .p none 17 (.idx 1 (.tmp 15) (.tmp 16)),
            .l none (some 18) (.ld none (.tmp 17)),
            .p none 19 (.conv .i64 (.tmp 18)),
            .p none 20 (.div .rem .i64 (.tmp 19) (.const (.int .i64 128))),
            .p none 8 (.mv (.tmp 20))])
        (.seq (.reg [.p none 21 (.mv (.tmp 5)),
            .p none 22 (.mv (.tmp 8)),
            .p none 23 (.mv (.tmp 6)),
            .p none 24 (.bin .mul .i64 (.tmp 22) (.tmp 23)),
            .p none 25 (.bin .add .i64 (.tmp 21) (.tmp 24)),
            .p none 5 (.mv (.tmp 25))])
        (.seq (.seq (.reg [.p none 26 (.mv (.tmp 0)),
            .p none 27 (.mv (.tmp 7)),
            .p none 28 (.idx 1 (.tmp 26) (.tmp 27)),
            .l none (some 29) (.ld none (.tmp 28)),
            .p none 30 (.bin .lss .u8 (.tmp 29) (.const (.int .u8 128)))])
        (.cond (.tmp 30)
          (.seq (.seq (.reg [.p none 31 (.mv (.tmp 7)),
              .p none 32 (.bin .gtr .i64 (.tmp 31) (.const (.int .i64 0))),
              .p none 33 (.mv (.tmp 32)),
              .split 33,
              .p (some (33, true)) 34 (.mv (.tmp 0)),
              .p (some (33, true)) 35 (.mv (.tmp 7)),
              .p (some (33, true)) 36 (.idx 1 (.tmp 34) (.tmp 35)),
              .l (some (33, true)) (some 37) (.ld none (.tmp 36)),
              .p (some (33, true)) 38 (.bin .eql .u8 (.tmp 37) (.const (.int .u8 0))),
              .p none 39 (.pick (.tmp 33) (.tmp 38) (.const (.bool false)))])
          (.cond (.tmp 39)
            (.seq (.reg [.p none 2 (.mv (.const (.int .i64 0))),
                .p none 3 (.mv (.const (.int .i64 0))),
                .p none 4 (.mv (.const (.int .i64 21)))])
            .ret)
            .skip))
          (.seq (.reg [.p none 40 (.mv (.tmp 5)),
              .p none 41 (.mv (.tmp 7)),
              .p none 42 (.bin .add .i64 (.tmp 41) (.const (.int .i64 1))),
              .p none 2 (.mv (.tmp 40)),
              .p none 3 (.mv (.tmp 42)),
              .p none 4 (.mv (.const (.int .i64 0)))])
          .ret))
          .skip))
        (.seq (.seq (.reg [.p none 43 (.mv (.tmp 7)),
            .p none 44 (.bin .eql .i64 (.tmp 43) (.const (.int .i64 8)))])
        (.cond (.tmp 44)
          (.seq (.reg [.p none 2 (.mv (.const (.int .i64 0))),
              .p none 3 (.mv (.const (.int .i64 0))),
              .p none 4 (.mv (.const (.int .i64 21)))])
          .ret)
          .skip))
        (.reg [.p none 45 (.mv (.tmp 6)),
            .p none 46 (.bin .mul .i64 (.tmp 45) (.const (.int .i64 128))),
            .p none 6 (.mv (.tmp 46))]))))))
      (.reg [.p none 13 (.mv (.tmp 7)),
          .p none 14 (.bin .add .i64 (.tmp 13) (.const (.int .i64 1))),
          .p none 7 (.mv (.tmp 14))]))))))
  (.seq (.reg [.p none 2 (.mv (.const (.int .i64 0))),
      .p none 3 (.mv (.const (.int .i64 0))),
      .p none 4 (.mv (.const (.int .i64 20)))])
  .ret)))))
theorem C66 : compile Try.prog 47 (Try.f66.body.getD .skip) = some M66 := by kernel_rfl

/-- (*nums.Cursor).Num$1 -/
def M72 : MC :=
  (.seq (.reg [.p none 4 (.mv (.const (.int .i64 0))),
      .p none 5 (.mv (.const (.int .i64 0)))])
  (.seq (.reg [.p none 10 (.mv (.tmp 0)),
      .l none (some 11) (.call 73 [(.tmp 10)]),
      .p none 9 (.mv (.tmp 11)),
      .p none 12 (.ext 0 (.tmp 9)),
      .p none 13 (.ext 1 (.tmp 9)),
      .p none 14 (.ext 2 (.tmp 9)),
      .p none 6 (.mv (.tmp 12)),
      .p none 7 (.mv (.tmp 13)),
      .p none 8 (.mv (.tmp 14))])
  (.seq (.seq (.reg [.p none 15 (.mv (.tmp 8)),
      .p none 16 (.bin .eql .i64 (.tmp 15) (.const (.int .i64 0))),
      .p none 17 (.mv (.tmp 16)),
      .split 17,
      .p (some (17, true)) 18 (.mv (.tmp 6)),
      .l (some (17, true)) (some 19) (.ld none (.tmp 1)),
      .p (some (17, true)) 20 (.bin .gtr .i64 (.tmp 18) (.tmp 19)),
      .p none 21 (.pick (.tmp 17) (.tmp 20) (.const (.bool false)))])
  (.cond (.tmp 21)
    (.reg [.p none 8 (.mv (.const (.int .i64 23)))])
    .skip))
  (.seq (.seq (.reg [.p none 22 (.mv (.tmp 8)),
      .p none 23 (.bin .eql .i64 (.tmp 22) (.const (.int .i64 0)))])
  (.cond (.tmp 23)
    (.reg [.p none 24 (.mv (.tmp 6)),
        .l none none (.st 1 (.tmp 2) (.tmp 24))])
    .skip))
  (.seq (.reg [.p none 25 (.mv (.tmp 7)),
      .p none 26 (.mv (.tmp 8)),
      .p none 4 (.mv (.tmp 25)),
      .p none 5 (.mv (.tmp 26))])
  .ret)))))
theorem C72 : compile Try.prog 27 (Try.f72.body.getD .skip) = some M72 := by kernel_rfl

/-- nums.Get -/
def M73 : MC :=
  (.seq (.reg [.p none 2 (.mv (.const (.int .i64 0))),
      .p none 3 (.mv (.const (.int .i64 0))),
      .p none 4 (.mv (.const (.int .i64 0)))])
  (.seq (.reg [.p none 5 (.mv (.const (.int .i64 0)))])
  (.seq (.seq (.reg [.p none 8 (.mv (.tmp 0)),
      .p none 9 (.len (.tmp 8)),
      .p none 10 (.mv (.const (.int .i64 0)))])
  (.block 0
    (.loop
      (.seq (.reg [.p none 11 (.bin .lss .i64 (.tmp 10) (.tmp 9))])
      (.seq (.cond (.tmp 11)
        .skip
        (.exit 0))
      (.seq (.block 1
        (.seq (.reg [.p none 12 (.mv (.tmp 10)),
            .p none 13 (.idx 1 (.tmp 8) (.tmp 10)),
            .l none (some 14) (.ld none (.tmp 13)),
            .p none 6 (.mv (.tmp 12)),
            .p none 7 (.mv (.tmp 14))])
        (.seq (.seq (.reg [.p none 15 (.mv (.tmp 6)),
            .p none 16 (.bin .eql .i64 (.tmp 15) (.const (.int .i64 8))),
            .p none 17 (.mv (.tmp 16)),
            .split 17,
            .p (some (17, true)) 18 (.mv (.tmp 7)),
            .p (some (17, true)) 19 (.bin .geq .u8 (.tmp 18) (.const (.int .u8 128))),
            .p none 20 (.pick (.tmp 17) (.tmp 19) (.const (.bool false)))])
        (.cond (.tmp 20)
          (.seq (.reg [.p none 2 (.mv (.const (.int .i64 0))),
              .p none 3 (.mv (.const (.int .i64 0))),
              .p none 4 (.mv (.const (.int .i64 21)))])
          .ret)
          .skip))
        (.seq (.reg [.p none 21 (.mv (.tmp 5)),
            .p none 22 (.mv (.tmp 7)),
            .p none 23 (.bin .and .u8 (.tmp 22) (.const (.int .u8 127))),
            .p none 24 (.conv .i64 (.tmp 23)),
            .p none 25 (.mv (.tmp 6)),
            .p none 26 (.bin .mul .i64 (.const (.int .i64 7)) (.tmp 25)),
            .p none 27 (.shf .shl (.tmp 24) (.tmp 26)),
            .p none 28 (.bin .or .i64 (.tmp 21) (.tmp 27)),
            .p none 5 (.mv (.tmp 28))])
        (.seq (.reg [.p none 29 (.mv (.tmp 7)),
            .p none 30 (.bin .lss .u8 (.tmp 29) (.const (.int .u8 128)))])
        (.cond (.tmp 30)
          (.seq (.seq (.reg [.p none 31 (.mv (.tmp 7)),
              .p none 32 (.bin .eql .u8 (.tmp 31) (.const (.int .u8 0))),
              .p none 33 (.mv (.tmp 32)),
              .split 33,
              .p (some (33, true)) 34 (.mv (.tmp 6)),
              .p (some (33, true)) 35 (.bin .gtr .i64 (.tmp 34) (.const (.int .i64 0))),
              .p none 36 (.pick (.tmp 33) (.tmp 35) (.const (.bool false)))])
          (.cond (.tmp 36)
            (.seq (.reg [.p none 2 (.mv (.const (.int .i64 0))),
                .p none 3 (.mv (.const (.int .i64 0))),
                .p none 4 (.mv (.const (.int .i64 21)))])
            .ret)
            .skip))
          (.seq (.reg [.p none 37 (.mv (.tmp 5)),
              .p none 38 (.mv (.tmp 6)),
              .p none 39 (.bin .add .i64 (.tmp 38) (.const (.int .i64 1))),
              .p none 2 (.mv (.tmp 37)),
              .p none 3 (.mv (.tmp 39)),
              .p none 4 (.mv (.const (.int .i64 0)))])
          .ret))
          .skip))))))
      (.reg [.p none 40 (.bin .add .i64 (.tmp 10) (.const (.int .i64 1))),
          .p none 10 (.mv (.tmp 40))])))))))
  (.seq (.reg [.p none 2 (.mv (.const (.int .i64 0))),
      .p none 3 (.mv (.const (.int .i64 0))),
      .p none 4 (.mv (.const (.int .i64 20)))])
  .ret))))
theorem C73 : compile Try.prog 41 (Try.f73.body.getD .skip) = some M73 := by kernel_rfl

/-- (*nums.Cursor).Fixed$1 -/
def M74 : MC :=
  (.seq (.reg [.p none 4 (.mv (.const (.int .i64 0))),
      .p none 5 (.mv (.const (.int .i64 0)))])
  (.seq (.block 0
    (.seq (.reg [.l none (some 7) (.ld none (.tmp 1)),
        .p none 8 (.bin .lss .i64 (.tmp 7) (.const (.int .i64 1))),
        .p none 9 (.mv (.tmp 8)),
        .split 9,
        .l (some (9, false)) (some 10) (.ld none (.tmp 1)),
        .p (some (9, false)) 11 (.bin .gtr .i64 (.tmp 10) (.const (.int .i64 8))),
        .p none 12 (.pick (.tmp 9) (.const (.bool true)) (.tmp 11)),
        .p none 6 (.mv (.tmp 12))])
    (.cond (.tmp 6)
      (.seq (.reg [.p none 4 (.mv (.const (.int .i64 0))),
          .p none 5 (.mv (.const (.int .i64 23)))])
      .ret)
      (.seq (.reg [.l none (some 14) (.ld none (.tmp 1)),
          .p none 15 (.mv (.tmp 0)),
          .p none 16 (.len (.tmp 15)),
          .p none 17 (.bin .gtr .i64 (.tmp 14) (.tmp 16)),
          .p none 13 (.mv (.tmp 17))])
      (.cond (.tmp 13)
        (.seq (.reg [.p none 4 (.mv (.const (.int .i64 0))),
            .p none 5 (.mv (.const (.int .i64 20)))])
        .ret)
        .skip)))))
  (.seq (.reg [.p none 18 (.mv (.tmp 0)),
      .l none (some 19) (.ld none (.tmp 1)),
      .p none 20 (.slc 1 (.tmp 18) none (some (.tmp 19)) none),
      .l none (some 21) (.call 75 [(.tmp 20)]),
      .l none none (.st 1 (.tmp 2) (.tmp 21))])
  (.seq (.reg [.l none (some 22) (.ld none (.tmp 1)),
      .p none 4 (.mv (.tmp 22)),
      .p none 5 (.mv (.const (.int .i64 0)))])
  .ret))))
theorem C74 : compile Try.prog 23 (Try.f74.body.getD .skip) = some M74 := by kernel_rfl

/-- nums.Word -/
def M75 : MC :=
  (.seq (.reg [.p none 2 (.mv (.const (.int .u64 0)))])
  (.seq (.reg [.p none 3 (.mv (.const (.int .u64 0)))])
  (.seq (.seq (.reg [.p none 5 (.mv (.tmp 0)),
      .p none 6 (.len (.tmp 5)),
      .p none 7 (.mm false .i64 (.tmp 6) [(.const (.int .i64 8))]),
      .p none 8 (.mv (.const (.int .i64 0)))])
  (.block 0
    (.loop
      (.seq (.reg [.p none 9 (.bin .lss .i64 (.tmp 8) (.tmp 7))])
      (.seq (.cond (.tmp 9)
        .skip
        (.exit 0))
      (.seq (.block 1
        (.seq (.reg [.p none 10 (.mv (.tmp 8)),
            .p none 4 (.mv (.tmp 10))])
        (.reg [.p none 11 (.mv (.tmp 3)),
            .p none 12 (.mv (.tmp 0)),
            .p none 13 (.mv (.tmp 4)),
            .p none 14 (.idx 1 (.tmp 12) (.tmp 13)),
            .l none (some 15) (.ld none (.tmp 14)),
            .p none 16 (.conv .u64 (.tmp 15)),
            .p none 17 (.mv (.tmp 4)),
            .p none 18 (.bin .mul .i64 (.const (.int .i64 8)) (.tmp 17)),
            .p none 19 (.shf .shl (.tmp 16) (.tmp 18)),
            .p none 20 (.bin .or .u64 (.tmp 11) (.tmp 19)),
            .p none 3 (.mv (.tmp 20))])))
      (.reg [.p none 21 (.bin .add .i64 (.tmp 8) (.const (.int .i64 1))),
          .p none 8 (.mv (.tmp 21))])))))))
  (.seq (.reg [.p none 22 (.mv (.tmp 3)),
      .p none 2 (.mv (.tmp 22))])
  .ret))))
theorem C75 : compile Try.prog 23 (Try.f75.body.getD .skip) = some M75 := by kernel_rfl
end Go.Proofs.Ytojnkjnebejodaa.E
