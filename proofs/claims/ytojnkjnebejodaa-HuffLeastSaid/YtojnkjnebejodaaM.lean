/- The intermediate code of the functions that are walked here, each with the proof that it is the translation of the model's code. -/
import Derived.Test.YtojnkjnebejodaaE6
import Derived.KernelRfl
namespace Go.Proofs.Ytojnkjnebejodaa.E
open Go
theorem mixed : Try.prog.follows .mixedOrders = true := by kernel_rfl

/-- winnowlaw4.HuffLeast -/
noncomputable def M7 : MC :=
  (.seq (.reg [.p none 6 (.mv (.const (.bool false)))])
  (.seq (.reg [.p none 20 (.mv (.tmp 0)),
      .l none (some 21) (.call 31 [(.tmp 20)]),
      .p none 7 (.mv (.tmp 21))])
  (.seq (.reg [.p none 22 (.mv (.tmp 7)),
      .l none (some 23) (.call 32 [(.tmp 22)]),
      .p none 8 (.mv (.tmp 23))])
  (.seq (.reg [.p none 24 (.mv (.tmp 1)),
      .p none 25 (.mv (.tmp 8)),
      .l none (some 26) (.call 33 [(.tmp 24), (.tmp 25)]),
      .p none 9 (.mv (.tmp 26))])
  (.seq (.reg [.p none 28 (.mv (.tmp 7)),
      .p none 29 (.mv (.tmp 9)),
      .l none (some 30) (.call 28 [(.tmp 28), (.tmp 29)]),
      .p none 27 (.mv (.tmp 30)),
      .p none 31 (.ext 0 (.tmp 27)),
      .p none 32 (.ext 1 (.tmp 27)),
      .p none 10 (.mv (.tmp 31)),
      .p none 11 (.mv (.tmp 32))])
  (.seq (.reg [.p none 34 (.mv (.tmp 7)),
      .p none 35 (.mv (.tmp 10)),
      .l none (some 36) (.call 14 [(.tmp 34), (.tmp 35)]),
      .p none 33 (.mv (.tmp 36)),
      .p none 37 (.ext 0 (.tmp 33)),
      .p none 38 (.ext 1 (.tmp 33)),
      .p none 12 (.mv (.tmp 37)),
      .p none 13 (.mv (.tmp 38))])
  (.seq (.seq (.reg [.p none 39 (.mv (.tmp 11)),
      .p none 40 (.bin .neq .i64 (.tmp 39) (.const (.int .i64 0))),
      .p none 41 (.mv (.tmp 40)),
      .split 41,
      .p (some (41, false)) 42 (.mv (.tmp 13)),
      .p (some (41, false)) 43 (.bin .neq .i64 (.tmp 42) (.const (.int .i64 0))),
      .p none 44 (.pick (.tmp 41) (.const (.bool true)) (.tmp 43)),
      .p none 45 (.mv (.tmp 44)),
      .split 45,
      .p (some (45, false)) 46 (.mv (.tmp 10)),
      .p (some (45, false)) 47 (.len (.tmp 46)),
      .p (some (45, false)) 48 (.mv (.tmp 7)),
      .p (some (45, false)) 49 (.len (.tmp 48)),
      .p (some (45, false)) 50 (.bin .neq .i64 (.tmp 47) (.tmp 49)),
      .p none 51 (.pick (.tmp 45) (.const (.bool true)) (.tmp 50))])
  (.cond (.tmp 51)
    (.seq (.reg [.p none 6 (.mv (.const (.bool false)))])
    .ret)
    .skip))
  (.seq (.seq (.reg [.p none 14 (.mv (.const (.int .i64 0)))])
  (.block 0
    (.loop
      (.seq (.seq (.reg [.p none 52 (.mv (.tmp 14)),
          .p none 53 (.mv (.tmp 7)),
          .p none 54 (.len (.tmp 53)),
          .p none 55 (.bin .lss .i64 (.tmp 52) (.tmp 54))])
      (.cond (.tmp 55)
        .skip
        (.exit 0)))
      (.seq (.block 1
        (.seq (.dreg (.line [.qp 0 none 58 (.mv (.tmp 10)),
            .qp 1 none 59 (.mv (.tmp 14)),
            .qp 2 none 60 (.idx 1 (.tmp 58) (.tmp 59)),
            .l 3 none (some 61) (.ld none (.tmp 60)),
            .qp 4 none 62 (.bin .lss .i64 (.tmp 61) (.const (.int .i64 0))),
            .qp 5 none 63 (.mv (.tmp 62)),
            .split 63,
            .qp 6 (some (63, false)) 64 (.mv (.tmp 10)),
            .qp 7 (some (63, false)) 65 (.mv (.tmp 14)),
            .qp 8 (some (63, false)) 66 (.idx 1 (.tmp 64) (.tmp 65)),
            .qp 10 (some (63, false)) 68 (.mv (.tmp 9)),
            .l 9 (some (63, false)) (some 67) (.ld none (.tmp 66)),
            .qp 11 (some (63, false)) 69 (.bin .gtr .i64 (.tmp 67) (.tmp 68)),
            .qp 12 none 70 (.pick (.tmp 63) (.const (.bool true)) (.tmp 69)),
            .qp 13 none 71 (.mv (.tmp 70)),
            .split 71,
            .qp 14 (some (71, false)) 72 (.mv (.tmp 10)),
            .qp 15 (some (71, false)) 73 (.mv (.tmp 14)),
            .qp 16 (some (71, false)) 74 (.idx 1 (.tmp 72) (.tmp 73)),
            .qp 19 (some (71, false)) 77 (.mv (.tmp 7)),
            .qp 20 (some (71, false)) 78 (.mv (.tmp 14)),
            .qp 21 (some (71, false)) 79 (.idx 1 (.tmp 77) (.tmp 78)),
            .ql 22 (some (71, false)) 80 none (.tmp 79),
            .qp 23 (some (71, false)) 81 (.bin .gtr .i64 (.tmp 80) (.const (.int .i64 0))),
            .l 17 (some (71, false)) (some 75) (.ld none (.tmp 74)),
            .qp 18 (some (71, false)) 76 (.bin .gtr .i64 (.tmp 75) (.const (.int .i64 0))),
            .qp 24 (some (71, false)) 82 (.beq true (.tmp 76) (.tmp 81)),
            .qp 25 none 83 (.pick (.tmp 71) (.const (.bool true)) (.tmp 82))]))
        (.cond (.tmp 83)
          (.seq (.reg [.p none 6 (.mv (.const (.bool false)))])
          .ret)
          .skip)))
      (.reg [.p none 56 (.mv (.tmp 14)),
          .p none 57 (.bin .add .i64 (.tmp 56) (.const (.int .i64 1))),
          .p none 14 (.mv (.tmp 57))]))))))
  (.seq (.reg [.p none 84 (.mv (.tmp 7)),
      .p none 85 (.len (.tmp 84)),
      .l none (some 86) (.mks 3 8 1 [(.int .i64 0)] (.tmp 85) (.tmp 85)),
      .p none 15 (.mv (.tmp 86))])
  (.seq (.seq (.reg [.p none 16 (.mv (.const (.int .i64 0)))])
  (.block 2
    (.loop
      (.seq (.seq (.reg [.p none 87 (.mv (.tmp 16)),
          .p none 88 (.mv (.tmp 7)),
          .p none 89 (.len (.tmp 88)),
          .p none 90 (.bin .lss .i64 (.tmp 87) (.tmp 89))])
      (.cond (.tmp 90)
        .skip
        (.exit 2)))
      (.seq (.block 3
        (.seq (.seq (.reg [.p none 93 (.mv (.tmp 7)),
            .p none 94 (.mv (.tmp 16)),
            .p none 95 (.idx 1 (.tmp 93) (.tmp 94)),
            .l none (some 96) (.ld none (.tmp 95)),
            .p none 97 (.bin .eql .i64 (.tmp 96) (.const (.int .i64 0)))])
        (.cond (.tmp 97)
          (.exit 3)
          .skip))
        (.seq (.reg [.p none 98 (.mv (.tmp 15)),
            .p none 99 (.mv (.tmp 16)),
            .p none 100 (.mv (.tmp 9)),
            .p none 101 (.idx 1 (.tmp 98) (.tmp 99)),
            .l none none (.st 1 (.tmp 101) (.tmp 100))])
        (.seq (.seq (.reg [.p none 102 (.mv (.tmp 16)),
            .p none 103 (.mv (.tmp 2)),
            .p none 104 (.len (.tmp 103)),
            .p none 105 (.bin .lss .i64 (.tmp 102) (.tmp 104))])
        (.cond (.tmp 105)
          (.reg [.p none 106 (.mv (.tmp 15)),
              .p none 107 (.mv (.tmp 16)),
              .p none 108 (.mv (.tmp 2)),
              .p none 109 (.mv (.tmp 16)),
              .p none 110 (.idx 1 (.tmp 108) (.tmp 109)),
              .l none (some 111) (.ld none (.tmp 110)),
              .l none (some 112) (.call 33 [(.tmp 111), (.const (.int .i64 0))]),
              .p none 113 (.idx 1 (.tmp 106) (.tmp 107)),
              .l none none (.st 1 (.tmp 113) (.tmp 112))])
          .skip))
        (.reg [.p none 114 (.mv (.tmp 15)),
            .p none 115 (.mv (.tmp 16)),
            .p none 116 (.mv (.tmp 15)),
            .p none 117 (.mv (.tmp 16)),
            .p none 118 (.idx 1 (.tmp 116) (.tmp 117)),
            .l none (some 119) (.ld none (.tmp 118)),
            .p none 120 (.mv (.tmp 9)),
            .p none 121 (.mm false .i64 (.tmp 119) [(.tmp 120)]),
            .p none 122 (.idx 1 (.tmp 114) (.tmp 115)),
            .l none none (.st 1 (.tmp 122) (.tmp 121))])))))
      (.reg [.p none 91 (.mv (.tmp 16)),
          .p none 92 (.bin .add .i64 (.tmp 91) (.const (.int .i64 1))),
          .p none 16 (.mv (.tmp 92))]))))))
  (.seq (.seq (.reg [.p none 17 (.mv (.const (.int .i64 0)))])
  (.block 4
    (.loop
      (.seq (.seq (.reg [.p none 123 (.mv (.tmp 17)),
          .p none 124 (.mv (.tmp 15)),
          .p none 125 (.len (.tmp 124)),
          .p none 126 (.bin .lss .i64 (.tmp 123) (.tmp 125)),
          .p none 127 (.mv (.tmp 126)),
          .split 127,
          .p (some (127, true)) 128 (.mv (.tmp 15)),
          .l (some (127, true)) (some 129) (.call 34 [(.tmp 128)]),
          .p (some (127, true)) 130 (.bin .gtr .i64 (.tmp 129) (.const (.int .i64 32768))),
          .p none 131 (.pick (.tmp 127) (.tmp 130) (.const (.bool false)))])
      (.cond (.tmp 131)
        .skip
        (.exit 4)))
      (.seq (.block 5
        (.block 6
          (.loop
            (.seq (.seq (.reg [.p none 134 (.mv (.tmp 15)),
                .p none 135 (.mv (.tmp 17)),
                .p none 136 (.idx 1 (.tmp 134) (.tmp 135)),
                .l none (some 137) (.ld none (.tmp 136)),
                .p none 138 (.bin .gtr .i64 (.tmp 137) (.const (.int .i64 0))),
                .p none 139 (.mv (.tmp 138)),
                .split 139,
                .p (some (139, true)) 140 (.mv (.tmp 15)),
                .p (some (139, true)) 141 (.mv (.tmp 17)),
                .p (some (139, true)) 142 (.idx 1 (.tmp 140) (.tmp 141)),
                .l (some (139, true)) (some 143) (.ld none (.tmp 142)),
                .p (some (139, true)) 144 (.mv (.tmp 9)),
                .p (some (139, true)) 145 (.bin .lss .i64 (.tmp 143) (.tmp 144)),
                .p none 146 (.pick (.tmp 139) (.tmp 145) (.const (.bool false))),
                .p none 147 (.mv (.tmp 146)),
                .split 147,
                .p (some (147, true)) 148 (.mv (.tmp 15)),
                .l (some (147, true)) (some 149) (.call 34 [(.tmp 148)]),
                .p (some (147, true)) 150 (.bin .gtr .i64 (.tmp 149) (.const (.int .i64 32768))),
                .p none 151 (.pick (.tmp 147) (.tmp 150) (.const (.bool false)))])
            (.cond (.tmp 151)
              .skip
              (.exit 6)))
            (.block 7
              (.reg [.p none 152 (.mv (.tmp 15)),
                  .p none 153 (.mv (.tmp 17)),
                  .p none 154 (.idx 1 (.tmp 152) (.tmp 153)),
                  .l none (some 155) (.ld none (.tmp 154)),
                  .p none 156 (.bin .add .i64 (.tmp 155) (.const (.int .i64 1))),
                  .p none 157 (.idx 1 (.tmp 152) (.tmp 153)),
                  .l none none (.st 1 (.tmp 157) (.tmp 156))]))))))
      (.reg [.p none 132 (.mv (.tmp 17)),
          .p none 133 (.bin .add .i64 (.tmp 132) (.const (.int .i64 1))),
          .p none 17 (.mv (.tmp 133))]))))))
  (.seq (.seq (.reg [.p none 158 (.mv (.tmp 15)),
      .l none (some 159) (.call 34 [(.tmp 158)]),
      .p none 160 (.bin .gtr .i64 (.tmp 159) (.const (.int .i64 32768)))])
  (.cond (.tmp 160)
    (.seq (.reg [.p none 6 (.mv (.const (.bool false)))])
    .ret)
    .skip))
  (.seq (.reg [.p none 18 (.mv (.const (.int .i64 0)))])
  (.seq (.seq (.reg [.p none 19 (.mv (.const (.int .i64 0)))])
  (.block 8
    (.loop
      (.seq (.seq (.reg [.p none 161 (.mv (.tmp 19)),
          .p none 162 (.mv (.tmp 7)),
          .p none 163 (.len (.tmp 162)),
          .p none 164 (.bin .lss .i64 (.tmp 161) (.tmp 163))])
      (.cond (.tmp 164)
        .skip
        (.exit 8)))
      (.seq (.block 9
        (.dreg (.line [.qp 0 none 167 (.mv (.tmp 18)),
            .qp 1 none 168 (.mv (.tmp 7)),
            .qp 2 none 169 (.mv (.tmp 19)),
            .qp 3 none 170 (.idx 1 (.tmp 168) (.tmp 169)),
            .qp 5 none 172 (.mv (.tmp 15)),
            .qp 6 none 173 (.mv (.tmp 19)),
            .qp 7 none 174 (.idx 1 (.tmp 172) (.tmp 173)),
            .ql 8 none 175 none (.tmp 174),
            .l 4 none (some 171) (.ld none (.tmp 170)),
            .qp 9 none 176 (.bin .mul .i64 (.tmp 171) (.tmp 175)),
            .qp 10 none 177 (.bin .add .i64 (.tmp 167) (.tmp 176)),
            .qp 11 none 18 (.mv (.tmp 177))])))
      (.reg [.p none 165 (.mv (.tmp 19)),
          .p none 166 (.bin .add .i64 (.tmp 165) (.const (.int .i64 1))),
          .p none 19 (.mv (.tmp 166))]))))))
  (.seq (.reg [.p none 178 (.mv (.tmp 10)),
      .l none (some 179) (.call 34 [(.tmp 178)]),
      .p none 180 (.bin .leq .i64 (.tmp 179) (.const (.int .i64 32768))),
      .p none 181 (.mv (.tmp 180)),
      .split 181,
      .p (some (181, true)) 182 (.mv (.tmp 12)),
      .p (some (181, true)) 183 (.mv (.tmp 18)),
      .p (some (181, true)) 184 (.bin .leq .i64 (.tmp 182) (.tmp 183)),
      .p none 185 (.pick (.tmp 181) (.tmp 184) (.const (.bool false))),
      .p none 6 (.mv (.tmp 185))])
  .ret)))))))))))))))
theorem C7 : compile Try.prog 186 (Try.f7.body.getD .skip) = some M7 := by kernel_rfl

/-- huff.Cost -/
noncomputable def M14 : MC :=
  (.seq (.reg [.p none 4 (.mv (.const (.int .i64 0))),
      .p none 5 (.mv (.const (.int .i64 0)))])
  (.seq (.seq (.reg [.p none 8 (.mv (.tmp 0)),
      .p none 9 (.len (.tmp 8)),
      .p none 10 (.bin .gtr .i64 (.tmp 9) (.const (.int .i64 256))),
      .p none 11 (.mv (.tmp 10)),
      .split 11,
      .p (some (11, false)) 12 (.mv (.tmp 1)),
      .p (some (11, false)) 13 (.len (.tmp 12)),
      .p (some (11, false)) 14 (.bin .gtr .i64 (.tmp 13) (.const (.int .i64 256))),
      .p none 15 (.pick (.tmp 11) (.const (.bool true)) (.tmp 14))])
  (.cond (.tmp 15)
    (.seq (.reg [.p none 4 (.mv (.const (.int .i64 0))),
        .p none 5 (.mv (.const (.int .i64 2)))])
    .ret)
    .skip))
  (.seq (.seq (.reg [.p none 16 (.mv (.tmp 0)),
      .l none (some 17) (.call 39 [(.tmp 16)]),
      .p none 18 (.bin .neq .i64 (.tmp 17) (.const (.int .i64 0))),
      .p none 19 (.mv (.tmp 18)),
      .split 19,
      .p (some (19, false)) 20 (.mv (.tmp 1)),
      .l (some (19, false)) (some 21) (.call 40 [(.tmp 20)]),
      .p (some (19, false)) 22 (.not (.tmp 21)),
      .p none 23 (.pick (.tmp 19) (.const (.bool true)) (.tmp 22))])
  (.cond (.tmp 23)
    (.seq (.reg [.p none 4 (.mv (.const (.int .i64 0))),
        .p none 5 (.mv (.const (.int .i64 3)))])
    .ret)
    .skip))
  (.seq (.reg [.p none 6 (.mv (.const (.int .i64 0)))])
  (.seq (.seq (.reg [.p none 24 (.mv (.tmp 0)),
      .p none 25 (.len (.tmp 24)),
      .p none 26 (.mv (.tmp 1)),
      .p none 27 (.len (.tmp 26)),
      .p none 28 (.mm false .i64 (.tmp 25) [(.tmp 27)]),
      .p none 29 (.mv (.const (.int .i64 0)))])
  (.block 0
    (.loop
      (.seq (.reg [.p none 30 (.bin .lss .i64 (.tmp 29) (.tmp 28))])
      (.seq (.cond (.tmp 30)
        .skip
        (.exit 0))
      (.seq (.block 1
        (.seq (.reg [.p none 31 (.mv (.tmp 29)),
            .p none 7 (.mv (.tmp 31))])
        (.dreg (.line [.qp 0 none 32 (.mv (.tmp 6)),
            .qp 1 none 33 (.mv (.tmp 0)),
            .qp 2 none 34 (.mv (.tmp 7)),
            .qp 3 none 35 (.idx 1 (.tmp 33) (.tmp 34)),
            .qp 5 none 37 (.mv (.tmp 1)),
            .qp 6 none 38 (.mv (.tmp 7)),
            .qp 7 none 39 (.idx 1 (.tmp 37) (.tmp 38)),
            .ql 8 none 40 none (.tmp 39),
            .l 4 none (some 36) (.ld none (.tmp 35)),
            .qp 9 none 41 (.bin .mul .i64 (.tmp 36) (.tmp 40)),
            .qp 10 none 42 (.bin .add .i64 (.tmp 32) (.tmp 41)),
            .qp 11 none 6 (.mv (.tmp 42))]))))
      (.reg [.p none 43 (.bin .add .i64 (.tmp 29) (.const (.int .i64 1))),
          .p none 29 (.mv (.tmp 43))])))))))
  (.seq (.reg [.p none 44 (.mv (.tmp 6)),
      .p none 4 (.mv (.tmp 44)),
      .p none 5 (.mv (.const (.int .i64 0)))])
  .ret))))))
theorem C14 : compile Try.prog 45 (Try.f14.body.getD .skip) = some M14 := by kernel_rfl

/-- huff.Lengths -/
noncomputable def M28 : MC :=
  (.seq (.reg [.p none 4 (.mv (.const (.slice none 0 0))),
      .p none 5 (.mv (.const (.int .i64 0)))])
  (.seq (.seq (.reg [.p none 16 (.mv (.tmp 0)),
      .p none 17 (.len (.tmp 16)),
      .p none 18 (.bin .gtr .i64 (.tmp 17) (.const (.int .i64 256)))])
  (.cond (.tmp 18)
    (.seq (.reg [.p none 4 (.mv (.const (.slice none 0 0))),
        .p none 5 (.mv (.const (.int .i64 2)))])
    .ret)
    .skip))
  (.seq (.seq (.reg [.p none 19 (.mv (.tmp 0)),
      .l none (some 20) (.call 39 [(.tmp 19)]),
      .p none 6 (.mv (.tmp 20))])
  (.seq (.reg [.p none 21 (.mv (.tmp 6)),
      .p none 22 (.bin .neq .i64 (.tmp 21) (.const (.int .i64 0))),
      .p none 23 (.mv (.tmp 22)),
      .split 23,
      .p (some (23, false)) 24 (.mv (.tmp 1)),
      .p (some (23, false)) 25 (.bin .lss .i64 (.tmp 24) (.const (.int .i64 1))),
      .p none 26 (.pick (.tmp 23) (.const (.bool true)) (.tmp 25)),
      .p none 27 (.mv (.tmp 26)),
      .split 27,
      .p (some (27, false)) 28 (.mv (.tmp 1)),
      .p (some (27, false)) 29 (.bin .gtr .i64 (.tmp 28) (.const (.int .i64 15))),
      .p none 30 (.pick (.tmp 27) (.const (.bool true)) (.tmp 29))])
  (.cond (.tmp 30)
    (.seq (.reg [.p none 4 (.mv (.const (.slice none 0 0))),
        .p none 5 (.mv (.const (.int .i64 3)))])
    .ret)
    .skip)))
  (.seq (.reg [.p none 31 (.mv (.tmp 0)),
      .l none (some 32) (.call 52 [(.tmp 31)]),
      .p none 7 (.mv (.tmp 32))])
  (.seq (.reg [.p none 33 (.mv (.tmp 7)),
      .p none 34 (.len (.tmp 33)),
      .p none 8 (.mv (.tmp 34))])
  (.seq (.seq (.reg [.p none 35 (.mv (.tmp 8)),
      .p none 36 (.mv (.tmp 1)),
      .p none 37 (.shf .shl (.const (.int .i64 1)) (.tmp 36)),
      .p none 38 (.bin .gtr .i64 (.tmp 35) (.tmp 37))])
  (.cond (.tmp 38)
    (.seq (.reg [.p none 4 (.mv (.const (.slice none 0 0))),
        .p none 5 (.mv (.const (.int .i64 41)))])
    .ret)
    .skip))
  (.seq (.reg [.p none 39 (.mv (.tmp 0)),
      .p none 40 (.len (.tmp 39)),
      .l none (some 41) (.mks 3 8 1 [(.int .i64 0)] (.tmp 40) (.tmp 40)),
      .p none 9 (.mv (.tmp 41))])
  (.seq (.seq (.reg [.p none 42 (.mv (.tmp 8)),
      .p none 43 (.bin .eql .i64 (.tmp 42) (.const (.int .i64 1)))])
  (.cond (.tmp 43)
    (.seq (.seq (.reg [.p none 44 (.mv (.tmp 0)),
        .p none 45 (.len (.tmp 44)),
        .p none 46 (.mv (.const (.int .i64 0)))])
    (.block 0
      (.loop
        (.seq (.reg [.p none 47 (.bin .lss .i64 (.tmp 46) (.tmp 45))])
        (.seq (.cond (.tmp 47)
          .skip
          (.exit 0))
        (.seq (.block 1
          (.seq (.reg [.p none 48 (.mv (.tmp 46)),
              .p none 49 (.idx 1 (.tmp 44) (.tmp 46)),
              .l none (some 50) (.ld none (.tmp 49)),
              .p none 10 (.mv (.tmp 48)),
              .p none 11 (.mv (.tmp 50))])
          (.seq (.reg [.p none 51 (.mv (.tmp 11)),
              .p none 52 (.bin .gtr .i64 (.tmp 51) (.const (.int .i64 0)))])
          (.cond (.tmp 52)
            (.reg [.p none 53 (.mv (.tmp 9)),
                .p none 54 (.mv (.tmp 10)),
                .p none 55 (.idx 1 (.tmp 53) (.tmp 54)),
                .l none none (.st 1 (.tmp 55) (.const (.int .i64 1)))])
            .skip))))
        (.reg [.p none 56 (.bin .add .i64 (.tmp 46) (.const (.int .i64 1))),
            .p none 46 (.mv (.tmp 56))])))))))
    (.seq (.reg [.p none 57 (.mv (.tmp 9)),
        .p none 4 (.mv (.tmp 57)),
        .p none 5 (.mv (.const (.int .i64 0)))])
    .ret))
    .skip))
  (.seq (.reg [.p none 58 (.mv (.tmp 7)),
      .p none 12 (.mv (.tmp 58))])
  (.seq (.seq (.reg [.p none 59 (.mv (.tmp 1)),
      .p none 60 (.bin .sub .i64 (.tmp 59) (.const (.int .i64 1))),
      .p none 61 (.mv (.const (.int .i64 0)))])
  (.block 2
    (.loop
      (.seq (.reg [.p none 62 (.bin .lss .i64 (.tmp 61) (.tmp 60))])
      (.seq (.cond (.tmp 62)
        .skip
        (.exit 2))
      (.seq (.block 3
        (.reg [.p none 63 (.mv (.tmp 7)),
            .p none 64 (.mv (.tmp 12)),
            .l none (some 65) (.call 53 [(.tmp 63), (.tmp 64)]),
            .p none 12 (.mv (.tmp 65))]))
      (.reg [.p none 66 (.bin .add .i64 (.tmp 61) (.const (.int .i64 1))),
          .p none 61 (.mv (.tmp 66))])))))))
  (.seq (.seq (.reg [.p none 67 (.mv (.tmp 12)),
      .p none 68 (.mv (.tmp 8)),
      .p none 69 (.bin .mul .i64 (.const (.int .i64 2)) (.tmp 68)),
      .p none 70 (.bin .sub .i64 (.tmp 69) (.const (.int .i64 2))),
      .p none 71 (.mm true .i64 (.tmp 70) [(.const (.int .i64 0))]),
      .p none 72 (.slc 257 (.tmp 67) none (some (.tmp 71)) none),
      .p none 73 (.len (.tmp 72)),
      .p none 74 (.mv (.const (.int .i64 0)))])
  (.block 4
    (.loop
      (.seq (.reg [.p none 75 (.bin .lss .i64 (.tmp 74) (.tmp 73))])
      (.seq (.cond (.tmp 75)
        .skip
        (.exit 4))
      (.seq (.block 5
        (.seq (.reg [.p none 76 (.idx 257 (.tmp 72) (.tmp 74)),
            .l none (some 77) (.ld (some 257) (.tmp 76)),
            .l none (some 14) (.al 81 (zcOf Try.t81)),
            .l none none (.st 257 (.tmp 14) (.tmp 77))])
        (.seq (.reg [.p none 78 (.mv (.tmp 9)),
            .p none 79 (.len (.tmp 78)),
            .p none 80 (.mv (.const (.int .i64 0)))])
        (.block 6
          (.loop
            (.seq (.reg [.p none 81 (.bin .lss .i64 (.tmp 80) (.tmp 79))])
            (.seq (.cond (.tmp 81)
              .skip
              (.exit 6))
            (.seq (.block 7
              (.seq (.reg [.p none 82 (.mv (.tmp 80)),
                  .p none 15 (.mv (.tmp 82))])
              (.dreg (.line [.qp 0 none 83 (.mv (.tmp 9)),
                  .qp 1 none 84 (.mv (.tmp 15)),
                  .qp 2 none 85 (.idx 1 (.tmp 83) (.tmp 84)),
                  .qp 4 none 87 (.mv (.tmp 15)),
                  .qp 5 none 88 (.fa 1 (.tmp 14)),
                  .qp 6 none 89 (.idxa 256 1 (.tmp 88) (.tmp 87)),
                  .ql 7 none 90 none (.tmp 89),
                  .qp 8 none 91 (.conv .i64 (.tmp 90)),
                  .l 3 none (some 86) (.ld none (.tmp 85)),
                  .qp 9 none 92 (.bin .add .i64 (.tmp 86) (.tmp 91)),
                  .qp 10 none 93 (.idx 1 (.tmp 83) (.tmp 84)),
                  .l 11 none none (.st 1 (.tmp 93) (.tmp 92))]))))
            (.reg [.p none 94 (.bin .add .i64 (.tmp 80) (.const (.int .i64 1))),
                .p none 80 (.mv (.tmp 94))])))))))))
      (.reg [.p none 95 (.bin .add .i64 (.tmp 74) (.const (.int .i64 1))),
          .p none 74 (.mv (.tmp 95))])))))))
  (.seq (.reg [.p none 96 (.mv (.tmp 9)),
      .p none 4 (.mv (.tmp 96)),
      .p none 5 (.mv (.const (.int .i64 0)))])
  .ret))))))))))))
theorem C28 : compile Try.prog 97 (Try.f28.body.getD .skip) = some M28 := by kernel_rfl

/-- winnowlaw4.bent -/
noncomputable def M31 : MC :=
  (.seq (.reg [.p none 2 (.mv (.const (.slice none 0 0)))])
  (.seq (.reg [.p none 3 (.mv (.const (.slice none 0 0)))])
  (.seq (.seq (.reg [.p none 4 (.mv (.const (.int .i64 0)))])
  (.block 0
    (.loop
      (.seq (.seq (.reg [.p none 6 (.mv (.tmp 4)),
          .p none 7 (.mv (.tmp 0)),
          .p none 8 (.len (.tmp 7)),
          .p none 9 (.bin .lss .i64 (.tmp 6) (.tmp 8)),
          .p none 10 (.mv (.tmp 9)),
          .split 10,
          .p (some (10, true)) 11 (.mv (.tmp 4)),
          .p (some (10, true)) 12 (.bin .lss .i64 (.tmp 11) (.const (.int .i64 256))),
          .p none 13 (.pick (.tmp 10) (.tmp 12) (.const (.bool false)))])
      (.cond (.tmp 13)
        .skip
        (.exit 0)))
      (.seq (.block 1
        (.seq (.reg [.p none 16 (.mv (.tmp 0)),
            .p none 17 (.mv (.tmp 4)),
            .p none 18 (.idx 1 (.tmp 16) (.tmp 17)),
            .l none (some 19) (.ld none (.tmp 18)),
            .p none 20 (.div .rem .i64 (.tmp 19) (.const (.int .i64 1073741824))),
            .p none 5 (.mv (.tmp 20))])
        (.seq (.seq (.reg [.p none 21 (.mv (.tmp 5)),
            .p none 22 (.bin .lss .i64 (.tmp 21) (.const (.int .i64 0)))])
        (.cond (.tmp 22)
          (.reg [.p none 23 (.mv (.tmp 5)),
              .p none 24 (.neg .i64 (.tmp 23)),
              .p none 5 (.mv (.tmp 24))])
          .skip))
        (.reg [.p none 25 (.mv (.tmp 3)),
            .p none 26 (.mv (.tmp 5)),
            .l none (some 27) (.bs 2 1 1 [(.int .i64 0)] [(0, 1, (.tmp 26))]),
            .l none (some 28) (.app 2 8 1 [(.int .i64 0)] (.tmp 25) (.tmp 27)),
            .p none 3 (.mv (.tmp 28))]))))
      (.reg [.p none 14 (.mv (.tmp 4)),
          .p none 15 (.bin .add .i64 (.tmp 14) (.const (.int .i64 1))),
          .p none 4 (.mv (.tmp 15))]))))))
  (.seq (.reg [.p none 29 (.mv (.tmp 3)),
      .p none 2 (.mv (.tmp 29))])
  .ret))))
theorem C31 : compile Try.prog 30 (Try.f31.body.getD .skip) = some M31 := by kernel_rfl

/-- winnowlaw4.used -/
noncomputable def M32 : MC :=
  (.seq (.reg [.p none 2 (.mv (.const (.int .i64 0)))])
  (.seq (.reg [.p none 3 (.mv (.const (.int .i64 0)))])
  (.seq (.seq (.reg [.p none 4 (.mv (.const (.int .i64 0)))])
  (.block 0
    (.loop
      (.seq (.seq (.reg [.p none 5 (.mv (.tmp 4)),
          .p none 6 (.mv (.tmp 0)),
          .p none 7 (.len (.tmp 6)),
          .p none 8 (.bin .lss .i64 (.tmp 5) (.tmp 7))])
      (.cond (.tmp 8)
        .skip
        (.exit 0)))
      (.seq (.block 1
        (.seq (.reg [.p none 11 (.mv (.tmp 0)),
            .p none 12 (.mv (.tmp 4)),
            .p none 13 (.idx 1 (.tmp 11) (.tmp 12)),
            .l none (some 14) (.ld none (.tmp 13)),
            .p none 15 (.bin .gtr .i64 (.tmp 14) (.const (.int .i64 0)))])
        (.cond (.tmp 15)
          (.reg [.p none 16 (.mv (.tmp 3)),
              .p none 17 (.bin .add .i64 (.tmp 16) (.const (.int .i64 1))),
              .p none 3 (.mv (.tmp 17))])
          .skip)))
      (.reg [.p none 9 (.mv (.tmp 4)),
          .p none 10 (.bin .add .i64 (.tmp 9) (.const (.int .i64 1))),
          .p none 4 (.mv (.tmp 10))]))))))
  (.seq (.reg [.p none 18 (.mv (.tmp 3)),
      .p none 2 (.mv (.tmp 18))])
  .ret))))
theorem C32 : compile Try.prog 19 (Try.f32.body.getD .skip) = some M32 := by kernel_rfl

/-- winnowlaw4.limited -/
noncomputable def M33 : MC :=
  (.seq (.reg [.p none 4 (.mv (.const (.int .i64 0)))])
  (.seq (.reg [.p none 6 (.mv (.tmp 0)),
      .p none 7 (.div .rem .i64 (.tmp 6) (.const (.int .i64 15))),
      .p none 5 (.mv (.tmp 7))])
  (.seq (.seq (.reg [.p none 8 (.mv (.tmp 5)),
      .p none 9 (.bin .lss .i64 (.tmp 8) (.const (.int .i64 0)))])
  (.cond (.tmp 9)
    (.reg [.p none 10 (.mv (.tmp 5)),
        .p none 11 (.bin .add .i64 (.tmp 10) (.const (.int .i64 15))),
        .p none 5 (.mv (.tmp 11))])
    .skip))
  (.seq (.reg [.p none 12 (.mv (.tmp 5)),
      .p none 13 (.bin .add .i64 (.tmp 12) (.const (.int .i64 1))),
      .p none 5 (.mv (.tmp 13))])
  (.seq (.block 0
    (.loop
      (.seq (.seq (.reg [.p none 14 (.mv (.tmp 1)),
          .p none 15 (.mv (.tmp 5)),
          .p none 16 (.shf .shl (.const (.int .i64 1)) (.tmp 15)),
          .p none 17 (.bin .gtr .i64 (.tmp 14) (.tmp 16))])
      (.cond (.tmp 17)
        .skip
        (.exit 0)))
      (.block 1
        (.reg [.p none 18 (.mv (.tmp 5)),
            .p none 19 (.bin .add .i64 (.tmp 18) (.const (.int .i64 1))),
            .p none 5 (.mv (.tmp 19))])))))
  (.seq (.reg [.p none 20 (.mv (.tmp 5)),
      .p none 4 (.mv (.tmp 20))])
  .ret))))))
theorem C33 : compile Try.prog 21 (Try.f33.body.getD .skip) = some M33 := by kernel_rfl

/-- winnowlaw4.kraft -/
noncomputable def M34 : MC :=
  (.seq (.reg [.p none 2 (.mv (.const (.int .i64 0)))])
  (.seq (.reg [.p none 3 (.mv (.const (.int .i64 0)))])
  (.seq (.seq (.reg [.p none 4 (.mv (.const (.int .i64 0)))])
  (.block 0
    (.loop
      (.seq (.seq (.reg [.p none 5 (.mv (.tmp 4)),
          .p none 6 (.mv (.tmp 0)),
          .p none 7 (.len (.tmp 6)),
          .p none 8 (.bin .lss .i64 (.tmp 5) (.tmp 7))])
      (.cond (.tmp 8)
        .skip
        (.exit 0)))
      (.seq (.block 1
        (.seq (.reg [.p none 11 (.mv (.tmp 0)),
            .p none 12 (.mv (.tmp 4)),
            .p none 13 (.idx 1 (.tmp 11) (.tmp 12)),
            .l none (some 14) (.ld none (.tmp 13)),
            .p none 15 (.bin .gtr .i64 (.tmp 14) (.const (.int .i64 0))),
            .p none 16 (.mv (.tmp 15)),
            .split 16,
            .p (some (16, true)) 17 (.mv (.tmp 0)),
            .p (some (16, true)) 18 (.mv (.tmp 4)),
            .p (some (16, true)) 19 (.idx 1 (.tmp 17) (.tmp 18)),
            .l (some (16, true)) (some 20) (.ld none (.tmp 19)),
            .p (some (16, true)) 21 (.bin .leq .i64 (.tmp 20) (.const (.int .i64 15))),
            .p none 22 (.pick (.tmp 16) (.tmp 21) (.const (.bool false)))])
        (.cond (.tmp 22)
          (.reg [.p none 23 (.mv (.tmp 3)),
              .p none 24 (.mv (.tmp 0)),
              .p none 25 (.mv (.tmp 4)),
              .p none 26 (.idx 1 (.tmp 24) (.tmp 25)),
              .l none (some 27) (.ld none (.tmp 26)),
              .p none 28 (.bin .sub .i64 (.const (.int .i64 15)) (.tmp 27)),
              .p none 29 (.shf .shl (.const (.int .i64 1)) (.tmp 28)),
              .p none 30 (.bin .add .i64 (.tmp 23) (.tmp 29)),
              .p none 3 (.mv (.tmp 30))])
          .skip)))
      (.reg [.p none 9 (.mv (.tmp 4)),
          .p none 10 (.bin .add .i64 (.tmp 9) (.const (.int .i64 1))),
          .p none 4 (.mv (.tmp 10))]))))))
  (.seq (.reg [.p none 31 (.mv (.tmp 3)),
      .p none 2 (.mv (.tmp 31))])
  .ret))))
theorem C34 : compile Try.prog 32 (Try.f34.body.getD .skip) = some M34 := by kernel_rfl

/-- huff.wrong -/
noncomputable def M39 : MC :=
  (.seq (.reg [.p none 2 (.mv (.const (.int .i64 0)))])
  (.seq (.seq (.reg [.p none 5 (.mv (.tmp 0)),
      .p none 6 (.len (.tmp 5)),
      .p none 7 (.mv (.const (.int .i64 0)))])
  (.block 0
    (.loop
      (.seq (.reg [.p none 8 (.bin .lss .i64 (.tmp 7) (.tmp 6))])
      (.seq (.cond (.tmp 8)
        .skip
        (.exit 0))
      (.seq (.block 1
        (.seq (.reg [.p none 9 (.idx 1 (.tmp 5) (.tmp 7)),
            .l none (some 10) (.ld none (.tmp 9)),
            .p none 4 (.mv (.tmp 10))])
        (.seq (.reg [.p none 11 (.mv (.tmp 4)),
            .p none 12 (.bin .lss .i64 (.tmp 11) (.const (.int .i64 0))),
            .p none 13 (.mv (.tmp 12)),
            .split 13,
            .p (some (13, false)) 14 (.mv (.tmp 4)),
            .p (some (13, false)) 15 (.bin .gtr .i64 (.tmp 14) (.const (.int .i64 1099511627776))),
            .p none 16 (.pick (.tmp 13) (.const (.bool true)) (.tmp 15))])
        (.cond (.tmp 16)
          (.seq (.reg [.p none 2 (.mv (.const (.int .i64 3)))])
          .ret)
          .skip))))
      (.reg [.p none 17 (.bin .add .i64 (.tmp 7) (.const (.int .i64 1))),
          .p none 7 (.mv (.tmp 17))])))))))
  (.seq (.reg [.p none 2 (.mv (.const (.int .i64 0)))])
  .ret)))
theorem C39 : compile Try.prog 18 (Try.f39.body.getD .skip) = some M39 := by kernel_rfl

/-- huff.inside -/
noncomputable def M40 : MC :=
  (.seq (.reg [.p none 2 (.mv (.const (.bool false)))])
  (.seq (.seq (.reg [.p none 5 (.mv (.tmp 0)),
      .p none 6 (.len (.tmp 5)),
      .p none 7 (.mv (.const (.int .i64 0)))])
  (.block 0
    (.loop
      (.seq (.reg [.p none 8 (.bin .lss .i64 (.tmp 7) (.tmp 6))])
      (.seq (.cond (.tmp 8)
        .skip
        (.exit 0))
      (.seq (.block 1
        (.seq (.reg [.p none 9 (.idx 1 (.tmp 5) (.tmp 7)),
            .l none (some 10) (.ld none (.tmp 9)),
            .p none 4 (.mv (.tmp 10))])
        (.seq (.reg [.p none 11 (.mv (.tmp 4)),
            .p none 12 (.bin .lss .i64 (.tmp 11) (.const (.int .i64 0))),
            .p none 13 (.mv (.tmp 12)),
            .split 13,
            .p (some (13, false)) 14 (.mv (.tmp 4)),
            .p (some (13, false)) 15 (.bin .gtr .i64 (.tmp 14) (.const (.int .i64 15))),
            .p none 16 (.pick (.tmp 13) (.const (.bool true)) (.tmp 15))])
        (.cond (.tmp 16)
          (.seq (.reg [.p none 2 (.mv (.const (.bool false)))])
          .ret)
          .skip))))
      (.reg [.p none 17 (.bin .add .i64 (.tmp 7) (.const (.int .i64 1))),
          .p none 7 (.mv (.tmp 17))])))))))
  (.seq (.reg [.p none 2 (.mv (.const (.bool true)))])
  .ret)))
theorem C40 : compile Try.prog 18 (Try.f40.body.getD .skip) = some M40 := by kernel_rfl

/-- huff.things -/
noncomputable def M52 : MC :=
  (.seq (.reg [.p none 2 (.mv (.const (.slice none 0 0)))])
  (.seq (.reg [.p none 3 (.mv (.const (.slice none 0 0)))])
  (.seq (.seq (.reg [.p none 6 (.mv (.tmp 0)),
      .p none 7 (.len (.tmp 6)),
      .p none 8 (.bin .sub .i64 (.tmp 7) (.const (.int .i64 1))),
      .p none 4 (.mv (.tmp 8))])
  (.block 0
    (.loop
      (.seq (.seq (.reg [.p none 9 (.mv (.tmp 4)),
          .p none 10 (.bin .geq .i64 (.tmp 9) (.const (.int .i64 0)))])
      (.cond (.tmp 10)
        .skip
        (.exit 0)))
      (.seq (.block 1
        (.seq (.reg [.p none 13 (.mv (.tmp 0)),
            .p none 14 (.mv (.tmp 4)),
            .p none 15 (.idx 1 (.tmp 13) (.tmp 14)),
            .l none (some 16) (.ld none (.tmp 15)),
            .p none 17 (.bin .gtr .i64 (.tmp 16) (.const (.int .i64 0)))])
        (.cond (.tmp 17)
          (.seq (.reg [.p none 18 (.mv (.tmp 0)),
              .p none 19 (.mv (.tmp 4)),
              .p none 20 (.idx 1 (.tmp 18) (.tmp 19)),
              .l none (some 21) (.ld none (.tmp 20)),
              .p none 22 (.bld (zcOf Try.t81) [(0, 1, (.tmp 21))]),
              .l none (some 5) (.al 81 (zcOf Try.t81)),
              .l none none (.st 257 (.tmp 5) (.tmp 22))])
          (.seq (.reg [.p none 23 (.mv (.tmp 4)),
              .p none 24 (.fa 1 (.tmp 5)),
              .p none 25 (.idxa 256 1 (.tmp 24) (.tmp 23)),
              .l none none (.st 1 (.tmp 25) (.const (.int .u8 1)))])
          (.reg [.p none 26 (.mv (.tmp 3)),
              .l none (some 27) (.ld (some 257) (.tmp 5)),
              .l none (some 28) (.bs 81 1 257 (zcOf Try.t81) [(0, 257, (.tmp 27))]),
              .l none (some 29) (.app 81 264 257 (zcOf Try.t81) (.tmp 26) (.tmp 28)),
              .p none 3 (.mv (.tmp 29))])))
          .skip)))
      (.reg [.p none 11 (.mv (.tmp 4)),
          .p none 12 (.bin .sub .i64 (.tmp 11) (.const (.int .i64 1))),
          .p none 4 (.mv (.tmp 12))]))))))
  (.seq (.reg [.p none 30 (.mv (.tmp 3)),
      .l none (some 31) (.call 67 [(.tmp 30), (.func 68)])])
  (.seq (.reg [.p none 32 (.mv (.tmp 3)),
      .p none 2 (.mv (.tmp 32))])
  .ret)))))
theorem C52 : compile Try.prog 33 (Try.f52.body.getD .skip) = some M52 := by kernel_rfl

/-- huff.next -/
noncomputable def M53 : MC :=
  (.seq (.reg [.p none 4 (.mv (.const (.slice none 0 0)))])
  (.seq (.reg [.p none 8 (.mv (.tmp 0)),
      .p none 9 (.len (.tmp 8)),
      .p none 10 (.mv (.tmp 1)),
      .p none 11 (.len (.tmp 10)),
      .p none 12 (.div .quo .i64 (.tmp 11) (.const (.int .i64 2))),
      .p none 13 (.bin .add .i64 (.tmp 9) (.tmp 12)),
      .l none (some 14) (.mks 81 264 257 (zcOf Try.t81) (.const (.int .i64 0)) (.tmp 13)),
      .p none 5 (.mv (.tmp 14))])
  (.seq (.seq (.reg [.p none 6 (.mv (.const (.int .i64 0)))])
  (.block 0
    (.loop
      (.seq (.seq (.reg [.p none 15 (.mv (.tmp 6)),
          .p none 16 (.bin .add .i64 (.tmp 15) (.const (.int .i64 1))),
          .p none 17 (.mv (.tmp 1)),
          .p none 18 (.len (.tmp 17)),
          .p none 19 (.bin .lss .i64 (.tmp 16) (.tmp 18))])
      (.cond (.tmp 19)
        .skip
        (.exit 0)))
      (.seq (.block 1
        (.seq (.dreg (.fork [.qp 0 none 22 (.mv (.tmp 1)),
            .qp 1 none 23 (.mv (.tmp 6)),
            .qp 2 none 24 (.idx 257 (.tmp 22) (.tmp 23)),
            .qp 4 none 26 (.mv (.tmp 1)),
            .qp 5 none 27 (.mv (.tmp 6)),
            .qp 6 none 28 (.bin .add .i64 (.tmp 27) (.const (.int .i64 1))),
            .qp 7 none 29 (.idx 257 (.tmp 26) (.tmp 28)),
            .ql 8 none 30 (some 257) (.tmp 29),
            .ql 3 none 25 (some 257) (.tmp 24)]
          (.line [.l 9 none (some 31) (.call 69 [(.tmp 25), (.tmp 30)]),
              .l 10 none (some 7) (.al 81 (zcOf Try.t81)),
              .l 11 none none (.st 257 (.tmp 7) (.tmp 31))])
          (.line [.l 10 none (some 7) (.al 81 (zcOf Try.t81)),
              .l 9 none (some 31) (.call 69 [(.tmp 25), (.tmp 30)]),
              .l 11 none none (.st 257 (.tmp 7) (.tmp 31))])))
        (.seq (.block 2
          (.loop
            (.seq (.seq (.dreg (.line [.qp 0 none 32 (.mv (.tmp 0)),
                .qp 1 none 33 (.len (.tmp 32)),
                .qp 2 none 34 (.bin .gtr .i64 (.tmp 33) (.const (.int .i64 0))),
                .qp 3 none 35 (.mv (.tmp 34)),
                .split 35,
                .qp 4 (some (35, true)) 36 (.mv (.tmp 0)),
                .qp 5 (some (35, true)) 37 (.idx 257 (.tmp 36) (.const (.int .i64 0))),
                .qp 6 (some (35, true)) 38 (.fa 0 (.tmp 37)),
                .qp 8 (some (35, true)) 40 (.fa 0 (.tmp 7)),
                .ql 9 (some (35, true)) 41 none (.tmp 40),
                .l 7 (some (35, true)) (some 39) (.ld none (.tmp 38)),
                .qp 10 (some (35, true)) 42 (.bin .leq .i64 (.tmp 39) (.tmp 41)),
                .qp 11 none 43 (.pick (.tmp 35) (.tmp 42) (.const (.bool false)))]))
            (.cond (.tmp 43)
              .skip
              (.exit 2)))
            (.block 3
              (.seq (.reg [.p none 44 (.mv (.tmp 5)),
                  .p none 45 (.mv (.tmp 0)),
                  .p none 46 (.idx 257 (.tmp 45) (.const (.int .i64 0))),
                  .l none (some 47) (.ld (some 257) (.tmp 46)),
                  .l none (some 48) (.bs 81 1 257 (zcOf Try.t81) [(0, 257, (.tmp 47))]),
                  .l none (some 49) (.app 81 264 257 (zcOf Try.t81) (.tmp 44) (.tmp 48)),
                  .p none 5 (.mv (.tmp 49))])
              (.reg [.p none 50 (.mv (.tmp 0)),
                  .p none 51 (.slc 257 (.tmp 50) (some (.const (.int .i64 1))) none none),
                  .p none 0 (.mv (.tmp 51))]))))))
        (.reg [.p none 52 (.mv (.tmp 5)),
            .l none (some 53) (.ld (some 257) (.tmp 7)),
            .l none (some 54) (.bs 81 1 257 (zcOf Try.t81) [(0, 257, (.tmp 53))]),
            .l none (some 55) (.app 81 264 257 (zcOf Try.t81) (.tmp 52) (.tmp 54)),
            .p none 5 (.mv (.tmp 55))]))))
      (.reg [.p none 20 (.mv (.tmp 6)),
          .p none 21 (.bin .add .i64 (.tmp 20) (.const (.int .i64 2))),
          .p none 6 (.mv (.tmp 21))]))))))
  (.seq (.reg [.p none 56 (.mv (.tmp 5)),
      .p none 57 (.mv (.tmp 0)),
      .l none (some 58) (.app 81 264 257 (zcOf Try.t81) (.tmp 56) (.tmp 57)),
      .p none 4 (.mv (.tmp 58))])
  .ret))))
theorem C53 : compile Try.prog 59 (Try.f53.body.getD .skip) = some M53 := by kernel_rfl

/-- slices.SortStableFunc[[]huff.thing,huff.thing] -/
noncomputable def M67 : MC :=
  (.reg [.p none 4 (.mv (.tmp 0)),
      .p none 5 (.mv (.tmp 0)),
      .p none 6 (.len (.tmp 5)),
      .p none 7 (.mv (.tmp 1)),
      .l none (some 8) (.call 76 [(.tmp 4), (.tmp 6), (.tmp 7)])])
theorem C67 : compile Try.prog 9 (Try.f67.body.getD .skip) = some M67 := by kernel_rfl

/-- huff.things$1 -/
noncomputable def M68 : MC :=
  (.seq (.reg [.l none (some 2) (.bx 81 (.tmp 0)),
      .l none (some 3) (.bx 81 (.tmp 1)),
      .p none 4 (.mv (.const (.int .i64 0)))])
  (.seq (.block 0
    (.seq (.reg [.p none 6 (.fa 0 (.tmp 2)),
        .l none (some 7) (.ld none (.tmp 6)),
        .p none 8 (.fa 0 (.tmp 3)),
        .l none (some 9) (.ld none (.tmp 8)),
        .p none 10 (.bin .lss .i64 (.tmp 7) (.tmp 9)),
        .p none 5 (.mv (.tmp 10))])
    (.cond (.tmp 5)
      (.seq (.reg [.p none 4 (.mv (.const (.int .i64 (-1))))])
      .ret)
      (.seq (.reg [.p none 12 (.fa 0 (.tmp 2)),
          .l none (some 13) (.ld none (.tmp 12)),
          .p none 14 (.fa 0 (.tmp 3)),
          .l none (some 15) (.ld none (.tmp 14)),
          .p none 16 (.bin .gtr .i64 (.tmp 13) (.tmp 15)),
          .p none 11 (.mv (.tmp 16))])
      (.cond (.tmp 11)
        (.seq (.reg [.p none 4 (.mv (.const (.int .i64 1)))])
        .ret)
        .skip)))))
  (.seq (.reg [.p none 4 (.mv (.const (.int .i64 0)))])
  .ret)))
theorem C68 : compile Try.prog 17 (Try.f68.body.getD .skip) = some M68 := by kernel_rfl

/-- huff.both -/
noncomputable def M69 : MC :=
  (.seq (.reg [.l none (some 2) (.bx 81 (.tmp 0)),
      .l none (some 3) (.bx 81 (.tmp 1)),
      .l none (some 4) (.al 81 (zcOf Try.t81))])
  (.seq (.reg [.p none 7 (.fa 0 (.tmp 2)),
      .l none (some 8) (.ld none (.tmp 7)),
      .p none 9 (.fa 0 (.tmp 3)),
      .l none (some 10) (.ld none (.tmp 9)),
      .p none 11 (.bin .add .i64 (.tmp 8) (.tmp 10)),
      .p none 12 (.fa 0 (.tmp 2)),
      .l none none (.st 1 (.tmp 12) (.tmp 11))])
  (.seq (.seq (.reg [.p none 13 (.fa 1 (.tmp 3)),
      .l none (some 14) (.ld (some 256) (.tmp 13)),
      .p none 15 (.mv (.const (.int .i64 0)))])
  (.block 0
    (.loop
      (.seq (.reg [.p none 16 (.bin .lss .i64 (.tmp 15) (.const (.int .i64 256)))])
      (.seq (.cond (.tmp 16)
        .skip
        (.exit 0))
      (.seq (.block 1
        (.seq (.reg [.p none 17 (.mv (.tmp 15)),
            .p none 18 (.idxv 256 1 false (.tmp 14) (.tmp 15)),
            .p none 5 (.mv (.tmp 17)),
            .p none 6 (.mv (.tmp 18))])
        (.reg [.p none 19 (.mv (.tmp 5)),
            .p none 20 (.fa 1 (.tmp 2)),
            .p none 21 (.idxa 256 1 (.tmp 20) (.tmp 19)),
            .l none (some 22) (.ld none (.tmp 21)),
            .p none 23 (.mv (.tmp 6)),
            .p none 24 (.bin .add .u8 (.tmp 22) (.tmp 23)),
            .p none 25 (.fa 1 (.tmp 2)),
            .p none 26 (.idxa 256 1 (.tmp 25) (.tmp 19)),
            .l none none (.st 1 (.tmp 26) (.tmp 24))])))
      (.reg [.p none 27 (.bin .add .i64 (.tmp 15) (.const (.int .i64 1))),
          .p none 15 (.mv (.tmp 27))])))))))
  (.seq (.reg [.l none (some 28) (.ld (some 257) (.tmp 2)),
      .l none none (.st 257 (.tmp 4) (.tmp 28))])
  .ret))))
theorem C69 : compile Try.prog 29 (Try.f69.body.getD .skip) = some M69 := by kernel_rfl

/-- slices.stableCmpFunc[huff.thing] -/
noncomputable def M76 : MC :=
  (.seq (.reg [.p none 6 (.mv (.const (.int .i64 20)))])
  (.seq (.reg [.p none 10 (.mv (.tmp 6)),
      .p none 7 (.mv (.const (.int .i64 0))),
      .p none 8 (.mv (.tmp 10))])
  (.seq (.block 0
    (.loop
      (.seq (.seq (.reg [.p none 11 (.mv (.tmp 8)),
          .p none 12 (.mv (.tmp 1)),
          .p none 13 (.bin .leq .i64 (.tmp 11) (.tmp 12))])
      (.cond (.tmp 13)
        .skip
        (.exit 0)))
      (.block 1
        (.seq (.reg [.p none 14 (.mv (.tmp 0)),
            .p none 15 (.mv (.tmp 7)),
            .p none 16 (.mv (.tmp 8)),
            .p none 17 (.mv (.tmp 2)),
            .l none (some 18) (.call 77 [(.tmp 14), (.tmp 15), (.tmp 16), (.tmp 17)])])
        (.seq (.reg [.p none 19 (.mv (.tmp 8)),
            .p none 7 (.mv (.tmp 19))])
        (.reg [.p none 20 (.mv (.tmp 8)),
            .p none 21 (.mv (.tmp 6)),
            .p none 22 (.bin .add .i64 (.tmp 20) (.tmp 21)),
            .p none 8 (.mv (.tmp 22))])))))))
  (.seq (.reg [.p none 23 (.mv (.tmp 0)),
      .p none 24 (.mv (.tmp 7)),
      .p none 25 (.mv (.tmp 1)),
      .p none 26 (.mv (.tmp 2)),
      .l none (some 27) (.call 77 [(.tmp 23), (.tmp 24), (.tmp 25), (.tmp 26)])])
  (.block 2
    (.loop
      (.seq (.seq (.reg [.p none 28 (.mv (.tmp 6)),
          .p none 29 (.mv (.tmp 1)),
          .p none 30 (.bin .lss .i64 (.tmp 28) (.tmp 29))])
      (.cond (.tmp 30)
        .skip
        (.exit 2)))
      (.block 3
        (.seq (.reg [.p none 31 (.mv (.tmp 6)),
            .p none 32 (.bin .mul .i64 (.const (.int .i64 2)) (.tmp 31)),
            .p none 7 (.mv (.const (.int .i64 0))),
            .p none 8 (.mv (.tmp 32))])
        (.seq (.block 4
          (.loop
            (.seq (.seq (.reg [.p none 33 (.mv (.tmp 8)),
                .p none 34 (.mv (.tmp 1)),
                .p none 35 (.bin .leq .i64 (.tmp 33) (.tmp 34))])
            (.cond (.tmp 35)
              .skip
              (.exit 4)))
            (.block 5
              (.seq (.reg [.p none 36 (.mv (.tmp 0)),
                  .p none 37 (.mv (.tmp 7)),
                  .p none 38 (.mv (.tmp 7)),
                  .p none 39 (.mv (.tmp 6)),
                  .p none 40 (.bin .add .i64 (.tmp 38) (.tmp 39)),
                  .p none 41 (.mv (.tmp 8)),
                  .p none 42 (.mv (.tmp 2)),
                  .l none (some 43) (.call 78 [(.tmp 36), (.tmp 37), (.tmp 40), (.tmp 41), (.tmp 42)])])
              (.seq (.reg [.p none 44 (.mv (.tmp 8)),
                  .p none 7 (.mv (.tmp 44))])
              (.reg [.p none 45 (.mv (.tmp 8)),
                  .p none 46 (.mv (.tmp 6)),
                  .p none 47 (.bin .mul .i64 (.const (.int .i64 2)) (.tmp 46)),
                  .p none 48 (.bin .add .i64 (.tmp 45) (.tmp 47)),
                  .p none 8 (.mv (.tmp 48))])))))))
        (.seq (.seq (.reg [.p none 49 (.mv (.tmp 7)),
            .p none 50 (.mv (.tmp 6)),
            .p none 51 (.bin .add .i64 (.tmp 49) (.tmp 50)),
            .p none 9 (.mv (.tmp 51))])
        (.seq (.reg [.p none 52 (.mv (.tmp 9)),
            .p none 53 (.mv (.tmp 1)),
            .p none 54 (.bin .lss .i64 (.tmp 52) (.tmp 53))])
        (.cond (.tmp 54)
          (.reg [.p none 55 (.mv (.tmp 0)),
              .p none 56 (.mv (.tmp 7)),
              .p none 57 (.mv (.tmp 9)),
              .p none 58 (.mv (.tmp 1)),
              .p none 59 (.mv (.tmp 2)),
              .l none (some 60) (.call 78 [(.tmp 55), (.tmp 56), (.tmp 57), (.tmp 58), (.tmp 59)])])
          .skip)))
        (.reg [.p none 61 (.mv (.tmp 6)),
            .p none 62 (.bin .mul .i64 (.tmp 61) (.const (.int .i64 2))),
            .p none 6 (.mv (.tmp 62))]))))))))))))
theorem C76 : compile Try.prog 63 (Try.f76.body.getD .skip) = some M76 := by kernel_rfl

/-- slices.insertionSortCmpFunc[huff.thing] -/
noncomputable def M77 : MC :=
  (.seq (.reg [.p none 10 (.mv (.tmp 1)),
      .p none 11 (.bin .add .i64 (.tmp 10) (.const (.int .i64 1))),
      .p none 8 (.mv (.tmp 11))])
  (.block 0
    (.loop
      (.seq (.seq (.reg [.p none 12 (.mv (.tmp 8)),
          .p none 13 (.mv (.tmp 2)),
          .p none 14 (.bin .lss .i64 (.tmp 12) (.tmp 13))])
      (.cond (.tmp 14)
        .skip
        (.exit 0)))
      (.seq (.block 1
        (.seq (.reg [.p none 17 (.mv (.tmp 8)),
            .p none 9 (.mv (.tmp 17))])
        (.block 2
          (.loop
            (.seq (.seq (.dreg (.line [.qp 0 none 18 (.mv (.tmp 9)),
                .qp 1 none 19 (.mv (.tmp 1)),
                .qp 2 none 20 (.bin .gtr .i64 (.tmp 18) (.tmp 19)),
                .qp 3 none 21 (.mv (.tmp 20)),
                .split 21,
                .qp 4 (some (21, true)) 22 (.mv (.tmp 3)),
                .qp 5 (some (21, true)) 23 (.mv (.tmp 0)),
                .qp 6 (some (21, true)) 24 (.mv (.tmp 9)),
                .qp 7 (some (21, true)) 25 (.idx 257 (.tmp 23) (.tmp 24)),
                .qp 9 (some (21, true)) 27 (.mv (.tmp 0)),
                .qp 10 (some (21, true)) 28 (.mv (.tmp 9)),
                .qp 11 (some (21, true)) 29 (.bin .sub .i64 (.tmp 28) (.const (.int .i64 1))),
                .qp 12 (some (21, true)) 30 (.idx 257 (.tmp 27) (.tmp 29)),
                .ql 13 (some (21, true)) 31 (some 257) (.tmp 30),
                .l 8 (some (21, true)) (some 26) (.ld (some 257) (.tmp 25)),
                .l 14 (some (21, true)) (some 32) (.callv (.tmp 22) [(.tmp 26), (.tmp 31)]),
                .qp 15 (some (21, true)) 33 (.bin .lss .i64 (.tmp 32) (.const (.int .i64 0))),
                .qp 16 none 34 (.pick (.tmp 21) (.tmp 33) (.const (.bool false)))]))
            (.cond (.tmp 34)
              .skip
              (.exit 2)))
            (.seq (.block 3
              (.dreg (.fork [.qp 0 none 37 (.mv (.tmp 0)),
                  .qp 1 none 38 (.mv (.tmp 9)),
                  .qp 2 none 39 (.mv (.tmp 0)),
                  .qp 3 none 40 (.mv (.tmp 9)),
                  .qp 4 none 41 (.bin .sub .i64 (.tmp 40) (.const (.int .i64 1))),
                  .qp 5 none 42 (.mv (.tmp 0)),
                  .qp 6 none 43 (.mv (.tmp 9)),
                  .qp 7 none 44 (.bin .sub .i64 (.tmp 43) (.const (.int .i64 1))),
                  .qp 8 none 45 (.idx 257 (.tmp 42) (.tmp 44)),
                  .qp 10 none 47 (.mv (.tmp 0)),
                  .qp 11 none 48 (.mv (.tmp 9)),
                  .qp 12 none 49 (.idx 257 (.tmp 47) (.tmp 48))]
                (.line [.l 9 none (some 46) (.ld (some 257) (.tmp 45)),
                    .l 13 none (some 50) (.ld (some 257) (.tmp 49)),
                    .qp 14 none 51 (.idx 257 (.tmp 37) (.tmp 38)),
                    .l 15 none none (.st 257 (.tmp 51) (.tmp 46)),
                    .qp 16 none 52 (.idx 257 (.tmp 39) (.tmp 41)),
                    .l 17 none none (.st 257 (.tmp 52) (.tmp 50))])
                (.line [.l 13 none (some 50) (.ld (some 257) (.tmp 49)),
                    .l 9 none (some 46) (.ld (some 257) (.tmp 45)),
                    .qp 14 none 51 (.idx 257 (.tmp 37) (.tmp 38)),
                    .l 15 none none (.st 257 (.tmp 51) (.tmp 46)),
                    .qp 16 none 52 (.idx 257 (.tmp 39) (.tmp 41)),
                    .l 17 none none (.st 257 (.tmp 52) (.tmp 50))]))))
            (.reg [.p none 35 (.mv (.tmp 9)),
                .p none 36 (.bin .sub .i64 (.tmp 35) (.const (.int .i64 1))),
                .p none 9 (.mv (.tmp 36))])))))))
      (.reg [.p none 15 (.mv (.tmp 8)),
          .p none 16 (.bin .add .i64 (.tmp 15) (.const (.int .i64 1))),
          .p none 8 (.mv (.tmp 16))]))))))
theorem C77 : compile Try.prog 53 (Try.f77.body.getD .skip) = some M77 := by kernel_rfl

/-- slices.symMergeCmpFunc[huff.thing] -/
noncomputable def M78 : MC :=
  (.seq (.seq (.reg [.p none 25 (.mv (.tmp 2)),
      .p none 26 (.mv (.tmp 1)),
      .p none 27 (.bin .sub .i64 (.tmp 25) (.tmp 26)),
      .p none 28 (.bin .eql .i64 (.tmp 27) (.const (.int .i64 1)))])
  (.cond (.tmp 28)
    (.seq (.reg [.p none 29 (.mv (.tmp 2)),
        .p none 10 (.mv (.tmp 29))])
    (.seq (.reg [.p none 30 (.mv (.tmp 3)),
        .p none 11 (.mv (.tmp 30))])
    (.seq (.block 0
      (.loop
        (.seq (.seq (.reg [.p none 31 (.mv (.tmp 10)),
            .p none 32 (.mv (.tmp 11)),
            .p none 33 (.bin .lss .i64 (.tmp 31) (.tmp 32))])
        (.cond (.tmp 33)
          .skip
          (.exit 0)))
        (.block 1
          (.seq (.reg [.p none 34 (.mv (.tmp 10)),
              .p none 35 (.mv (.tmp 11)),
              .p none 36 (.bin .add .i64 (.tmp 34) (.tmp 35)),
              .p none 37 (.conv .u64 (.tmp 36)),
              .p none 38 (.shf .shr (.tmp 37) (.const (.int .u64 1))),
              .p none 39 (.conv .i64 (.tmp 38)),
              .p none 12 (.mv (.tmp 39))])
          (.seq (.dreg (.line [.qp 0 none 40 (.mv (.tmp 4)),
              .qp 1 none 41 (.mv (.tmp 0)),
              .qp 2 none 42 (.mv (.tmp 12)),
              .qp 3 none 43 (.idx 257 (.tmp 41) (.tmp 42)),
              .qp 5 none 45 (.mv (.tmp 0)),
              .qp 6 none 46 (.mv (.tmp 1)),
              .qp 7 none 47 (.idx 257 (.tmp 45) (.tmp 46)),
              .ql 8 none 48 (some 257) (.tmp 47),
              .l 4 none (some 44) (.ld (some 257) (.tmp 43)),
              .l 9 none (some 49) (.callv (.tmp 40) [(.tmp 44), (.tmp 48)]),
              .qp 10 none 50 (.bin .lss .i64 (.tmp 49) (.const (.int .i64 0)))]))
          (.cond (.tmp 50)
            (.reg [.p none 51 (.mv (.tmp 12)),
                .p none 52 (.bin .add .i64 (.tmp 51) (.const (.int .i64 1))),
                .p none 10 (.mv (.tmp 52))])
            (.reg [.p none 53 (.mv (.tmp 12)),
                .p none 11 (.mv (.tmp 53))]))))))))
    (.seq (.seq (.reg [.p none 54 (.mv (.tmp 1)),
        .p none 13 (.mv (.tmp 54))])
    (.block 2
      (.loop
        (.seq (.seq (.reg [.p none 55 (.mv (.tmp 13)),
            .p none 56 (.mv (.tmp 10)),
            .p none 57 (.bin .sub .i64 (.tmp 56) (.const (.int .i64 1))),
            .p none 58 (.bin .lss .i64 (.tmp 55) (.tmp 57))])
        (.cond (.tmp 58)
          .skip
          (.exit 2)))
        (.seq (.block 3
          (.dreg (.fork [.qp 0 none 61 (.mv (.tmp 0)),
              .qp 1 none 62 (.mv (.tmp 13)),
              .qp 2 none 63 (.mv (.tmp 0)),
              .qp 3 none 64 (.mv (.tmp 13)),
              .qp 4 none 65 (.bin .add .i64 (.tmp 64) (.const (.int .i64 1))),
              .qp 5 none 66 (.mv (.tmp 0)),
              .qp 6 none 67 (.mv (.tmp 13)),
              .qp 7 none 68 (.bin .add .i64 (.tmp 67) (.const (.int .i64 1))),
              .qp 8 none 69 (.idx 257 (.tmp 66) (.tmp 68)),
              .qp 10 none 71 (.mv (.tmp 0)),
              .qp 11 none 72 (.mv (.tmp 13)),
              .qp 12 none 73 (.idx 257 (.tmp 71) (.tmp 72))]
            (.line [.l 9 none (some 70) (.ld (some 257) (.tmp 69)),
                .l 13 none (some 74) (.ld (some 257) (.tmp 73)),
                .qp 14 none 75 (.idx 257 (.tmp 61) (.tmp 62)),
                .l 15 none none (.st 257 (.tmp 75) (.tmp 70)),
                .qp 16 none 76 (.idx 257 (.tmp 63) (.tmp 65)),
                .l 17 none none (.st 257 (.tmp 76) (.tmp 74))])
            (.line [.l 13 none (some 74) (.ld (some 257) (.tmp 73)),
                .l 9 none (some 70) (.ld (some 257) (.tmp 69)),
                .qp 14 none 75 (.idx 257 (.tmp 61) (.tmp 62)),
                .l 15 none none (.st 257 (.tmp 75) (.tmp 70)),
                .qp 16 none 76 (.idx 257 (.tmp 63) (.tmp 65)),
                .l 17 none none (.st 257 (.tmp 76) (.tmp 74))]))))
        (.reg [.p none 59 (.mv (.tmp 13)),
            .p none 60 (.bin .add .i64 (.tmp 59) (.const (.int .i64 1))),
            .p none 13 (.mv (.tmp 60))]))))))
    .ret))))
    .skip))
  (.seq (.seq (.reg [.p none 77 (.mv (.tmp 3)),
      .p none 78 (.mv (.tmp 2)),
      .p none 79 (.bin .sub .i64 (.tmp 77) (.tmp 78)),
      .p none 80 (.bin .eql .i64 (.tmp 79) (.const (.int .i64 1)))])
  (.cond (.tmp 80)
    (.seq (.reg [.p none 81 (.mv (.tmp 1)),
        .p none 14 (.mv (.tmp 81))])
    (.seq (.reg [.p none 82 (.mv (.tmp 2)),
        .p none 15 (.mv (.tmp 82))])
    (.seq (.block 4
      (.loop
        (.seq (.seq (.reg [.p none 83 (.mv (.tmp 14)),
            .p none 84 (.mv (.tmp 15)),
            .p none 85 (.bin .lss .i64 (.tmp 83) (.tmp 84))])
        (.cond (.tmp 85)
          .skip
          (.exit 4)))
        (.block 5
          (.seq (.reg [.p none 86 (.mv (.tmp 14)),
              .p none 87 (.mv (.tmp 15)),
              .p none 88 (.bin .add .i64 (.tmp 86) (.tmp 87)),
              .p none 89 (.conv .u64 (.tmp 88)),
              .p none 90 (.shf .shr (.tmp 89) (.const (.int .u64 1))),
              .p none 91 (.conv .i64 (.tmp 90)),
              .p none 16 (.mv (.tmp 91))])
          (.seq (.dreg (.line [.qp 0 none 92 (.mv (.tmp 4)),
              .qp 1 none 93 (.mv (.tmp 0)),
              .qp 2 none 94 (.mv (.tmp 2)),
              .qp 3 none 95 (.idx 257 (.tmp 93) (.tmp 94)),
              .qp 5 none 97 (.mv (.tmp 0)),
              .qp 6 none 98 (.mv (.tmp 16)),
              .qp 7 none 99 (.idx 257 (.tmp 97) (.tmp 98)),
              .ql 8 none 100 (some 257) (.tmp 99),
              .l 4 none (some 96) (.ld (some 257) (.tmp 95)),
              .l 9 none (some 101) (.callv (.tmp 92) [(.tmp 96), (.tmp 100)]),
              .qp 10 none 102 (.bin .lss .i64 (.tmp 101) (.const (.int .i64 0))),
              .qp 11 none 103 (.not (.tmp 102))]))
          (.cond (.tmp 103)
            (.reg [.p none 104 (.mv (.tmp 16)),
                .p none 105 (.bin .add .i64 (.tmp 104) (.const (.int .i64 1))),
                .p none 14 (.mv (.tmp 105))])
            (.reg [.p none 106 (.mv (.tmp 16)),
                .p none 15 (.mv (.tmp 106))]))))))))
    (.seq (.seq (.reg [.p none 107 (.mv (.tmp 2)),
        .p none 17 (.mv (.tmp 107))])
    (.block 6
      (.loop
        (.seq (.seq (.reg [.p none 108 (.mv (.tmp 17)),
            .p none 109 (.mv (.tmp 14)),
            .p none 110 (.bin .gtr .i64 (.tmp 108) (.tmp 109))])
        (.cond (.tmp 110)
          .skip
          (.exit 6)))
        (.seq (.block 7
          (.dreg (.fork [.qp 0 none 113 (.mv (.tmp 0)),
              .qp 1 none 114 (.mv (.tmp 17)),
              .qp 2 none 115 (.mv (.tmp 0)),
              .qp 3 none 116 (.mv (.tmp 17)),
              .qp 4 none 117 (.bin .sub .i64 (.tmp 116) (.const (.int .i64 1))),
              .qp 5 none 118 (.mv (.tmp 0)),
              .qp 6 none 119 (.mv (.tmp 17)),
              .qp 7 none 120 (.bin .sub .i64 (.tmp 119) (.const (.int .i64 1))),
              .qp 8 none 121 (.idx 257 (.tmp 118) (.tmp 120)),
              .qp 10 none 123 (.mv (.tmp 0)),
              .qp 11 none 124 (.mv (.tmp 17)),
              .qp 12 none 125 (.idx 257 (.tmp 123) (.tmp 124))]
            (.line [.l 9 none (some 122) (.ld (some 257) (.tmp 121)),
                .l 13 none (some 126) (.ld (some 257) (.tmp 125)),
                .qp 14 none 127 (.idx 257 (.tmp 113) (.tmp 114)),
                .l 15 none none (.st 257 (.tmp 127) (.tmp 122)),
                .qp 16 none 128 (.idx 257 (.tmp 115) (.tmp 117)),
                .l 17 none none (.st 257 (.tmp 128) (.tmp 126))])
            (.line [.l 13 none (some 126) (.ld (some 257) (.tmp 125)),
                .l 9 none (some 122) (.ld (some 257) (.tmp 121)),
                .qp 14 none 127 (.idx 257 (.tmp 113) (.tmp 114)),
                .l 15 none none (.st 257 (.tmp 127) (.tmp 122)),
                .qp 16 none 128 (.idx 257 (.tmp 115) (.tmp 117)),
                .l 17 none none (.st 257 (.tmp 128) (.tmp 126))]))))
        (.reg [.p none 111 (.mv (.tmp 17)),
            .p none 112 (.bin .sub .i64 (.tmp 111) (.const (.int .i64 1))),
            .p none 17 (.mv (.tmp 112))]))))))
    .ret))))
    .skip))
  (.seq (.reg [.p none 129 (.mv (.tmp 1)),
      .p none 130 (.mv (.tmp 3)),
      .p none 131 (.bin .add .i64 (.tmp 129) (.tmp 130)),
      .p none 132 (.conv .u64 (.tmp 131)),
      .p none 133 (.shf .shr (.tmp 132) (.const (.int .u64 1))),
      .p none 134 (.conv .i64 (.tmp 133)),
      .p none 18 (.mv (.tmp 134))])
  (.seq (.reg [.p none 135 (.mv (.tmp 18)),
      .p none 136 (.mv (.tmp 2)),
      .p none 137 (.bin .add .i64 (.tmp 135) (.tmp 136)),
      .p none 19 (.mv (.tmp 137))])
  (.seq (.reg [.p none 20 (.mv (.const (.int .i64 0))),
      .p none 21 (.mv (.const (.int .i64 0)))])
  (.seq (.seq (.reg [.p none 138 (.mv (.tmp 2)),
      .p none 139 (.mv (.tmp 18)),
      .p none 140 (.bin .gtr .i64 (.tmp 138) (.tmp 139))])
  (.cond (.tmp 140)
    (.seq (.reg [.p none 141 (.mv (.tmp 19)),
        .p none 142 (.mv (.tmp 3)),
        .p none 143 (.bin .sub .i64 (.tmp 141) (.tmp 142)),
        .p none 20 (.mv (.tmp 143))])
    (.reg [.p none 144 (.mv (.tmp 18)),
        .p none 21 (.mv (.tmp 144))]))
    (.seq (.reg [.p none 145 (.mv (.tmp 1)),
        .p none 20 (.mv (.tmp 145))])
    (.reg [.p none 146 (.mv (.tmp 2)),
        .p none 21 (.mv (.tmp 146))]))))
  (.seq (.reg [.p none 147 (.mv (.tmp 19)),
      .p none 148 (.bin .sub .i64 (.tmp 147) (.const (.int .i64 1))),
      .p none 22 (.mv (.tmp 148))])
  (.seq (.block 8
    (.loop
      (.seq (.seq (.reg [.p none 149 (.mv (.tmp 20)),
          .p none 150 (.mv (.tmp 21)),
          .p none 151 (.bin .lss .i64 (.tmp 149) (.tmp 150))])
      (.cond (.tmp 151)
        .skip
        (.exit 8)))
      (.block 9
        (.seq (.reg [.p none 152 (.mv (.tmp 20)),
            .p none 153 (.mv (.tmp 21)),
            .p none 154 (.bin .add .i64 (.tmp 152) (.tmp 153)),
            .p none 155 (.conv .u64 (.tmp 154)),
            .p none 156 (.shf .shr (.tmp 155) (.const (.int .u64 1))),
            .p none 157 (.conv .i64 (.tmp 156)),
            .p none 23 (.mv (.tmp 157))])
        (.seq (.dreg (.line [.qp 0 none 158 (.mv (.tmp 4)),
            .qp 1 none 159 (.mv (.tmp 0)),
            .qp 2 none 160 (.mv (.tmp 22)),
            .qp 3 none 161 (.mv (.tmp 23)),
            .qp 4 none 162 (.bin .sub .i64 (.tmp 160) (.tmp 161)),
            .qp 5 none 163 (.idx 257 (.tmp 159) (.tmp 162)),
            .qp 7 none 165 (.mv (.tmp 0)),
            .qp 8 none 166 (.mv (.tmp 23)),
            .qp 9 none 167 (.idx 257 (.tmp 165) (.tmp 166)),
            .ql 10 none 168 (some 257) (.tmp 167),
            .l 6 none (some 164) (.ld (some 257) (.tmp 163)),
            .l 11 none (some 169) (.callv (.tmp 158) [(.tmp 164), (.tmp 168)]),
            .qp 12 none 170 (.bin .lss .i64 (.tmp 169) (.const (.int .i64 0))),
            .qp 13 none 171 (.not (.tmp 170))]))
        (.cond (.tmp 171)
          (.reg [.p none 172 (.mv (.tmp 23)),
              .p none 173 (.bin .add .i64 (.tmp 172) (.const (.int .i64 1))),
              .p none 20 (.mv (.tmp 173))])
          (.reg [.p none 174 (.mv (.tmp 23)),
              .p none 21 (.mv (.tmp 174))]))))))))
  (.seq (.reg [.p none 175 (.mv (.tmp 19)),
      .p none 176 (.mv (.tmp 20)),
      .p none 177 (.bin .sub .i64 (.tmp 175) (.tmp 176)),
      .p none 24 (.mv (.tmp 177))])
  (.seq (.seq (.reg [.p none 178 (.mv (.tmp 20)),
      .p none 179 (.mv (.tmp 2)),
      .p none 180 (.bin .lss .i64 (.tmp 178) (.tmp 179)),
      .p none 181 (.mv (.tmp 180)),
      .split 181,
      .p (some (181, true)) 182 (.mv (.tmp 2)),
      .p (some (181, true)) 183 (.mv (.tmp 24)),
      .p (some (181, true)) 184 (.bin .lss .i64 (.tmp 182) (.tmp 183)),
      .p none 185 (.pick (.tmp 181) (.tmp 184) (.const (.bool false)))])
  (.cond (.tmp 185)
    (.reg [.p none 186 (.mv (.tmp 0)),
        .p none 187 (.mv (.tmp 20)),
        .p none 188 (.mv (.tmp 2)),
        .p none 189 (.mv (.tmp 24)),
        .p none 190 (.mv (.tmp 4)),
        .l none (some 191) (.call 79 [(.tmp 186), (.tmp 187), (.tmp 188), (.tmp 189), (.tmp 190)])])
    .skip))
  (.seq (.seq (.reg [.p none 192 (.mv (.tmp 1)),
      .p none 193 (.mv (.tmp 20)),
      .p none 194 (.bin .lss .i64 (.tmp 192) (.tmp 193)),
      .p none 195 (.mv (.tmp 194)),
      .split 195,
      .p (some (195, true)) 196 (.mv (.tmp 20)),
      .p (some (195, true)) 197 (.mv (.tmp 18)),
      .p (some (195, true)) 198 (.bin .lss .i64 (.tmp 196) (.tmp 197)),
      .p none 199 (.pick (.tmp 195) (.tmp 198) (.const (.bool false)))])
  (.cond (.tmp 199)
    (.reg [.p none 200 (.mv (.tmp 0)),
        .p none 201 (.mv (.tmp 1)),
        .p none 202 (.mv (.tmp 20)),
        .p none 203 (.mv (.tmp 18)),
        .p none 204 (.mv (.tmp 4)),
        .l none (some 205) (.call 78 [(.tmp 200), (.tmp 201), (.tmp 202), (.tmp 203), (.tmp 204)])])
    .skip))
  (.seq (.reg [.p none 206 (.mv (.tmp 18)),
      .p none 207 (.mv (.tmp 24)),
      .p none 208 (.bin .lss .i64 (.tmp 206) (.tmp 207)),
      .p none 209 (.mv (.tmp 208)),
      .split 209,
      .p (some (209, true)) 210 (.mv (.tmp 24)),
      .p (some (209, true)) 211 (.mv (.tmp 3)),
      .p (some (209, true)) 212 (.bin .lss .i64 (.tmp 210) (.tmp 211)),
      .p none 213 (.pick (.tmp 209) (.tmp 212) (.const (.bool false)))])
  (.cond (.tmp 213)
    (.reg [.p none 214 (.mv (.tmp 0)),
        .p none 215 (.mv (.tmp 18)),
        .p none 216 (.mv (.tmp 24)),
        .p none 217 (.mv (.tmp 3)),
        .p none 218 (.mv (.tmp 4)),
        .l none (some 219) (.call 78 [(.tmp 214), (.tmp 215), (.tmp 216), (.tmp 217), (.tmp 218)])])
    .skip)))))))))))))
theorem C78 : compile Try.prog 220 (Try.f78.body.getD .skip) = some M78 := by kernel_rfl

/-- slices.rotateCmpFunc[huff.thing] -/
noncomputable def M79 : MC :=
  (.seq (.reg [.p none 12 (.mv (.tmp 2)),
      .p none 13 (.mv (.tmp 1)),
      .p none 14 (.bin .sub .i64 (.tmp 12) (.tmp 13)),
      .p none 10 (.mv (.tmp 14))])
  (.seq (.reg [.p none 15 (.mv (.tmp 3)),
      .p none 16 (.mv (.tmp 2)),
      .p none 17 (.bin .sub .i64 (.tmp 15) (.tmp 16)),
      .p none 11 (.mv (.tmp 17))])
  (.seq (.block 0
    (.loop
      (.seq (.seq (.reg [.p none 18 (.mv (.tmp 10)),
          .p none 19 (.mv (.tmp 11)),
          .p none 20 (.bin .neq .i64 (.tmp 18) (.tmp 19))])
      (.cond (.tmp 20)
        .skip
        (.exit 0)))
      (.block 1
        (.seq (.reg [.p none 21 (.mv (.tmp 10)),
            .p none 22 (.mv (.tmp 11)),
            .p none 23 (.bin .gtr .i64 (.tmp 21) (.tmp 22))])
        (.cond (.tmp 23)
          (.seq (.reg [.p none 24 (.mv (.tmp 0)),
              .p none 25 (.mv (.tmp 2)),
              .p none 26 (.mv (.tmp 10)),
              .p none 27 (.bin .sub .i64 (.tmp 25) (.tmp 26)),
              .p none 28 (.mv (.tmp 2)),
              .p none 29 (.mv (.tmp 11)),
              .p none 30 (.mv (.tmp 4)),
              .l none (some 31) (.call 80 [(.tmp 24), (.tmp 27), (.tmp 28), (.tmp 29), (.tmp 30)])])
          (.reg [.p none 32 (.mv (.tmp 10)),
              .p none 33 (.mv (.tmp 11)),
              .p none 34 (.bin .sub .i64 (.tmp 32) (.tmp 33)),
              .p none 10 (.mv (.tmp 34))]))
          (.seq (.reg [.p none 35 (.mv (.tmp 0)),
              .p none 36 (.mv (.tmp 2)),
              .p none 37 (.mv (.tmp 10)),
              .p none 38 (.bin .sub .i64 (.tmp 36) (.tmp 37)),
              .p none 39 (.mv (.tmp 2)),
              .p none 40 (.mv (.tmp 11)),
              .p none 41 (.bin .add .i64 (.tmp 39) (.tmp 40)),
              .p none 42 (.mv (.tmp 10)),
              .p none 43 (.bin .sub .i64 (.tmp 41) (.tmp 42)),
              .p none 44 (.mv (.tmp 10)),
              .p none 45 (.mv (.tmp 4)),
              .l none (some 46) (.call 80 [(.tmp 35), (.tmp 38), (.tmp 43), (.tmp 44), (.tmp 45)])])
          (.reg [.p none 47 (.mv (.tmp 11)),
              .p none 48 (.mv (.tmp 10)),
              .p none 49 (.bin .sub .i64 (.tmp 47) (.tmp 48)),
              .p none 11 (.mv (.tmp 49))]))))))))
  (.reg [.p none 50 (.mv (.tmp 0)),
      .p none 51 (.mv (.tmp 2)),
      .p none 52 (.mv (.tmp 10)),
      .p none 53 (.bin .sub .i64 (.tmp 51) (.tmp 52)),
      .p none 54 (.mv (.tmp 2)),
      .p none 55 (.mv (.tmp 10)),
      .p none 56 (.mv (.tmp 4)),
      .l none (some 57) (.call 80 [(.tmp 50), (.tmp 53), (.tmp 54), (.tmp 55), (.tmp 56)])]))))
theorem C79 : compile Try.prog 58 (Try.f79.body.getD .skip) = some M79 := by kernel_rfl

/-- slices.swapRangeCmpFunc[huff.thing] -/
noncomputable def M80 : MC :=
  (.seq (.reg [.p none 10 (.mv (.const (.int .i64 0)))])
  (.block 0
    (.loop
      (.seq (.seq (.reg [.p none 11 (.mv (.tmp 10)),
          .p none 12 (.mv (.tmp 3)),
          .p none 13 (.bin .lss .i64 (.tmp 11) (.tmp 12))])
      (.cond (.tmp 13)
        .skip
        (.exit 0)))
      (.seq (.block 1
        (.dreg (.fork [.qp 0 none 16 (.mv (.tmp 0)),
            .qp 1 none 17 (.mv (.tmp 1)),
            .qp 2 none 18 (.mv (.tmp 10)),
            .qp 3 none 19 (.bin .add .i64 (.tmp 17) (.tmp 18)),
            .qp 4 none 20 (.mv (.tmp 0)),
            .qp 5 none 21 (.mv (.tmp 2)),
            .qp 6 none 22 (.mv (.tmp 10)),
            .qp 7 none 23 (.bin .add .i64 (.tmp 21) (.tmp 22)),
            .qp 8 none 24 (.mv (.tmp 0)),
            .qp 9 none 25 (.mv (.tmp 2)),
            .qp 10 none 26 (.mv (.tmp 10)),
            .qp 11 none 27 (.bin .add .i64 (.tmp 25) (.tmp 26)),
            .qp 12 none 28 (.idx 257 (.tmp 24) (.tmp 27)),
            .qp 14 none 30 (.mv (.tmp 0)),
            .qp 15 none 31 (.mv (.tmp 1)),
            .qp 16 none 32 (.mv (.tmp 10)),
            .qp 17 none 33 (.bin .add .i64 (.tmp 31) (.tmp 32)),
            .qp 18 none 34 (.idx 257 (.tmp 30) (.tmp 33))]
          (.line [.l 13 none (some 29) (.ld (some 257) (.tmp 28)),
              .l 19 none (some 35) (.ld (some 257) (.tmp 34)),
              .qp 20 none 36 (.idx 257 (.tmp 16) (.tmp 19)),
              .l 21 none none (.st 257 (.tmp 36) (.tmp 29)),
              .qp 22 none 37 (.idx 257 (.tmp 20) (.tmp 23)),
              .l 23 none none (.st 257 (.tmp 37) (.tmp 35))])
          (.line [.l 19 none (some 35) (.ld (some 257) (.tmp 34)),
              .l 13 none (some 29) (.ld (some 257) (.tmp 28)),
              .qp 20 none 36 (.idx 257 (.tmp 16) (.tmp 19)),
              .l 21 none none (.st 257 (.tmp 36) (.tmp 29)),
              .qp 22 none 37 (.idx 257 (.tmp 20) (.tmp 23)),
              .l 23 none none (.st 257 (.tmp 37) (.tmp 35))]))))
      (.reg [.p none 14 (.mv (.tmp 10)),
          .p none 15 (.bin .add .i64 (.tmp 14) (.const (.int .i64 1))),
          .p none 10 (.mv (.tmp 15))]))))))
theorem C80 : compile Try.prog 38 (Try.f80.body.getD .skip) = some M80 := by kernel_rfl

/-- winnowlaw4.HuffRound -/
noncomputable def M9 : MC :=
  (.seq (.reg [.p none 6 (.mv (.const (.bool false)))])
  (.seq (.seq (.reg [.p none 13 (.mv (.tmp 0)),
      .p none 14 (.len (.tmp 13)),
      .p none 15 (.bin .leq .i64 (.tmp 14) (.const (.int .i64 65536)))])
  (.cond (.tmp 15)
    (.seq (.reg [.p none 17 (.mv (.tmp 0)),
        .l none (some 18) (.call 35 [(.tmp 17)]),
        .p none 16 (.mv (.tmp 18)),
        .p none 19 (.ext 0 (.tmp 16)),
        .p none 20 (.ext 1 (.tmp 16)),
        .p none 7 (.mv (.tmp 19)),
        .p none 8 (.mv (.tmp 20))])
    (.seq (.reg [.p none 22 (.mv (.tmp 7)),
        .p none 23 (.mv (.tmp 0)),
        .p none 24 (.len (.tmp 23)),
        .l none (some 25) (.call 24 [(.tmp 22), (.tmp 24)]),
        .p none 21 (.mv (.tmp 25)),
        .p none 26 (.ext 0 (.tmp 21)),
        .p none 27 (.ext 1 (.tmp 21)),
        .p none 9 (.mv (.tmp 26)),
        .p none 10 (.mv (.tmp 27))])
    (.seq (.reg [.p none 28 (.mv (.tmp 8)),
        .p none 29 (.bin .neq .i64 (.tmp 28) (.const (.int .i64 0))),
        .p none 30 (.mv (.tmp 29)),
        .split 30,
        .p (some (30, false)) 31 (.mv (.tmp 10)),
        .p (some (30, false)) 32 (.bin .neq .i64 (.tmp 31) (.const (.int .i64 0))),
        .p none 33 (.pick (.tmp 30) (.const (.bool true)) (.tmp 32)),
        .p none 34 (.mv (.tmp 33)),
        .split 34,
        .p (some (34, false)) 35 (.mv (.tmp 9)),
        .p (some (34, false)) 36 (.mv (.tmp 0)),
        .l (some (34, false)) (some 37) (.call 27 [(.tmp 35), (.tmp 36)]),
        .p (some (34, false)) 38 (.not (.tmp 37)),
        .p none 39 (.pick (.tmp 34) (.const (.bool true)) (.tmp 38))])
    (.cond (.tmp 39)
      (.seq (.reg [.p none 6 (.mv (.const (.bool false)))])
      .ret)
      .skip))))
    .skip))
  (.seq (.reg [.p none 41 (.mv (.tmp 1)),
      .p none 42 (.mv (.tmp 2)),
      .l none (some 43) (.call 24 [(.tmp 41), (.tmp 42)]),
      .p none 40 (.mv (.tmp 43)),
      .p none 44 (.ext 0 (.tmp 40)),
      .p none 45 (.ext 1 (.tmp 40)),
      .p none 11 (.mv (.tmp 44)),
      .p none 12 (.mv (.tmp 45))])
  (.seq (.seq (.reg [.p none 46 (.mv (.tmp 12)),
      .p none 47 (.bin .neq .i64 (.tmp 46) (.const (.int .i64 0)))])
  (.cond (.tmp 47)
    (.seq (.reg [.p none 48 (.mv (.tmp 11)),
        .p none 49 (.len (.tmp 48)),
        .p none 50 (.bin .eql .i64 (.tmp 49) (.const (.int .i64 0))),
        .p none 51 (.mv (.tmp 50)),
        .split 51,
        .l (some (51, true)) (some 52) (.call 38 []),
        .p none 53 (.pick (.tmp 51) (.tmp 52) (.const (.bool false))),
        .p none 6 (.mv (.tmp 53))])
    .ret)
    .skip))
  (.seq (.reg [.p none 54 (.mv (.tmp 2)),
      .p none 55 (.bin .geq .i64 (.tmp 54) (.const (.int .i64 0))),
      .p none 56 (.mv (.tmp 55)),
      .split 56,
      .p (some (56, true)) 57 (.mv (.tmp 2)),
      .p (some (56, true)) 58 (.bin .leq .i64 (.tmp 57) (.const (.int .i64 65536))),
      .p none 59 (.pick (.tmp 56) (.tmp 58) (.const (.bool false))),
      .p none 60 (.mv (.tmp 59)),
      .split 60,
      .p (some (60, true)) 61 (.mv (.tmp 11)),
      .p (some (60, true)) 62 (.len (.tmp 61)),
      .p (some (60, true)) 63 (.mv (.tmp 2)),
      .p (some (60, true)) 64 (.bin .eql .i64 (.tmp 62) (.tmp 63)),
      .p none 65 (.pick (.tmp 60) (.tmp 64) (.const (.bool false))),
      .p none 66 (.mv (.tmp 65)),
      .split 66,
      .p (some (66, true)) 67 (.mv (.tmp 2)),
      .p (some (66, true)) 68 (.mv (.tmp 1)),
      .p (some (66, true)) 69 (.len (.tmp 68)),
      .p (some (66, true)) 70 (.bin .mul .i64 (.const (.int .i64 8)) (.tmp 69)),
      .p (some (66, true)) 71 (.bin .leq .i64 (.tmp 67) (.tmp 70)),
      .p none 72 (.pick (.tmp 66) (.tmp 71) (.const (.bool false))),
      .p none 73 (.mv (.tmp 72)),
      .split 73,
      .l (some (73, true)) (some 74) (.call 38 []),
      .p none 75 (.pick (.tmp 73) (.tmp 74) (.const (.bool false))),
      .p none 6 (.mv (.tmp 75))])
  .ret)))))
theorem C9 : compile Try.prog 76 (Try.f9.body.getD .skip) = some M9 := by kernel_rfl

/-- huff.Codes -/
noncomputable def M20 : MC :=
  (.seq (.reg [.p none 2 (.mv (.const (.slice none 0 0))),
      .p none 3 (.mv (.const (.int .i64 0)))])
  (.seq (.seq (.reg [.p none 12 (.mv (.tmp 0)),
      .p none 13 (.len (.tmp 12)),
      .p none 14 (.bin .gtr .i64 (.tmp 13) (.const (.int .i64 256)))])
  (.cond (.tmp 14)
    (.seq (.reg [.p none 2 (.mv (.const (.slice none 0 0))),
        .p none 3 (.mv (.const (.int .i64 2)))])
    .ret)
    .skip))
  (.seq (.seq (.reg [.p none 15 (.mv (.tmp 0)),
      .l none (some 16) (.call 40 [(.tmp 15)]),
      .p none 17 (.not (.tmp 16))])
  (.cond (.tmp 17)
    (.seq (.reg [.p none 2 (.mv (.const (.slice none 0 0))),
        .p none 3 (.mv (.const (.int .i64 3)))])
    .ret)
    .skip))
  (.seq (.reg [.p none 19 (.mv (.tmp 0)),
      .l none (some 20) (.call 42 [(.tmp 19)]),
      .p none 18 (.mv (.tmp 20)),
      .p none 21 (.ext 0 (.tmp 18)),
      .p none 22 (.ext 1 (.tmp 18)),
      .p none 23 (.ext 2 (.tmp 18)),
      .l none (some 5) (.al 61 (List.replicate 16 (.int .i64 0))),
      .p none 4 (.mv (.tmp 21)),
      .l none none (.st 16 (.tmp 5) (.tmp 22)),
      .p none 6 (.mv (.tmp 23))])
  (.seq (.seq (.reg [.p none 24 (.mv (.tmp 6)),
      .p none 25 (.not (.tmp 24))])
  (.cond (.tmp 25)
    (.seq (.reg [.p none 2 (.mv (.const (.slice none 0 0))),
        .p none 3 (.mv (.const (.int .i64 41)))])
    .ret)
    .skip))
  (.seq (.reg [.p none 26 (.mv (.tmp 0)),
      .p none 27 (.len (.tmp 26)),
      .l none (some 28) (.mks 37 16 2 [(.int .i64 0), (.int .u32 0)] (.tmp 27) (.tmp 27)),
      .p none 7 (.mv (.tmp 28))])
  (.seq (.reg [.p none 8 (.mv (.const (.int .u32 0))),
      .p none 9 (.mv (.const (.int .i64 0)))])
  (.seq (.seq (.reg [.p none 29 (.mv (.tmp 4)),
      .p none 30 (.len (.tmp 29)),
      .p none 31 (.mv (.const (.int .i64 0)))])
  (.block 0
    (.loop
      (.seq (.reg [.p none 32 (.bin .lss .i64 (.tmp 31) (.tmp 30))])
      (.seq (.cond (.tmp 32)
        .skip
        (.exit 0))
      (.seq (.block 1
        (.seq (.reg [.p none 33 (.mv (.tmp 31)),
            .p none 34 (.idx 1 (.tmp 29) (.tmp 31)),
            .l none (some 35) (.ld none (.tmp 34)),
            .p none 10 (.mv (.tmp 33)),
            .p none 11 (.mv (.tmp 35))])
        (.seq (.seq (.reg [.p none 36 (.mv (.tmp 10)),
            .p none 37 (.bin .gtr .i64 (.tmp 36) (.const (.int .i64 0)))])
        (.cond (.tmp 37)
          (.reg [.p none 38 (.mv (.tmp 8)),
              .p none 39 (.bin .add .u32 (.tmp 38) (.const (.int .u32 1))),
              .p none 8 (.mv (.tmp 39))])
          .skip))
        (.seq (.reg [.p none 40 (.mv (.tmp 8)),
            .p none 41 (.mv (.tmp 0)),
            .p none 42 (.mv (.tmp 11)),
            .p none 43 (.idx 1 (.tmp 41) (.tmp 42)),
            .l none (some 44) (.ld none (.tmp 43)),
            .p none 45 (.mv (.tmp 9)),
            .p none 46 (.bin .sub .i64 (.tmp 44) (.tmp 45)),
            .p none 47 (.shf .shl (.tmp 40) (.tmp 46)),
            .p none 8 (.mv (.tmp 47))])
        (.seq (.reg [.p none 48 (.mv (.tmp 0)),
            .p none 49 (.mv (.tmp 11)),
            .p none 50 (.idx 1 (.tmp 48) (.tmp 49)),
            .l none (some 51) (.ld none (.tmp 50)),
            .p none 9 (.mv (.tmp 51))])
        (.reg [.p none 52 (.mv (.tmp 7)),
            .p none 53 (.mv (.tmp 11)),
            .p none 54 (.mv (.tmp 9)),
            .p none 55 (.mv (.tmp 8)),
            .p none 56 (.bld [(.int .i64 0), (.int .u32 0)] [(0, 1, (.tmp 54)), (1, 1, (.tmp 55))]),
            .p none 57 (.idx 2 (.tmp 52) (.tmp 53)),
            .l none none (.st 2 (.tmp 57) (.tmp 56))]))))))
      (.reg [.p none 58 (.bin .add .i64 (.tmp 31) (.const (.int .i64 1))),
          .p none 31 (.mv (.tmp 58))])))))))
  (.seq (.reg [.p none 59 (.mv (.tmp 7)),
      .p none 2 (.mv (.tmp 59)),
      .p none 3 (.mv (.const (.int .i64 0)))])
  .ret)))))))))
theorem C20 : compile Try.prog 60 (Try.f20.body.getD .skip) = some M20 := by kernel_rfl

/-- huff.Decode -/
noncomputable def M24 : MC :=
  (.seq (.reg [.p none 4 (.mv (.const (.slice none 0 0))),
      .p none 5 (.mv (.const (.int .i64 0)))])
  (.seq (.seq (.reg [.p none 10 (.mv (.tmp 1)),
      .p none 11 (.bin .lss .i64 (.tmp 10) (.const (.int .i64 0))),
      .p none 12 (.mv (.tmp 11)),
      .split 12,
      .p (some (12, false)) 13 (.mv (.tmp 1)),
      .p (some (12, false)) 14 (.bin .gtr .i64 (.tmp 13) (.const (.int .i64 65536))),
      .p none 15 (.pick (.tmp 12) (.const (.bool true)) (.tmp 14))])
  (.cond (.tmp 15)
    (.seq (.reg [.p none 4 (.mv (.const (.slice none 0 0))),
        .p none 5 (.mv (.const (.int .i64 3)))])
    .ret)
    .skip))
  (.seq (.reg [.p none 16 (.mv (.tmp 0)),
      .l none (some 17) (.call 44 [(.tmp 16)]),
      .p none 6 (.mv (.tmp 17))])
  (.seq (.reg [.p none 19 (.mv (.tmp 6)),
      .l none (some 20) (.call 45 [(.tmp 19)]),
      .p none 18 (.mv (.tmp 20)),
      .p none 21 (.ext 0 (.tmp 18)),
      .p none 22 (.ext 1 (.tmp 18)),
      .p none 7 (.mv (.tmp 21)),
      .p none 8 (.mv (.tmp 22))])
  (.seq (.seq (.reg [.p none 23 (.mv (.tmp 8)),
      .p none 24 (.not (.tmp 23))])
  (.cond (.tmp 24)
    (.seq (.reg [.p none 4 (.mv (.const (.slice none 0 0))),
        .p none 5 (.mv (.const (.int .i64 40)))])
    .ret)
    .skip))
  (.seq (.reg [.p none 26 (.mv (.tmp 7)),
      .p none 27 (.mv (.tmp 6)),
      .p none 28 (.mv (.tmp 6)),
      .l none (some 29) (.call 48 [(.tmp 28)]),
      .l none (some 30) (.call 47 [(.tmp 27), (.tmp 29)]),
      .p none 31 (.mv (.tmp 1)),
      .l none (some 32) (.call 46 [(.tmp 26), (.tmp 30), (.tmp 31)]),
      .p none 25 (.mv (.tmp 32)),
      .p none 33 (.ext 0 (.tmp 25)),
      .p none 34 (.ext 1 (.tmp 25)),
      .p none 9 (.mv (.tmp 33)),
      .p none 8 (.mv (.tmp 34))])
  (.seq (.seq (.reg [.p none 35 (.mv (.tmp 8)),
      .p none 36 (.not (.tmp 35))])
  (.cond (.tmp 36)
    (.seq (.reg [.p none 4 (.mv (.const (.slice none 0 0))),
        .p none 5 (.mv (.const (.int .i64 40)))])
    .ret)
    .skip))
  (.seq (.reg [.p none 37 (.mv (.tmp 9)),
      .p none 4 (.mv (.tmp 37)),
      .p none 5 (.mv (.const (.int .i64 0)))])
  .ret))))))))
theorem C24 : compile Try.prog 38 (Try.f24.body.getD .skip) = some M24 := by kernel_rfl

/-- winnowlaw4.same -/
noncomputable def M27 : MC :=
  (.seq (.reg [.p none 4 (.mv (.const (.bool false)))])
  (.seq (.seq (.reg [.p none 6 (.mv (.tmp 0)),
      .p none 7 (.len (.tmp 6)),
      .p none 8 (.mv (.tmp 1)),
      .p none 9 (.len (.tmp 8)),
      .p none 10 (.bin .neq .i64 (.tmp 7) (.tmp 9))])
  (.cond (.tmp 10)
    (.seq (.reg [.p none 4 (.mv (.const (.bool false)))])
    .ret)
    .skip))
  (.seq (.seq (.reg [.p none 5 (.mv (.const (.int .i64 0)))])
  (.block 0
    (.loop
      (.seq (.seq (.reg [.p none 11 (.mv (.tmp 5)),
          .p none 12 (.mv (.tmp 0)),
          .p none 13 (.len (.tmp 12)),
          .p none 14 (.bin .lss .i64 (.tmp 11) (.tmp 13))])
      (.cond (.tmp 14)
        .skip
        (.exit 0)))
      (.seq (.block 1
        (.seq (.dreg (.line [.qp 0 none 17 (.mv (.tmp 0)),
            .qp 1 none 18 (.mv (.tmp 5)),
            .qp 2 none 19 (.idx 1 (.tmp 17) (.tmp 18)),
            .qp 4 none 21 (.mv (.tmp 1)),
            .qp 5 none 22 (.mv (.tmp 5)),
            .qp 6 none 23 (.idx 1 (.tmp 21) (.tmp 22)),
            .ql 7 none 24 none (.tmp 23),
            .l 3 none (some 20) (.ld none (.tmp 19)),
            .qp 8 none 25 (.bin .neq .u8 (.tmp 20) (.tmp 24))]))
        (.cond (.tmp 25)
          (.seq (.reg [.p none 4 (.mv (.const (.bool false)))])
          .ret)
          .skip)))
      (.reg [.p none 15 (.mv (.tmp 5)),
          .p none 16 (.bin .add .i64 (.tmp 15) (.const (.int .i64 1))),
          .p none 5 (.mv (.tmp 16))]))))))
  (.seq (.reg [.p none 4 (.mv (.const (.bool true)))])
  .ret))))
theorem C27 : compile Try.prog 26 (Try.f27.body.getD .skip) = some M27 := by kernel_rfl

/-- huff.Encode -/
noncomputable def M35 : MC :=
  (.seq (.reg [.p none 2 (.mv (.const (.slice none 0 0))),
      .p none 3 (.mv (.const (.int .i64 0)))])
  (.seq (.seq (.reg [.p none 18 (.mv (.tmp 0)),
      .p none 19 (.len (.tmp 18)),
      .p none 20 (.bin .gtr .i64 (.tmp 19) (.const (.int .i64 65536)))])
  (.cond (.tmp 20)
    (.seq (.reg [.p none 2 (.mv (.const (.slice none 0 0))),
        .p none 3 (.mv (.const (.int .i64 2)))])
    .ret)
    .skip))
  (.seq (.reg [.l none (some 21) (.mks 2 8 1 [(.int .i64 0)] (.const (.int .i64 256)) (.const (.int .i64 256))),
      .p none 4 (.mv (.tmp 21))])
  (.seq (.seq (.reg [.p none 22 (.mv (.tmp 0)),
      .p none 23 (.len (.tmp 22)),
      .p none 24 (.mv (.const (.int .i64 0)))])
  (.block 0
    (.loop
      (.seq (.reg [.p none 25 (.bin .lss .i64 (.tmp 24) (.tmp 23))])
      (.seq (.cond (.tmp 25)
        .skip
        (.exit 0))
      (.seq (.block 1
        (.seq (.reg [.p none 26 (.idx 1 (.tmp 22) (.tmp 24)),
            .l none (some 27) (.ld none (.tmp 26)),
            .p none 6 (.mv (.tmp 27))])
        (.reg [.p none 28 (.mv (.tmp 4)),
            .p none 29 (.mv (.tmp 6)),
            .p none 30 (.idx 1 (.tmp 28) (.tmp 29)),
            .l none (some 31) (.ld none (.tmp 30)),
            .p none 32 (.bin .add .i64 (.tmp 31) (.const (.int .i64 1))),
            .p none 33 (.idx 1 (.tmp 28) (.tmp 29)),
            .l none none (.st 1 (.tmp 33) (.tmp 32))])))
      (.reg [.p none 34 (.bin .add .i64 (.tmp 24) (.const (.int .i64 1))),
          .p none 24 (.mv (.tmp 34))])))))))
  (.seq (.reg [.p none 36 (.mv (.tmp 4)),
      .l none (some 37) (.call 28 [(.tmp 36), (.const (.int .i64 15))]),
      .p none 35 (.mv (.tmp 37)),
      .p none 38 (.ext 0 (.tmp 35)),
      .p none 39 (.ext 1 (.tmp 35)),
      .p none 7 (.mv (.tmp 38)),
      .p none 8 (.mv (.tmp 39))])
  (.seq (.reg [.p none 41 (.mv (.tmp 7)),
      .l none (some 42) (.call 20 [(.tmp 41)]),
      .p none 40 (.mv (.tmp 42)),
      .p none 43 (.ext 0 (.tmp 40)),
      .p none 44 (.ext 1 (.tmp 40)),
      .p none 9 (.mv (.tmp 43)),
      .p none 10 (.mv (.tmp 44))])
  (.seq (.reg [.p none 45 (.mv (.tmp 7)),
      .l none (some 46) (.call 57 [(.tmp 45)]),
      .l none (some 11) (.al 40 [(.slice none 0 0)]),
      .l none none (.st 1 (.tmp 11) (.tmp 46))])
  (.seq (.reg [.l none (some 12) (.al 3 [(.int .i64 0)]),
      .l none none (.st 1 (.tmp 12) (.const (.int .i64 0)))])
  (.seq (.reg [.p none 47 (.mkf (.func 58) [] [(.tmp 12), (.tmp 11)]),
      .p none 13 (.mv (.tmp 47))])
  (.seq (.seq (.reg [.p none 48 (.mv (.tmp 0)),
      .p none 49 (.len (.tmp 48)),
      .p none 50 (.mv (.const (.int .i64 0)))])
  (.block 2
    (.loop
      (.seq (.reg [.p none 51 (.bin .lss .i64 (.tmp 50) (.tmp 49))])
      (.seq (.cond (.tmp 51)
        .skip
        (.exit 2))
      (.seq (.block 3
        (.seq (.reg [.p none 52 (.idx 1 (.tmp 48) (.tmp 50)),
            .l none (some 53) (.ld none (.tmp 52)),
            .p none 15 (.mv (.tmp 53))])
        (.seq (.reg [.p none 54 (.mv (.tmp 9)),
            .p none 55 (.mv (.tmp 15)),
            .p none 56 (.idx 2 (.tmp 54) (.tmp 55)),
            .l none (some 57) (.ld (some 2) (.tmp 56)),
            .l none (some 16) (.al 37 [(.int .i64 0), (.int .u32 0)]),
            .l none none (.st 2 (.tmp 16) (.tmp 57))])
        (.seq (.reg [.p none 58 (.fa 0 (.tmp 16)),
            .l none (some 59) (.ld none (.tmp 58)),
            .p none 60 (.bin .sub .i64 (.tmp 59) (.const (.int .i64 1))),
            .p none 17 (.mv (.tmp 60))])
        (.block 4
          (.loop
            (.seq (.seq (.reg [.p none 61 (.mv (.tmp 17)),
                .p none 62 (.bin .geq .i64 (.tmp 61) (.const (.int .i64 0)))])
            (.cond (.tmp 62)
              .skip
              (.exit 4)))
            (.seq (.block 5
              (.reg [.p none 65 (.mv (.tmp 13)),
                  .p none 66 (.fa 1 (.tmp 16)),
                  .l none (some 67) (.ld none (.tmp 66)),
                  .p none 68 (.mv (.tmp 17)),
                  .p none 69 (.shf .shr (.tmp 67) (.tmp 68)),
                  .p none 70 (.bin .and .u32 (.tmp 69) (.const (.int .u32 1))),
                  .l none (some 71) (.callv (.tmp 65) [(.tmp 70)])]))
            (.reg [.p none 63 (.mv (.tmp 17)),
                .p none 64 (.bin .sub .i64 (.tmp 63) (.const (.int .i64 1))),
                .p none 17 (.mv (.tmp 64))])))))))))
      (.reg [.p none 72 (.bin .add .i64 (.tmp 50) (.const (.int .i64 1))),
          .p none 50 (.mv (.tmp 72))])))))))
  (.seq (.reg [.l none (some 73) (.ld none (.tmp 11)),
      .p none 2 (.mv (.tmp 73)),
      .p none 3 (.mv (.const (.int .i64 0)))])
  .ret)))))))))))
theorem C35 : compile Try.prog 74 (Try.f35.body.getD .skip) = some M35 := by kernel_rfl

/-- winnowlaw4.works -/
noncomputable def M38 : MC :=
  (.seq (.reg [.p none 0 (.mv (.const (.bool false)))])
  (.seq (.reg [.l none (some 6) (.bs 5 3 1 [(.int .u8 0), (.int .u8 0), (.int .u8 0)] [(0, 1, (.const (.int .u8 97))), (1, 1, (.const (.int .u8 97))), (2, 1, (.const (.int .u8 98)))]),
      .l none (some 7) (.raw (.convert 40 40 (.tmp 6))),
      .l none (some 8) (.call 35 [(.tmp 7)]),
      .p none 5 (.mv (.tmp 8)),
      .p none 9 (.ext 0 (.tmp 5)),
      .p none 10 (.ext 1 (.tmp 5)),
      .p none 1 (.mv (.tmp 9)),
      .p none 2 (.mv (.tmp 10))])
  (.seq (.reg [.p none 12 (.mv (.tmp 1)),
      .l none (some 13) (.call 24 [(.tmp 12), (.const (.int .i64 3))]),
      .p none 11 (.mv (.tmp 13)),
      .p none 14 (.ext 0 (.tmp 11)),
      .p none 15 (.ext 1 (.tmp 11)),
      .p none 3 (.mv (.tmp 14)),
      .p none 4 (.mv (.tmp 15))])
  (.seq (.reg [.p none 16 (.mv (.tmp 2)),
      .p none 17 (.bin .eql .i64 (.tmp 16) (.const (.int .i64 0))),
      .p none 18 (.mv (.tmp 17)),
      .split 18,
      .p (some (18, true)) 19 (.mv (.tmp 4)),
      .p (some (18, true)) 20 (.bin .eql .i64 (.tmp 19) (.const (.int .i64 0))),
      .p none 21 (.pick (.tmp 18) (.tmp 20) (.const (.bool false))),
      .p none 22 (.mv (.tmp 21)),
      .split 22,
      .p (some (22, true)) 23 (.mv (.tmp 3)),
      .l (some (22, true)) (some 24) (.bs 5 3 1 [(.int .u8 0), (.int .u8 0), (.int .u8 0)] [(0, 1, (.const (.int .u8 97))), (1, 1, (.const (.int .u8 97))), (2, 1, (.const (.int .u8 98)))]),
      .l (some (22, true)) (some 25) (.raw (.convert 40 40 (.tmp 24))),
      .l (some (22, true)) (some 26) (.call 27 [(.tmp 23), (.tmp 25)]),
      .p none 27 (.pick (.tmp 22) (.tmp 26) (.const (.bool false))),
      .p none 0 (.mv (.tmp 27))])
  .ret))))
theorem C38 : compile Try.prog 28 (Try.f38.body.getD .skip) = some M38 := by kernel_rfl

/-- huff.order -/
noncomputable def M42 : MC :=
  (.seq (.reg [.p none 2 (.mv (.const (.slice none 0 0))),
      .l none (some 3) (.al 61 (List.replicate 16 (.int .i64 0))),
      .p none 4 (.mv (.const (.bool false)))])
  (.seq (.reg [.p none 5 (.mv (.const (.slice none 0 0)))])
  (.seq (.reg [.l none (some 6) (.al 61 (List.replicate 16 (.int .i64 0)))])
  (.seq (.reg [.p none 7 (.mv (.const (.int .i64 32768)))])
  (.seq (.seq (.reg [.p none 8 (.mv (.const (.int .i64 1)))])
  (.block 0
    (.loop
      (.seq (.seq (.reg [.p none 11 (.mv (.tmp 8)),
          .p none 12 (.bin .leq .i64 (.tmp 11) (.const (.int .i64 15)))])
      (.cond (.tmp 12)
        .skip
        (.exit 0)))
      (.seq (.block 1
        (.seq (.reg [.p none 15 (.mv (.tmp 0)),
            .p none 16 (.len (.tmp 15)),
            .p none 17 (.mv (.const (.int .i64 0)))])
        (.block 2
          (.loop
            (.seq (.reg [.p none 18 (.bin .lss .i64 (.tmp 17) (.tmp 16))])
            (.seq (.cond (.tmp 18)
              .skip
              (.exit 2))
            (.seq (.block 3
              (.seq (.reg [.p none 19 (.mv (.tmp 17)),
                  .p none 20 (.idx 1 (.tmp 15) (.tmp 17)),
                  .l none (some 21) (.ld none (.tmp 20)),
                  .p none 9 (.mv (.tmp 19)),
                  .p none 10 (.mv (.tmp 21))])
              (.seq (.reg [.p none 22 (.mv (.tmp 10)),
                  .p none 23 (.mv (.tmp 8)),
                  .p none 24 (.bin .eql .i64 (.tmp 22) (.tmp 23))])
              (.cond (.tmp 24)
                (.seq (.reg [.p none 25 (.mv (.tmp 5)),
                    .p none 26 (.mv (.tmp 9)),
                    .l none (some 27) (.bs 3 1 1 [(.int .i64 0)] [(0, 1, (.tmp 26))]),
                    .l none (some 28) (.app 3 8 1 [(.int .i64 0)] (.tmp 25) (.tmp 27)),
                    .p none 5 (.mv (.tmp 28))])
                (.seq (.reg [.p none 29 (.mv (.tmp 8)),
                    .p none 30 (.idxa 16 1 (.tmp 6) (.tmp 29)),
                    .l none (some 31) (.ld none (.tmp 30)),
                    .p none 32 (.bin .add .i64 (.tmp 31) (.const (.int .i64 1))),
                    .p none 33 (.idxa 16 1 (.tmp 6) (.tmp 29)),
                    .l none none (.st 1 (.tmp 33) (.tmp 32))])
                (.reg [.p none 34 (.mv (.tmp 7)),
                    .p none 35 (.mv (.tmp 8)),
                    .p none 36 (.bin .sub .i64 (.const (.int .i64 15)) (.tmp 35)),
                    .p none 37 (.shf .shl (.const (.int .i64 1)) (.tmp 36)),
                    .p none 38 (.bin .sub .i64 (.tmp 34) (.tmp 37)),
                    .p none 7 (.mv (.tmp 38))])))
                .skip))))
            (.reg [.p none 39 (.bin .add .i64 (.tmp 17) (.const (.int .i64 1))),
                .p none 17 (.mv (.tmp 39))]))))))))
      (.reg [.p none 13 (.mv (.tmp 8)),
          .p none 14 (.bin .add .i64 (.tmp 13) (.const (.int .i64 1))),
          .p none 8 (.mv (.tmp 14))]))))))
  (.seq (.dreg (.line [.qp 0 none 40 (.mv (.tmp 5)),
      .qp 2 none 42 (.mv (.tmp 7)),
      .qp 3 none 43 (.bin .geq .i64 (.tmp 42) (.const (.int .i64 0))),
      .qp 4 none 2 (.mv (.tmp 40)),
      .l 1 none (some 41) (.ld (some 16) (.tmp 6)),
      .l 5 none none (.st 16 (.tmp 3) (.tmp 41)),
      .qp 6 none 4 (.mv (.tmp 43))]))
  .ret))))))
theorem C42 : compile Try.prog 44 (Try.f42.body.getD .skip) = some M42 := by kernel_rfl

/-- nums.NewCursor -/
noncomputable def M44 : MC :=
  (.seq (.reg [.p none 2 (.mv (.const (.pointer none)))])
  (.seq (.reg [.p none 3 (.mv (.tmp 0)),
      .l none (some 4) (.app 5 1 1 [(.int .u8 0)] (.const (.slice none 0 0)) (.tmp 3)),
      .p none 5 (.bld [(.slice none 0 0), (.int .i64 0), (.int .i64 0)] [(0, 1, (.tmp 4))]),
      .l none (some 6) (.bx 93 (.tmp 5)),
      .p none 2 (.mv (.tmp 6))])
  .ret))
theorem C44 : compile Try.prog 7 (Try.f44.body.getD .skip) = some M44 := by kernel_rfl

/-- huff.lengths -/
noncomputable def M45 : MC :=
  (.seq (.reg [.p none 2 (.mv (.const (.slice none 0 0))),
      .p none 3 (.mv (.const (.bool false)))])
  (.seq (.reg [.p none 4 (.mv (.const (.slice none 0 0)))])
  (.seq (.reg [.p none 5 (.mv (.const (.int .i64 (-1))))])
  (.seq (.block 0
    (.loop
      (.block 1
        (.seq (.reg [.p none 9 (.mv (.tmp 0)),
            .l none (some 10) (.call 61 [(.tmp 9), (.const (.int .i64 256))]),
            .p none 6 (.mv (.tmp 10))])
        (.seq (.seq (.reg [.p none 11 (.mv (.tmp 6)),
            .p none 12 (.bin .eql .i64 (.tmp 11) (.const (.int .i64 0)))])
        (.cond (.tmp 12)
          (.exit 0)
          .skip))
        (.seq (.reg [.p none 13 (.mv (.tmp 0)),
            .l none (some 14) (.call 62 [(.tmp 13), (.const (.int .i64 1))]),
            .p none 15 (.conv .i64 (.tmp 14)),
            .p none 7 (.mv (.tmp 15))])
        (.seq (.seq (.reg [.p none 16 (.mv (.tmp 7)),
            .p none 17 (.bin .gtr .i64 (.tmp 16) (.const (.int .i64 15))),
            .p none 18 (.mv (.tmp 17)),
            .split 18,
            .p (some (18, false)) 19 (.mv (.tmp 7)),
            .p (some (18, false)) 20 (.mv (.tmp 5)),
            .p (some (18, false)) 21 (.bin .eql .i64 (.tmp 19) (.tmp 20)),
            .p none 22 (.pick (.tmp 18) (.const (.bool true)) (.tmp 21)),
            .p none 23 (.mv (.tmp 22)),
            .split 23,
            .p (some (23, false)) 24 (.mv (.tmp 4)),
            .p (some (23, false)) 25 (.len (.tmp 24)),
            .p (some (23, false)) 26 (.mv (.tmp 6)),
            .p (some (23, false)) 27 (.bin .add .i64 (.tmp 25) (.tmp 26)),
            .p (some (23, false)) 28 (.bin .gtr .i64 (.tmp 27) (.const (.int .i64 256))),
            .p none 29 (.pick (.tmp 23) (.const (.bool true)) (.tmp 28))])
        (.cond (.tmp 29)
          (.seq (.reg [.p none 2 (.mv (.const (.slice none 0 0))),
              .p none 3 (.mv (.const (.bool false)))])
          .ret)
          .skip))
        (.seq (.seq (.reg [.p none 30 (.mv (.tmp 6)),
            .p none 31 (.mv (.const (.int .i64 0)))])
        (.block 2
          (.loop
            (.seq (.reg [.p none 32 (.bin .lss .i64 (.tmp 31) (.tmp 30))])
            (.seq (.cond (.tmp 32)
              .skip
              (.exit 2))
            (.seq (.block 3
              (.reg [.p none 33 (.mv (.tmp 4)),
                  .p none 34 (.mv (.tmp 7)),
                  .l none (some 35) (.bs 3 1 1 [(.int .i64 0)] [(0, 1, (.tmp 34))]),
                  .l none (some 36) (.app 3 8 1 [(.int .i64 0)] (.tmp 33) (.tmp 35)),
                  .p none 4 (.mv (.tmp 36))]))
            (.reg [.p none 37 (.bin .add .i64 (.tmp 31) (.const (.int .i64 1))),
                .p none 31 (.mv (.tmp 37))])))))))
        (.reg [.p none 38 (.mv (.tmp 7)),
            .p none 5 (.mv (.tmp 38))])))))))))
  (.seq (.reg [.p none 39 (.mv (.tmp 0)),
      .l none (some 40) (.call 63 [(.tmp 39)]),
      .p none 41 (.fld 0 none (.tmp 40)),
      .p none 8 (.mv (.tmp 41))])
  (.seq (.reg [.p none 42 (.mv (.tmp 4)),
      .p none 43 (.mv (.tmp 5)),
      .p none 44 (.bin .neq .i64 (.tmp 43) (.const (.int .i64 0))),
      .p none 45 (.mv (.tmp 44)),
      .split 45,
      .p (some (45, true)) 46 (.mv (.tmp 8)),
      .p (some (45, true)) 47 (.bin .eql .i64 (.tmp 46) (.const (.int .i64 0))),
      .p (some (45, true)) 48 (.mv (.tmp 47)),
      .split 48,
      .p (some (48, false)) 49 (.mv (.tmp 8)),
      .p (some (48, false)) 50 (.bin .eql .i64 (.tmp 49) (.const (.int .i64 22))),
      .p (some (45, true)) 51 (.pick (.tmp 48) (.const (.bool true)) (.tmp 50)),
      .p none 52 (.pick (.tmp 45) (.tmp 51) (.const (.bool false))),
      .p none 2 (.mv (.tmp 42)),
      .p none 3 (.mv (.tmp 52))])
  .ret))))))
theorem C45 : compile Try.prog 53 (Try.f45.body.getD .skip) = some M45 := by kernel_rfl

/-- huff.words -/
noncomputable def M46 : MC :=
  (.seq (.reg [.p none 6 (.mv (.const (.slice none 0 0))),
      .p none 7 (.mv (.const (.bool false)))])
  (.seq (.reg [.p none 18 (.mv (.tmp 0)),
      .l none (some 19) (.call 42 [(.tmp 18)]),
      .p none 17 (.mv (.tmp 19)),
      .p none 20 (.ext 0 (.tmp 17)),
      .p none 21 (.ext 1 (.tmp 17)),
      .p none 22 (.ext 2 (.tmp 17)),
      .l none (some 9) (.al 61 (List.replicate 16 (.int .i64 0))),
      .p none 8 (.mv (.tmp 20)),
      .l none none (.st 16 (.tmp 9) (.tmp 21)),
      .p none 10 (.mv (.tmp 22))])
  (.seq (.seq (.reg [.p none 23 (.mv (.tmp 10)),
      .p none 24 (.not (.tmp 23)),
      .p none 25 (.mv (.tmp 24)),
      .split 25,
      .p (some (25, false)) 26 (.mv (.tmp 2)),
      .p (some (25, false)) 27 (.mv (.tmp 1)),
      .p (some (25, false)) 28 (.len (.tmp 27)),
      .p (some (25, false)) 29 (.bin .mul .i64 (.const (.int .i64 8)) (.tmp 28)),
      .p (some (25, false)) 30 (.bin .gtr .i64 (.tmp 26) (.tmp 29)),
      .p none 31 (.pick (.tmp 25) (.const (.bool true)) (.tmp 30))])
  (.cond (.tmp 31)
    (.seq (.reg [.p none 6 (.mv (.const (.slice none 0 0))),
        .p none 7 (.mv (.const (.bool false)))])
    .ret)
    .skip))
  (.seq (.reg [.p none 32 (.mv (.tmp 2)),
      .l none (some 33) (.mks 5 1 1 [(.int .u8 0)] (.const (.int .i64 0)) (.tmp 32)),
      .p none 11 (.mv (.tmp 33))])
  (.seq (.reg [.p none 12 (.mv (.const (.int .i64 0)))])
  (.seq (.seq (.reg [.p none 34 (.mv (.tmp 2)),
      .p none 35 (.mv (.const (.int .i64 0)))])
  (.block 0
    (.loop
      (.seq (.reg [.p none 36 (.bin .lss .i64 (.tmp 35) (.tmp 34))])
      (.seq (.cond (.tmp 36)
        .skip
        (.exit 0))
      (.seq (.block 1
        (.seq (.reg [.p none 13 (.mv (.const (.int .i64 0))),
            .p none 14 (.mv (.const (.int .i64 0))),
            .p none 15 (.mv (.const (.int .i64 0)))])
        (.seq (.reg [.p none 16 (.mv (.const (.int .i64 1)))])
        (.block 2
          (.loop
            (.seq (.block 3
              (.seq (.seq (.reg [.p none 39 (.mv (.tmp 16)),
                  .p none 40 (.bin .gtr .i64 (.tmp 39) (.const (.int .i64 15))),
                  .p none 41 (.mv (.tmp 40)),
                  .split 41,
                  .p (some (41, false)) 42 (.mv (.tmp 12)),
                  .p (some (41, false)) 43 (.mv (.tmp 1)),
                  .p (some (41, false)) 44 (.len (.tmp 43)),
                  .p (some (41, false)) 45 (.bin .mul .i64 (.const (.int .i64 8)) (.tmp 44)),
                  .p (some (41, false)) 46 (.bin .eql .i64 (.tmp 42) (.tmp 45)),
                  .p none 47 (.pick (.tmp 41) (.const (.bool true)) (.tmp 46))])
              (.cond (.tmp 47)
                (.seq (.reg [.p none 6 (.mv (.const (.slice none 0 0))),
                    .p none 7 (.mv (.const (.bool false)))])
                .ret)
                .skip))
              (.seq (.reg [.p none 48 (.mv (.tmp 13)),
                  .p none 49 (.shf .shl (.tmp 48) (.const (.int .u64 1))),
                  .p none 50 (.mv (.tmp 1)),
                  .p none 51 (.mv (.tmp 12)),
                  .p none 52 (.div .quo .i64 (.tmp 51) (.const (.int .i64 8))),
                  .p none 53 (.idx 1 (.tmp 50) (.tmp 52)),
                  .l none (some 54) (.ld none (.tmp 53)),
                  .p none 55 (.mv (.tmp 12)),
                  .p none 56 (.div .rem .i64 (.tmp 55) (.const (.int .i64 8))),
                  .p none 57 (.shf .shr (.tmp 54) (.tmp 56)),
                  .p none 58 (.bin .and .u8 (.tmp 57) (.const (.int .u8 1))),
                  .p none 59 (.conv .i64 (.tmp 58)),
                  .p none 60 (.bin .or .i64 (.tmp 49) (.tmp 59)),
                  .p none 13 (.mv (.tmp 60))])
              (.seq (.reg [.p none 61 (.mv (.tmp 12)),
                  .p none 62 (.bin .add .i64 (.tmp 61) (.const (.int .i64 1))),
                  .p none 12 (.mv (.tmp 62))])
              (.seq (.reg [.p none 63 (.mv (.tmp 14)),
                  .p none 64 (.shf .shl (.tmp 63) (.const (.int .u64 1))),
                  .p none 14 (.mv (.tmp 64))])
              (.seq (.seq (.reg [.p none 65 (.mv (.tmp 13)),
                  .p none 66 (.mv (.tmp 14)),
                  .p none 67 (.bin .sub .i64 (.tmp 65) (.tmp 66)),
                  .p none 68 (.mv (.tmp 16)),
                  .p none 69 (.idxa 16 1 (.tmp 9) (.tmp 68)),
                  .l none (some 70) (.ld none (.tmp 69)),
                  .p none 71 (.bin .lss .i64 (.tmp 67) (.tmp 70))])
              (.cond (.tmp 71)
                (.seq (.reg [.p none 72 (.mv (.tmp 11)),
                    .p none 73 (.mv (.tmp 8)),
                    .p none 74 (.mv (.tmp 15)),
                    .p none 75 (.mv (.tmp 13)),
                    .p none 76 (.bin .add .i64 (.tmp 74) (.tmp 75)),
                    .p none 77 (.mv (.tmp 14)),
                    .p none 78 (.bin .sub .i64 (.tmp 76) (.tmp 77)),
                    .p none 79 (.idx 1 (.tmp 73) (.tmp 78)),
                    .l none (some 80) (.ld none (.tmp 79)),
                    .p none 81 (.conv .u8 (.tmp 80)),
                    .l none (some 82) (.bs 5 1 1 [(.int .u8 0)] [(0, 1, (.tmp 81))]),
                    .l none (some 83) (.app 5 1 1 [(.int .u8 0)] (.tmp 72) (.tmp 82)),
                    .p none 11 (.mv (.tmp 83))])
                (.exit 2))
                .skip))
              (.seq (.reg [.p none 84 (.mv (.tmp 14)),
                  .p none 85 (.mv (.tmp 16)),
                  .p none 86 (.idxa 16 1 (.tmp 9) (.tmp 85)),
                  .l none (some 87) (.ld none (.tmp 86)),
                  .p none 88 (.bin .add .i64 (.tmp 84) (.tmp 87)),
                  .p none 14 (.mv (.tmp 88))])
              (.reg [.p none 89 (.mv (.tmp 15)),
                  .p none 90 (.mv (.tmp 16)),
                  .p none 91 (.idxa 16 1 (.tmp 9) (.tmp 90)),
                  .l none (some 92) (.ld none (.tmp 91)),
                  .p none 93 (.bin .add .i64 (.tmp 89) (.tmp 92)),
                  .p none 15 (.mv (.tmp 93))]))))))))
            (.reg [.p none 37 (.mv (.tmp 16)),
                .p none 38 (.bin .add .i64 (.tmp 37) (.const (.int .i64 1))),
                .p none 16 (.mv (.tmp 38))])))))))
      (.reg [.p none 94 (.bin .add .i64 (.tmp 35) (.const (.int .i64 1))),
          .p none 35 (.mv (.tmp 94))])))))))
  (.seq (.seq (.reg [.p none 95 (.mv (.tmp 12)),
      .p none 96 (.bin .add .i64 (.tmp 95) (.const (.int .i64 7))),
      .p none 97 (.div .quo .i64 (.tmp 96) (.const (.int .i64 8))),
      .p none 98 (.mv (.tmp 1)),
      .p none 99 (.len (.tmp 98)),
      .p none 100 (.bin .neq .i64 (.tmp 97) (.tmp 99)),
      .p none 101 (.mv (.tmp 100)),
      .split 101,
      .p (some (101, false)) 102 (.mv (.tmp 12)),
      .p (some (101, false)) 103 (.div .rem .i64 (.tmp 102) (.const (.int .i64 8))),
      .p (some (101, false)) 104 (.bin .neq .i64 (.tmp 103) (.const (.int .i64 0))),
      .p (some (101, false)) 105 (.mv (.tmp 104)),
      .split 105,
      .p (some (105, true)) 106 (.mv (.tmp 1)),
      .p (some (105, true)) 107 (.mv (.tmp 12)),
      .p (some (105, true)) 108 (.div .quo .i64 (.tmp 107) (.const (.int .i64 8))),
      .p (some (105, true)) 109 (.idx 1 (.tmp 106) (.tmp 108)),
      .l (some (105, true)) (some 110) (.ld none (.tmp 109)),
      .p (some (105, true)) 111 (.mv (.tmp 12)),
      .p (some (105, true)) 112 (.div .rem .i64 (.tmp 111) (.const (.int .i64 8))),
      .p (some (105, true)) 113 (.shf .shr (.tmp 110) (.tmp 112)),
      .p (some (105, true)) 114 (.bin .neq .u8 (.tmp 113) (.const (.int .u8 0))),
      .p (some (101, false)) 115 (.pick (.tmp 105) (.tmp 114) (.const (.bool false))),
      .p none 116 (.pick (.tmp 101) (.const (.bool true)) (.tmp 115))])
  (.cond (.tmp 116)
    (.seq (.reg [.p none 6 (.mv (.const (.slice none 0 0))),
        .p none 7 (.mv (.const (.bool false)))])
    .ret)
    .skip))
  (.seq (.reg [.p none 117 (.mv (.tmp 11)),
      .p none 6 (.mv (.tmp 117)),
      .p none 7 (.mv (.const (.bool true)))])
  .ret))))))))
theorem C46 : compile Try.prog 118 (Try.f46.body.getD .skip) = some M46 := by kernel_rfl

/-- (*nums.Cursor).Take -/
noncomputable def M47 : MC :=
  (.seq (.reg [.l none (some 3) (.bx 3 (.tmp 1)),
      .p none 4 (.mv (.const (.slice none 0 0)))])
  (.seq (.reg [.l none (some 5) (.al 40 [(.slice none 0 0)])])
  (.seq (.reg [.p none 6 (.mv (.tmp 0)),
      .p none 7 (.mkf (.func 65) [] [(.tmp 3), (.tmp 5)]),
      .l none (some 8) (.call 64 [(.tmp 6), (.tmp 7)])])
  (.seq (.reg [.l none (some 9) (.ld none (.tmp 5)),
      .p none 4 (.mv (.tmp 9))])
  .ret))))
theorem C47 : compile Try.prog 10 (Try.f47.body.getD .skip) = some M47 := by kernel_rfl

/-- (*nums.Cursor).Rest -/
noncomputable def M48 : MC :=
  (.seq (.reg [.p none 2 (.mv (.const (.int .i64 0)))])
  (.seq (.seq (.reg [.p none 3 (.mv (.tmp 0)),
      .p none 4 (.isnil false 0 (.tmp 3)),
      .p none 5 (.mv (.tmp 4)),
      .split 5,
      .p (some (5, false)) 6 (.mv (.tmp 0)),
      .p (some (5, false)) 7 (.nilchk (.tmp 6)),
      .p (some (5, false)) 8 (.fa 2 (.tmp 7)),
      .l (some (5, false)) (some 9) (.ld none (.tmp 8)),
      .p (some (5, false)) 10 (.bin .neq .i64 (.tmp 9) (.const (.int .i64 0))),
      .p none 11 (.pick (.tmp 5) (.const (.bool true)) (.tmp 10))])
  (.cond (.tmp 11)
    (.seq (.reg [.p none 2 (.mv (.const (.int .i64 0)))])
    .ret)
    .skip))
  (.seq (.dreg (.line [.qp 0 none 12 (.mv (.tmp 0)),
      .qp 1 none 13 (.nilchk (.tmp 12)),
      .qp 2 none 14 (.fa 0 (.tmp 13)),
      .qp 5 none 17 (.mv (.tmp 0)),
      .qp 6 none 18 (.nilchk (.tmp 17)),
      .qp 7 none 19 (.fa 1 (.tmp 18)),
      .ql 8 none 20 none (.tmp 19),
      .l 3 none (some 15) (.ld none (.tmp 14)),
      .qp 4 none 16 (.len (.tmp 15)),
      .qp 9 none 21 (.bin .sub .i64 (.tmp 16) (.tmp 20)),
      .qp 10 none 2 (.mv (.tmp 21))]))
  .ret)))
theorem C48 : compile Try.prog 22 (Try.f48.body.getD .skip) = some M48 := by kernel_rfl

/-- huff.header -/
noncomputable def M57 : MC :=
  (.seq (.reg [.p none 2 (.mv (.const (.slice none 0 0)))])
  (.seq (.reg [.p none 3 (.mv (.const (.slice none 0 0)))])
  (.seq (.seq (.reg [.p none 4 (.mv (.const (.int .i64 0)))])
  (.block 0
    (.loop
      (.seq (.seq (.reg [.p none 6 (.mv (.tmp 4)),
          .p none 7 (.mv (.tmp 0)),
          .p none 8 (.len (.tmp 7)),
          .p none 9 (.bin .lss .i64 (.tmp 6) (.tmp 8))])
      (.cond (.tmp 9)
        .skip
        (.exit 0)))
      (.block 1
        (.seq (.reg [.p none 10 (.mv (.tmp 4)),
            .p none 5 (.mv (.tmp 10))])
        (.seq (.block 2
          (.loop
            (.seq (.seq (.dreg (.line [.qp 0 none 11 (.mv (.tmp 5)),
                .qp 1 none 12 (.mv (.tmp 0)),
                .qp 2 none 13 (.len (.tmp 12)),
                .qp 3 none 14 (.bin .lss .i64 (.tmp 11) (.tmp 13)),
                .qp 4 none 15 (.mv (.tmp 14)),
                .split 15,
                .qp 5 (some (15, true)) 16 (.mv (.tmp 0)),
                .qp 6 (some (15, true)) 17 (.mv (.tmp 5)),
                .qp 7 (some (15, true)) 18 (.idx 1 (.tmp 16) (.tmp 17)),
                .qp 9 (some (15, true)) 20 (.mv (.tmp 0)),
                .qp 10 (some (15, true)) 21 (.mv (.tmp 4)),
                .qp 11 (some (15, true)) 22 (.idx 1 (.tmp 20) (.tmp 21)),
                .ql 12 (some (15, true)) 23 none (.tmp 22),
                .l 8 (some (15, true)) (some 19) (.ld none (.tmp 18)),
                .qp 13 (some (15, true)) 24 (.bin .eql .i64 (.tmp 19) (.tmp 23)),
                .qp 14 none 25 (.pick (.tmp 15) (.tmp 24) (.const (.bool false)))]))
            (.cond (.tmp 25)
              .skip
              (.exit 2)))
            (.block 3
              (.reg [.p none 26 (.mv (.tmp 5)),
                  .p none 27 (.bin .add .i64 (.tmp 26) (.const (.int .i64 1))),
                  .p none 5 (.mv (.tmp 27))])))))
        (.seq (.seq (.reg [.p none 28 (.mv (.tmp 5)),
            .p none 29 (.mv (.tmp 0)),
            .p none 30 (.len (.tmp 29)),
            .p none 31 (.bin .lss .i64 (.tmp 28) (.tmp 30)),
            .p none 32 (.mv (.tmp 31)),
            .split 32,
            .p (some (32, false)) 33 (.mv (.tmp 0)),
            .p (some (32, false)) 34 (.mv (.tmp 4)),
            .p (some (32, false)) 35 (.idx 1 (.tmp 33) (.tmp 34)),
            .l (some (32, false)) (some 36) (.ld none (.tmp 35)),
            .p (some (32, false)) 37 (.bin .neq .i64 (.tmp 36) (.const (.int .i64 0))),
            .p none 38 (.pick (.tmp 32) (.const (.bool true)) (.tmp 37))])
        (.cond (.tmp 38)
          (.seq (.reg [.p none 39 (.mv (.tmp 3)),
              .p none 40 (.mv (.tmp 5)),
              .p none 41 (.mv (.tmp 4)),
              .p none 42 (.bin .sub .i64 (.tmp 40) (.tmp 41)),
              .l none (some 43) (.call 70 [(.tmp 42)]),
              .l none (some 44) (.app 5 1 1 [(.int .u8 0)] (.tmp 39) (.tmp 43)),
              .p none 3 (.mv (.tmp 44))])
          (.reg [.p none 45 (.mv (.tmp 3)),
              .p none 46 (.mv (.tmp 0)),
              .p none 47 (.mv (.tmp 4)),
              .p none 48 (.idx 1 (.tmp 46) (.tmp 47)),
              .l none (some 49) (.ld none (.tmp 48)),
              .p none 50 (.conv .u8 (.tmp 49)),
              .l none (some 51) (.bs 5 1 1 [(.int .u8 0)] [(0, 1, (.tmp 50))]),
              .l none (some 52) (.app 5 1 1 [(.int .u8 0)] (.tmp 45) (.tmp 51)),
              .p none 3 (.mv (.tmp 52))]))
          .skip))
        (.reg [.p none 53 (.mv (.tmp 5)),
            .p none 4 (.mv (.tmp 53))])))))))))
  (.seq (.reg [.p none 54 (.mv (.tmp 3)),
      .l none (some 55) (.bs 5 1 1 [(.int .u8 0)] [(0, 1, (.const (.int .u8 0)))]),
      .l none (some 56) (.app 5 1 1 [(.int .u8 0)] (.tmp 54) (.tmp 55)),
      .p none 2 (.mv (.tmp 56))])
  .ret))))
theorem C57 : compile Try.prog 57 (Try.f57.body.getD .skip) = some M57 := by kernel_rfl

/-- huff.Encode$1 -/
noncomputable def M58 : MC :=
  (.seq (.seq (.reg [.l none (some 4) (.ld none (.tmp 1)),
      .p none 5 (.div .rem .i64 (.tmp 4) (.const (.int .i64 8))),
      .p none 6 (.bin .eql .i64 (.tmp 5) (.const (.int .i64 0)))])
  (.cond (.tmp 6)
    (.reg [.l none (some 7) (.ld none (.tmp 2)),
        .l none (some 8) (.bs 5 1 1 [(.int .u8 0)] [(0, 1, (.const (.int .u8 0)))]),
        .l none (some 9) (.app 5 1 1 [(.int .u8 0)] (.tmp 7) (.tmp 8)),
        .l none none (.st 1 (.tmp 2) (.tmp 9))])
    .skip))
  (.seq (.dreg (.line [.qp 6 none 16 (.mv (.tmp 0)),
      .ql 7 none 17 none (.tmp 1),
      .qp 8 none 18 (.div .rem .i64 (.tmp 17) (.const (.int .i64 8))),
      .qp 9 none 19 (.shf .shl (.tmp 16) (.tmp 18)),
      .qp 10 none 20 (.conv .u8 (.tmp 19)),
      .ql 1 none 11 none (.tmp 2),
      .qp 2 none 12 (.len (.tmp 11)),
      .qp 3 none 13 (.bin .sub .i64 (.tmp 12) (.const (.int .i64 1))),
      .l 0 none (some 10) (.ld none (.tmp 2)),
      .qp 4 none 14 (.idx 1 (.tmp 10) (.tmp 13)),
      .l 5 none (some 15) (.ld none (.tmp 14)),
      .qp 11 none 21 (.bin .or .u8 (.tmp 15) (.tmp 20)),
      .qp 12 none 22 (.idx 1 (.tmp 10) (.tmp 13)),
      .l 13 none none (.st 1 (.tmp 22) (.tmp 21))]))
  (.reg [.l none (some 23) (.ld none (.tmp 1)),
      .p none 24 (.bin .add .i64 (.tmp 23) (.const (.int .i64 1))),
      .l none none (.st 1 (.tmp 1) (.tmp 24))])))
theorem C58 : compile Try.prog 25 (Try.f58.body.getD .skip) = some M58 := by kernel_rfl

/-- (*nums.Cursor).Num -/
noncomputable def M61 : MC :=
  (.seq (.reg [.l none (some 3) (.bx 2 (.tmp 1)),
      .p none 4 (.mv (.const (.int .i64 0)))])
  (.seq (.reg [.l none (some 5) (.al 2 [(.int .i64 0)])])
  (.seq (.reg [.p none 6 (.mv (.tmp 0)),
      .p none 7 (.mkf (.func 72) [] [(.tmp 3), (.tmp 5)]),
      .l none (some 8) (.call 64 [(.tmp 6), (.tmp 7)])])
  (.seq (.reg [.l none (some 9) (.ld none (.tmp 5)),
      .p none 4 (.mv (.tmp 9))])
  .ret))))
theorem C61 : compile Try.prog 10 (Try.f61.body.getD .skip) = some M61 := by kernel_rfl

/-- (*nums.Cursor).Fixed -/
noncomputable def M62 : MC :=
  (.seq (.reg [.l none (some 3) (.bx 3 (.tmp 1)),
      .p none 4 (.mv (.const (.int .u64 0)))])
  (.seq (.reg [.l none (some 5) (.al 95 [(.int .u64 0)])])
  (.seq (.reg [.p none 6 (.mv (.tmp 0)),
      .p none 7 (.mkf (.func 74) [] [(.tmp 3), (.tmp 5)]),
      .l none (some 8) (.call 64 [(.tmp 6), (.tmp 7)])])
  (.seq (.reg [.l none (some 9) (.ld none (.tmp 5)),
      .p none 4 (.mv (.tmp 9))])
  .ret))))
theorem C62 : compile Try.prog 10 (Try.f62.body.getD .skip) = some M62 := by kernel_rfl

/-- (*nums.Cursor).End -/
noncomputable def M63 : MC :=
  (.seq (.reg [.l none (some 2) (.al 98 [(.int .i64 0), (.int .i64 0)])])
  (.seq (.block 0
    (.seq (.reg [.p none 4 (.mv (.tmp 0)),
        .p none 5 (.isnil false 0 (.tmp 4)),
        .p none 3 (.mv (.tmp 5))])
    (.cond (.tmp 3)
      (.seq (.reg [.p none 6 (.bld [(.int .i64 0), (.int .i64 0)] [(0, 1, (.const (.int .i64 1)))]),
          .l none none (.st 2 (.tmp 2) (.tmp 6))])
      .ret)
      (.seq (.reg [.p none 8 (.mv (.tmp 0)),
          .p none 9 (.nilchk (.tmp 8)),
          .p none 10 (.fa 2 (.tmp 9)),
          .l none (some 11) (.ld none (.tmp 10)),
          .p none 12 (.bin .neq .i64 (.tmp 11) (.const (.int .i64 0))),
          .p none 7 (.mv (.tmp 12))])
      (.cond (.tmp 7)
        (.seq (.dreg (.line [.qp 0 none 13 (.mv (.tmp 0)),
            .qp 1 none 14 (.nilchk (.tmp 13)),
            .qp 2 none 15 (.fa 2 (.tmp 14)),
            .qp 4 none 17 (.mv (.tmp 0)),
            .qp 5 none 18 (.nilchk (.tmp 17)),
            .qp 6 none 19 (.fa 1 (.tmp 18)),
            .ql 7 none 20 none (.tmp 19),
            .l 3 none (some 16) (.ld none (.tmp 15)),
            .qp 8 none 21 (.bld [(.int .i64 0), (.int .i64 0)] [(0, 1, (.tmp 16)), (1, 1, (.tmp 20))]),
            .l 9 none none (.st 2 (.tmp 2) (.tmp 21))]))
        .ret)
        (.seq (.dreg (.line [.qp 0 none 23 (.mv (.tmp 0)),
            .qp 1 none 24 (.nilchk (.tmp 23)),
            .qp 2 none 25 (.fa 1 (.tmp 24)),
            .qp 4 none 27 (.mv (.tmp 0)),
            .qp 5 none 28 (.nilchk (.tmp 27)),
            .qp 6 none 29 (.fa 0 (.tmp 28)),
            .ql 7 none 30 none (.tmp 29),
            .qp 8 none 31 (.len (.tmp 30)),
            .l 3 none (some 26) (.ld none (.tmp 25)),
            .qp 9 none 32 (.bin .lss .i64 (.tmp 26) (.tmp 31)),
            .qp 10 none 22 (.mv (.tmp 32))]))
        (.cond (.tmp 22)
          (.seq (.reg [.p none 33 (.mv (.tmp 0)),
              .p none 34 (.nilchk (.tmp 33)),
              .p none 35 (.fa 1 (.tmp 34)),
              .l none (some 36) (.ld none (.tmp 35)),
              .p none 37 (.bld [(.int .i64 0), (.int .i64 0)] [(0, 1, (.const (.int .i64 22))), (1, 1, (.tmp 36))]),
              .l none none (.st 2 (.tmp 2) (.tmp 37))])
          .ret)
          .skip)))))))
  (.seq (.reg [.p none 38 (.bld [(.int .i64 0), (.int .i64 0)] []),
      .l none none (.st 2 (.tmp 2) (.tmp 38))])
  .ret)))
theorem C63 : compile Try.prog 39 (Try.f63.body.getD .skip) = some M63 := by kernel_rfl

/-- (*nums.Cursor).reads -/
noncomputable def M64 : MC :=
  (.seq (.seq (.reg [.p none 6 (.mv (.tmp 0)),
      .p none 7 (.isnil false 0 (.tmp 6)),
      .p none 8 (.mv (.tmp 7)),
      .split 8,
      .p (some (8, false)) 9 (.mv (.tmp 0)),
      .p (some (8, false)) 10 (.nilchk (.tmp 9)),
      .p (some (8, false)) 11 (.fa 2 (.tmp 10)),
      .l (some (8, false)) (some 12) (.ld none (.tmp 11)),
      .p (some (8, false)) 13 (.bin .neq .i64 (.tmp 12) (.const (.int .i64 0))),
      .p none 14 (.pick (.tmp 8) (.const (.bool true)) (.tmp 13))])
  (.cond (.tmp 14)
    .ret
    .skip))
  (.seq (.dreg (.line [.qp 0 none 16 (.mv (.tmp 1)),
      .qp 1 none 17 (.mv (.tmp 0)),
      .qp 2 none 18 (.nilchk (.tmp 17)),
      .qp 3 none 19 (.fa 0 (.tmp 18)),
      .qp 5 none 21 (.mv (.tmp 0)),
      .qp 6 none 22 (.nilchk (.tmp 21)),
      .qp 7 none 23 (.fa 1 (.tmp 22)),
      .ql 8 none 24 none (.tmp 23),
      .l 4 none (some 20) (.ld none (.tmp 19)),
      .qp 9 none 25 (.slc 1 (.tmp 20) (some (.tmp 24)) none none),
      .l 10 none (some 26) (.callv (.tmp 16) [(.tmp 25)]),
      .qp 11 none 15 (.mv (.tmp 26)),
      .qp 12 none 27 (.ext 0 (.tmp 15)),
      .qp 13 none 28 (.ext 1 (.tmp 15)),
      .qp 14 none 4 (.mv (.tmp 27)),
      .qp 15 none 5 (.mv (.tmp 28))]))
  (.seq (.seq (.reg [.p none 29 (.mv (.tmp 5)),
      .p none 30 (.bin .neq .i64 (.tmp 29) (.const (.int .i64 0)))])
  (.cond (.tmp 30)
    (.seq (.reg [.p none 31 (.mv (.tmp 0)),
        .p none 32 (.mv (.tmp 5)),
        .p none 33 (.nilchk (.tmp 31)),
        .p none 34 (.fa 2 (.tmp 33)),
        .l none none (.st 1 (.tmp 34) (.tmp 32))])
    .ret)
    .skip))
  (.reg [.p none 35 (.mv (.tmp 0)),
      .p none 36 (.nilchk (.tmp 35)),
      .p none 37 (.fa 1 (.tmp 36)),
      .l none (some 38) (.ld none (.tmp 37)),
      .p none 39 (.mv (.tmp 4)),
      .p none 40 (.bin .add .i64 (.tmp 38) (.tmp 39)),
      .p none 41 (.nilchk (.tmp 35)),
      .p none 42 (.fa 1 (.tmp 41)),
      .l none none (.st 1 (.tmp 42) (.tmp 40))]))))
theorem C64 : compile Try.prog 43 (Try.f64.body.getD .skip) = some M64 := by kernel_rfl

/-- (*nums.Cursor).Take$1 -/
noncomputable def M65 : MC :=
  (.seq (.reg [.p none 4 (.mv (.const (.int .i64 0))),
      .p none 5 (.mv (.const (.int .i64 0)))])
  (.seq (.block 0
    (.seq (.reg [.l none (some 7) (.ld none (.tmp 1)),
        .p none 8 (.bin .lss .i64 (.tmp 7) (.const (.int .i64 0))),
        .p none 6 (.mv (.tmp 8))])
    (.cond (.tmp 6)
      (.seq (.reg [.p none 4 (.mv (.const (.int .i64 0))),
          .p none 5 (.mv (.const (.int .i64 23)))])
      .ret)
      (.seq (.reg [.l none (some 10) (.ld none (.tmp 1)),
          .p none 11 (.mv (.tmp 0)),
          .p none 12 (.len (.tmp 11)),
          .p none 13 (.bin .gtr .i64 (.tmp 10) (.tmp 12)),
          .p none 9 (.mv (.tmp 13))])
      (.cond (.tmp 9)
        (.seq (.reg [.p none 4 (.mv (.const (.int .i64 0))),
            .p none 5 (.mv (.const (.int .i64 20)))])
        .ret)
        .skip)))))
  (.seq (.dreg (.line [.qp 1 none 15 (.mv (.tmp 0)),
      .ql 2 none 16 none (.tmp 1),
      .qp 3 none 17 (.slc 1 (.tmp 15) none (some (.tmp 16)) none),
      .l 0 none (some 14) (.ld none (.tmp 2)),
      .l 4 none (some 18) (.app 5 1 1 [(.int .u8 0)] (.tmp 14) (.tmp 17)),
      .l 5 none none (.st 1 (.tmp 2) (.tmp 18))]))
  (.seq (.reg [.l none (some 19) (.ld none (.tmp 1)),
      .p none 4 (.mv (.tmp 19)),
      .p none 5 (.mv (.const (.int .i64 0)))])
  .ret))))
theorem C65 : compile Try.prog 20 (Try.f65.body.getD .skip) = some M65 := by kernel_rfl

/-- nums.Put -/
noncomputable def M70 : MC :=
  (.seq (.reg [.p none 2 (.mv (.const (.slice none 0 0)))])
  (.seq (.seq (.reg [.p none 4 (.mv (.tmp 0)),
      .p none 5 (.bin .lss .i64 (.tmp 4) (.const (.int .i64 0)))])
  (.cond (.tmp 5)
    (.seq (.reg [.p none 2 (.mv (.const (.slice none 0 0)))])
    .ret)
    .skip))
  (.seq (.reg [.p none 3 (.mv (.const (.slice none 0 0)))])
  (.seq (.block 0
    (.loop
      (.seq (.seq (.reg [.p none 6 (.mv (.tmp 0)),
          .p none 7 (.bin .geq .i64 (.tmp 6) (.const (.int .i64 128)))])
      (.cond (.tmp 7)
        .skip
        (.exit 0)))
      (.block 1
        (.seq (.reg [.p none 8 (.mv (.tmp 3)),
            .p none 9 (.mv (.tmp 0)),
            .p none 10 (.conv .u8 (.tmp 9)),
            .p none 11 (.bin .or .u8 (.tmp 10) (.const (.int .u8 128))),
            .l none (some 12) (.bs 5 1 1 [(.int .u8 0)] [(0, 1, (.tmp 11))]),
            .l none (some 13) (.app 5 1 1 [(.int .u8 0)] (.tmp 8) (.tmp 12)),
            .p none 3 (.mv (.tmp 13))])
        (.reg [.p none 14 (.mv (.tmp 0)),
            .p none 15 (.shf .shr (.tmp 14) (.const (.int .u64 7))),
            .p none 0 (.mv (.tmp 15))]))))))
  (.seq (.reg [.p none 16 (.mv (.tmp 3)),
      .p none 17 (.mv (.tmp 0)),
      .p none 18 (.conv .u8 (.tmp 17)),
      .l none (some 19) (.bs 5 1 1 [(.int .u8 0)] [(0, 1, (.tmp 18))]),
      .l none (some 20) (.app 5 1 1 [(.int .u8 0)] (.tmp 16) (.tmp 19)),
      .p none 2 (.mv (.tmp 20))])
  .ret)))))
theorem C70 : compile Try.prog 21 (Try.f70.body.getD .skip) = some M70 := by kernel_rfl

/-- (*nums.Cursor).Num$1 -/
noncomputable def M72 : MC :=
  (.seq (.reg [.p none 4 (.mv (.const (.int .i64 0))),
      .p none 5 (.mv (.const (.int .i64 0)))])
  (.seq (.reg [.p none 10 (.mv (.tmp 0)),
      .l none (some 11) (.call 73 [(.tmp 10)]),
      .p none 9 (.mv (.tmp 11)),
      .p none 12 (.ext 0 (.tmp 9)),
      .p none 13 (.ext 1 (.tmp 9)),
      .p none 14 (.ext 2 (.tmp 9)),
      .p none 6 (.mv (.tmp 12)),
      .p none 7 (.mv (.tmp 13)),
      .p none 8 (.mv (.tmp 14))])
  (.seq (.seq (.reg [.p none 15 (.mv (.tmp 8)),
      .p none 16 (.bin .eql .i64 (.tmp 15) (.const (.int .i64 0))),
      .p none 17 (.mv (.tmp 16)),
      .split 17,
      .p (some (17, true)) 18 (.mv (.tmp 6)),
      .l (some (17, true)) (some 19) (.ld none (.tmp 1)),
      .p (some (17, true)) 20 (.bin .gtr .i64 (.tmp 18) (.tmp 19)),
      .p none 21 (.pick (.tmp 17) (.tmp 20) (.const (.bool false)))])
  (.cond (.tmp 21)
    (.reg [.p none 8 (.mv (.const (.int .i64 23)))])
    .skip))
  (.seq (.seq (.reg [.p none 22 (.mv (.tmp 8)),
      .p none 23 (.bin .eql .i64 (.tmp 22) (.const (.int .i64 0)))])
  (.cond (.tmp 23)
    (.reg [.p none 24 (.mv (.tmp 6)),
        .l none none (.st 1 (.tmp 2) (.tmp 24))])
    .skip))
  (.seq (.reg [.p none 25 (.mv (.tmp 7)),
      .p none 26 (.mv (.tmp 8)),
      .p none 4 (.mv (.tmp 25)),
      .p none 5 (.mv (.tmp 26))])
  .ret)))))
theorem C72 : compile Try.prog 27 (Try.f72.body.getD .skip) = some M72 := by kernel_rfl

/-- nums.Get -/
noncomputable def M73 : MC :=
  (.seq (.reg [.p none 2 (.mv (.const (.int .i64 0))),
      .p none 3 (.mv (.const (.int .i64 0))),
      .p none 4 (.mv (.const (.int .i64 0)))])
  (.seq (.reg [.p none 5 (.mv (.const (.int .i64 0)))])
  (.seq (.seq (.reg [.p none 8 (.mv (.tmp 0)),
      .p none 9 (.len (.tmp 8)),
      .p none 10 (.mv (.const (.int .i64 0)))])
  (.block 0
    (.loop
      (.seq (.reg [.p none 11 (.bin .lss .i64 (.tmp 10) (.tmp 9))])
      (.seq (.cond (.tmp 11)
        .skip
        (.exit 0))
      (.seq (.block 1
        (.seq (.reg [.p none 12 (.mv (.tmp 10)),
            .p none 13 (.idx 1 (.tmp 8) (.tmp 10)),
            .l none (some 14) (.ld none (.tmp 13)),
            .p none 6 (.mv (.tmp 12)),
            .p none 7 (.mv (.tmp 14))])
        (.seq (.seq (.reg [.p none 15 (.mv (.tmp 6)),
            .p none 16 (.bin .eql .i64 (.tmp 15) (.const (.int .i64 8))),
            .p none 17 (.mv (.tmp 16)),
            .split 17,
            .p (some (17, true)) 18 (.mv (.tmp 7)),
            .p (some (17, true)) 19 (.bin .geq .u8 (.tmp 18) (.const (.int .u8 128))),
            .p none 20 (.pick (.tmp 17) (.tmp 19) (.const (.bool false)))])
        (.cond (.tmp 20)
          (.seq (.reg [.p none 2 (.mv (.const (.int .i64 0))),
              .p none 3 (.mv (.const (.int .i64 0))),
              .p none 4 (.mv (.const (.int .i64 21)))])
          .ret)
          .skip))
        (.seq (.reg [.p none 21 (.mv (.tmp 5)),
            .p none 22 (.mv (.tmp 7)),
            .p none 23 (.bin .and .u8 (.tmp 22) (.const (.int .u8 127))),
            .p none 24 (.conv .i64 (.tmp 23)),
            .p none 25 (.mv (.tmp 6)),
            .p none 26 (.bin .mul .i64 (.const (.int .i64 7)) (.tmp 25)),
            .p none 27 (.shf .shl (.tmp 24) (.tmp 26)),
            .p none 28 (.bin .or .i64 (.tmp 21) (.tmp 27)),
            .p none 5 (.mv (.tmp 28))])
        (.seq (.reg [.p none 29 (.mv (.tmp 7)),
            .p none 30 (.bin .lss .u8 (.tmp 29) (.const (.int .u8 128)))])
        (.cond (.tmp 30)
          (.seq (.seq (.reg [.p none 31 (.mv (.tmp 7)),
              .p none 32 (.bin .eql .u8 (.tmp 31) (.const (.int .u8 0))),
              .p none 33 (.mv (.tmp 32)),
              .split 33,
              .p (some (33, true)) 34 (.mv (.tmp 6)),
              .p (some (33, true)) 35 (.bin .gtr .i64 (.tmp 34) (.const (.int .i64 0))),
              .p none 36 (.pick (.tmp 33) (.tmp 35) (.const (.bool false)))])
          (.cond (.tmp 36)
            (.seq (.reg [.p none 2 (.mv (.const (.int .i64 0))),
                .p none 3 (.mv (.const (.int .i64 0))),
                .p none 4 (.mv (.const (.int .i64 21)))])
            .ret)
            .skip))
          (.seq (.reg [.p none 37 (.mv (.tmp 5)),
              .p none 38 (.mv (.tmp 6)),
              .p none 39 (.bin .add .i64 (.tmp 38) (.const (.int .i64 1))),
              .p none 2 (.mv (.tmp 37)),
              .p none 3 (.mv (.tmp 39)),
              .p none 4 (.mv (.const (.int .i64 0)))])
          .ret))
          .skip))))))
      (.reg [.p none 40 (.bin .add .i64 (.tmp 10) (.const (.int .i64 1))),
          .p none 10 (.mv (.tmp 40))])))))))
  (.seq (.reg [.p none 2 (.mv (.const (.int .i64 0))),
      .p none 3 (.mv (.const (.int .i64 0))),
      .p none 4 (.mv (.const (.int .i64 20)))])
  .ret))))
theorem C73 : compile Try.prog 41 (Try.f73.body.getD .skip) = some M73 := by kernel_rfl

/-- (*nums.Cursor).Fixed$1 -/
noncomputable def M74 : MC :=
  (.seq (.reg [.p none 4 (.mv (.const (.int .i64 0))),
      .p none 5 (.mv (.const (.int .i64 0)))])
  (.seq (.block 0
    (.seq (.reg [.l none (some 7) (.ld none (.tmp 1)),
        .p none 8 (.bin .lss .i64 (.tmp 7) (.const (.int .i64 1))),
        .p none 9 (.mv (.tmp 8)),
        .split 9,
        .l (some (9, false)) (some 10) (.ld none (.tmp 1)),
        .p (some (9, false)) 11 (.bin .gtr .i64 (.tmp 10) (.const (.int .i64 8))),
        .p none 12 (.pick (.tmp 9) (.const (.bool true)) (.tmp 11)),
        .p none 6 (.mv (.tmp 12))])
    (.cond (.tmp 6)
      (.seq (.reg [.p none 4 (.mv (.const (.int .i64 0))),
          .p none 5 (.mv (.const (.int .i64 23)))])
      .ret)
      (.seq (.reg [.l none (some 14) (.ld none (.tmp 1)),
          .p none 15 (.mv (.tmp 0)),
          .p none 16 (.len (.tmp 15)),
          .p none 17 (.bin .gtr .i64 (.tmp 14) (.tmp 16)),
          .p none 13 (.mv (.tmp 17))])
      (.cond (.tmp 13)
        (.seq (.reg [.p none 4 (.mv (.const (.int .i64 0))),
            .p none 5 (.mv (.const (.int .i64 20)))])
        .ret)
        .skip)))))
  (.seq (.reg [.p none 18 (.mv (.tmp 0)),
      .l none (some 19) (.ld none (.tmp 1)),
      .p none 20 (.slc 1 (.tmp 18) none (some (.tmp 19)) none),
      .l none (some 21) (.call 75 [(.tmp 20)]),
      .l none none (.st 1 (.tmp 2) (.tmp 21))])
  (.seq (.reg [.l none (some 22) (.ld none (.tmp 1)),
      .p none 4 (.mv (.tmp 22)),
      .p none 5 (.mv (.const (.int .i64 0)))])
  .ret))))
theorem C74 : compile Try.prog 23 (Try.f74.body.getD .skip) = some M74 := by kernel_rfl

/-- nums.Word -/
noncomputable def M75 : MC :=
  (.seq (.reg [.p none 2 (.mv (.const (.int .u64 0)))])
  (.seq (.reg [.p none 3 (.mv (.const (.int .u64 0)))])
  (.seq (.seq (.reg [.p none 5 (.mv (.tmp 0)),
      .p none 6 (.len (.tmp 5)),
      .p none 7 (.mm false .i64 (.tmp 6) [(.const (.int .i64 8))]),
      .p none 8 (.mv (.const (.int .i64 0)))])
  (.block 0
    (.loop
      (.seq (.reg [.p none 9 (.bin .lss .i64 (.tmp 8) (.tmp 7))])
      (.seq (.cond (.tmp 9)
        .skip
        (.exit 0))
      (.seq (.block 1
        (.seq (.reg [.p none 10 (.mv (.tmp 8)),
            .p none 4 (.mv (.tmp 10))])
        (.reg [.p none 11 (.mv (.tmp 3)),
            .p none 12 (.mv (.tmp 0)),
            .p none 13 (.mv (.tmp 4)),
            .p none 14 (.idx 1 (.tmp 12) (.tmp 13)),
            .l none (some 15) (.ld none (.tmp 14)),
            .p none 16 (.conv .u64 (.tmp 15)),
            .p none 17 (.mv (.tmp 4)),
            .p none 18 (.bin .mul .i64 (.const (.int .i64 8)) (.tmp 17)),
            .p none 19 (.shf .shl (.tmp 16) (.tmp 18)),
            .p none 20 (.bin .or .u64 (.tmp 11) (.tmp 19)),
            .p none 3 (.mv (.tmp 20))])))
      (.reg [.p none 21 (.bin .add .i64 (.tmp 8) (.const (.int .i64 1))),
          .p none 8 (.mv (.tmp 21))])))))))
  (.seq (.reg [.p none 22 (.mv (.tmp 3)),
      .p none 2 (.mv (.tmp 22))])
  .ret))))
theorem C75 : compile Try.prog 23 (Try.f75.body.getD .skip) = some M75 := by kernel_rfl

/-- winnowlaw4.HuffPrefix -/
noncomputable def M10 : MC :=
  (.seq (.reg [.p none 2 (.mv (.const (.bool false)))])
  (.seq (.reg [.p none 10 (.mv (.tmp 0)),
      .l none (some 11) (.call 20 [(.tmp 10)]),
      .p none 9 (.mv (.tmp 11)),
      .p none 12 (.ext 0 (.tmp 9)),
      .p none 13 (.ext 1 (.tmp 9)),
      .p none 3 (.mv (.tmp 12)),
      .p none 4 (.mv (.tmp 13))])
  (.seq (.seq (.reg [.p none 14 (.mv (.tmp 4)),
      .p none 15 (.bin .neq .i64 (.tmp 14) (.const (.int .i64 0)))])
  (.cond (.tmp 15)
    (.seq (.reg [.p none 16 (.mv (.tmp 3)),
        .p none 17 (.len (.tmp 16)),
        .p none 18 (.bin .eql .i64 (.tmp 17) (.const (.int .i64 0))),
        .p none 19 (.mv (.tmp 18)),
        .split 19,
        .l (some (19, true)) (some 20) (.call 38 []),
        .p none 21 (.pick (.tmp 19) (.tmp 20) (.const (.bool false))),
        .p none 2 (.mv (.tmp 21))])
    .ret)
    .skip))
  (.seq (.seq (.reg [.p none 22 (.mv (.tmp 3)),
      .p none 23 (.len (.tmp 22)),
      .p none 24 (.mv (.tmp 0)),
      .p none 25 (.len (.tmp 24)),
      .p none 26 (.bin .neq .i64 (.tmp 23) (.tmp 25))])
  (.cond (.tmp 26)
    (.seq (.reg [.p none 2 (.mv (.const (.bool false)))])
    .ret)
    .skip))
  (.seq (.seq (.reg [.p none 5 (.mv (.const (.int .i64 0)))])
  (.block 0
    (.loop
      (.seq (.seq (.reg [.p none 27 (.mv (.tmp 5)),
          .p none 28 (.mv (.tmp 3)),
          .p none 29 (.len (.tmp 28)),
          .p none 30 (.bin .lss .i64 (.tmp 27) (.tmp 29))])
      (.cond (.tmp 30)
        .skip
        (.exit 0)))
      (.seq (.block 1
        (.seq (.reg [.p none 33 (.mv (.tmp 3)),
            .p none 34 (.mv (.tmp 5)),
            .p none 35 (.idx 2 (.tmp 33) (.tmp 34)),
            .l none (some 36) (.ld (some 2) (.tmp 35)),
            .l none (some 6) (.al 37 [(.int .i64 0), (.int .u32 0)]),
            .l none none (.st 2 (.tmp 6) (.tmp 36))])
        (.seq (.seq (.dreg (.line [.qp 0 none 37 (.fa 0 (.tmp 6)),
            .l 1 none (some 38) (.ld none (.tmp 37)),
            .qp 2 none 39 (.bin .lss .i64 (.tmp 38) (.const (.int .i64 0))),
            .qp 3 none 40 (.mv (.tmp 39)),
            .split 40,
            .qp 4 (some (40, false)) 41 (.fa 0 (.tmp 6)),
            .l 5 (some (40, false)) (some 42) (.ld none (.tmp 41)),
            .qp 6 (some (40, false)) 43 (.bin .gtr .i64 (.tmp 42) (.const (.int .i64 15))),
            .qp 7 none 44 (.pick (.tmp 40) (.const (.bool true)) (.tmp 43)),
            .qp 8 none 45 (.mv (.tmp 44)),
            .split 45,
            .qp 9 (some (45, false)) 46 (.fa 0 (.tmp 6)),
            .qp 11 (some (45, false)) 48 (.mv (.tmp 0)),
            .qp 12 (some (45, false)) 49 (.mv (.tmp 5)),
            .qp 13 (some (45, false)) 50 (.idx 1 (.tmp 48) (.tmp 49)),
            .ql 10 (some (45, false)) 47 none (.tmp 46),
            .l 14 (some (45, false)) (some 51) (.ld none (.tmp 50)),
            .qp 15 (some (45, false)) 52 (.bin .neq .i64 (.tmp 47) (.tmp 51)),
            .qp 16 none 53 (.pick (.tmp 45) (.const (.bool true)) (.tmp 52)),
            .qp 17 none 54 (.mv (.tmp 53)),
            .split 54,
            .qp 18 (some (54, false)) 55 (.fa 0 (.tmp 6)),
            .l 19 (some (54, false)) (some 56) (.ld none (.tmp 55)),
            .qp 20 (some (54, false)) 57 (.bin .eql .i64 (.tmp 56) (.const (.int .i64 0))),
            .qp 21 (some (54, false)) 58 (.mv (.tmp 57)),
            .split 58,
            .qp 22 (some (58, true)) 59 (.fa 1 (.tmp 6)),
            .l 23 (some (58, true)) (some 60) (.ld none (.tmp 59)),
            .qp 24 (some (58, true)) 61 (.bin .neq .u32 (.tmp 60) (.const (.int .u32 0))),
            .qp 25 (some (54, false)) 62 (.pick (.tmp 58) (.tmp 61) (.const (.bool false))),
            .qp 26 none 63 (.pick (.tmp 54) (.const (.bool true)) (.tmp 62)),
            .qp 27 none 64 (.mv (.tmp 63)),
            .split 64,
            .qp 28 (some (64, false)) 65 (.fa 1 (.tmp 6)),
            .qp 30 (some (64, false)) 67 (.fa 0 (.tmp 6)),
            .ql 31 (some (64, false)) 68 none (.tmp 67),
            .l 29 (some (64, false)) (some 66) (.ld none (.tmp 65)),
            .qp 32 (some (64, false)) 69 (.shf .shr (.tmp 66) (.tmp 68)),
            .qp 33 (some (64, false)) 70 (.bin .neq .u32 (.tmp 69) (.const (.int .u32 0))),
            .qp 34 none 71 (.pick (.tmp 64) (.const (.bool true)) (.tmp 70))]))
        (.cond (.tmp 71)
          (.seq (.reg [.p none 2 (.mv (.const (.bool false)))])
          .ret)
          .skip))
        (.seq (.reg [.p none 7 (.mv (.const (.int .i64 0)))])
        (.block 2
          (.loop
            (.seq (.seq (.reg [.p none 72 (.mv (.tmp 7)),
                .p none 73 (.mv (.tmp 3)),
                .p none 74 (.len (.tmp 73)),
                .p none 75 (.bin .lss .i64 (.tmp 72) (.tmp 74))])
            (.cond (.tmp 75)
              .skip
              (.exit 2)))
            (.seq (.block 3
              (.seq (.reg [.p none 78 (.mv (.tmp 3)),
                  .p none 79 (.mv (.tmp 7)),
                  .p none 80 (.idx 2 (.tmp 78) (.tmp 79)),
                  .l none (some 81) (.ld (some 2) (.tmp 80)),
                  .l none (some 8) (.al 37 [(.int .i64 0), (.int .u32 0)]),
                  .l none none (.st 2 (.tmp 8) (.tmp 81))])
              (.seq (.seq (.reg [.p none 82 (.mv (.tmp 5)),
                  .p none 83 (.mv (.tmp 7)),
                  .p none 84 (.bin .eql .i64 (.tmp 82) (.tmp 83)),
                  .p none 85 (.mv (.tmp 84)),
                  .split 85,
                  .p (some (85, false)) 86 (.fa 0 (.tmp 6)),
                  .l (some (85, false)) (some 87) (.ld none (.tmp 86)),
                  .p (some (85, false)) 88 (.bin .eql .i64 (.tmp 87) (.const (.int .i64 0))),
                  .p none 89 (.pick (.tmp 85) (.const (.bool true)) (.tmp 88)),
                  .p none 90 (.mv (.tmp 89)),
                  .split 90,
                  .p (some (90, false)) 91 (.fa 0 (.tmp 8)),
                  .l (some (90, false)) (some 92) (.ld none (.tmp 91)),
                  .p (some (90, false)) 93 (.fa 0 (.tmp 6)),
                  .l (some (90, false)) (some 94) (.ld none (.tmp 93)),
                  .p (some (90, false)) 95 (.bin .lss .i64 (.tmp 92) (.tmp 94)),
                  .p none 96 (.pick (.tmp 90) (.const (.bool true)) (.tmp 95))])
              (.cond (.tmp 96)
                (.exit 3)
                .skip))
              (.seq (.dreg (.line [.qp 0 none 97 (.fa 1 (.tmp 8)),
                  .qp 2 none 99 (.fa 0 (.tmp 8)),
                  .qp 4 none 101 (.fa 0 (.tmp 6)),
                  .qp 8 none 105 (.fa 1 (.tmp 6)),
                  .ql 9 none 106 none (.tmp 105),
                  .ql 5 none 102 none (.tmp 101),
                  .ql 3 none 100 none (.tmp 99),
                  .qp 6 none 103 (.bin .sub .i64 (.tmp 100) (.tmp 102)),
                  .l 1 none (some 98) (.ld none (.tmp 97)),
                  .qp 7 none 104 (.shf .shr (.tmp 98) (.tmp 103)),
                  .qp 10 none 107 (.bin .eql .u32 (.tmp 104) (.tmp 106)),
                  .qp 11 none 108 (.mv (.tmp 107)),
                  .split 108,
                  .qp 12 (some (108, false)) 109 (.fa 0 (.tmp 8)),
                  .qp 14 (some (108, false)) 111 (.fa 0 (.tmp 6)),
                  .ql 15 (some (108, false)) 112 none (.tmp 111),
                  .l 13 (some (108, false)) (some 110) (.ld none (.tmp 109)),
                  .qp 16 (some (108, false)) 113 (.bin .eql .i64 (.tmp 110) (.tmp 112)),
                  .qp 17 (some (108, false)) 114 (.mv (.tmp 113)),
                  .split 114,
                  .qp 18 (some (114, true)) 115 (.mv (.tmp 5)),
                  .qp 19 (some (114, true)) 116 (.mv (.tmp 7)),
                  .qp 20 (some (114, true)) 117 (.bin .lss .i64 (.tmp 115) (.tmp 116)),
                  .qp 21 (some (114, true)) 118 (.fa 1 (.tmp 6)),
                  .qp 23 (some (114, true)) 120 (.fa 1 (.tmp 8)),
                  .ql 24 (some (114, true)) 121 none (.tmp 120),
                  .l 22 (some (114, true)) (some 119) (.ld none (.tmp 118)),
                  .qp 25 (some (114, true)) 122 (.bin .lss .u32 (.tmp 119) (.tmp 121)),
                  .qp 26 (some (114, true)) 123 (.beq true (.tmp 117) (.tmp 122)),
                  .qp 27 (some (108, false)) 124 (.pick (.tmp 114) (.tmp 123) (.const (.bool false))),
                  .qp 28 none 125 (.pick (.tmp 108) (.const (.bool true)) (.tmp 124))]))
              (.cond (.tmp 125)
                (.seq (.reg [.p none 2 (.mv (.const (.bool false)))])
                .ret)
                .skip)))))
            (.reg [.p none 76 (.mv (.tmp 7)),
                .p none 77 (.bin .add .i64 (.tmp 76) (.const (.int .i64 1))),
                .p none 7 (.mv (.tmp 77))])))))))))
      (.reg [.p none 31 (.mv (.tmp 5)),
          .p none 32 (.bin .add .i64 (.tmp 31) (.const (.int .i64 1))),
          .p none 5 (.mv (.tmp 32))]))))))
  (.seq (.reg [.l none (some 126) (.call 38 []),
      .p none 2 (.mv (.tmp 126))])
  .ret))))))
theorem C10 : compile Try.prog 127 (Try.f10.body.getD .skip) = some M10 := by kernel_rfl

/-- winnowlaw4.HuffWhole -/
noncomputable def M11 : MC :=
  (.seq (.reg [.p none 4 (.mv (.const (.bool false)))])
  (.seq (.reg [.p none 25 (.mv (.tmp 0)),
      .l none (some 26) (.call 31 [(.tmp 25)]),
      .p none 5 (.mv (.tmp 26))])
  (.seq (.reg [.p none 27 (.mv (.tmp 5)),
      .l none (some 28) (.call 32 [(.tmp 27)]),
      .p none 6 (.mv (.tmp 28))])
  (.seq (.reg [.p none 29 (.mv (.tmp 1)),
      .p none 30 (.mv (.tmp 6)),
      .l none (some 31) (.call 33 [(.tmp 29), (.tmp 30)]),
      .p none 7 (.mv (.tmp 31))])
  (.seq (.reg [.p none 33 (.mv (.tmp 5)),
      .p none 34 (.mv (.tmp 7)),
      .l none (some 35) (.call 28 [(.tmp 33), (.tmp 34)]),
      .p none 32 (.mv (.tmp 35)),
      .p none 36 (.ext 0 (.tmp 32)),
      .p none 37 (.ext 1 (.tmp 32)),
      .p none 8 (.mv (.tmp 36)),
      .p none 9 (.mv (.tmp 37))])
  (.seq (.seq (.reg [.p none 38 (.mv (.tmp 9)),
      .p none 39 (.bin .neq .i64 (.tmp 38) (.const (.int .i64 0))),
      .p none 40 (.mv (.tmp 39)),
      .split 40,
      .p (some (40, false)) 41 (.mv (.tmp 8)),
      .p (some (40, false)) 42 (.len (.tmp 41)),
      .p (some (40, false)) 43 (.mv (.tmp 5)),
      .p (some (40, false)) 44 (.len (.tmp 43)),
      .p (some (40, false)) 45 (.bin .neq .i64 (.tmp 42) (.tmp 44)),
      .p none 46 (.pick (.tmp 40) (.const (.bool true)) (.tmp 45))])
  (.cond (.tmp 46)
    (.seq (.reg [.p none 4 (.mv (.const (.bool false)))])
    .ret)
    .skip))
  (.seq (.reg [.p none 47 (.mv (.tmp 8)),
      .l none (some 48) (.call 34 [(.tmp 47)]),
      .p none 49 (.bin .eql .i64 (.tmp 48) (.const (.int .i64 32768))),
      .p none 10 (.mv (.tmp 49))])
  (.seq (.seq (.reg [.p none 50 (.mv (.tmp 6)),
      .p none 51 (.bin .lss .i64 (.tmp 50) (.const (.int .i64 2)))])
  (.cond (.tmp 51)
    (.reg [.p none 52 (.mv (.tmp 8)),
        .l none (some 53) (.call 34 [(.tmp 52)]),
        .p none 54 (.mv (.tmp 6)),
        .p none 55 (.shf .shl (.tmp 54) (.const (.int .u64 14))),
        .p none 56 (.bin .eql .i64 (.tmp 53) (.tmp 55)),
        .p none 10 (.mv (.tmp 56))])
    .skip))
  (.seq (.seq (.reg [.p none 11 (.mv (.const (.int .i64 0)))])
  (.block 0
    (.loop
      (.seq (.seq (.reg [.p none 57 (.mv (.tmp 11)),
          .p none 58 (.mv (.tmp 5)),
          .p none 59 (.len (.tmp 58)),
          .p none 60 (.bin .lss .i64 (.tmp 57) (.tmp 59))])
      (.cond (.tmp 60)
        .skip
        (.exit 0)))
      (.seq (.block 1
        (.seq (.reg [.p none 12 (.mv (.const (.int .i64 0)))])
        (.block 2
          (.loop
            (.seq (.seq (.reg [.p none 63 (.mv (.tmp 12)),
                .p none 64 (.mv (.tmp 5)),
                .p none 65 (.len (.tmp 64)),
                .p none 66 (.bin .lss .i64 (.tmp 63) (.tmp 65))])
            (.cond (.tmp 66)
              .skip
              (.exit 2)))
            (.seq (.block 3
              (.seq (.dreg (.line [.qp 0 none 69 (.mv (.tmp 5)),
                  .qp 1 none 70 (.mv (.tmp 11)),
                  .qp 2 none 71 (.idx 1 (.tmp 69) (.tmp 70)),
                  .qp 4 none 73 (.mv (.tmp 5)),
                  .qp 5 none 74 (.mv (.tmp 12)),
                  .qp 6 none 75 (.idx 1 (.tmp 73) (.tmp 74)),
                  .ql 7 none 76 none (.tmp 75),
                  .l 3 none (some 72) (.ld none (.tmp 71)),
                  .qp 8 none 77 (.bin .gtr .i64 (.tmp 72) (.tmp 76)),
                  .qp 9 none 78 (.mv (.tmp 77)),
                  .split 78,
                  .qp 10 (some (78, true)) 79 (.mv (.tmp 5)),
                  .qp 11 (some (78, true)) 80 (.mv (.tmp 12)),
                  .qp 12 (some (78, true)) 81 (.idx 1 (.tmp 79) (.tmp 80)),
                  .l 13 (some (78, true)) (some 82) (.ld none (.tmp 81)),
                  .qp 14 (some (78, true)) 83 (.bin .gtr .i64 (.tmp 82) (.const (.int .i64 0))),
                  .qp 15 none 84 (.pick (.tmp 78) (.tmp 83) (.const (.bool false))),
                  .qp 16 none 85 (.mv (.tmp 84)),
                  .split 85,
                  .qp 17 (some (85, true)) 86 (.mv (.tmp 8)),
                  .qp 18 (some (85, true)) 87 (.mv (.tmp 11)),
                  .qp 19 (some (85, true)) 88 (.idx 1 (.tmp 86) (.tmp 87)),
                  .qp 21 (some (85, true)) 90 (.mv (.tmp 8)),
                  .qp 22 (some (85, true)) 91 (.mv (.tmp 12)),
                  .qp 23 (some (85, true)) 92 (.idx 1 (.tmp 90) (.tmp 91)),
                  .ql 24 (some (85, true)) 93 none (.tmp 92),
                  .l 20 (some (85, true)) (some 89) (.ld none (.tmp 88)),
                  .qp 25 (some (85, true)) 94 (.bin .gtr .i64 (.tmp 89) (.tmp 93)),
                  .qp 26 none 95 (.pick (.tmp 85) (.tmp 94) (.const (.bool false)))]))
              (.cond (.tmp 95)
                (.seq (.reg [.p none 4 (.mv (.const (.bool false)))])
                .ret)
                .skip)))
            (.reg [.p none 67 (.mv (.tmp 12)),
                .p none 68 (.bin .add .i64 (.tmp 67) (.const (.int .i64 1))),
                .p none 12 (.mv (.tmp 68))])))))))
      (.reg [.p none 61 (.mv (.tmp 11)),
          .p none 62 (.bin .add .i64 (.tmp 61) (.const (.int .i64 1))),
          .p none 11 (.mv (.tmp 62))]))))))
  (.seq (.reg [.p none 97 (.mv (.tmp 5)),
      .p none 98 (.mv (.tmp 8)),
      .l none (some 99) (.call 14 [(.tmp 97), (.tmp 98)]),
      .p none 96 (.mv (.tmp 99)),
      .p none 100 (.ext 0 (.tmp 96)),
      .p none 101 (.ext 1 (.tmp 96)),
      .p none 13 (.mv (.tmp 100)),
      .p none 14 (.mv (.tmp 101))])
  (.seq (.reg [.p none 103 (.mv (.tmp 5)),
      .l none (some 104) (.call 28 [(.tmp 103), (.const (.int .i64 15))]),
      .p none 102 (.mv (.tmp 104)),
      .p none 105 (.ext 0 (.tmp 102)),
      .p none 106 (.ext 1 (.tmp 102)),
      .p none 15 (.mv (.tmp 105)),
      .p none 16 (.mv (.tmp 106))])
  (.seq (.reg [.p none 108 (.mv (.tmp 5)),
      .p none 109 (.mv (.tmp 15)),
      .l none (some 110) (.call 14 [(.tmp 108), (.tmp 109)]),
      .p none 107 (.mv (.tmp 110)),
      .p none 111 (.ext 0 (.tmp 107)),
      .p none 112 (.ext 1 (.tmp 107)),
      .p none 17 (.mv (.tmp 111)),
      .p none 18 (.mv (.tmp 112))])
  (.seq (.reg [.p none 113 (.mv (.tmp 5)),
      .p none 114 (.len (.tmp 113)),
      .l none (some 115) (.mks 2 8 1 [(.int .i64 0)] (.tmp 114) (.tmp 114)),
      .p none 19 (.mv (.tmp 115))])
  (.seq (.seq (.reg [.p none 20 (.mv (.const (.int .i64 0)))])
  (.block 4
    (.loop
      (.seq (.seq (.reg [.p none 116 (.mv (.tmp 20)),
          .p none 117 (.mv (.tmp 5)),
          .p none 118 (.len (.tmp 117)),
          .p none 119 (.bin .lss .i64 (.tmp 116) (.tmp 118))])
      (.cond (.tmp 119)
        .skip
        (.exit 4)))
      (.seq (.block 5
        (.reg [.p none 122 (.mv (.tmp 19)),
            .p none 123 (.mv (.tmp 20)),
            .p none 124 (.mv (.tmp 5)),
            .p none 125 (.mv (.tmp 20)),
            .p none 126 (.idx 1 (.tmp 124) (.tmp 125)),
            .l none (some 127) (.ld none (.tmp 126)),
            .p none 128 (.bin .mul .i64 (.const (.int .i64 2)) (.tmp 127)),
            .p none 129 (.idx 1 (.tmp 122) (.tmp 123)),
            .l none none (.st 1 (.tmp 129) (.tmp 128))]))
      (.reg [.p none 120 (.mv (.tmp 20)),
          .p none 121 (.bin .add .i64 (.tmp 120) (.const (.int .i64 1))),
          .p none 20 (.mv (.tmp 121))]))))))
  (.seq (.reg [.p none 131 (.mv (.tmp 19)),
      .p none 132 (.mv (.tmp 7)),
      .l none (some 133) (.call 28 [(.tmp 131), (.tmp 132)]),
      .p none 130 (.mv (.tmp 133)),
      .p none 134 (.ext 0 (.tmp 130)),
      .p none 135 (.ext 1 (.tmp 130)),
      .p none 21 (.mv (.tmp 134)),
      .p none 22 (.mv (.tmp 135))])
  (.seq (.reg [.p none 137 (.mv (.tmp 19)),
      .p none 138 (.mv (.tmp 21)),
      .l none (some 139) (.call 14 [(.tmp 137), (.tmp 138)]),
      .p none 136 (.mv (.tmp 139)),
      .p none 140 (.ext 0 (.tmp 136)),
      .p none 141 (.ext 1 (.tmp 136)),
      .p none 23 (.mv (.tmp 140)),
      .p none 24 (.mv (.tmp 141))])
  (.seq (.reg [.p none 142 (.mv (.tmp 10)),
      .p none 143 (.mv (.tmp 142)),
      .split 143,
      .p (some (143, true)) 144 (.mv (.tmp 16)),
      .p (some (143, true)) 145 (.bin .eql .i64 (.tmp 144) (.const (.int .i64 0))),
      .p none 146 (.pick (.tmp 143) (.tmp 145) (.const (.bool false))),
      .p none 147 (.mv (.tmp 146)),
      .split 147,
      .p (some (147, true)) 148 (.mv (.tmp 22)),
      .p (some (147, true)) 149 (.bin .eql .i64 (.tmp 148) (.const (.int .i64 0))),
      .p none 150 (.pick (.tmp 147) (.tmp 149) (.const (.bool false))),
      .p none 151 (.mv (.tmp 150)),
      .split 151,
      .p (some (151, true)) 152 (.mv (.tmp 17)),
      .p (some (151, true)) 153 (.mv (.tmp 13)),
      .p (some (151, true)) 154 (.bin .leq .i64 (.tmp 152) (.tmp 153)),
      .p none 155 (.pick (.tmp 151) (.tmp 154) (.const (.bool false))),
      .p none 156 (.mv (.tmp 155)),
      .split 156,
      .p (some (156, true)) 157 (.mv (.tmp 23)),
      .p (some (156, true)) 158 (.mv (.tmp 13)),
      .p (some (156, true)) 159 (.bin .mul .i64 (.const (.int .i64 2)) (.tmp 158)),
      .p (some (156, true)) 160 (.bin .eql .i64 (.tmp 157) (.tmp 159)),
      .p none 161 (.pick (.tmp 156) (.tmp 160) (.const (.bool false))),
      .p none 162 (.mv (.tmp 161)),
      .split 162,
      .l (some (162, true)) (some 163) (.call 38 []),
      .p none 164 (.pick (.tmp 162) (.tmp 163) (.const (.bool false))),
      .p none 4 (.mv (.tmp 164))])
  .ret)))))))))))))))))
theorem C11 : compile Try.prog 165 (Try.f11.body.getD .skip) = some M11 := by kernel_rfl
end Go.Proofs.Ytojnkjnebejodaa.E
