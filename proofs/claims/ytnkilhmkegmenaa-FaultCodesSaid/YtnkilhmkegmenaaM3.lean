/- The intermediate code of the functions that are walked here, each with the proof that it is the translation of the model's code. -/
import Derived.Test.YtnkilhmkegmenaaE6
import Derived.KernelRfl
namespace Go.Proofs.Ytnkilhmkegmenaa.E
open Go


/-- winnowlaw16.FaultOnce -/
def M6 : MC :=
  (.seq (.reg [.p none 4 (.mv (.const (.bool false)))])
  (.seq (.reg [.p none 21 (.mv (.tmp 0)),
      .l none (some 22) (.call 20 [(.tmp 21)]),
      .p none 20 (.mv (.tmp 22)),
      .p none 23 (.ext 0 (.tmp 20)),
      .p none 24 (.ext 1 (.tmp 20)),
      .p none 5 (.mv (.tmp 23)),
      .p none 6 (.mv (.tmp 24))])
  (.seq (.seq (.reg [.p none 25 (.mv (.tmp 6)),
      .p none 26 (.bin .neq .i64 (.tmp 25) (.const (.int .i64 0)))])
  (.cond (.tmp 26)
    (.seq (.reg [.p none 27 (.mv (.tmp 5)),
        .p none 28 (.isnil false 0 (.tmp 27)),
        .p none 29 (.mv (.tmp 28)),
        .split 29,
        .l (some (29, true)) (some 30) (.call 29 []),
        .p none 31 (.pick (.tmp 29) (.tmp 30) (.const (.bool false))),
        .p none 4 (.mv (.tmp 31))])
    .ret)
    .skip))
  (.seq (.reg [.p none 32 (.mv (.tmp 0)),
      .p none 33 (.len (.tmp 32)),
      .l none (some 34) (.mks 4 1 1 [(.bool false)] (.tmp 33) (.tmp 33)),
      .p none 7 (.mv (.tmp 34))])
  (.seq (.reg [.p none 8 (.mv (.const (.int .i64 0)))])
  (.seq (.seq (.reg [.p none 9 (.mv (.const (.int .i64 0)))])
  (.block 0
    (.loop
      (.seq (.seq (.reg [.p none 35 (.mv (.tmp 9)),
          .p none 36 (.mv (.tmp 1)),
          .p none 37 (.len (.tmp 36)),
          .p none 38 (.bin .lss .i64 (.tmp 35) (.tmp 37))])
      (.cond (.tmp 38)
        .skip
        (.exit 0)))
      (.seq (.block 1
        (.seq (.reg [.p none 41 (.mv (.tmp 1)),
            .p none 42 (.mv (.tmp 9)),
            .p none 43 (.idx 5 (.tmp 41) (.tmp 42)),
            .l none (some 44) (.ld (some 5) (.tmp 43)),
            .l none (some 10) (.al 49 [(.int .i64 0), (.int .i64 0), (.int .i64 0), (.int .i64 0), (.int .i64 0)]),
            .l none none (.st 5 (.tmp 10) (.tmp 44))])
        (.seq (.seq (.reg [.p none 45 (.fa 0 (.tmp 10)),
            .l none (some 46) (.ld none (.tmp 45)),
            .p none 47 (.bin .eql .i64 (.tmp 46) (.const (.int .i64 0)))])
        (.cond (.tmp 47)
          (.seq (.reg [.p none 49 (.mv (.tmp 5)),
              .p none 50 (.fa 1 (.tmp 10)),
              .l none (some 51) (.ld none (.tmp 50)),
              .p none 52 (.fa 2 (.tmp 10)),
              .l none (some 53) (.ld none (.tmp 52)),
              .p none 54 (.fa 3 (.tmp 10)),
              .l none (some 55) (.ld none (.tmp 54)),
              .l none (some 56) (.call 16 [(.tmp 49), (.tmp 51), (.tmp 53), (.tmp 55)]),
              .p none 48 (.mv (.tmp 56)),
              .p none 57 (.ext 0 (.tmp 48)),
              .p none 58 (.ext 1 (.tmp 48)),
              .p none 11 (.mv (.tmp 57)),
              .p none 12 (.mv (.tmp 58))])
          (.seq (.seq (.reg [.p none 59 (.mv (.tmp 12)),
              .p none 60 (.not (.tmp 59))])
          (.cond (.tmp 60)
            (.exit 1)
            .skip))
          (.seq (.reg [.p none 61 (.mv (.tmp 0)),
              .l none (some 62) (.ld (some 5) (.tmp 10)),
              .l none (some 63) (.call 30 [(.tmp 61), (.tmp 62)]),
              .p none 13 (.mv (.tmp 63))])
          (.seq (.seq (.reg [.p none 64 (.mv (.tmp 13)),
              .p none 65 (.bin .lss .i64 (.tmp 64) (.const (.int .i64 0))),
              .p none 66 (.mv (.tmp 65)),
              .split 66,
              .p (some (66, false)) 67 (.mv (.tmp 7)),
              .p (some (66, false)) 68 (.mv (.tmp 13)),
              .p (some (66, false)) 69 (.idx 1 (.tmp 67) (.tmp 68)),
              .l (some (66, false)) (some 70) (.ld none (.tmp 69)),
              .p none 71 (.pick (.tmp 66) (.const (.bool true)) (.tmp 70)),
              .p none 72 (.mv (.tmp 71)),
              .split 72,
              .p (some (72, false)) 73 (.mv (.tmp 0)),
              .p (some (72, false)) 74 (.mv (.tmp 13)),
              .p (some (72, false)) 75 (.idx 8 (.tmp 73) (.tmp 74)),
              .p (some (72, false)) 76 (.fa 6 (.tmp 75)),
              .l (some (72, false)) (some 77) (.ld none (.tmp 76)),
              .p (some (72, false)) 78 (.mv (.tmp 11)),
              .p (some (72, false)) 79 (.bin .neq .i64 (.tmp 77) (.tmp 78)),
              .p none 80 (.pick (.tmp 72) (.const (.bool true)) (.tmp 79))])
          (.cond (.tmp 80)
            (.seq (.reg [.p none 4 (.mv (.const (.bool false)))])
            .ret)
            .skip))
          (.seq (.reg [.p none 81 (.mv (.tmp 7)),
              .p none 82 (.mv (.tmp 13)),
              .p none 83 (.idx 1 (.tmp 81) (.tmp 82)),
              .l none none (.st 1 (.tmp 83) (.const (.bool true)))])
          (.reg [.p none 84 (.mv (.tmp 8)),
              .p none 85 (.bin .add .i64 (.tmp 84) (.const (.int .i64 1))),
              .p none 8 (.mv (.tmp 85))]))))))
          .skip))
        (.seq (.reg [.p none 86 (.fa 0 (.tmp 10)),
            .l none (some 87) (.ld none (.tmp 86)),
            .p none 88 (.bin .eql .i64 (.tmp 87) (.const (.int .i64 1)))])
        (.cond (.tmp 88)
          (.seq (.reg [.p none 89 (.mv (.tmp 5)),
              .p none 90 (.fa 1 (.tmp 10)),
              .l none (some 91) (.ld none (.tmp 90)),
              .p none 92 (.fa 2 (.tmp 10)),
              .l none (some 93) (.ld none (.tmp 92)),
              .p none 94 (.fa 3 (.tmp 10)),
              .l none (some 95) (.ld none (.tmp 94)),
              .p none 96 (.fa 4 (.tmp 10)),
              .l none (some 97) (.ld none (.tmp 96)),
              .l none (some 98) (.call 17 [(.tmp 89), (.tmp 91), (.tmp 93), (.tmp 95), (.tmp 97)]),
              .p none 14 (.mv (.tmp 98))])
          (.seq (.reg [.p none 15 (.mv (.const (.int .i64 0)))])
          (.seq (.reg [.p none 16 (.mv (.const (.int .i64 0)))])
          (.block 2
            (.loop
              (.seq (.seq (.reg [.p none 99 (.mv (.tmp 16)),
                  .p none 100 (.mv (.tmp 14)),
                  .p none 101 (.len (.tmp 100)),
                  .p none 102 (.bin .lss .i64 (.tmp 99) (.tmp 101))])
              (.cond (.tmp 102)
                .skip
                (.exit 2)))
              (.seq (.block 3
                (.seq (.block 4
                  (.loop
                    (.seq (.seq (.dreg (.line [.qp 0 none 105 (.mv (.tmp 15)),
                        .qp 1 none 106 (.mv (.tmp 0)),
                        .qp 2 none 107 (.len (.tmp 106)),
                        .qp 3 none 108 (.bin .lss .i64 (.tmp 105) (.tmp 107)),
                        .qp 4 none 109 (.mv (.tmp 108)),
                        .split 109,
                        .qp 5 (some (109, true)) 110 (.mv (.tmp 0)),
                        .qp 6 (some (109, true)) 111 (.mv (.tmp 15)),
                        .qp 7 (some (109, true)) 112 (.idx 8 (.tmp 110) (.tmp 111)),
                        .qp 9 (some (109, true)) 114 (.mv (.tmp 14)),
                        .qp 10 (some (109, true)) 115 (.mv (.tmp 16)),
                        .qp 11 (some (109, true)) 116 (.idx 8 (.tmp 114) (.tmp 115)),
                        .ql 12 (some (109, true)) 117 (some 8) (.tmp 116),
                        .l 8 (some (109, true)) (some 113) (.ld (some 8) (.tmp 112)),
                        .qp 13 (some (109, true)) 118 (.aeq true [1, 1, 1, 1, 1, 1, 1, 1] (.tmp 113) (.tmp 117)),
                        .qp 14 (some (109, true)) 119 (.mv (.tmp 118)),
                        .split 119,
                        .qp 15 (some (119, false)) 120 (.mv (.tmp 7)),
                        .qp 16 (some (119, false)) 121 (.mv (.tmp 15)),
                        .qp 17 (some (119, false)) 122 (.idx 1 (.tmp 120) (.tmp 121)),
                        .l 18 (some (119, false)) (some 123) (.ld none (.tmp 122)),
                        .qp 19 (some (109, true)) 124 (.pick (.tmp 119) (.const (.bool true)) (.tmp 123)),
                        .qp 20 none 125 (.pick (.tmp 109) (.tmp 124) (.const (.bool false)))]))
                    (.cond (.tmp 125)
                      .skip
                      (.exit 4)))
                    (.block 5
                      (.reg [.p none 126 (.mv (.tmp 15)),
                          .p none 127 (.bin .add .i64 (.tmp 126) (.const (.int .i64 1))),
                          .p none 15 (.mv (.tmp 127))])))))
                (.seq (.seq (.dreg (.line [.qp 0 none 128 (.mv (.tmp 15)),
                    .qp 1 none 129 (.mv (.tmp 0)),
                    .qp 2 none 130 (.len (.tmp 129)),
                    .qp 3 none 131 (.bin .eql .i64 (.tmp 128) (.tmp 130)),
                    .qp 4 none 132 (.mv (.tmp 131)),
                    .split 132,
                    .qp 5 (some (132, false)) 133 (.mv (.tmp 14)),
                    .qp 6 (some (132, false)) 134 (.mv (.tmp 16)),
                    .qp 7 (some (132, false)) 135 (.idx 8 (.tmp 133) (.tmp 134)),
                    .qp 8 (some (132, false)) 136 (.fa 0 (.tmp 135)),
                    .l 9 (some (132, false)) (some 137) (.ld none (.tmp 136)),
                    .qp 10 (some (132, false)) 138 (.bin .eql .i64 (.tmp 137) (.const (.int .i64 0))),
                    .qp 11 none 139 (.pick (.tmp 132) (.const (.bool true)) (.tmp 138)),
                    .qp 12 none 140 (.mv (.tmp 139)),
                    .split 140,
                    .qp 13 (some (140, false)) 141 (.mv (.tmp 14)),
                    .qp 14 (some (140, false)) 142 (.mv (.tmp 16)),
                    .qp 15 (some (140, false)) 143 (.idx 8 (.tmp 141) (.tmp 142)),
                    .qp 16 (some (140, false)) 144 (.fa 2 (.tmp 143)),
                    .qp 18 (some (140, false)) 146 (.fa 1 (.tmp 10)),
                    .ql 19 (some (140, false)) 147 none (.tmp 146),
                    .l 17 (some (140, false)) (some 145) (.ld none (.tmp 144)),
                    .qp 20 (some (140, false)) 148 (.bin .neq .i64 (.tmp 145) (.tmp 147)),
                    .qp 21 none 149 (.pick (.tmp 140) (.const (.bool true)) (.tmp 148)),
                    .qp 22 none 150 (.mv (.tmp 149)),
                    .split 150,
                    .qp 23 (some (150, false)) 151 (.mv (.tmp 14)),
                    .qp 24 (some (150, false)) 152 (.mv (.tmp 16)),
                    .qp 25 (some (150, false)) 153 (.idx 8 (.tmp 151) (.tmp 152)),
                    .qp 26 (some (150, false)) 154 (.fa 3 (.tmp 153)),
                    .qp 28 (some (150, false)) 156 (.fa 2 (.tmp 10)),
                    .ql 29 (some (150, false)) 157 none (.tmp 156),
                    .l 27 (some (150, false)) (some 155) (.ld none (.tmp 154)),
                    .qp 30 (some (150, false)) 158 (.bin .neq .i64 (.tmp 155) (.tmp 157)),
                    .qp 31 none 159 (.pick (.tmp 150) (.const (.bool true)) (.tmp 158)),
                    .qp 32 none 160 (.mv (.tmp 159)),
                    .split 160,
                    .qp 33 (some (160, false)) 161 (.mv (.tmp 14)),
                    .qp 34 (some (160, false)) 162 (.mv (.tmp 16)),
                    .qp 35 (some (160, false)) 163 (.idx 8 (.tmp 161) (.tmp 162)),
                    .qp 36 (some (160, false)) 164 (.fa 4 (.tmp 163)),
                    .qp 38 (some (160, false)) 166 (.fa 3 (.tmp 10)),
                    .ql 39 (some (160, false)) 167 none (.tmp 166),
                    .l 37 (some (160, false)) (some 165) (.ld none (.tmp 164)),
                    .qp 40 (some (160, false)) 168 (.bin .neq .i64 (.tmp 165) (.tmp 167)),
                    .qp 41 none 169 (.pick (.tmp 160) (.const (.bool true)) (.tmp 168)),
                    .qp 42 none 170 (.mv (.tmp 169)),
                    .split 170,
                    .qp 43 (some (170, false)) 171 (.fa 3 (.tmp 10)),
                    .l 44 (some (170, false)) (some 172) (.ld none (.tmp 171)),
                    .qp 45 (some (170, false)) 173 (.bin .eql .i64 (.tmp 172) (.const (.int .i64 2))),
                    .qp 46 (some (170, false)) 174 (.mv (.tmp 173)),
                    .split 174,
                    .qp 47 (some (174, true)) 175 (.mv (.tmp 14)),
                    .qp 48 (some (174, true)) 176 (.mv (.tmp 16)),
                    .qp 49 (some (174, true)) 177 (.idx 8 (.tmp 175) (.tmp 176)),
                    .qp 50 (some (174, true)) 178 (.fa 5 (.tmp 177)),
                    .qp 52 (some (174, true)) 180 (.fa 4 (.tmp 10)),
                    .ql 53 (some (174, true)) 181 none (.tmp 180),
                    .l 51 (some (174, true)) (some 179) (.ld none (.tmp 178)),
                    .qp 54 (some (174, true)) 182 (.bin .neq .i64 (.tmp 179) (.tmp 181)),
                    .qp 55 (some (170, false)) 183 (.pick (.tmp 174) (.tmp 182) (.const (.bool false))),
                    .qp 56 none 184 (.pick (.tmp 170) (.const (.bool true)) (.tmp 183))]))
                (.cond (.tmp 184)
                  (.seq (.reg [.p none 4 (.mv (.const (.bool false)))])
                  .ret)
                  .skip))
                (.seq (.reg [.p none 185 (.mv (.tmp 7)),
                    .p none 186 (.mv (.tmp 15)),
                    .p none 187 (.idx 1 (.tmp 185) (.tmp 186)),
                    .l none none (.st 1 (.tmp 187) (.const (.bool true)))])
                (.reg [.p none 188 (.mv (.tmp 8)),
                    .p none 189 (.bin .add .i64 (.tmp 188) (.const (.int .i64 1))),
                    .p none 8 (.mv (.tmp 189))])))))
              (.reg [.p none 103 (.mv (.tmp 16)),
                  .p none 104 (.bin .add .i64 (.tmp 103) (.const (.int .i64 1))),
                  .p none 16 (.mv (.tmp 104))]))))))))
          .skip)))))
      (.reg [.p none 39 (.mv (.tmp 9)),
          .p none 40 (.bin .add .i64 (.tmp 39) (.const (.int .i64 1))),
          .p none 9 (.mv (.tmp 40))]))))))
  (.seq (.reg [.p none 190 (.mv (.tmp 5)),
      .l none (some 191) (.call 18 [(.tmp 190)]),
      .p none 17 (.mv (.tmp 191))])
  (.seq (.reg [.p none 18 (.mv (.const (.int .i64 0)))])
  (.seq (.seq (.reg [.p none 19 (.mv (.const (.int .i64 0)))])
  (.block 6
    (.loop
      (.seq (.seq (.reg [.p none 192 (.mv (.tmp 19)),
          .p none 193 (.mv (.tmp 0)),
          .p none 194 (.len (.tmp 193)),
          .p none 195 (.bin .lss .i64 (.tmp 192) (.tmp 194))])
      (.cond (.tmp 195)
        .skip
        (.exit 6)))
      (.seq (.block 7
        (.seq (.seq (.reg [.p none 198 (.mv (.tmp 7)),
            .p none 199 (.mv (.tmp 19)),
            .p none 200 (.idx 1 (.tmp 198) (.tmp 199)),
            .l none (some 201) (.ld none (.tmp 200))])
        (.cond (.tmp 201)
          (.exit 7)
          .skip))
        (.seq (.seq (.dreg (.line [.qp 0 none 202 (.mv (.tmp 18)),
            .qp 1 none 203 (.mv (.tmp 17)),
            .qp 2 none 204 (.len (.tmp 203)),
            .qp 3 none 205 (.bin .geq .i64 (.tmp 202) (.tmp 204)),
            .qp 4 none 206 (.mv (.tmp 205)),
            .split 206,
            .qp 5 (some (206, false)) 207 (.mv (.tmp 17)),
            .qp 6 (some (206, false)) 208 (.mv (.tmp 18)),
            .qp 7 (some (206, false)) 209 (.idx 8 (.tmp 207) (.tmp 208)),
            .qp 9 (some (206, false)) 211 (.mv (.tmp 0)),
            .qp 10 (some (206, false)) 212 (.mv (.tmp 19)),
            .qp 11 (some (206, false)) 213 (.idx 8 (.tmp 211) (.tmp 212)),
            .ql 12 (some (206, false)) 214 (some 8) (.tmp 213),
            .l 8 (some (206, false)) (some 210) (.ld (some 8) (.tmp 209)),
            .qp 13 (some (206, false)) 215 (.aeq true [1, 1, 1, 1, 1, 1, 1, 1] (.tmp 210) (.tmp 214)),
            .qp 14 none 216 (.pick (.tmp 206) (.const (.bool true)) (.tmp 215))]))
        (.cond (.tmp 216)
          (.seq (.reg [.p none 4 (.mv (.const (.bool false)))])
          .ret)
          .skip))
        (.reg [.p none 217 (.mv (.tmp 18)),
            .p none 218 (.bin .add .i64 (.tmp 217) (.const (.int .i64 1))),
            .p none 18 (.mv (.tmp 218))]))))
      (.reg [.p none 196 (.mv (.tmp 19)),
          .p none 197 (.bin .add .i64 (.tmp 196) (.const (.int .i64 1))),
          .p none 19 (.mv (.tmp 197))]))))))
  (.seq (.reg [.p none 219 (.mv (.tmp 18)),
      .p none 220 (.mv (.tmp 17)),
      .p none 221 (.len (.tmp 220)),
      .p none 222 (.bin .eql .i64 (.tmp 219) (.tmp 221)),
      .p none 223 (.mv (.tmp 222)),
      .split 223,
      .p (some (223, true)) 224 (.mv (.tmp 8)),
      .p (some (223, true)) 225 (.mv (.tmp 18)),
      .p (some (223, true)) 226 (.bin .add .i64 (.tmp 224) (.tmp 225)),
      .p (some (223, true)) 227 (.mv (.tmp 0)),
      .p (some (223, true)) 228 (.len (.tmp 227)),
      .p (some (223, true)) 229 (.bin .eql .i64 (.tmp 226) (.tmp 228)),
      .p none 230 (.pick (.tmp 223) (.tmp 229) (.const (.bool false))),
      .p none 231 (.mv (.tmp 230)),
      .split 231,
      .l (some (231, true)) (some 232) (.call 29 []),
      .p none 233 (.pick (.tmp 231) (.tmp 232) (.const (.bool false))),
      .p none 4 (.mv (.tmp 233))])
  .ret))))))))))
theorem C6 : compile Try.prog 234 (Try.f6.body.getD .skip) = some M6 := by kernel_rfl

/-- (*fault.Plan).Stop -/
def M16 : MC :=
  (.seq (.reg [.p none 8 (.mv (.const (.int .i64 0))),
      .p none 9 (.mv (.const (.bool false)))])
  (.seq (.reg [.p none 12 (.mv (.tmp 1)),
      .p none 13 (.mv (.tmp 2)),
      .p none 14 (.mv (.tmp 3)),
      .p none 15 (.bld [(.int .i64 0), (.int .i64 0), (.int .i64 0), (.int .i64 0)] [(0, 1, (.const (.int .i64 0))), (1, 1, (.tmp 12)), (2, 1, (.tmp 13)), (3, 1, (.tmp 14))]),
      .l none (some 10) (.al 68 [(.int .i64 0), (.int .i64 0), (.int .i64 0), (.int .i64 0)]),
      .l none none (.st 4 (.tmp 10) (.tmp 15))])
  (.seq (.reg [.p none 16 (.mv (.tmp 0)),
      .p none 17 (.mkf (.func 40) [] [(.tmp 10)]),
      .l none (some 18) (.call 39 [(.tmp 16), (.tmp 17)]),
      .p none 11 (.mv (.tmp 18))])
  (.seq (.seq (.reg [.p none 19 (.mv (.tmp 11)),
      .p none 20 (.len (.tmp 19)),
      .p none 21 (.bin .eql .i64 (.tmp 20) (.const (.int .i64 0)))])
  (.cond (.tmp 21)
    (.seq (.reg [.p none 8 (.mv (.const (.int .i64 0))),
        .p none 9 (.mv (.const (.bool false)))])
    .ret)
    .skip))
  (.seq (.reg [.p none 22 (.mv (.tmp 11)),
      .p none 23 (.idx 8 (.tmp 22) (.const (.int .i64 0))),
      .p none 24 (.fa 6 (.tmp 23)),
      .l none (some 25) (.ld none (.tmp 24)),
      .p none 8 (.mv (.tmp 25)),
      .p none 9 (.mv (.const (.bool true)))])
  .ret)))))
theorem C16 : compile Try.prog 26 (Try.f16.body.getD .skip) = some M16 := by kernel_rfl

/-- (*fault.Plan).Due -/
def M17 : MC :=
  (.seq (.reg [.l none (some 6) (.bx 3 (.tmp 1)),
      .l none (some 7) (.bx 3 (.tmp 2)),
      .l none (some 8) (.bx 3 (.tmp 3)),
      .l none (some 9) (.bx 3 (.tmp 4)),
      .p none 10 (.mv (.const (.slice none 0 0)))])
  (.seq (.reg [.p none 11 (.mv (.tmp 0)),
      .p none 12 (.mkf (.func 42) [] [(.tmp 6), (.tmp 7), (.tmp 8), (.tmp 9)]),
      .l none (some 13) (.call 39 [(.tmp 11), (.tmp 12)]),
      .p none 10 (.mv (.tmp 13))])
  .ret))
theorem C17 : compile Try.prog 14 (Try.f17.body.getD .skip) = some M17 := by kernel_rfl

/-- (*fault.Plan).Left -/
def M18 : MC :=
  (.seq (.reg [.p none 2 (.mv (.const (.slice none 0 0)))])
  (.seq (.seq (.reg [.p none 3 (.mv (.tmp 0)),
      .p none 4 (.isnil false 0 (.tmp 3))])
  (.cond (.tmp 4)
    (.seq (.reg [.p none 2 (.mv (.const (.slice none 0 0)))])
    .ret)
    .skip))
  (.seq (.reg [.l none (some 5) (.bs 25 0 8 [] []),
      .p none 6 (.mv (.tmp 0)),
      .p none 7 (.nilchk (.tmp 6)),
      .p none 8 (.fa 0 (.tmp 7)),
      .l none (some 9) (.ld none (.tmp 8)),
      .l none (some 10) (.app 25 64 8 [(.int .i64 0), (.int .i64 0), (.int .i64 0), (.int .i64 0), (.int .i64 0), (.int .i64 0), (.int .i64 0), (.int .u32 0)] (.tmp 5) (.tmp 9)),
      .p none 2 (.mv (.tmp 10))])
  .ret)))
theorem C18 : compile Try.prog 11 (Try.f18.body.getD .skip) = some M18 := by kernel_rfl

/-- fault.New -/
def M20 : MC :=
  (.seq (.reg [.p none 2 (.mv (.const (.pointer none))),
      .p none 3 (.mv (.const (.int .i64 0)))])
  (.seq (.seq (.reg [.p none 5 (.mv (.tmp 0)),
      .l none (some 6) (.call 35 [(.tmp 5)]),
      .p none 4 (.mv (.tmp 6))])
  (.seq (.reg [.p none 7 (.mv (.tmp 4)),
      .p none 8 (.bin .neq .i64 (.tmp 7) (.const (.int .i64 0)))])
  (.cond (.tmp 8)
    (.seq (.reg [.p none 9 (.mv (.tmp 4)),
        .p none 2 (.mv (.const (.pointer none))),
        .p none 3 (.mv (.tmp 9))])
    .ret)
    .skip)))
  (.seq (.reg [.l none (some 10) (.bs 25 0 8 [] []),
      .p none 11 (.mv (.tmp 0)),
      .l none (some 12) (.app 25 64 8 [(.int .i64 0), (.int .i64 0), (.int .i64 0), (.int .i64 0), (.int .i64 0), (.int .i64 0), (.int .i64 0), (.int .u32 0)] (.tmp 10) (.tmp 11)),
      .p none 13 (.bld [(.slice none 0 0)] [(0, 1, (.tmp 12))]),
      .l none (some 14) (.bx 72 (.tmp 13)),
      .p none 2 (.mv (.tmp 14)),
      .p none 3 (.mv (.const (.int .i64 0)))])
  .ret)))
theorem C20 : compile Try.prog 15 (Try.f20.body.getD .skip) = some M20 := by kernel_rfl

/-- winnowlaw16.works -/
def M29 : MC :=
  (.seq (.reg [.p none 0 (.mv (.const (.bool false)))])
  (.seq (.reg [.p none 9 (.bld [(.int .i64 0), (.int .i64 0), (.int .i64 0), (.int .i64 0), (.int .i64 0), (.int .i64 0), (.int .i64 0), (.int .u32 0)] [(0, 1, (.const (.int .i64 0))), (2, 1, (.const (.int .i64 1))), (3, 1, (.const (.int .i64 1))), (6, 1, (.const (.int .i64 9)))]),
      .l none (some 10) (.bs 25 1 8 [(.int .i64 0), (.int .i64 0), (.int .i64 0), (.int .i64 0), (.int .i64 0), (.int .i64 0), (.int .i64 0), (.int .u32 0)] [(0, 8, (.tmp 9))]),
      .l none (some 11) (.call 20 [(.tmp 10)]),
      .p none 8 (.mv (.tmp 11)),
      .p none 12 (.ext 0 (.tmp 8)),
      .p none 13 (.ext 1 (.tmp 8)),
      .p none 1 (.mv (.tmp 12)),
      .p none 2 (.mv (.tmp 13))])
  (.seq (.reg [.p none 15 (.mv (.tmp 1)),
      .l none (some 16) (.call 16 [(.tmp 15), (.const (.int .i64 0)), (.const (.int .i64 1)), (.const (.int .i64 1))]),
      .p none 14 (.mv (.tmp 16)),
      .p none 17 (.ext 0 (.tmp 14)),
      .p none 18 (.ext 1 (.tmp 14)),
      .p none 3 (.mv (.tmp 17)),
      .p none 4 (.mv (.tmp 18))])
  (.seq (.reg [.p none 20 (.mv (.tmp 1)),
      .l none (some 21) (.call 16 [(.tmp 20), (.const (.int .i64 0)), (.const (.int .i64 1)), (.const (.int .i64 1))]),
      .p none 19 (.mv (.tmp 21)),
      .p none 22 (.ext 0 (.tmp 19)),
      .p none 23 (.ext 1 (.tmp 19)),
      .p none 5 (.mv (.tmp 22)),
      .p none 6 (.mv (.tmp 23))])
  (.seq (.reg [.l none (some 24) (.bs 5 1 1 [(.int .u8 0)] [(0, 1, (.const (.int .u8 0)))]),
      .p none 25 (.bld [(.int .i64 0), (.int .i64 0), (.int .i64 0), (.int .i64 0), (.int .i64 0), (.int .i64 0), (.int .i64 0), (.int .u32 0)] [(0, 1, (.const (.int .i64 1))), (3, 1, (.const (.int .i64 1))), (6, 1, (.const (.int .i64 3))), (7, 1, (.const (.int .u32 1)))]),
      .l none (some 26) (.call 11 [(.tmp 24), (.tmp 25)]),
      .p none 7 (.mv (.tmp 26))])
  (.seq (.reg [.p none 27 (.mv (.tmp 2)),
      .p none 28 (.bin .eql .i64 (.tmp 27) (.const (.int .i64 0))),
      .p none 29 (.mv (.tmp 28)),
      .split 29,
      .p (some (29, true)) 30 (.mv (.tmp 4)),
      .p none 31 (.pick (.tmp 29) (.tmp 30) (.const (.bool false))),
      .p none 32 (.mv (.tmp 31)),
      .split 32,
      .p (some (32, true)) 33 (.mv (.tmp 6)),
      .p (some (32, true)) 34 (.not (.tmp 33)),
      .p none 35 (.pick (.tmp 32) (.tmp 34) (.const (.bool false))),
      .p none 36 (.mv (.tmp 35)),
      .split 36,
      .p (some (36, true)) 37 (.mv (.tmp 3)),
      .p (some (36, true)) 38 (.bin .eql .i64 (.tmp 37) (.const (.int .i64 9))),
      .p none 39 (.pick (.tmp 36) (.tmp 38) (.const (.bool false))),
      .p none 40 (.mv (.tmp 39)),
      .split 40,
      .p (some (40, true)) 41 (.mv (.tmp 7)),
      .l (some (40, true)) (some 42) (.bs 5 1 1 [(.int .u8 0)] [(0, 1, (.const (.int .u8 8)))]),
      .l (some (40, true)) (some 43) (.call 14 [(.tmp 41), (.tmp 42)]),
      .p none 44 (.pick (.tmp 40) (.tmp 43) (.const (.bool false))),
      .p none 0 (.mv (.tmp 44))])
  .ret))))))
theorem C29 : compile Try.prog 45 (Try.f29.body.getD .skip) = some M29 := by kernel_rfl

/-- winnowlaw16.stopAt -/
def M30 : MC :=
  (.seq (.reg [.l none (some 3) (.bx 49 (.tmp 1)),
      .p none 4 (.mv (.const (.int .i64 0)))])
  (.seq (.seq (.reg [.p none 5 (.mv (.const (.int .i64 0)))])
  (.block 0
    (.loop
      (.seq (.seq (.reg [.p none 6 (.mv (.tmp 5)),
          .p none 7 (.mv (.tmp 0)),
          .p none 8 (.len (.tmp 7)),
          .p none 9 (.bin .lss .i64 (.tmp 6) (.tmp 8))])
      (.cond (.tmp 9)
        .skip
        (.exit 0)))
      (.seq (.block 1
        (.seq (.dreg (.line [.qp 0 none 12 (.mv (.tmp 0)),
            .qp 1 none 13 (.mv (.tmp 5)),
            .qp 2 none 14 (.idx 8 (.tmp 12) (.tmp 13)),
            .qp 3 none 15 (.fa 0 (.tmp 14)),
            .l 4 none (some 16) (.ld none (.tmp 15)),
            .qp 5 none 17 (.bin .eql .i64 (.tmp 16) (.const (.int .i64 0))),
            .qp 6 none 18 (.mv (.tmp 17)),
            .split 18,
            .qp 7 (some (18, true)) 19 (.mv (.tmp 0)),
            .qp 8 (some (18, true)) 20 (.mv (.tmp 5)),
            .qp 9 (some (18, true)) 21 (.idx 8 (.tmp 19) (.tmp 20)),
            .qp 10 (some (18, true)) 22 (.fa 1 (.tmp 21)),
            .qp 12 (some (18, true)) 24 (.fa 1 (.tmp 3)),
            .ql 13 (some (18, true)) 25 none (.tmp 24),
            .l 11 (some (18, true)) (some 23) (.ld none (.tmp 22)),
            .qp 14 (some (18, true)) 26 (.bin .eql .i64 (.tmp 23) (.tmp 25)),
            .qp 15 none 27 (.pick (.tmp 18) (.tmp 26) (.const (.bool false))),
            .qp 16 none 28 (.mv (.tmp 27)),
            .split 28,
            .qp 17 (some (28, true)) 29 (.mv (.tmp 0)),
            .qp 18 (some (28, true)) 30 (.mv (.tmp 5)),
            .qp 19 (some (28, true)) 31 (.idx 8 (.tmp 29) (.tmp 30)),
            .qp 20 (some (28, true)) 32 (.fa 2 (.tmp 31)),
            .qp 22 (some (28, true)) 34 (.fa 2 (.tmp 3)),
            .ql 23 (some (28, true)) 35 none (.tmp 34),
            .l 21 (some (28, true)) (some 33) (.ld none (.tmp 32)),
            .qp 24 (some (28, true)) 36 (.bin .eql .i64 (.tmp 33) (.tmp 35)),
            .qp 25 none 37 (.pick (.tmp 28) (.tmp 36) (.const (.bool false))),
            .qp 26 none 38 (.mv (.tmp 37)),
            .split 38,
            .qp 27 (some (38, true)) 39 (.mv (.tmp 0)),
            .qp 28 (some (38, true)) 40 (.mv (.tmp 5)),
            .qp 29 (some (38, true)) 41 (.idx 8 (.tmp 39) (.tmp 40)),
            .qp 30 (some (38, true)) 42 (.fa 3 (.tmp 41)),
            .qp 32 (some (38, true)) 44 (.fa 3 (.tmp 3)),
            .ql 33 (some (38, true)) 45 none (.tmp 44),
            .l 31 (some (38, true)) (some 43) (.ld none (.tmp 42)),
            .qp 34 (some (38, true)) 46 (.bin .eql .i64 (.tmp 43) (.tmp 45)),
            .qp 35 none 47 (.pick (.tmp 38) (.tmp 46) (.const (.bool false)))]))
        (.cond (.tmp 47)
          (.seq (.reg [.p none 48 (.mv (.tmp 5)),
              .p none 4 (.mv (.tmp 48))])
          .ret)
          .skip)))
      (.reg [.p none 10 (.mv (.tmp 5)),
          .p none 11 (.bin .add .i64 (.tmp 10) (.const (.int .i64 1))),
          .p none 5 (.mv (.tmp 11))]))))))
  (.seq (.reg [.p none 4 (.mv (.const (.int .i64 (-1))))])
  .ret)))
theorem C30 : compile Try.prog 49 (Try.f30.body.getD .skip) = some M30 := by kernel_rfl

/-- (*fault.Plan).take -/
def M39 : MC :=
  (.seq (.reg [.p none 4 (.mv (.const (.slice none 0 0)))])
  (.seq (.seq (.reg [.p none 9 (.mv (.tmp 0)),
      .p none 10 (.isnil false 0 (.tmp 9))])
  (.cond (.tmp 10)
    (.seq (.reg [.p none 4 (.mv (.const (.slice none 0 0)))])
    .ret)
    .skip))
  (.seq (.reg [.p none 5 (.mv (.const (.slice none 0 0))),
      .p none 6 (.mv (.const (.slice none 0 0)))])
  (.seq (.seq (.reg [.p none 11 (.mv (.tmp 0)),
      .p none 12 (.nilchk (.tmp 11)),
      .p none 13 (.fa 0 (.tmp 12)),
      .l none (some 14) (.ld none (.tmp 13)),
      .p none 15 (.len (.tmp 14)),
      .p none 16 (.mv (.const (.int .i64 0)))])
  (.block 0
    (.loop
      (.seq (.reg [.p none 17 (.bin .lss .i64 (.tmp 16) (.tmp 15))])
      (.seq (.cond (.tmp 17)
        .skip
        (.exit 0))
      (.seq (.block 1
        (.seq (.reg [.p none 18 (.idx 8 (.tmp 14) (.tmp 16)),
            .l none (some 19) (.ld (some 8) (.tmp 18)),
            .l none (some 8) (.al 25 [(.int .i64 0), (.int .i64 0), (.int .i64 0), (.int .i64 0), (.int .i64 0), (.int .i64 0), (.int .i64 0), (.int .u32 0)]),
            .l none none (.st 8 (.tmp 8) (.tmp 19))])
        (.seq (.reg [.p none 20 (.mv (.tmp 1)),
            .l none (some 21) (.ld (some 8) (.tmp 8)),
            .l none (some 22) (.callv (.tmp 20) [(.tmp 21)])])
        (.cond (.tmp 22)
          (.reg [.p none 23 (.mv (.tmp 5)),
              .l none (some 24) (.ld (some 8) (.tmp 8)),
              .l none (some 25) (.bs 25 1 8 [(.int .i64 0), (.int .i64 0), (.int .i64 0), (.int .i64 0), (.int .i64 0), (.int .i64 0), (.int .i64 0), (.int .u32 0)] [(0, 8, (.tmp 24))]),
              .l none (some 26) (.app 25 64 8 [(.int .i64 0), (.int .i64 0), (.int .i64 0), (.int .i64 0), (.int .i64 0), (.int .i64 0), (.int .i64 0), (.int .u32 0)] (.tmp 23) (.tmp 25)),
              .p none 5 (.mv (.tmp 26))])
          (.reg [.p none 27 (.mv (.tmp 6)),
              .l none (some 28) (.ld (some 8) (.tmp 8)),
              .l none (some 29) (.bs 25 1 8 [(.int .i64 0), (.int .i64 0), (.int .i64 0), (.int .i64 0), (.int .i64 0), (.int .i64 0), (.int .i64 0), (.int .u32 0)] [(0, 8, (.tmp 28))]),
              .l none (some 30) (.app 25 64 8 [(.int .i64 0), (.int .i64 0), (.int .i64 0), (.int .i64 0), (.int .i64 0), (.int .i64 0), (.int .i64 0), (.int .u32 0)] (.tmp 27) (.tmp 29)),
              .p none 6 (.mv (.tmp 30))])))))
      (.reg [.p none 31 (.bin .add .i64 (.tmp 16) (.const (.int .i64 1))),
          .p none 16 (.mv (.tmp 31))])))))))
  (.seq (.reg [.p none 32 (.mv (.tmp 0)),
      .p none 33 (.mv (.tmp 6)),
      .p none 34 (.nilchk (.tmp 32)),
      .p none 35 (.fa 0 (.tmp 34)),
      .l none none (.st 1 (.tmp 35) (.tmp 33))])
  (.seq (.reg [.p none 36 (.mv (.tmp 5)),
      .p none 4 (.mv (.tmp 36))])
  .ret))))))
theorem C39 : compile Try.prog 37 (Try.f39.body.getD .skip) = some M39 := by kernel_rfl

/-- (*fault.Plan).Stop$1 -/
def M40 : MC :=
  (.seq (.reg [.l none (some 2) (.bx 25 (.tmp 0)),
      .p none 3 (.mv (.const (.bool false)))])
  (.seq (.dreg (.line [.ql 2 none 6 (some 4) (.tmp 1),
      .l 0 none (some 4) (.ld (some 8) (.tmp 2)),
      .l 1 none (some 5) (.call 41 [(.tmp 4)]),
      .qp 3 none 7 (.aeq false [1, 1, 1, 1] (.tmp 5) (.tmp 6)),
      .qp 4 none 3 (.mv (.tmp 7))]))
  .ret))
theorem C40 : compile Try.prog 8 (Try.f40.body.getD .skip) = some M40 := by kernel_rfl

/-- (*fault.Plan).Due$1 -/
def M42 : MC :=
  (.seq (.reg [.l none (some 5) (.bx 25 (.tmp 0)),
      .p none 6 (.mv (.const (.bool false)))])
  (.seq (.reg [.p none 7 (.fa 0 (.tmp 5)),
      .l none (some 8) (.ld none (.tmp 7)),
      .p none 9 (.bin .neq .i64 (.tmp 8) (.const (.int .i64 0))),
      .p none 10 (.mv (.tmp 9)),
      .split 10,
      .p (some (10, true)) 11 (.fa 2 (.tmp 5)),
      .l (some (10, true)) (some 12) (.ld none (.tmp 11)),
      .l (some (10, true)) (some 13) (.ld none (.tmp 1)),
      .p (some (10, true)) 14 (.bin .eql .i64 (.tmp 12) (.tmp 13)),
      .p none 15 (.pick (.tmp 10) (.tmp 14) (.const (.bool false))),
      .p none 16 (.mv (.tmp 15)),
      .split 16,
      .p (some (16, true)) 17 (.fa 3 (.tmp 5)),
      .l (some (16, true)) (some 18) (.ld none (.tmp 17)),
      .l (some (16, true)) (some 19) (.ld none (.tmp 2)),
      .p (some (16, true)) 20 (.bin .eql .i64 (.tmp 18) (.tmp 19)),
      .p none 21 (.pick (.tmp 16) (.tmp 20) (.const (.bool false))),
      .p none 22 (.mv (.tmp 21)),
      .split 22,
      .p (some (22, true)) 23 (.fa 4 (.tmp 5)),
      .l (some (22, true)) (some 24) (.ld none (.tmp 23)),
      .l (some (22, true)) (some 25) (.ld none (.tmp 3)),
      .p (some (22, true)) 26 (.bin .eql .i64 (.tmp 24) (.tmp 25)),
      .p none 27 (.pick (.tmp 22) (.tmp 26) (.const (.bool false))),
      .p none 28 (.mv (.tmp 27)),
      .split 28,
      .l (some (28, true)) (some 29) (.ld none (.tmp 3)),
      .p (some (28, true)) 30 (.bin .neq .i64 (.tmp 29) (.const (.int .i64 2))),
      .p (some (28, true)) 31 (.mv (.tmp 30)),
      .split 31,
      .p (some (31, false)) 32 (.fa 5 (.tmp 5)),
      .l (some (31, false)) (some 33) (.ld none (.tmp 32)),
      .l (some (31, false)) (some 34) (.ld none (.tmp 4)),
      .p (some (31, false)) 35 (.bin .eql .i64 (.tmp 33) (.tmp 34)),
      .p (some (28, true)) 36 (.pick (.tmp 31) (.const (.bool true)) (.tmp 35)),
      .p none 37 (.pick (.tmp 28) (.tmp 36) (.const (.bool false))),
      .p none 6 (.mv (.tmp 37))])
  .ret))
theorem C42 : compile Try.prog 38 (Try.f42.body.getD .skip) = some M42 := by kernel_rfl

/-- winnowlaw16.FaultClass -/
def M5 : MC :=
  (.seq (.reg [.l none (some 3) (.bx 25 (.tmp 1)),
      .p none 4 (.mv (.const (.bool false)))])
  (.seq (.reg [.p none 11 (.mv (.tmp 0)),
      .l none (some 12) (.ld (some 8) (.tmp 3)),
      .l none (some 13) (.call 11 [(.tmp 11), (.tmp 12)]),
      .p none 5 (.mv (.tmp 13))])
  (.seq (.seq (.reg [.l none (some 14) (.ld (some 8) (.tmp 3)),
      .l none (some 15) (.bs 25 1 8 [(.int .i64 0), (.int .i64 0), (.int .i64 0), (.int .i64 0), (.int .i64 0), (.int .i64 0), (.int .i64 0), (.int .u32 0)] [(0, 8, (.tmp 14))]),
      .l none (some 16) (.call 28 [(.tmp 15)]),
      .p none 17 (.bin .neq .i64 (.tmp 16) (.const (.int .i64 0))),
      .p none 18 (.mv (.tmp 17)),
      .split 18,
      .p (some (18, false)) 19 (.fa 0 (.tmp 3)),
      .l (some (18, false)) (some 20) (.ld none (.tmp 19)),
      .p (some (18, false)) 21 (.bin .eql .i64 (.tmp 20) (.const (.int .i64 0))),
      .p none 22 (.pick (.tmp 18) (.const (.bool true)) (.tmp 21))])
  (.cond (.tmp 22)
    (.seq (.reg [.p none 23 (.mv (.tmp 5)),
        .p none 24 (.mv (.tmp 0)),
        .l none (some 25) (.call 14 [(.tmp 23), (.tmp 24)]),
        .p none 26 (.mv (.tmp 25)),
        .split 26,
        .l (some (26, true)) (some 27) (.call 29 []),
        .p none 28 (.pick (.tmp 26) (.tmp 27) (.const (.bool false))),
        .p none 4 (.mv (.tmp 28))])
    .ret)
    .skip))
  (.seq (.seq (.reg [.p none 29 (.fa 0 (.tmp 3)),
      .l none (some 30) (.ld none (.tmp 29)),
      .p none 31 (.bin .eql .i64 (.tmp 30) (.const (.int .i64 2)))])
  (.cond (.tmp 31)
    (.seq (.reg [.p none 32 (.mv (.tmp 0)),
        .p none 33 (.len (.tmp 32)),
        .p none 34 (.fa 6 (.tmp 3)),
        .l none (some 35) (.ld none (.tmp 34)),
        .p none 36 (.bin .add .i64 (.tmp 33) (.tmp 35)),
        .p none 37 (.mm true .i64 (.tmp 36) [(.const (.int .i64 0))]),
        .p none 6 (.mv (.tmp 37))])
    (.seq (.seq (.reg [.p none 38 (.mv (.tmp 5)),
        .p none 39 (.len (.tmp 38)),
        .p none 40 (.mv (.tmp 6)),
        .p none 41 (.bin .neq .i64 (.tmp 39) (.tmp 40))])
    (.cond (.tmp 41)
      (.seq (.reg [.p none 4 (.mv (.const (.bool false)))])
      .ret)
      .skip))
    (.seq (.seq (.reg [.p none 7 (.mv (.const (.int .i64 0)))])
    (.block 0
      (.loop
        (.seq (.seq (.reg [.p none 42 (.mv (.tmp 7)),
            .p none 43 (.mv (.tmp 5)),
            .p none 44 (.len (.tmp 43)),
            .p none 45 (.bin .lss .i64 (.tmp 42) (.tmp 44))])
        (.cond (.tmp 45)
          .skip
          (.exit 0)))
        (.seq (.block 1
          (.seq (.dreg (.line [.qp 0 none 48 (.mv (.tmp 7)),
              .qp 1 none 49 (.mv (.tmp 0)),
              .qp 2 none 50 (.len (.tmp 49)),
              .qp 3 none 51 (.bin .lss .i64 (.tmp 48) (.tmp 50)),
              .qp 4 none 52 (.mv (.tmp 51)),
              .split 52,
              .qp 5 (some (52, true)) 53 (.mv (.tmp 5)),
              .qp 6 (some (52, true)) 54 (.mv (.tmp 7)),
              .qp 7 (some (52, true)) 55 (.idx 1 (.tmp 53) (.tmp 54)),
              .qp 9 (some (52, true)) 57 (.mv (.tmp 0)),
              .qp 10 (some (52, true)) 58 (.mv (.tmp 7)),
              .qp 11 (some (52, true)) 59 (.idx 1 (.tmp 57) (.tmp 58)),
              .ql 12 (some (52, true)) 60 none (.tmp 59),
              .l 8 (some (52, true)) (some 56) (.ld none (.tmp 55)),
              .qp 13 (some (52, true)) 61 (.bin .neq .u8 (.tmp 56) (.tmp 60)),
              .qp 14 none 62 (.pick (.tmp 52) (.tmp 61) (.const (.bool false))),
              .qp 15 none 63 (.mv (.tmp 62)),
              .split 63,
              .qp 16 (some (63, false)) 64 (.mv (.tmp 7)),
              .qp 17 (some (63, false)) 65 (.mv (.tmp 0)),
              .qp 18 (some (63, false)) 66 (.len (.tmp 65)),
              .qp 19 (some (63, false)) 67 (.bin .geq .i64 (.tmp 64) (.tmp 66)),
              .qp 20 (some (63, false)) 68 (.mv (.tmp 67)),
              .split 68,
              .qp 21 (some (68, true)) 69 (.mv (.tmp 5)),
              .qp 22 (some (68, true)) 70 (.mv (.tmp 7)),
              .qp 23 (some (68, true)) 71 (.idx 1 (.tmp 69) (.tmp 70)),
              .l 24 (some (68, true)) (some 72) (.ld none (.tmp 71)),
              .qp 25 (some (68, true)) 73 (.bin .neq .u8 (.tmp 72) (.const (.int .u8 0))),
              .qp 26 (some (63, false)) 74 (.pick (.tmp 68) (.tmp 73) (.const (.bool false))),
              .qp 27 none 75 (.pick (.tmp 63) (.const (.bool true)) (.tmp 74))]))
          (.cond (.tmp 75)
            (.seq (.reg [.p none 4 (.mv (.const (.bool false)))])
            .ret)
            .skip)))
        (.reg [.p none 46 (.mv (.tmp 7)),
            .p none 47 (.bin .add .i64 (.tmp 46) (.const (.int .i64 1))),
            .p none 7 (.mv (.tmp 47))]))))))
    (.seq (.reg [.l none (some 76) (.call 29 []),
        .p none 4 (.mv (.tmp 76))])
    .ret))))
    .skip))
  (.seq (.seq (.reg [.p none 77 (.mv (.tmp 5)),
      .p none 78 (.len (.tmp 77)),
      .p none 79 (.mv (.tmp 0)),
      .p none 80 (.len (.tmp 79)),
      .p none 81 (.bin .neq .i64 (.tmp 78) (.tmp 80))])
  (.cond (.tmp 81)
    (.seq (.reg [.p none 4 (.mv (.const (.bool false)))])
    .ret)
    .skip))
  (.seq (.reg [.p none 8 (.mv (.const (.int .i64 (-1))))])
  (.seq (.reg [.p none 9 (.mv (.const (.int .i64 (-1))))])
  (.seq (.seq (.reg [.p none 10 (.mv (.const (.int .i64 0)))])
  (.block 2
    (.loop
      (.seq (.seq (.reg [.p none 82 (.mv (.tmp 10)),
          .p none 83 (.mv (.tmp 5)),
          .p none 84 (.len (.tmp 83)),
          .p none 85 (.bin .mul .i64 (.const (.int .i64 8)) (.tmp 84)),
          .p none 86 (.bin .lss .i64 (.tmp 82) (.tmp 85))])
      (.cond (.tmp 86)
        .skip
        (.exit 2)))
      (.seq (.block 3
        (.seq (.dreg (.line [.qp 0 none 89 (.mv (.tmp 5)),
            .qp 1 none 90 (.mv (.tmp 10)),
            .qp 2 none 91 (.div .quo .i64 (.tmp 90) (.const (.int .i64 8))),
            .qp 3 none 92 (.idx 1 (.tmp 89) (.tmp 91)),
            .qp 5 none 94 (.mv (.tmp 0)),
            .qp 6 none 95 (.mv (.tmp 10)),
            .qp 7 none 96 (.div .quo .i64 (.tmp 95) (.const (.int .i64 8))),
            .qp 8 none 97 (.idx 1 (.tmp 94) (.tmp 96)),
            .qp 11 none 100 (.mv (.tmp 10)),
            .qp 12 none 101 (.div .rem .i64 (.tmp 100) (.const (.int .i64 8))),
            .ql 9 none 98 none (.tmp 97),
            .l 4 none (some 93) (.ld none (.tmp 92)),
            .qp 10 none 99 (.bin .xor .u8 (.tmp 93) (.tmp 98)),
            .qp 13 none 102 (.shf .shr (.tmp 99) (.tmp 101)),
            .qp 14 none 103 (.div .rem .u8 (.tmp 102) (.const (.int .u8 2))),
            .qp 15 none 104 (.bin .eql .u8 (.tmp 103) (.const (.int .u8 1)))]))
        (.cond (.tmp 104)
          (.seq (.seq (.reg [.p none 105 (.mv (.tmp 8)),
              .p none 106 (.bin .lss .i64 (.tmp 105) (.const (.int .i64 0)))])
          (.cond (.tmp 106)
            (.reg [.p none 107 (.mv (.tmp 10)),
                .p none 8 (.mv (.tmp 107))])
            .skip))
          (.reg [.p none 108 (.mv (.tmp 10)),
              .p none 9 (.mv (.tmp 108))]))
          .skip)))
      (.reg [.p none 87 (.mv (.tmp 10)),
          .p none 88 (.bin .add .i64 (.tmp 87) (.const (.int .i64 1))),
          .p none 10 (.mv (.tmp 88))]))))))
  (.seq (.seq (.reg [.p none 109 (.mv (.tmp 0)),
      .p none 110 (.len (.tmp 109)),
      .p none 111 (.bin .eql .i64 (.tmp 110) (.const (.int .i64 0)))])
  (.cond (.tmp 111)
    (.seq (.reg [.l none (some 112) (.call 29 []),
        .p none 4 (.mv (.tmp 112))])
    .ret)
    .skip))
  (.seq (.reg [.p none 113 (.mv (.tmp 8)),
      .p none 114 (.bin .geq .i64 (.tmp 113) (.const (.int .i64 0))),
      .p none 115 (.mv (.tmp 114)),
      .split 115,
      .p (some (115, true)) 116 (.mv (.tmp 9)),
      .p (some (115, true)) 117 (.mv (.tmp 8)),
      .p (some (115, true)) 118 (.bin .sub .i64 (.tmp 116) (.tmp 117)),
      .p (some (115, true)) 119 (.bin .lss .i64 (.tmp 118) (.const (.int .i64 32))),
      .p none 120 (.pick (.tmp 115) (.tmp 119) (.const (.bool false))),
      .p none 121 (.mv (.tmp 120)),
      .split 121,
      .p (some (121, true)) 122 (.mv (.tmp 8)),
      .p (some (121, true)) 123 (.fa 6 (.tmp 3)),
      .l (some (121, true)) (some 124) (.ld none (.tmp 123)),
      .p (some (121, true)) 125 (.mv (.tmp 0)),
      .p (some (121, true)) 126 (.len (.tmp 125)),
      .p (some (121, true)) 127 (.bin .mul .i64 (.const (.int .i64 8)) (.tmp 126)),
      .p (some (121, true)) 128 (.div .rem .i64 (.tmp 124) (.tmp 127)),
      .p (some (121, true)) 129 (.bin .eql .i64 (.tmp 122) (.tmp 128)),
      .p none 130 (.pick (.tmp 121) (.tmp 129) (.const (.bool false))),
      .p none 131 (.mv (.tmp 130)),
      .split 131,
      .l (some (131, true)) (some 132) (.call 29 []),
      .p none 133 (.pick (.tmp 131) (.tmp 132) (.const (.bool false))),
      .p none 4 (.mv (.tmp 133))])
  .ret))))))))))
theorem C5 : compile Try.prog 134 (Try.f5.body.getD .skip) = some M5 := by kernel_rfl

/-- winnowlaw16.FaultComes -/
def M7 : MC :=
  (.seq (.reg [.p none 2 (.mv (.const (.bool false)))])
  (.seq (.reg [.p none 12 (.mv (.tmp 0)),
      .l none (some 13) (.call 20 [(.tmp 12)]),
      .p none 11 (.mv (.tmp 13)),
      .p none 14 (.ext 0 (.tmp 11)),
      .p none 15 (.ext 1 (.tmp 11)),
      .p none 3 (.mv (.tmp 14)),
      .p none 4 (.mv (.tmp 15))])
  (.seq (.seq (.reg [.p none 16 (.mv (.tmp 4)),
      .p none 17 (.bin .neq .i64 (.tmp 16) (.const (.int .i64 0)))])
  (.cond (.tmp 17)
    (.seq (.reg [.l none (some 18) (.call 29 []),
        .p none 2 (.mv (.tmp 18))])
    .ret)
    .skip))
  (.seq (.reg [.p none 5 (.mv (.const (.int .i64 0)))])
  (.seq (.seq (.reg [.p none 6 (.mv (.const (.int .i64 0)))])
  (.block 0
    (.loop
      (.seq (.seq (.reg [.p none 19 (.mv (.tmp 6)),
          .p none 20 (.mv (.tmp 0)),
          .p none 21 (.len (.tmp 20)),
          .p none 22 (.bin .lss .i64 (.tmp 19) (.tmp 21))])
      (.cond (.tmp 22)
        .skip
        (.exit 0)))
      (.seq (.block 1
        (.seq (.reg [.p none 25 (.mv (.tmp 0)),
            .p none 26 (.mv (.tmp 6)),
            .p none 27 (.idx 8 (.tmp 25) (.tmp 26)),
            .l none (some 28) (.ld (some 8) (.tmp 27)),
            .l none (some 7) (.al 25 [(.int .i64 0), (.int .i64 0), (.int .i64 0), (.int .i64 0), (.int .i64 0), (.int .i64 0), (.int .i64 0), (.int .u32 0)]),
            .l none none (.st 8 (.tmp 7) (.tmp 28))])
        (.seq (.seq (.reg [.p none 29 (.fa 0 (.tmp 7)),
            .l none (some 30) (.ld none (.tmp 29)),
            .p none 31 (.bin .eql .i64 (.tmp 30) (.const (.int .i64 0)))])
        (.cond (.tmp 31)
          (.seq (.reg [.p none 33 (.mv (.tmp 3)),
              .p none 34 (.fa 1 (.tmp 7)),
              .l none (some 35) (.ld none (.tmp 34)),
              .p none 36 (.fa 2 (.tmp 7)),
              .l none (some 37) (.ld none (.tmp 36)),
              .p none 38 (.fa 3 (.tmp 7)),
              .l none (some 39) (.ld none (.tmp 38)),
              .l none (some 40) (.call 16 [(.tmp 33), (.tmp 35), (.tmp 37), (.tmp 39)]),
              .p none 32 (.mv (.tmp 40)),
              .p none 41 (.ext 0 (.tmp 32)),
              .p none 42 (.ext 1 (.tmp 32)),
              .p none 8 (.mv (.tmp 41)),
              .p none 9 (.mv (.tmp 42))])
          (.seq (.seq (.reg [.p none 43 (.mv (.tmp 9)),
              .p none 44 (.not (.tmp 43)),
              .p none 45 (.mv (.tmp 44)),
              .split 45,
              .p (some (45, false)) 46 (.mv (.tmp 8)),
              .p (some (45, false)) 47 (.fa 6 (.tmp 7)),
              .l (some (45, false)) (some 48) (.ld none (.tmp 47)),
              .p (some (45, false)) 49 (.bin .neq .i64 (.tmp 46) (.tmp 48)),
              .p none 50 (.pick (.tmp 45) (.const (.bool true)) (.tmp 49))])
          (.cond (.tmp 50)
            (.seq (.reg [.p none 2 (.mv (.const (.bool false)))])
            .ret)
            .skip))
          (.seq (.reg [.p none 51 (.mv (.tmp 5)),
              .p none 52 (.bin .add .i64 (.tmp 51) (.const (.int .i64 1))),
              .p none 5 (.mv (.tmp 52))])
          (.exit 1))))
          .skip))
        (.seq (.reg [.p none 53 (.mv (.tmp 3)),
            .p none 54 (.fa 2 (.tmp 7)),
            .l none (some 55) (.ld none (.tmp 54)),
            .p none 56 (.fa 3 (.tmp 7)),
            .l none (some 57) (.ld none (.tmp 56)),
            .p none 58 (.fa 4 (.tmp 7)),
            .l none (some 59) (.ld none (.tmp 58)),
            .p none 60 (.fa 5 (.tmp 7)),
            .l none (some 61) (.ld none (.tmp 60)),
            .l none (some 62) (.call 17 [(.tmp 53), (.tmp 55), (.tmp 57), (.tmp 59), (.tmp 61)]),
            .p none 10 (.mv (.tmp 62))])
        (.reg [.p none 63 (.mv (.tmp 5)),
            .p none 64 (.mv (.tmp 10)),
            .p none 65 (.len (.tmp 64)),
            .p none 66 (.bin .add .i64 (.tmp 63) (.tmp 65)),
            .p none 5 (.mv (.tmp 66))])))))
      (.reg [.p none 23 (.mv (.tmp 6)),
          .p none 24 (.bin .add .i64 (.tmp 23) (.const (.int .i64 1))),
          .p none 6 (.mv (.tmp 24))]))))))
  (.seq (.reg [.p none 67 (.mv (.tmp 5)),
      .p none 68 (.mv (.tmp 0)),
      .p none 69 (.len (.tmp 68)),
      .p none 70 (.bin .eql .i64 (.tmp 67) (.tmp 69)),
      .p none 71 (.mv (.tmp 70)),
      .split 71,
      .p (some (71, true)) 72 (.mv (.tmp 3)),
      .l (some (71, true)) (some 73) (.call 18 [(.tmp 72)]),
      .p (some (71, true)) 74 (.len (.tmp 73)),
      .p (some (71, true)) 75 (.bin .eql .i64 (.tmp 74) (.const (.int .i64 0))),
      .p none 76 (.pick (.tmp 71) (.tmp 75) (.const (.bool false))),
      .p none 77 (.mv (.tmp 76)),
      .split 77,
      .l (some (77, true)) (some 78) (.call 29 []),
      .p none 79 (.pick (.tmp 77) (.tmp 78) (.const (.bool false))),
      .p none 2 (.mv (.tmp 79))])
  .ret))))))
theorem C7 : compile Try.prog 80 (Try.f7.body.getD .skip) = some M7 := by kernel_rfl

/-- winnowlaw16.FaultPlans -/
def M4 : MC :=
  (.seq (.reg [.p none 4 (.mv (.const (.bool false)))])
  (.seq (.reg [.p none 5 (.mv (.const (.pointer none)))])
  (.seq (.reg [.p none 28 (.mv (.tmp 5)),
      .l none (some 29) (.call 16 [(.tmp 28), (.const (.int .i64 0)), (.const (.int .i64 0)), (.const (.int .i64 1))]),
      .p none 27 (.mv (.tmp 29)),
      .p none 30 (.ext 0 (.tmp 27)),
      .p none 31 (.ext 1 (.tmp 27)),
      .p none 6 (.mv (.tmp 30)),
      .p none 7 (.mv (.tmp 31))])
  (.seq (.seq (.reg [.p none 32 (.mv (.tmp 6)),
      .p none 33 (.bin .neq .i64 (.tmp 32) (.const (.int .i64 0))),
      .p none 34 (.mv (.tmp 33)),
      .split 34,
      .p (some (34, false)) 35 (.mv (.tmp 7)),
      .p none 36 (.pick (.tmp 34) (.const (.bool true)) (.tmp 35)),
      .p none 37 (.mv (.tmp 36)),
      .split 37,
      .p (some (37, false)) 38 (.mv (.tmp 5)),
      .l (some (37, false)) (some 39) (.call 17 [(.tmp 38), (.const (.int .i64 0)), (.const (.int .i64 1)), (.const (.int .i64 0)), (.const (.int .i64 0))]),
      .p (some (37, false)) 40 (.len (.tmp 39)),
      .p (some (37, false)) 41 (.bin .neq .i64 (.tmp 40) (.const (.int .i64 0))),
      .p none 42 (.pick (.tmp 37) (.const (.bool true)) (.tmp 41)),
      .p none 43 (.mv (.tmp 42)),
      .split 43,
      .p (some (43, false)) 44 (.mv (.tmp 5)),
      .l (some (43, false)) (some 45) (.call 18 [(.tmp 44)]),
      .p (some (43, false)) 46 (.len (.tmp 45)),
      .p (some (43, false)) 47 (.bin .neq .i64 (.tmp 46) (.const (.int .i64 0))),
      .p none 48 (.pick (.tmp 43) (.const (.bool true)) (.tmp 47))])
  (.cond (.tmp 48)
    (.seq (.reg [.p none 4 (.mv (.const (.bool false)))])
    .ret)
    .skip))
  (.seq (.reg [.p none 49 (.mv (.tmp 0)),
      .l none (some 50) (.call 19 [(.tmp 49)]),
      .p none 8 (.mv (.tmp 50))])
  (.seq (.reg [.p none 52 (.mv (.tmp 8)),
      .p none 53 (.mv (.tmp 0)),
      .p none 54 (.len (.tmp 53)),
      .p none 55 (.slc 8 (.tmp 52) none (some (.tmp 54)) none),
      .l none (some 56) (.call 20 [(.tmp 55)]),
      .p none 51 (.mv (.tmp 56)),
      .p none 57 (.ext 0 (.tmp 51)),
      .p none 58 (.ext 1 (.tmp 51)),
      .p none 9 (.mv (.tmp 57)),
      .p none 10 (.mv (.tmp 58))])
  (.seq (.reg [.p none 60 (.mv (.tmp 8)),
      .p none 61 (.mv (.tmp 0)),
      .p none 62 (.len (.tmp 61)),
      .p none 63 (.slc 8 (.tmp 60) none (some (.tmp 62)) none),
      .l none (some 64) (.call 20 [(.tmp 63)]),
      .p none 59 (.mv (.tmp 64)),
      .p none 65 (.ext 0 (.tmp 59)),
      .p none 66 (.ext 1 (.tmp 59)),
      .p none 11 (.mv (.tmp 65)),
      .p none 12 (.mv (.tmp 66))])
  (.seq (.reg [.p none 68 (.mv (.tmp 0)),
      .l none (some 69) (.call 21 [(.tmp 68)]),
      .p none 67 (.mv (.tmp 69)),
      .p none 70 (.ext 0 (.tmp 67)),
      .p none 71 (.ext 1 (.tmp 67)),
      .p none 13 (.mv (.tmp 70)),
      .p none 14 (.mv (.tmp 71))])
  (.seq (.seq (.reg [.p none 72 (.mv (.tmp 10)),
      .p none 73 (.mv (.tmp 14)),
      .p none 74 (.bin .neq .i64 (.tmp 72) (.tmp 73)),
      .p none 75 (.mv (.tmp 74)),
      .split 75,
      .p (some (75, false)) 76 (.mv (.tmp 12)),
      .p (some (75, false)) 77 (.mv (.tmp 14)),
      .p (some (75, false)) 78 (.bin .neq .i64 (.tmp 76) (.tmp 77)),
      .p none 79 (.pick (.tmp 75) (.const (.bool true)) (.tmp 78)),
      .p none 80 (.mv (.tmp 79)),
      .split 80,
      .p (some (80, false)) 81 (.mv (.tmp 9)),
      .p (some (80, false)) 82 (.isnil false 0 (.tmp 81)),
      .p (some (80, false)) 83 (.mv (.tmp 13)),
      .p (some (80, false)) 84 (.isnil false 0 (.tmp 83)),
      .p (some (80, false)) 85 (.beq true (.tmp 82) (.tmp 84)),
      .p none 86 (.pick (.tmp 80) (.const (.bool true)) (.tmp 85)),
      .p none 87 (.mv (.tmp 86)),
      .split 87,
      .p (some (87, false)) 88 (.mv (.tmp 11)),
      .p (some (87, false)) 89 (.isnil false 0 (.tmp 88)),
      .p (some (87, false)) 90 (.mv (.tmp 13)),
      .p (some (87, false)) 91 (.isnil false 0 (.tmp 90)),
      .p (some (87, false)) 92 (.beq true (.tmp 89) (.tmp 91)),
      .p none 93 (.pick (.tmp 87) (.const (.bool true)) (.tmp 92)),
      .p none 94 (.mv (.tmp 93)),
      .split 94,
      .p (some (94, false)) 95 (.mv (.tmp 8)),
      .p (some (94, false)) 96 (.mv (.tmp 0)),
      .l (some (94, false)) (some 97) (.call 19 [(.tmp 96)]),
      .l (some (94, false)) (some 98) (.call 22 [(.tmp 95), (.tmp 97)]),
      .p (some (94, false)) 99 (.not (.tmp 98)),
      .p none 100 (.pick (.tmp 94) (.const (.bool true)) (.tmp 99))])
  (.cond (.tmp 100)
    (.seq (.reg [.p none 4 (.mv (.const (.bool false)))])
    .ret)
    .skip))
  (.seq (.seq (.reg [.p none 15 (.mv (.const (.int .i64 0)))])
  (.block 0
    (.loop
      (.seq (.seq (.reg [.p none 101 (.mv (.tmp 15)),
          .p none 102 (.mv (.tmp 0)),
          .p none 103 (.len (.tmp 102)),
          .p none 104 (.bin .lss .i64 (.tmp 101) (.tmp 103))])
      (.cond (.tmp 104)
        .skip
        (.exit 0)))
      (.seq (.block 1
        (.reg [.p none 107 (.mv (.tmp 8)),
            .p none 108 (.mv (.tmp 15)),
            .p none 109 (.bld [(.int .i64 0), (.int .i64 0), (.int .i64 0), (.int .i64 0), (.int .i64 0), (.int .i64 0), (.int .i64 0), (.int .u32 0)] [(0, 1, (.const (.int .i64 79)))]),
            .p none 110 (.idx 8 (.tmp 107) (.tmp 108)),
            .l none none (.st 8 (.tmp 110) (.tmp 109))]))
      (.reg [.p none 105 (.mv (.tmp 15)),
          .p none 106 (.bin .add .i64 (.tmp 105) (.const (.int .i64 1))),
          .p none 15 (.mv (.tmp 106))]))))))
  (.seq (.reg [.p none 16 (.mv (.const (.slice none 0 0)))])
  (.seq (.seq (.reg [.p none 17 (.mv (.const (.int .i64 0)))])
  (.block 2
    (.loop
      (.seq (.seq (.reg [.p none 111 (.mv (.tmp 17)),
          .p none 112 (.mv (.tmp 1)),
          .p none 113 (.len (.tmp 112)),
          .p none 114 (.bin .lss .i64 (.tmp 111) (.tmp 113))])
      (.cond (.tmp 114)
        .skip
        (.exit 2)))
      (.seq (.block 3
        (.seq (.reg [.p none 117 (.mv (.tmp 1)),
            .p none 118 (.mv (.tmp 17)),
            .p none 119 (.idx 5 (.tmp 117) (.tmp 118)),
            .l none (some 120) (.ld (some 5) (.tmp 119)),
            .l none (some 18) (.al 49 [(.int .i64 0), (.int .i64 0), (.int .i64 0), (.int .i64 0), (.int .i64 0)]),
            .l none none (.st 5 (.tmp 18) (.tmp 120))])
        (.seq (.reg [.p none 121 (.fa 0 (.tmp 18)),
            .l none (some 122) (.ld none (.tmp 121))])
        (.block 4
          (.seq (.reg [.p none 149 (.bin .eql .i64 (.tmp 122) (.const (.int .i64 0))),
              .p none 148 (.mv (.tmp 149))])
          (.cond (.tmp 148)
            (.seq (.reg [.p none 151 (.mv (.tmp 9)),
                .p none 152 (.fa 1 (.tmp 18)),
                .l none (some 153) (.ld none (.tmp 152)),
                .p none 154 (.fa 2 (.tmp 18)),
                .l none (some 155) (.ld none (.tmp 154)),
                .p none 156 (.fa 3 (.tmp 18)),
                .l none (some 157) (.ld none (.tmp 156)),
                .l none (some 158) (.call 16 [(.tmp 151), (.tmp 153), (.tmp 155), (.tmp 157)]),
                .p none 150 (.mv (.tmp 158)),
                .p none 159 (.ext 0 (.tmp 150)),
                .p none 160 (.ext 1 (.tmp 150)),
                .p none 19 (.mv (.tmp 159)),
                .p none 20 (.mv (.tmp 160))])
            (.seq (.reg [.p none 162 (.mv (.tmp 13)),
                .p none 163 (.fa 1 (.tmp 18)),
                .l none (some 164) (.ld none (.tmp 163)),
                .p none 165 (.fa 2 (.tmp 18)),
                .l none (some 166) (.ld none (.tmp 165)),
                .p none 167 (.fa 3 (.tmp 18)),
                .l none (some 168) (.ld none (.tmp 167)),
                .l none (some 169) (.call 23 [(.tmp 162), (.tmp 164), (.tmp 166), (.tmp 168)]),
                .p none 161 (.mv (.tmp 169)),
                .p none 170 (.ext 0 (.tmp 161)),
                .p none 171 (.ext 1 (.tmp 161)),
                .p none 21 (.mv (.tmp 170)),
                .p none 22 (.mv (.tmp 171))])
            (.seq (.reg [.p none 172 (.mv (.tmp 19)),
                .p none 173 (.mv (.tmp 21)),
                .p none 174 (.bin .neq .i64 (.tmp 172) (.tmp 173)),
                .p none 175 (.mv (.tmp 174)),
                .split 175,
                .p (some (175, false)) 176 (.mv (.tmp 20)),
                .p (some (175, false)) 177 (.mv (.tmp 22)),
                .p (some (175, false)) 178 (.beq true (.tmp 176) (.tmp 177)),
                .p none 179 (.pick (.tmp 175) (.const (.bool true)) (.tmp 178))])
            (.cond (.tmp 179)
              (.seq (.reg [.p none 4 (.mv (.const (.bool false)))])
              .ret)
              .skip))))
            (.seq (.reg [.p none 181 (.bin .eql .i64 (.tmp 122) (.const (.int .i64 1))),
                .p none 180 (.mv (.tmp 181))])
            (.cond (.tmp 180)
              (.seq (.reg [.p none 182 (.mv (.tmp 9)),
                  .p none 183 (.fa 1 (.tmp 18)),
                  .l none (some 184) (.ld none (.tmp 183)),
                  .p none 185 (.fa 2 (.tmp 18)),
                  .l none (some 186) (.ld none (.tmp 185)),
                  .p none 187 (.fa 3 (.tmp 18)),
                  .l none (some 188) (.ld none (.tmp 187)),
                  .p none 189 (.fa 4 (.tmp 18)),
                  .l none (some 190) (.ld none (.tmp 189)),
                  .l none (some 191) (.call 17 [(.tmp 182), (.tmp 184), (.tmp 186), (.tmp 188), (.tmp 190)]),
                  .p none 23 (.mv (.tmp 191))])
              (.seq (.seq (.reg [.p none 192 (.mv (.tmp 23)),
                  .p none 193 (.mv (.tmp 13)),
                  .p none 194 (.fa 1 (.tmp 18)),
                  .l none (some 195) (.ld none (.tmp 194)),
                  .p none 196 (.fa 2 (.tmp 18)),
                  .l none (some 197) (.ld none (.tmp 196)),
                  .p none 198 (.fa 3 (.tmp 18)),
                  .l none (some 199) (.ld none (.tmp 198)),
                  .p none 200 (.fa 4 (.tmp 18)),
                  .l none (some 201) (.ld none (.tmp 200)),
                  .l none (some 202) (.call 24 [(.tmp 193), (.tmp 195), (.tmp 197), (.tmp 199), (.tmp 201)]),
                  .l none (some 203) (.call 22 [(.tmp 192), (.tmp 202)]),
                  .p none 204 (.not (.tmp 203))])
              (.cond (.tmp 204)
                (.seq (.reg [.p none 4 (.mv (.const (.bool false)))])
                .ret)
                .skip))
              (.seq (.reg [.p none 205 (.mv (.tmp 23)),
                  .p none 206 (.mv (.tmp 17)),
                  .p none 207 (.bin .add .i64 (.const (.int .i64 1000)) (.tmp 206)),
                  .l none (some 208) (.call 25 [(.tmp 205), (.tmp 207)])])
              (.reg [.p none 209 (.mv (.tmp 16)),
                  .p none 210 (.mv (.tmp 23)),
                  .p none 211 (.mv (.tmp 17)),
                  .p none 212 (.bin .add .i64 (.const (.int .i64 1000)) (.tmp 211)),
                  .p none 213 (.bld [(.slice none 0 0), (.int .i64 0)] [(0, 1, (.tmp 210)), (1, 1, (.tmp 212))]),
                  .l none (some 214) (.bs 52 1 2 [(.slice none 0 0), (.int .i64 0)] [(0, 2, (.tmp 213))]),
                  .l none (some 215) (.app 52 32 2 [(.slice none 0 0), (.int .i64 0)] (.tmp 209) (.tmp 214)),
                  .p none 16 (.mv (.tmp 215))]))))
              (.seq (.reg [.p none 123 (.mv (.tmp 9)),
                  .l none (some 124) (.call 18 [(.tmp 123)]),
                  .p none 24 (.mv (.tmp 124))])
              (.seq (.reg [.p none 125 (.mv (.tmp 9)),
                  .l none (some 126) (.call 18 [(.tmp 125)]),
                  .p none 25 (.mv (.tmp 126))])
              (.seq (.seq (.reg [.p none 127 (.mv (.tmp 24)),
                  .p none 128 (.mv (.tmp 13)),
                  .l none (some 129) (.call 26 [(.tmp 128)]),
                  .l none (some 130) (.call 22 [(.tmp 127), (.tmp 129)]),
                  .p none 131 (.not (.tmp 130))])
              (.cond (.tmp 131)
                (.seq (.reg [.p none 4 (.mv (.const (.bool false)))])
                .ret)
                .skip))
              (.seq (.reg [.p none 132 (.mv (.tmp 24)),
                  .p none 133 (.mv (.tmp 17)),
                  .p none 134 (.bin .add .i64 (.const (.int .i64 1000)) (.tmp 133)),
                  .l none (some 135) (.call 25 [(.tmp 132), (.tmp 134)])])
              (.seq (.seq (.reg [.p none 136 (.mv (.tmp 25)),
                  .p none 137 (.mv (.tmp 13)),
                  .l none (some 138) (.call 26 [(.tmp 137)]),
                  .l none (some 139) (.call 22 [(.tmp 136), (.tmp 138)]),
                  .p none 140 (.not (.tmp 139))])
              (.cond (.tmp 140)
                (.seq (.reg [.p none 4 (.mv (.const (.bool false)))])
                .ret)
                .skip))
              (.reg [.p none 141 (.mv (.tmp 16)),
                  .p none 142 (.mv (.tmp 24)),
                  .p none 143 (.mv (.tmp 17)),
                  .p none 144 (.bin .add .i64 (.const (.int .i64 1000)) (.tmp 143)),
                  .p none 145 (.bld [(.slice none 0 0), (.int .i64 0)] [(0, 1, (.tmp 142)), (1, 1, (.tmp 144))]),
                  .l none (some 146) (.bs 52 1 2 [(.slice none 0 0), (.int .i64 0)] [(0, 2, (.tmp 145))]),
                  .l none (some 147) (.app 52 32 2 [(.slice none 0 0), (.int .i64 0)] (.tmp 141) (.tmp 146)),
                  .p none 16 (.mv (.tmp 147))]))))))))))))))
      (.reg [.p none 115 (.mv (.tmp 17)),
          .p none 116 (.bin .add .i64 (.tmp 115) (.const (.int .i64 1))),
          .p none 17 (.mv (.tmp 116))]))))))
  (.seq (.reg [.p none 216 (.mv (.tmp 11)),
      .l none (some 217) (.call 18 [(.tmp 216)]),
      .p none 26 (.mv (.tmp 217))])
  (.seq (.reg [.p none 218 (.mv (.tmp 16)),
      .l none (some 219) (.call 27 [(.tmp 218)]),
      .p none 220 (.mv (.tmp 219)),
      .split 220,
      .p (some (220, true)) 221 (.mv (.tmp 9)),
      .l (some (220, true)) (some 222) (.call 18 [(.tmp 221)]),
      .p (some (220, true)) 223 (.mv (.tmp 13)),
      .l (some (220, true)) (some 224) (.call 26 [(.tmp 223)]),
      .l (some (220, true)) (some 225) (.call 22 [(.tmp 222), (.tmp 224)]),
      .p none 226 (.pick (.tmp 220) (.tmp 225) (.const (.bool false))),
      .p none 227 (.mv (.tmp 226)),
      .split 227,
      .p (some (227, true)) 228 (.mv (.tmp 13)),
      .p (some (227, true)) 229 (.isnil false 0 (.tmp 228)),
      .p (some (227, true)) 230 (.mv (.tmp 229)),
      .split 230,
      .p (some (230, true)) 231 (.mv (.tmp 26)),
      .p (some (230, true)) 232 (.len (.tmp 231)),
      .p (some (230, true)) 233 (.bin .eql .i64 (.tmp 232) (.const (.int .i64 0))),
      .p (some (227, true)) 234 (.pick (.tmp 230) (.tmp 233) (.const (.bool false))),
      .p (some (227, true)) 235 (.mv (.tmp 234)),
      .split 235,
      .p (some (235, false)) 236 (.mv (.tmp 13)),
      .p (some (235, false)) 237 (.isnil true 0 (.tmp 236)),
      .p (some (235, false)) 238 (.mv (.tmp 237)),
      .split 238,
      .p (some (238, true)) 239 (.mv (.tmp 26)),
      .p (some (238, true)) 240 (.mv (.tmp 0)),
      .l (some (238, true)) (some 241) (.call 22 [(.tmp 239), (.tmp 240)]),
      .p (some (235, false)) 242 (.pick (.tmp 238) (.tmp 241) (.const (.bool false))),
      .p (some (227, true)) 243 (.pick (.tmp 235) (.const (.bool true)) (.tmp 242)),
      .p none 244 (.pick (.tmp 227) (.tmp 243) (.const (.bool false))),
      .p none 4 (.mv (.tmp 244))])
  .ret))))))))))))))
theorem C4 : compile Try.prog 245 (Try.f4.body.getD .skip) = some M4 := by kernel_rfl

/-- winnowlaw16.given -/
def M19 : MC :=
  (.seq (.reg [.p none 2 (.mv (.const (.slice none 0 0)))])
  (.seq (.reg [.p none 5 (.mv (.tmp 0)),
      .p none 6 (.len (.tmp 5)),
      .p none 7 (.bin .add .i64 (.tmp 6) (.const (.int .i64 64))),
      .l none (some 8) (.mks 25 64 8 [(.int .i64 0), (.int .i64 0), (.int .i64 0), (.int .i64 0), (.int .i64 0), (.int .i64 0), (.int .i64 0), (.int .u32 0)] (.tmp 7) (.tmp 7)),
      .p none 3 (.mv (.tmp 8))])
  (.seq (.seq (.reg [.p none 4 (.mv (.const (.int .i64 0)))])
  (.block 0
    (.loop
      (.seq (.seq (.reg [.p none 9 (.mv (.tmp 4)),
          .p none 10 (.mv (.tmp 3)),
          .p none 11 (.len (.tmp 10)),
          .p none 12 (.bin .lss .i64 (.tmp 9) (.tmp 11))])
      (.cond (.tmp 12)
        .skip
        (.exit 0)))
      (.seq (.block 1
        (.seq (.reg [.p none 15 (.mv (.tmp 3)),
            .p none 16 (.mv (.tmp 4)),
            .p none 17 (.bld [(.int .i64 0), (.int .i64 0), (.int .i64 0), (.int .i64 0), (.int .i64 0), (.int .i64 0), (.int .i64 0), (.int .u32 0)] [(0, 1, (.const (.int .i64 7001))), (2, 1, (.const (.int .i64 5)))]),
            .p none 18 (.idx 8 (.tmp 15) (.tmp 16)),
            .l none none (.st 8 (.tmp 18) (.tmp 17))])
        (.seq (.reg [.p none 19 (.mv (.tmp 4)),
            .p none 20 (.mv (.tmp 0)),
            .p none 21 (.len (.tmp 20)),
            .p none 22 (.bin .lss .i64 (.tmp 19) (.tmp 21))])
        (.cond (.tmp 22)
          (.reg [.p none 23 (.mv (.tmp 3)),
              .p none 24 (.mv (.tmp 4)),
              .p none 25 (.mv (.tmp 0)),
              .p none 26 (.mv (.tmp 4)),
              .p none 27 (.idx 8 (.tmp 25) (.tmp 26)),
              .l none (some 28) (.ld (some 8) (.tmp 27)),
              .p none 29 (.idx 8 (.tmp 23) (.tmp 24)),
              .l none none (.st 8 (.tmp 29) (.tmp 28))])
          .skip))))
      (.reg [.p none 13 (.mv (.tmp 4)),
          .p none 14 (.bin .add .i64 (.tmp 13) (.const (.int .i64 1))),
          .p none 4 (.mv (.tmp 14))]))))))
  (.seq (.reg [.p none 30 (.mv (.tmp 3)),
      .p none 2 (.mv (.tmp 30))])
  .ret))))
theorem C19 : compile Try.prog 31 (Try.f19.body.getD .skip) = some M19 := by kernel_rfl

/-- winnowref16.New -/
def M21 : MC :=
  (.seq (.reg [.p none 2 (.mv (.const (.pointer none))),
      .p none 3 (.mv (.const (.int .i64 0)))])
  (.seq (.reg [.p none 5 (.mv (.tmp 0)),
      .l none (some 6) (.call 28 [(.tmp 5)]),
      .p none 4 (.mv (.tmp 6))])
  (.seq (.seq (.reg [.p none 7 (.mv (.tmp 4)),
      .p none 8 (.bin .neq .i64 (.tmp 7) (.const (.int .i64 0)))])
  (.cond (.tmp 8)
    (.seq (.reg [.p none 9 (.mv (.tmp 4)),
        .p none 2 (.mv (.const (.pointer none))),
        .p none 3 (.mv (.tmp 9))])
    .ret)
    .skip))
  (.seq (.reg [.l none (some 10) (.bs 25 0 8 [] []),
      .p none 11 (.mv (.tmp 0)),
      .l none (some 12) (.app 25 64 8 [(.int .i64 0), (.int .i64 0), (.int .i64 0), (.int .i64 0), (.int .i64 0), (.int .i64 0), (.int .i64 0), (.int .u32 0)] (.tmp 10) (.tmp 11)),
      .p none 13 (.bld [(.slice none 0 0)] [(0, 1, (.tmp 12))]),
      .l none (some 14) (.bx 74 (.tmp 13)),
      .p none 2 (.mv (.tmp 14)),
      .p none 3 (.mv (.const (.int .i64 0)))])
  .ret))))
theorem C21 : compile Try.prog 15 (Try.f21.body.getD .skip) = some M21 := by kernel_rfl

/-- winnowlaw16.sameFaults -/
def M22 : MC :=
  (.seq (.reg [.p none 4 (.mv (.const (.bool false)))])
  (.seq (.seq (.reg [.p none 6 (.mv (.tmp 0)),
      .p none 7 (.len (.tmp 6)),
      .p none 8 (.mv (.tmp 1)),
      .p none 9 (.len (.tmp 8)),
      .p none 10 (.bin .neq .i64 (.tmp 7) (.tmp 9))])
  (.cond (.tmp 10)
    (.seq (.reg [.p none 4 (.mv (.const (.bool false)))])
    .ret)
    .skip))
  (.seq (.seq (.reg [.p none 5 (.mv (.const (.int .i64 0)))])
  (.block 0
    (.loop
      (.seq (.seq (.reg [.p none 11 (.mv (.tmp 5)),
          .p none 12 (.mv (.tmp 0)),
          .p none 13 (.len (.tmp 12)),
          .p none 14 (.bin .lss .i64 (.tmp 11) (.tmp 13))])
      (.cond (.tmp 14)
        .skip
        (.exit 0)))
      (.seq (.block 1
        (.seq (.dreg (.line [.qp 0 none 17 (.mv (.tmp 0)),
            .qp 1 none 18 (.mv (.tmp 5)),
            .qp 2 none 19 (.idx 8 (.tmp 17) (.tmp 18)),
            .qp 4 none 21 (.mv (.tmp 1)),
            .qp 5 none 22 (.mv (.tmp 5)),
            .qp 6 none 23 (.idx 8 (.tmp 21) (.tmp 22)),
            .ql 7 none 24 (some 8) (.tmp 23),
            .l 3 none (some 20) (.ld (some 8) (.tmp 19)),
            .qp 8 none 25 (.aeq true [1, 1, 1, 1, 1, 1, 1, 1] (.tmp 20) (.tmp 24))]))
        (.cond (.tmp 25)
          (.seq (.reg [.p none 4 (.mv (.const (.bool false)))])
          .ret)
          .skip)))
      (.reg [.p none 15 (.mv (.tmp 5)),
          .p none 16 (.bin .add .i64 (.tmp 15) (.const (.int .i64 1))),
          .p none 5 (.mv (.tmp 16))]))))))
  (.seq (.reg [.p none 4 (.mv (.const (.bool true)))])
  .ret))))
theorem C22 : compile Try.prog 26 (Try.f22.body.getD .skip) = some M22 := by kernel_rfl

/-- (*winnowref16.Plan).Stop -/
def M23 : MC :=
  (.seq (.reg [.p none 8 (.mv (.const (.int .i64 0))),
      .p none 9 (.mv (.const (.bool false)))])
  (.seq (.seq (.reg [.p none 15 (.mv (.tmp 0)),
      .p none 16 (.isnil false 0 (.tmp 15))])
  (.cond (.tmp 16)
    (.seq (.reg [.p none 8 (.mv (.const (.int .i64 0))),
        .p none 9 (.mv (.const (.bool false)))])
    .ret)
    .skip))
  (.seq (.reg [.p none 10 (.mv (.const (.slice none 0 0)))])
  (.seq (.reg [.p none 11 (.mv (.const (.int .i64 0)))])
  (.seq (.reg [.p none 12 (.mv (.const (.bool false)))])
  (.seq (.seq (.reg [.p none 13 (.mv (.const (.int .i64 0)))])
  (.block 0
    (.loop
      (.seq (.seq (.reg [.p none 17 (.mv (.tmp 13)),
          .p none 18 (.mv (.tmp 0)),
          .p none 19 (.nilchk (.tmp 18)),
          .p none 20 (.fa 0 (.tmp 19)),
          .l none (some 21) (.ld none (.tmp 20)),
          .p none 22 (.len (.tmp 21)),
          .p none 23 (.bin .lss .i64 (.tmp 17) (.tmp 22))])
      (.cond (.tmp 23)
        .skip
        (.exit 0)))
      (.seq (.block 1
        (.seq (.reg [.p none 26 (.mv (.tmp 0)),
            .p none 27 (.nilchk (.tmp 26)),
            .p none 28 (.fa 0 (.tmp 27)),
            .l none (some 29) (.ld none (.tmp 28)),
            .p none 30 (.mv (.tmp 13)),
            .p none 31 (.idx 8 (.tmp 29) (.tmp 30)),
            .l none (some 32) (.ld (some 8) (.tmp 31)),
            .l none (some 14) (.al 25 [(.int .i64 0), (.int .i64 0), (.int .i64 0), (.int .i64 0), (.int .i64 0), (.int .i64 0), (.int .i64 0), (.int .u32 0)]),
            .l none none (.st 8 (.tmp 14) (.tmp 32))])
        (.seq (.reg [.p none 33 (.fa 0 (.tmp 14)),
            .l none (some 34) (.ld none (.tmp 33)),
            .p none 35 (.bin .eql .i64 (.tmp 34) (.const (.int .i64 0))),
            .p none 36 (.mv (.tmp 35)),
            .split 36,
            .p (some (36, true)) 37 (.fa 1 (.tmp 14)),
            .l (some (36, true)) (some 38) (.ld none (.tmp 37)),
            .p (some (36, true)) 39 (.mv (.tmp 1)),
            .p (some (36, true)) 40 (.bin .eql .i64 (.tmp 38) (.tmp 39)),
            .p none 41 (.pick (.tmp 36) (.tmp 40) (.const (.bool false))),
            .p none 42 (.mv (.tmp 41)),
            .split 42,
            .p (some (42, true)) 43 (.fa 2 (.tmp 14)),
            .l (some (42, true)) (some 44) (.ld none (.tmp 43)),
            .p (some (42, true)) 45 (.mv (.tmp 2)),
            .p (some (42, true)) 46 (.bin .eql .i64 (.tmp 44) (.tmp 45)),
            .p none 47 (.pick (.tmp 42) (.tmp 46) (.const (.bool false))),
            .p none 48 (.mv (.tmp 47)),
            .split 48,
            .p (some (48, true)) 49 (.fa 3 (.tmp 14)),
            .l (some (48, true)) (some 50) (.ld none (.tmp 49)),
            .p (some (48, true)) 51 (.mv (.tmp 3)),
            .p (some (48, true)) 52 (.bin .eql .i64 (.tmp 50) (.tmp 51)),
            .p none 53 (.pick (.tmp 48) (.tmp 52) (.const (.bool false)))])
        (.cond (.tmp 53)
          (.seq (.reg [.p none 54 (.fa 6 (.tmp 14)),
              .l none (some 55) (.ld none (.tmp 54)),
              .p none 11 (.mv (.tmp 55))])
          (.reg [.p none 12 (.mv (.const (.bool true)))]))
          (.reg [.p none 56 (.mv (.tmp 10)),
              .l none (some 57) (.ld (some 8) (.tmp 14)),
              .l none (some 58) (.bs 25 1 8 [(.int .i64 0), (.int .i64 0), (.int .i64 0), (.int .i64 0), (.int .i64 0), (.int .i64 0), (.int .i64 0), (.int .u32 0)] [(0, 8, (.tmp 57))]),
              .l none (some 59) (.app 25 64 8 [(.int .i64 0), (.int .i64 0), (.int .i64 0), (.int .i64 0), (.int .i64 0), (.int .i64 0), (.int .i64 0), (.int .u32 0)] (.tmp 56) (.tmp 58)),
              .p none 10 (.mv (.tmp 59))])))))
      (.reg [.p none 24 (.mv (.tmp 13)),
          .p none 25 (.bin .add .i64 (.tmp 24) (.const (.int .i64 1))),
          .p none 13 (.mv (.tmp 25))]))))))
  (.seq (.reg [.p none 60 (.mv (.tmp 0)),
      .p none 61 (.mv (.tmp 10)),
      .p none 62 (.nilchk (.tmp 60)),
      .p none 63 (.fa 0 (.tmp 62)),
      .l none none (.st 1 (.tmp 63) (.tmp 61))])
  (.seq (.reg [.p none 64 (.mv (.tmp 11)),
      .p none 65 (.mv (.tmp 12)),
      .p none 8 (.mv (.tmp 64)),
      .p none 9 (.mv (.tmp 65))])
  .ret))))))))
theorem C23 : compile Try.prog 66 (Try.f23.body.getD .skip) = some M23 := by kernel_rfl

/-- (*winnowref16.Plan).Due -/
def M24 : MC :=
  (.seq (.reg [.p none 10 (.mv (.const (.slice none 0 0)))])
  (.seq (.seq (.reg [.p none 15 (.mv (.tmp 0)),
      .p none 16 (.isnil false 0 (.tmp 15))])
  (.cond (.tmp 16)
    (.seq (.reg [.p none 10 (.mv (.const (.slice none 0 0)))])
    .ret)
    .skip))
  (.seq (.reg [.p none 11 (.mv (.const (.slice none 0 0))),
      .p none 12 (.mv (.const (.slice none 0 0)))])
  (.seq (.seq (.reg [.p none 13 (.mv (.const (.int .i64 0)))])
  (.block 0
    (.loop
      (.seq (.seq (.reg [.p none 17 (.mv (.tmp 13)),
          .p none 18 (.mv (.tmp 0)),
          .p none 19 (.nilchk (.tmp 18)),
          .p none 20 (.fa 0 (.tmp 19)),
          .l none (some 21) (.ld none (.tmp 20)),
          .p none 22 (.len (.tmp 21)),
          .p none 23 (.bin .lss .i64 (.tmp 17) (.tmp 22))])
      (.cond (.tmp 23)
        .skip
        (.exit 0)))
      (.seq (.block 1
        (.seq (.reg [.p none 26 (.mv (.tmp 0)),
            .p none 27 (.nilchk (.tmp 26)),
            .p none 28 (.fa 0 (.tmp 27)),
            .l none (some 29) (.ld none (.tmp 28)),
            .p none 30 (.mv (.tmp 13)),
            .p none 31 (.idx 8 (.tmp 29) (.tmp 30)),
            .l none (some 32) (.ld (some 8) (.tmp 31)),
            .l none (some 14) (.al 25 [(.int .i64 0), (.int .i64 0), (.int .i64 0), (.int .i64 0), (.int .i64 0), (.int .i64 0), (.int .i64 0), (.int .u32 0)]),
            .l none none (.st 8 (.tmp 14) (.tmp 32))])
        (.seq (.reg [.p none 33 (.fa 0 (.tmp 14)),
            .l none (some 34) (.ld none (.tmp 33)),
            .p none 35 (.bin .neq .i64 (.tmp 34) (.const (.int .i64 0))),
            .p none 36 (.mv (.tmp 35)),
            .split 36,
            .p (some (36, true)) 37 (.fa 2 (.tmp 14)),
            .l (some (36, true)) (some 38) (.ld none (.tmp 37)),
            .p (some (36, true)) 39 (.mv (.tmp 1)),
            .p (some (36, true)) 40 (.bin .eql .i64 (.tmp 38) (.tmp 39)),
            .p none 41 (.pick (.tmp 36) (.tmp 40) (.const (.bool false))),
            .p none 42 (.mv (.tmp 41)),
            .split 42,
            .p (some (42, true)) 43 (.fa 3 (.tmp 14)),
            .l (some (42, true)) (some 44) (.ld none (.tmp 43)),
            .p (some (42, true)) 45 (.mv (.tmp 2)),
            .p (some (42, true)) 46 (.bin .eql .i64 (.tmp 44) (.tmp 45)),
            .p none 47 (.pick (.tmp 42) (.tmp 46) (.const (.bool false))),
            .p none 48 (.mv (.tmp 47)),
            .split 48,
            .p (some (48, true)) 49 (.fa 4 (.tmp 14)),
            .l (some (48, true)) (some 50) (.ld none (.tmp 49)),
            .p (some (48, true)) 51 (.mv (.tmp 3)),
            .p (some (48, true)) 52 (.bin .eql .i64 (.tmp 50) (.tmp 51)),
            .p none 53 (.pick (.tmp 48) (.tmp 52) (.const (.bool false))),
            .p none 54 (.mv (.tmp 53)),
            .split 54,
            .p (some (54, true)) 55 (.mv (.tmp 3)),
            .p (some (54, true)) 56 (.bin .neq .i64 (.tmp 55) (.const (.int .i64 2))),
            .p (some (54, true)) 57 (.mv (.tmp 56)),
            .split 57,
            .p (some (57, false)) 58 (.fa 5 (.tmp 14)),
            .l (some (57, false)) (some 59) (.ld none (.tmp 58)),
            .p (some (57, false)) 60 (.mv (.tmp 4)),
            .p (some (57, false)) 61 (.bin .eql .i64 (.tmp 59) (.tmp 60)),
            .p (some (54, true)) 62 (.pick (.tmp 57) (.const (.bool true)) (.tmp 61)),
            .p none 63 (.pick (.tmp 54) (.tmp 62) (.const (.bool false)))])
        (.cond (.tmp 63)
          (.reg [.p none 64 (.mv (.tmp 12)),
              .l none (some 65) (.ld (some 8) (.tmp 14)),
              .l none (some 66) (.bs 25 1 8 [(.int .i64 0), (.int .i64 0), (.int .i64 0), (.int .i64 0), (.int .i64 0), (.int .i64 0), (.int .i64 0), (.int .u32 0)] [(0, 8, (.tmp 65))]),
              .l none (some 67) (.app 25 64 8 [(.int .i64 0), (.int .i64 0), (.int .i64 0), (.int .i64 0), (.int .i64 0), (.int .i64 0), (.int .i64 0), (.int .u32 0)] (.tmp 64) (.tmp 66)),
              .p none 12 (.mv (.tmp 67))])
          (.reg [.p none 68 (.mv (.tmp 11)),
              .l none (some 69) (.ld (some 8) (.tmp 14)),
              .l none (some 70) (.bs 25 1 8 [(.int .i64 0), (.int .i64 0), (.int .i64 0), (.int .i64 0), (.int .i64 0), (.int .i64 0), (.int .i64 0), (.int .u32 0)] [(0, 8, (.tmp 69))]),
              .l none (some 71) (.app 25 64 8 [(.int .i64 0), (.int .i64 0), (.int .i64 0), (.int .i64 0), (.int .i64 0), (.int .i64 0), (.int .i64 0), (.int .u32 0)] (.tmp 68) (.tmp 70)),
              .p none 11 (.mv (.tmp 71))])))))
      (.reg [.p none 24 (.mv (.tmp 13)),
          .p none 25 (.bin .add .i64 (.tmp 24) (.const (.int .i64 1))),
          .p none 13 (.mv (.tmp 25))]))))))
  (.seq (.reg [.p none 72 (.mv (.tmp 0)),
      .p none 73 (.mv (.tmp 11)),
      .p none 74 (.nilchk (.tmp 72)),
      .p none 75 (.fa 0 (.tmp 74)),
      .l none none (.st 1 (.tmp 75) (.tmp 73))])
  (.seq (.reg [.p none 76 (.mv (.tmp 12)),
      .p none 10 (.mv (.tmp 76))])
  .ret))))))
theorem C24 : compile Try.prog 77 (Try.f24.body.getD .skip) = some M24 := by kernel_rfl

/-- winnowlaw16.spoil -/
def M25 : MC :=
  (.seq (.reg [.p none 4 (.mv (.const (.int .i64 0)))])
  (.seq (.seq (.reg [.p none 5 (.mv (.const (.int .i64 0)))])
  (.block 0
    (.loop
      (.seq (.seq (.reg [.p none 7 (.mv (.tmp 5)),
          .p none 8 (.mv (.tmp 0)),
          .p none 9 (.len (.tmp 8)),
          .p none 10 (.bin .lss .i64 (.tmp 7) (.tmp 9))])
      (.cond (.tmp 10)
        .skip
        (.exit 0)))
      (.seq (.block 1
        (.reg [.p none 13 (.mv (.tmp 0)),
            .p none 14 (.mv (.tmp 5)),
            .p none 15 (.mv (.tmp 1)),
            .p none 16 (.bld [(.int .i64 0), (.int .i64 0), (.int .i64 0), (.int .i64 0), (.int .i64 0), (.int .i64 0), (.int .i64 0), (.int .u32 0)] [(0, 1, (.tmp 15))]),
            .p none 17 (.idx 8 (.tmp 13) (.tmp 14)),
            .l none none (.st 8 (.tmp 17) (.tmp 16))]))
      (.reg [.p none 11 (.mv (.tmp 5)),
          .p none 12 (.bin .add .i64 (.tmp 11) (.const (.int .i64 1))),
          .p none 5 (.mv (.tmp 12))]))))))
  (.seq (.seq (.reg [.p none 6 (.mv (.const (.int .i64 0)))])
  (.block 2
    (.loop
      (.seq (.seq (.reg [.p none 18 (.mv (.tmp 6)),
          .p none 19 (.bin .lss .i64 (.tmp 18) (.const (.int .i64 64)))])
      (.cond (.tmp 19)
        .skip
        (.exit 2)))
      (.seq (.block 3
        (.reg [.p none 22 (.mv (.tmp 0)),
            .p none 23 (.mv (.tmp 1)),
            .p none 24 (.neg .i64 (.tmp 23)),
            .p none 25 (.bld [(.int .i64 0), (.int .i64 0), (.int .i64 0), (.int .i64 0), (.int .i64 0), (.int .i64 0), (.int .i64 0), (.int .u32 0)] [(0, 1, (.tmp 24))]),
            .l none (some 26) (.bs 25 1 8 [(.int .i64 0), (.int .i64 0), (.int .i64 0), (.int .i64 0), (.int .i64 0), (.int .i64 0), (.int .i64 0), (.int .u32 0)] [(0, 8, (.tmp 25))]),
            .l none (some 27) (.app 25 64 8 [(.int .i64 0), (.int .i64 0), (.int .i64 0), (.int .i64 0), (.int .i64 0), (.int .i64 0), (.int .i64 0), (.int .u32 0)] (.tmp 22) (.tmp 26)),
            .p none 0 (.mv (.tmp 27))]))
      (.reg [.p none 20 (.mv (.tmp 6)),
          .p none 21 (.bin .add .i64 (.tmp 20) (.const (.int .i64 1))),
          .p none 6 (.mv (.tmp 21))]))))))
  (.seq (.reg [.p none 28 (.mv (.tmp 0)),
      .p none 29 (.len (.tmp 28)),
      .p none 4 (.mv (.tmp 29))])
  .ret))))
theorem C25 : compile Try.prog 30 (Try.f25.body.getD .skip) = some M25 := by kernel_rfl

/-- (*winnowref16.Plan).Left -/
def M26 : MC :=
  (.seq (.reg [.p none 2 (.mv (.const (.slice none 0 0)))])
  (.seq (.seq (.reg [.p none 3 (.mv (.tmp 0)),
      .p none 4 (.isnil false 0 (.tmp 3))])
  (.cond (.tmp 4)
    (.seq (.reg [.p none 2 (.mv (.const (.slice none 0 0)))])
    .ret)
    .skip))
  (.seq (.reg [.l none (some 5) (.bs 25 0 8 [] []),
      .p none 6 (.mv (.tmp 0)),
      .p none 7 (.nilchk (.tmp 6)),
      .p none 8 (.fa 0 (.tmp 7)),
      .l none (some 9) (.ld none (.tmp 8)),
      .l none (some 10) (.app 25 64 8 [(.int .i64 0), (.int .i64 0), (.int .i64 0), (.int .i64 0), (.int .i64 0), (.int .i64 0), (.int .i64 0), (.int .u32 0)] (.tmp 5) (.tmp 9)),
      .p none 2 (.mv (.tmp 10))])
  .ret)))
theorem C26 : compile Try.prog 11 (Try.f26.body.getD .skip) = some M26 := by kernel_rfl

/-- winnowlaw16.whole -/
def M27 : MC :=
  (.seq (.reg [.p none 2 (.mv (.const (.bool false)))])
  (.seq (.seq (.reg [.p none 3 (.mv (.const (.int .i64 0)))])
  (.block 0
    (.loop
      (.seq (.seq (.reg [.p none 6 (.mv (.tmp 3)),
          .p none 7 (.mv (.tmp 0)),
          .p none 8 (.len (.tmp 7)),
          .p none 9 (.bin .lss .i64 (.tmp 6) (.tmp 8))])
      (.cond (.tmp 9)
        .skip
        (.exit 0)))
      (.seq (.block 1
        (.dreg (.line [.qp 0 none 12 (.mv (.tmp 0)),
            .qp 1 none 13 (.mv (.tmp 3)),
            .qp 2 none 14 (.idx 2 (.tmp 12) (.tmp 13)),
            .qp 3 none 15 (.fa 0 (.tmp 14)),
            .qp 5 none 17 (.mv (.tmp 0)),
            .qp 6 none 18 (.mv (.tmp 3)),
            .qp 7 none 19 (.idx 2 (.tmp 17) (.tmp 18)),
            .qp 8 none 20 (.fa 0 (.tmp 19)),
            .ql 9 none 21 none (.tmp 20),
            .qp 10 none 22 (.len (.tmp 21)),
            .l 4 none (some 16) (.ld none (.tmp 15)),
            .qp 11 none 23 (.slc 8 (.tmp 16) (some (.tmp 22)) none none),
            .l 12 none (some 24) (.call 25 [(.tmp 23), (.const (.int .i64 5))])])))
      (.reg [.p none 10 (.mv (.tmp 3)),
          .p none 11 (.bin .add .i64 (.tmp 10) (.const (.int .i64 1))),
          .p none 3 (.mv (.tmp 11))]))))))
  (.seq (.seq (.reg [.p none 4 (.mv (.const (.int .i64 0)))])
  (.block 2
    (.loop
      (.seq (.seq (.reg [.p none 25 (.mv (.tmp 4)),
          .p none 26 (.mv (.tmp 0)),
          .p none 27 (.len (.tmp 26)),
          .p none 28 (.bin .lss .i64 (.tmp 25) (.tmp 27))])
      (.cond (.tmp 28)
        .skip
        (.exit 2)))
      (.seq (.block 3
        (.seq (.reg [.p none 5 (.mv (.const (.int .i64 0)))])
        (.block 4
          (.loop
            (.seq (.seq (.reg [.p none 31 (.mv (.tmp 5)),
                .p none 32 (.mv (.tmp 0)),
                .p none 33 (.mv (.tmp 4)),
                .p none 34 (.idx 2 (.tmp 32) (.tmp 33)),
                .p none 35 (.fa 0 (.tmp 34)),
                .l none (some 36) (.ld none (.tmp 35)),
                .p none 37 (.len (.tmp 36)),
                .p none 38 (.bin .lss .i64 (.tmp 31) (.tmp 37))])
            (.cond (.tmp 38)
              .skip
              (.exit 4)))
            (.seq (.block 5
              (.seq (.dreg (.line [.qp 0 none 41 (.mv (.tmp 0)),
                  .qp 1 none 42 (.mv (.tmp 4)),
                  .qp 2 none 43 (.idx 2 (.tmp 41) (.tmp 42)),
                  .qp 3 none 44 (.fa 0 (.tmp 43)),
                  .qp 5 none 46 (.mv (.tmp 5)),
                  .qp 8 none 49 (.mv (.tmp 0)),
                  .qp 9 none 50 (.mv (.tmp 4)),
                  .qp 10 none 51 (.idx 2 (.tmp 49) (.tmp 50)),
                  .qp 11 none 52 (.fa 1 (.tmp 51)),
                  .ql 12 none 53 none (.tmp 52),
                  .qp 13 none 54 (.bld [(.int .i64 0), (.int .i64 0), (.int .i64 0), (.int .i64 0), (.int .i64 0), (.int .i64 0), (.int .i64 0), (.int .u32 0)] [(0, 1, (.tmp 53))]),
                  .l 4 none (some 45) (.ld none (.tmp 44)),
                  .qp 6 none 47 (.idx 8 (.tmp 45) (.tmp 46)),
                  .l 7 none (some 48) (.ld (some 8) (.tmp 47)),
                  .qp 14 none 55 (.aeq true [1, 1, 1, 1, 1, 1, 1, 1] (.tmp 48) (.tmp 54))]))
              (.cond (.tmp 55)
                (.seq (.reg [.p none 2 (.mv (.const (.bool false)))])
                .ret)
                .skip)))
            (.reg [.p none 39 (.mv (.tmp 5)),
                .p none 40 (.bin .add .i64 (.tmp 39) (.const (.int .i64 1))),
                .p none 5 (.mv (.tmp 40))])))))))
      (.reg [.p none 29 (.mv (.tmp 4)),
          .p none 30 (.bin .add .i64 (.tmp 29) (.const (.int .i64 1))),
          .p none 4 (.mv (.tmp 30))]))))))
  (.seq (.reg [.p none 2 (.mv (.const (.bool true)))])
  .ret))))
theorem C27 : compile Try.prog 56 (Try.f27.body.getD .skip) = some M27 := by kernel_rfl
end Go.Proofs.Ytnkilhmkegmenaa.E
