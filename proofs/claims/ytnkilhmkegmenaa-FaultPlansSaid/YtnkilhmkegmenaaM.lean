/- The intermediate code of the functions that are walked here, each with the proof that it is the translation of the model's code. -/
import Derived.Test.YtnkilhmkegmenaaE6
import Derived.KernelRfl
namespace Go.Proofs.Ytnkilhmkegmenaa.E
open Go
theorem mixed : Try.prog.follows .mixedOrders = true := by kernel_rfl

/-- winnowlaw16.FaultPlans -/
noncomputable def M4 : MC :=
  (.seq (.reg [.p none 4 (.mv (.const (.bool false)))])
  (.seq (.reg [.p none 5 (.mv (.const (.pointer none)))])
  (.seq (.reg [.p none 28 (.mv (.tmp 5)),
      .l none (some 29) (.call 16 [(.tmp 28), (.const (.int .i64 0)), (.const (.int .i64 0)), (.const (.int .i64 1))]),
      .p none 27 (.mv (.tmp 29)),
      .p none 30 (.ext 0 (.tmp 27)),
      .p none 31 (.ext 1 (.tmp 27)),
      .p none 6 (.mv (.tmp 30)),
      .p none 7 (.mv (.tmp 31))])
  (.seq (.seq (.reg [.p none 32 (.mv (.tmp 6)),
      .p none 33 (.bin .neq .i64 (.tmp 32) (.const (.int .i64 0))),
      .p none 34 (.mv (.tmp 33)),
      .split 34,
      .p (some (34, false)) 35 (.mv (.tmp 7)),
      .p none 36 (.pick (.tmp 34) (.const (.bool true)) (.tmp 35)),
      .p none 37 (.mv (.tmp 36)),
      .split 37,
      .p (some (37, false)) 38 (.mv (.tmp 5)),
      .l (some (37, false)) (some 39) (.call 17 [(.tmp 38), (.const (.int .i64 0)), (.const (.int .i64 1)), (.const (.int .i64 0)), (.const (.int .i64 0))]),
      .p (some (37, false)) 40 (.len (.tmp 39)),
      .p (some (37, false)) 41 (.bin .neq .i64 (.tmp 40) (.const (.int .i64 0))),
      .p none 42 (.pick (.tmp 37) (.const (.bool true)) (.tmp 41)),
      .p none 43 (.mv (.tmp 42)),
      .split 43,
      .p (some (43, false)) 44 (.mv (.tmp 5)),
      .l (some (43, false)) (some 45) (.call 18 [(.tmp 44)]),
      .p (some (43, false)) 46 (.len (.tmp 45)),
      .p (some (43, false)) 47 (.bin .neq .i64 (.tmp 46) (.const (.int .i64 0))),
      .p none 48 (.pick (.tmp 43) (.const (.bool true)) (.tmp 47))])
  (.cond (.tmp 48)
    (.seq (.reg [.p none 4 (.mv (.const (.bool false)))])
    .ret)
    .skip))
  (.seq (.reg [.p none 49 (.mv (.tmp 0)),
      .l none (some 50) (.call 19 [(.tmp 49)]),
      .p none 8 (.mv (.tmp 50))])
  (.seq (.reg [.p none 52 (.mv (.tmp 8)),
      .p none 53 (.mv (.tmp 0)),
      .p none 54 (.len (.tmp 53)),
      .p none 55 (.slc 8 (.tmp 52) none (some (.tmp 54)) none),
      .l none (some 56) (.call 20 [(.tmp 55)]),
      .p none 51 (.mv (.tmp 56)),
      .p none 57 (.ext 0 (.tmp 51)),
      .p none 58 (.ext 1 (.tmp 51)),
      .p none 9 (.mv (.tmp 57)),
      .p none 10 (.mv (.tmp 58))])
  (.seq (.reg [.p none 60 (.mv (.tmp 8)),
      .p none 61 (.mv (.tmp 0)),
      .p none 62 (.len (.tmp 61)),
      .p none 63 (.slc 8 (.tmp 60) none (some (.tmp 62)) none),
      .l none (some 64) (.call 20 [(.tmp 63)]),
      .p none 59 (.mv (.tmp 64)),
      .p none 65 (.ext 0 (.tmp 59)),
      .p none 66 (.ext 1 (.tmp 59)),
      .p none 11 (.mv (.tmp 65)),
      .p none 12 (.mv (.tmp 66))])
  (.seq (.reg [.p none 68 (.mv (.tmp 0)),
      .l none (some 69) (.call 21 [(.tmp 68)]),
      .p none 67 (.mv (.tmp 69)),
      .p none 70 (.ext 0 (.tmp 67)),
      .p none 71 (.ext 1 (.tmp 67)),
      .p none 13 (.mv (.tmp 70)),
      .p none 14 (.mv (.tmp 71))])
  (.seq (.seq (.reg [.p none 72 (.mv (.tmp 10)),
      .p none 73 (.mv (.tmp 14)),
      .p none 74 (.bin .neq .i64 (.tmp 72) (.tmp 73)),
      .p none 75 (.mv (.tmp 74)),
      .split 75,
      .p (some (75, false)) 76 (.mv (.tmp 12)),
      .p (some (75, false)) 77 (.mv (.tmp 14)),
      .p (some (75, false)) 78 (.bin .neq .i64 (.tmp 76) (.tmp 77)),
      .p none 79 (.pick (.tmp 75) (.const (.bool true)) (.tmp 78)),
      .p none 80 (.mv (.tmp 79)),
      .split 80,
      .p (some (80, false)) 81 (.mv (.tmp 9)),
      .p (some (80, false)) 82 (.isnil false 0 (.tmp 81)),
      .p (some (80, false)) 83 (.mv (.tmp 13)),
      .p (some (80, false)) 84 (.isnil false 0 (.tmp 83)),
      .p (some (80, false)) 85 (.beq true (.tmp 82) (.tmp 84)),
      .p none 86 (.pick (.tmp 80) (.const (.bool true)) (.tmp 85)),
      .p none 87 (.mv (.tmp 86)),
      .split 87,
      .p (some (87, false)) 88 (.mv (.tmp 11)),
      .p (some (87, false)) 89 (.isnil false 0 (.tmp 88)),
      .p (some (87, false)) 90 (.mv (.tmp 13)),
      .p (some (87, false)) 91 (.isnil false 0 (.tmp 90)),
      .p (some (87, false)) 92 (.beq true (.tmp 89) (.tmp 91)),
      .p none 93 (.pick (.tmp 87) (.const (.bool true)) (.tmp 92)),
      .p none 94 (.mv (.tmp 93)),
      .split 94,
      .p (some (94, false)) 95 (.mv (.tmp 8)),
      .p (some (94, false)) 96 (.mv (.tmp 0)),
      .l (some (94, false)) (some 97) (.call 19 [(.tmp 96)]),
      .l (some (94, false)) (some 98) (.call 22 [(.tmp 95), (.tmp 97)]),
      .p (some (94, false)) 99 (.not (.tmp 98)),
      .p none 100 (.pick (.tmp 94) (.const (.bool true)) (.tmp 99))])
  (.cond (.tmp 100)
    (.seq (.reg [.p none 4 (.mv (.const (.bool false)))])
    .ret)
    .skip))
  (.seq (.seq (.reg [.p none 15 (.mv (.const (.int .i64 0)))])
  (.block 0
    (.loop
      (.seq (.seq (.reg [.p none 101 (.mv (.tmp 15)),
          .p none 102 (.mv (.tmp 0)),
          .p none 103 (.len (.tmp 102)),
          .p none 104 (.bin .lss .i64 (.tmp 101) (.tmp 103))])
      (.cond (.tmp 104)
        .skip
        (.exit 0)))
      (.seq (.block 1
        (.reg [.p none 107 (.mv (.tmp 8)),
            .p none 108 (.mv (.tmp 15)),
            .p none 109 (.bld [(.int .i64 0), (.int .i64 0), (.int .i64 0), (.int .i64 0), (.int .i64 0), (.int .i64 0), (.int .i64 0), (.int .u32 0)] [(0, 1, (.const (.int .i64 79)))]),
            .p none 110 (.idx 8 (.tmp 107) (.tmp 108)),
            .l none none (.st 8 (.tmp 110) (.tmp 109))]))
      (.reg [.p none 105 (.mv (.tmp 15)),
          .p none 106 (.bin .add .i64 (.tmp 105) (.const (.int .i64 1))),
          .p none 15 (.mv (.tmp 106))]))))))
  (.seq (.reg [.p none 16 (.mv (.const (.slice none 0 0)))])
  (.seq (.seq (.reg [.p none 17 (.mv (.const (.int .i64 0)))])
  (.block 2
    (.loop
      (.seq (.seq (.reg [.p none 111 (.mv (.tmp 17)),
          .p none 112 (.mv (.tmp 1)),
          .p none 113 (.len (.tmp 112)),
          .p none 114 (.bin .lss .i64 (.tmp 111) (.tmp 113))])
      (.cond (.tmp 114)
        .skip
        (.exit 2)))
      (.seq (.block 3
        (.seq (.reg [.p none 117 (.mv (.tmp 1)),
            .p none 118 (.mv (.tmp 17)),
            .p none 119 (.idx 5 (.tmp 117) (.tmp 118)),
            .l none (some 120) (.ld (some 5) (.tmp 119)),
            .l none (some 18) (.al 49 [(.int .i64 0), (.int .i64 0), (.int .i64 0), (.int .i64 0), (.int .i64 0)]),
            .l none none (.st 5 (.tmp 18) (.tmp 120))])
        (.seq (.reg [.p none 121 (.fa 0 (.tmp 18)),
            .l none (some 122) (.ld none (.tmp 121))])
        (.block 4
          (.seq (.reg [.p none 149 (.bin .eql .i64 (.tmp 122) (.const (.int .i64 0))),
              .p none 148 (.mv (.tmp 149))])
          (.cond (.tmp 148)
            (.seq (.reg [.p none 151 (.mv (.tmp 9)),
                .p none 152 (.fa 1 (.tmp 18)),
                .l none (some 153) (.ld none (.tmp 152)),
                .p none 154 (.fa 2 (.tmp 18)),
                .l none (some 155) (.ld none (.tmp 154)),
                .p none 156 (.fa 3 (.tmp 18)),
                .l none (some 157) (.ld none (.tmp 156)),
                .l none (some 158) (.call 16 [(.tmp 151), (.tmp 153), (.tmp 155), (.tmp 157)]),
                .p none 150 (.mv (.tmp 158)),
                .p none 159 (.ext 0 (.tmp 150)),
                .p none 160 (.ext 1 (.tmp 150)),
                .p none 19 (.mv (.tmp 159)),
                .p none 20 (.mv (.tmp 160))])
            (.seq (.reg [.p none 162 (.mv (.tmp 13)),
                .p none 163 (.fa 1 (.tmp 18)),
                .l none (some 164) (.ld none (.tmp 163)),
                .p none 165 (.fa 2 (.tmp 18)),
                .l none (some 166) (.ld none (.tmp 165)),
                .p none 167 (.fa 3 (.tmp 18)),
                .l none (some 168) (.ld none (.tmp 167)),
                .l none (some 169) (.call 23 [(.tmp 162), (.tmp 164), (.tmp 166), (.tmp 168)]),
                .p none 161 (.mv (.tmp 169)),
                .p none 170 (.ext 0 (.tmp 161)),
                .p none 171 (.ext 1 (.tmp 161)),
                .p none 21 (.mv (.tmp 170)),
                .p none 22 (.mv (.tmp 171))])
            (.seq (.reg [.p none 172 (.mv (.tmp 19)),
                .p none 173 (.mv (.tmp 21)),
                .p none 174 (.bin .neq .i64 (.tmp 172) (.tmp 173)),
                .p none 175 (.mv (.tmp 174)),
                .split 175,
                .p (some (175, false)) 176 (.mv (.tmp 20)),
                .p (some (175, false)) 177 (.mv (.tmp 22)),
                .p (some (175, false)) 178 (.beq true (.tmp 176) (.tmp 177)),
                .p none 179 (.pick (.tmp 175) (.const (.bool true)) (.tmp 178))])
            (.cond (.tmp 179)
              (.seq (.reg [.p none 4 (.mv (.const (.bool false)))])
              .ret)
              .skip))))
            (.seq (.reg [.p none 181 (.bin .eql .i64 (.tmp 122) (.const (.int .i64 1))),
                .p none 180 (.mv (.tmp 181))])
            (.cond (.tmp 180)
              (.seq (.reg [.p none 182 (.mv (.tmp 9)),
                  .p none 183 (.fa 1 (.tmp 18)),
                  .l none (some 184) (.ld none (.tmp 183)),
                  .p none 185 (.fa 2 (.tmp 18)),
                  .l none (some 186) (.ld none (.tmp 185)),
                  .p none 187 (.fa 3 (.tmp 18)),
                  .l none (some 188) (.ld none (.tmp 187)),
                  .p none 189 (.fa 4 (.tmp 18)),
                  .l none (some 190) (.ld none (.tmp 189)),
                  .l none (some 191) (.call 17 [(.tmp 182), (.tmp 184), (.tmp 186), (.tmp 188), (.tmp 190)]),
                  .p none 23 (.mv (.tmp 191))])
              (.seq (.seq (.reg [.p none 192 (.mv (.tmp 23)),
                  .p none 193 (.mv (.tmp 13)),
                  .p none 194 (.fa 1 (.tmp 18)),
                  .l none (some 195) (.ld none (.tmp 194)),
                  .p none 196 (.fa 2 (.tmp 18)),
                  .l none (some 197) (.ld none (.tmp 196)),
                  .p none 198 (.fa 3 (.tmp 18)),
                  .l none (some 199) (.ld none (.tmp 198)),
                  .p none 200 (.fa 4 (.tmp 18)),
                  .l none (some 201) (.ld none (.tmp 200)),
                  .l none (some 202) (.call 24 [(.tmp 193), (.tmp 195), (.tmp 197), (.tmp 199), (.tmp 201)]),
                  .l none (some 203) (.call 22 [(.tmp 192), (.tmp 202)]),
                  .p none 204 (.not (.tmp 203))])
              (.cond (.tmp 204)
                (.seq (.reg [.p none 4 (.mv (.const (.bool false)))])
                .ret)
                .skip))
              (.seq (.reg [.p none 205 (.mv (.tmp 23)),
                  .p none 206 (.mv (.tmp 17)),
                  .p none 207 (.bin .add .i64 (.const (.int .i64 1000)) (.tmp 206)),
                  .l none (some 208) (.call 25 [(.tmp 205), (.tmp 207)])])
              (.reg [.p none 209 (.mv (.tmp 16)),
                  .p none 210 (.mv (.tmp 23)),
                  .p none 211 (.mv (.tmp 17)),
                  .p none 212 (.bin .add .i64 (.const (.int .i64 1000)) (.tmp 211)),
                  .p none 213 (.bld [(.slice none 0 0), (.int .i64 0)] [(0, 1, (.tmp 210)), (1, 1, (.tmp 212))]),
                  .l none (some 214) (.bs 52 1 2 [(.slice none 0 0), (.int .i64 0)] [(0, 2, (.tmp 213))]),
                  .l none (some 215) (.app 52 32 2 [(.slice none 0 0), (.int .i64 0)] (.tmp 209) (.tmp 214)),
                  .p none 16 (.mv (.tmp 215))]))))
              (.seq (.reg [.p none 123 (.mv (.tmp 9)),
                  .l none (some 124) (.call 18 [(.tmp 123)]),
                  .p none 24 (.mv (.tmp 124))])
              (.seq (.reg [.p none 125 (.mv (.tmp 9)),
                  .l none (some 126) (.call 18 [(.tmp 125)]),
                  .p none 25 (.mv (.tmp 126))])
              (.seq (.seq (.reg [.p none 127 (.mv (.tmp 24)),
                  .p none 128 (.mv (.tmp 13)),
                  .l none (some 129) (.call 26 [(.tmp 128)]),
                  .l none (some 130) (.call 22 [(.tmp 127), (.tmp 129)]),
                  .p none 131 (.not (.tmp 130))])
              (.cond (.tmp 131)
                (.seq (.reg [.p none 4 (.mv (.const (.bool false)))])
                .ret)
                .skip))
              (.seq (.reg [.p none 132 (.mv (.tmp 24)),
                  .p none 133 (.mv (.tmp 17)),
                  .p none 134 (.bin .add .i64 (.const (.int .i64 1000)) (.tmp 133)),
                  .l none (some 135) (.call 25 [(.tmp 132), (.tmp 134)])])
              (.seq (.seq (.reg [.p none 136 (.mv (.tmp 25)),
                  .p none 137 (.mv (.tmp 13)),
                  .l none (some 138) (.call 26 [(.tmp 137)]),
                  .l none (some 139) (.call 22 [(.tmp 136), (.tmp 138)]),
                  .p none 140 (.not (.tmp 139))])
              (.cond (.tmp 140)
                (.seq (.reg [.p none 4 (.mv (.const (.bool false)))])
                .ret)
                .skip))
              (.reg [.p none 141 (.mv (.tmp 16)),
                  .p none 142 (.mv (.tmp 24)),
                  .p none 143 (.mv (.tmp 17)),
                  .p none 144 (.bin .add .i64 (.const (.int .i64 1000)) (.tmp 143)),
                  .p none 145 (.bld [(.slice none 0 0), (.int .i64 0)] [(0, 1, (.tmp 142)), (1, 1, (.tmp 144))]),
                  .l none (some 146) (.bs 52 1 2 [(.slice none 0 0), (.int .i64 0)] [(0, 2, (.tmp 145))]),
                  .l none (some 147) (.app 52 32 2 [(.slice none 0 0), (.int .i64 0)] (.tmp 141) (.tmp 146)),
                  .p none 16 (.mv (.tmp 147))]))))))))))))))
      (.reg [.p none 115 (.mv (.tmp 17)),
          .p none 116 (.bin .add .i64 (.tmp 115) (.const (.int .i64 1))),
          .p none 17 (.mv (.tmp 116))]))))))
  (.seq (.reg [.p none 216 (.mv (.tmp 11)),
      .l none (some 217) (.call 18 [(.tmp 216)]),
      .p none 26 (.mv (.tmp 217))])
  (.seq (.reg [.p none 218 (.mv (.tmp 16)),
      .l none (some 219) (.call 27 [(.tmp 218)]),
      .p none 220 (.mv (.tmp 219)),
      .split 220,
      .p (some (220, true)) 221 (.mv (.tmp 9)),
      .l (some (220, true)) (some 222) (.call 18 [(.tmp 221)]),
      .p (some (220, true)) 223 (.mv (.tmp 13)),
      .l (some (220, true)) (some 224) (.call 26 [(.tmp 223)]),
      .l (some (220, true)) (some 225) (.call 22 [(.tmp 222), (.tmp 224)]),
      .p none 226 (.pick (.tmp 220) (.tmp 225) (.const (.bool false))),
      .p none 227 (.mv (.tmp 226)),
      .split 227,
      .p (some (227, true)) 228 (.mv (.tmp 13)),
      .p (some (227, true)) 229 (.isnil false 0 (.tmp 228)),
      .p (some (227, true)) 230 (.mv (.tmp 229)),
      .split 230,
      .p (some (230, true)) 231 (.mv (.tmp 26)),
      .p (some (230, true)) 232 (.len (.tmp 231)),
      .p (some (230, true)) 233 (.bin .eql .i64 (.tmp 232) (.const (.int .i64 0))),
      .p (some (227, true)) 234 (.pick (.tmp 230) (.tmp 233) (.const (.bool false))),
      .p (some (227, true)) 235 (.mv (.tmp 234)),
      .split 235,
      .p (some (235, false)) 236 (.mv (.tmp 13)),
      .p (some (235, false)) 237 (.isnil true 0 (.tmp 236)),
      .p (some (235, false)) 238 (.mv (.tmp 237)),
      .split 238,
      .p (some (238, true)) 239 (.mv (.tmp 26)),
      .p (some (238, true)) 240 (.mv (.tmp 0)),
      .l (some (238, true)) (some 241) (.call 22 [(.tmp 239), (.tmp 240)]),
      .p (some (235, false)) 242 (.pick (.tmp 238) (.tmp 241) (.const (.bool false))),
      .p (some (227, true)) 243 (.pick (.tmp 235) (.const (.bool true)) (.tmp 242)),
      .p none 244 (.pick (.tmp 227) (.tmp 243) (.const (.bool false))),
      .p none 4 (.mv (.tmp 244))])
  .ret))))))))))))))
theorem C4 : compile Try.prog 245 (Try.f4.body.getD .skip) = some M4 := by kernel_rfl

/-- (*fault.Plan).Stop -/
noncomputable def M16 : MC :=
  (.seq (.reg [.p none 8 (.mv (.const (.int .i64 0))),
      .p none 9 (.mv (.const (.bool false)))])
  (.seq (.reg [.p none 12 (.mv (.tmp 1)),
      .p none 13 (.mv (.tmp 2)),
      .p none 14 (.mv (.tmp 3)),
      .p none 15 (.bld [(.int .i64 0), (.int .i64 0), (.int .i64 0), (.int .i64 0)] [(0, 1, (.const (.int .i64 0))), (1, 1, (.tmp 12)), (2, 1, (.tmp 13)), (3, 1, (.tmp 14))]),
      .l none (some 10) (.al 68 [(.int .i64 0), (.int .i64 0), (.int .i64 0), (.int .i64 0)]),
      .l none none (.st 4 (.tmp 10) (.tmp 15))])
  (.seq (.reg [.p none 16 (.mv (.tmp 0)),
      .p none 17 (.mkf (.func 40) [] [(.tmp 10)]),
      .l none (some 18) (.call 39 [(.tmp 16), (.tmp 17)]),
      .p none 11 (.mv (.tmp 18))])
  (.seq (.seq (.reg [.p none 19 (.mv (.tmp 11)),
      .p none 20 (.len (.tmp 19)),
      .p none 21 (.bin .eql .i64 (.tmp 20) (.const (.int .i64 0)))])
  (.cond (.tmp 21)
    (.seq (.reg [.p none 8 (.mv (.const (.int .i64 0))),
        .p none 9 (.mv (.const (.bool false)))])
    .ret)
    .skip))
  (.seq (.reg [.p none 22 (.mv (.tmp 11)),
      .p none 23 (.idx 8 (.tmp 22) (.const (.int .i64 0))),
      .p none 24 (.fa 6 (.tmp 23)),
      .l none (some 25) (.ld none (.tmp 24)),
      .p none 8 (.mv (.tmp 25)),
      .p none 9 (.mv (.const (.bool true)))])
  .ret)))))
theorem C16 : compile Try.prog 26 (Try.f16.body.getD .skip) = some M16 := by kernel_rfl

/-- (*fault.Plan).Due -/
noncomputable def M17 : MC :=
  (.seq (.reg [.l none (some 6) (.bx 3 (.tmp 1)),
      .l none (some 7) (.bx 3 (.tmp 2)),
      .l none (some 8) (.bx 3 (.tmp 3)),
      .l none (some 9) (.bx 3 (.tmp 4)),
      .p none 10 (.mv (.const (.slice none 0 0)))])
  (.seq (.reg [.p none 11 (.mv (.tmp 0)),
      .p none 12 (.mkf (.func 42) [] [(.tmp 6), (.tmp 7), (.tmp 8), (.tmp 9)]),
      .l none (some 13) (.call 39 [(.tmp 11), (.tmp 12)]),
      .p none 10 (.mv (.tmp 13))])
  .ret))
theorem C17 : compile Try.prog 14 (Try.f17.body.getD .skip) = some M17 := by kernel_rfl

/-- (*fault.Plan).Left -/
noncomputable def M18 : MC :=
  (.seq (.reg [.p none 2 (.mv (.const (.slice none 0 0)))])
  (.seq (.seq (.reg [.p none 3 (.mv (.tmp 0)),
      .p none 4 (.isnil false 0 (.tmp 3))])
  (.cond (.tmp 4)
    (.seq (.reg [.p none 2 (.mv (.const (.slice none 0 0)))])
    .ret)
    .skip))
  (.seq (.reg [.l none (some 5) (.bs 25 0 8 [] []),
      .p none 6 (.mv (.tmp 0)),
      .p none 7 (.nilchk (.tmp 6)),
      .p none 8 (.fa 0 (.tmp 7)),
      .l none (some 9) (.ld none (.tmp 8)),
      .l none (some 10) (.app 25 64 8 [(.int .i64 0), (.int .i64 0), (.int .i64 0), (.int .i64 0), (.int .i64 0), (.int .i64 0), (.int .i64 0), (.int .u32 0)] (.tmp 5) (.tmp 9)),
      .p none 2 (.mv (.tmp 10))])
  .ret)))
theorem C18 : compile Try.prog 11 (Try.f18.body.getD .skip) = some M18 := by kernel_rfl

/-- winnowlaw16.given -/
noncomputable def M19 : MC :=
  (.seq (.reg [.p none 2 (.mv (.const (.slice none 0 0)))])
  (.seq (.reg [.p none 5 (.mv (.tmp 0)),
      .p none 6 (.len (.tmp 5)),
      .p none 7 (.bin .add .i64 (.tmp 6) (.const (.int .i64 64))),
      .l none (some 8) (.mks 25 64 8 [(.int .i64 0), (.int .i64 0), (.int .i64 0), (.int .i64 0), (.int .i64 0), (.int .i64 0), (.int .i64 0), (.int .u32 0)] (.tmp 7) (.tmp 7)),
      .p none 3 (.mv (.tmp 8))])
  (.seq (.seq (.reg [.p none 4 (.mv (.const (.int .i64 0)))])
  (.block 0
    (.loop
      (.seq (.seq (.reg [.p none 9 (.mv (.tmp 4)),
          .p none 10 (.mv (.tmp 3)),
          .p none 11 (.len (.tmp 10)),
          .p none 12 (.bin .lss .i64 (.tmp 9) (.tmp 11))])
      (.cond (.tmp 12)
        .skip
        (.exit 0)))
      (.seq (.block 1
        (.seq (.reg [.p none 15 (.mv (.tmp 3)),
            .p none 16 (.mv (.tmp 4)),
            .p none 17 (.bld [(.int .i64 0), (.int .i64 0), (.int .i64 0), (.int .i64 0), (.int .i64 0), (.int .i64 0), (.int .i64 0), (.int .u32 0)] [(0, 1, (.const (.int .i64 7001))), (2, 1, (.const (.int .i64 5)))]),
            .p none 18 (.idx 8 (.tmp 15) (.tmp 16)),
            .l none none (.st 8 (.tmp 18) (.tmp 17))])
        (.seq (.reg [.p none 19 (.mv (.tmp 4)),
            .p none 20 (.mv (.tmp 0)),
            .p none 21 (.len (.tmp 20)),
            .p none 22 (.bin .lss .i64 (.tmp 19) (.tmp 21))])
        (.cond (.tmp 22)
          (.reg [.p none 23 (.mv (.tmp 3)),
              .p none 24 (.mv (.tmp 4)),
              .p none 25 (.mv (.tmp 0)),
              .p none 26 (.mv (.tmp 4)),
              .p none 27 (.idx 8 (.tmp 25) (.tmp 26)),
              .l none (some 28) (.ld (some 8) (.tmp 27)),
              .p none 29 (.idx 8 (.tmp 23) (.tmp 24)),
              .l none none (.st 8 (.tmp 29) (.tmp 28))])
          .skip))))
      (.reg [.p none 13 (.mv (.tmp 4)),
          .p none 14 (.bin .add .i64 (.tmp 13) (.const (.int .i64 1))),
          .p none 4 (.mv (.tmp 14))]))))))
  (.seq (.reg [.p none 30 (.mv (.tmp 3)),
      .p none 2 (.mv (.tmp 30))])
  .ret))))
theorem C19 : compile Try.prog 31 (Try.f19.body.getD .skip) = some M19 := by kernel_rfl

/-- fault.New -/
noncomputable def M20 : MC :=
  (.seq (.reg [.p none 2 (.mv (.const (.pointer none))),
      .p none 3 (.mv (.const (.int .i64 0)))])
  (.seq (.seq (.reg [.p none 5 (.mv (.tmp 0)),
      .l none (some 6) (.call 35 [(.tmp 5)]),
      .p none 4 (.mv (.tmp 6))])
  (.seq (.reg [.p none 7 (.mv (.tmp 4)),
      .p none 8 (.bin .neq .i64 (.tmp 7) (.const (.int .i64 0)))])
  (.cond (.tmp 8)
    (.seq (.reg [.p none 9 (.mv (.tmp 4)),
        .p none 2 (.mv (.const (.pointer none))),
        .p none 3 (.mv (.tmp 9))])
    .ret)
    .skip)))
  (.seq (.reg [.l none (some 10) (.bs 25 0 8 [] []),
      .p none 11 (.mv (.tmp 0)),
      .l none (some 12) (.app 25 64 8 [(.int .i64 0), (.int .i64 0), (.int .i64 0), (.int .i64 0), (.int .i64 0), (.int .i64 0), (.int .i64 0), (.int .u32 0)] (.tmp 10) (.tmp 11)),
      .p none 13 (.bld [(.slice none 0 0)] [(0, 1, (.tmp 12))]),
      .l none (some 14) (.bx 72 (.tmp 13)),
      .p none 2 (.mv (.tmp 14)),
      .p none 3 (.mv (.const (.int .i64 0)))])
  .ret)))
theorem C20 : compile Try.prog 15 (Try.f20.body.getD .skip) = some M20 := by kernel_rfl

/-- winnowref16.New -/
noncomputable def M21 : MC :=
  (.seq (.reg [.p none 2 (.mv (.const (.pointer none))),
      .p none 3 (.mv (.const (.int .i64 0)))])
  (.seq (.reg [.p none 5 (.mv (.tmp 0)),
      .l none (some 6) (.call 28 [(.tmp 5)]),
      .p none 4 (.mv (.tmp 6))])
  (.seq (.seq (.reg [.p none 7 (.mv (.tmp 4)),
      .p none 8 (.bin .neq .i64 (.tmp 7) (.const (.int .i64 0)))])
  (.cond (.tmp 8)
    (.seq (.reg [.p none 9 (.mv (.tmp 4)),
        .p none 2 (.mv (.const (.pointer none))),
        .p none 3 (.mv (.tmp 9))])
    .ret)
    .skip))
  (.seq (.reg [.l none (some 10) (.bs 25 0 8 [] []),
      .p none 11 (.mv (.tmp 0)),
      .l none (some 12) (.app 25 64 8 [(.int .i64 0), (.int .i64 0), (.int .i64 0), (.int .i64 0), (.int .i64 0), (.int .i64 0), (.int .i64 0), (.int .u32 0)] (.tmp 10) (.tmp 11)),
      .p none 13 (.bld [(.slice none 0 0)] [(0, 1, (.tmp 12))]),
      .l none (some 14) (.bx 74 (.tmp 13)),
      .p none 2 (.mv (.tmp 14)),
      .p none 3 (.mv (.const (.int .i64 0)))])
  .ret))))
theorem C21 : compile Try.prog 15 (Try.f21.body.getD .skip) = some M21 := by kernel_rfl

/-- winnowlaw16.sameFaults -/
noncomputable def M22 : MC :=
  (.seq (.reg [.p none 4 (.mv (.const (.bool false)))])
  (.seq (.seq (.reg [.p none 6 (.mv (.tmp 0)),
      .p none 7 (.len (.tmp 6)),
      .p none 8 (.mv (.tmp 1)),
      .p none 9 (.len (.tmp 8)),
      .p none 10 (.bin .neq .i64 (.tmp 7) (.tmp 9))])
  (.cond (.tmp 10)
    (.seq (.reg [.p none 4 (.mv (.const (.bool false)))])
    .ret)
    .skip))
  (.seq (.seq (.reg [.p none 5 (.mv (.const (.int .i64 0)))])
  (.block 0
    (.loop
      (.seq (.seq (.reg [.p none 11 (.mv (.tmp 5)),
          .p none 12 (.mv (.tmp 0)),
          .p none 13 (.len (.tmp 12)),
          .p none 14 (.bin .lss .i64 (.tmp 11) (.tmp 13))])
      (.cond (.tmp 14)
        .skip
        (.exit 0)))
      (.seq (.block 1
        (.seq (.dreg (.line [.qp 0 none 17 (.mv (.tmp 0)),
            .qp 1 none 18 (.mv (.tmp 5)),
            .qp 2 none 19 (.idx 8 (.tmp 17) (.tmp 18)),
            .qp 4 none 21 (.mv (.tmp 1)),
            .qp 5 none 22 (.mv (.tmp 5)),
            .qp 6 none 23 (.idx 8 (.tmp 21) (.tmp 22)),
            .ql 7 none 24 (some 8) (.tmp 23),
            .l 3 none (some 20) (.ld (some 8) (.tmp 19)),
            .qp 8 none 25 (.aeq true [1, 1, 1, 1, 1, 1, 1, 1] (.tmp 20) (.tmp 24))]))
        (.cond (.tmp 25)
          (.seq (.reg [.p none 4 (.mv (.const (.bool false)))])
          .ret)
          .skip)))
      (.reg [.p none 15 (.mv (.tmp 5)),
          .p none 16 (.bin .add .i64 (.tmp 15) (.const (.int .i64 1))),
          .p none 5 (.mv (.tmp 16))]))))))
  (.seq (.reg [.p none 4 (.mv (.const (.bool true)))])
  .ret))))
theorem C22 : compile Try.prog 26 (Try.f22.body.getD .skip) = some M22 := by kernel_rfl

/-- (*winnowref16.Plan).Stop -/
noncomputable def M23 : MC :=
  (.seq (.reg [.p none 8 (.mv (.const (.int .i64 0))),
      .p none 9 (.mv (.const (.bool false)))])
  (.seq (.seq (.reg [.p none 15 (.mv (.tmp 0)),
      .p none 16 (.isnil false 0 (.tmp 15))])
  (.cond (.tmp 16)
    (.seq (.reg [.p none 8 (.mv (.const (.int .i64 0))),
        .p none 9 (.mv (.const (.bool false)))])
    .ret)
    .skip))
  (.seq (.reg [.p none 10 (.mv (.const (.slice none 0 0)))])
  (.seq (.reg [.p none 11 (.mv (.const (.int .i64 0)))])
  (.seq (.reg [.p none 12 (.mv (.const (.bool false)))])
  (.seq (.seq (.reg [.p none 13 (.mv (.const (.int .i64 0)))])
  (.block 0
    (.loop
      (.seq (.seq (.reg [.p none 17 (.mv (.tmp 13)),
          .p none 18 (.mv (.tmp 0)),
          .p none 19 (.nilchk (.tmp 18)),
          .p none 20 (.fa 0 (.tmp 19)),
          .l none (some 21) (.ld none (.tmp 20)),
          .p none 22 (.len (.tmp 21)),
          .p none 23 (.bin .lss .i64 (.tmp 17) (.tmp 22))])
      (.cond (.tmp 23)
        .skip
        (.exit 0)))
      (.seq (.block 1
        (.seq (.reg [.p none 26 (.mv (.tmp 0)),
            .p none 27 (.nilchk (.tmp 26)),
            .p none 28 (.fa 0 (.tmp 27)),
            .l none (some 29) (.ld none (.tmp 28)),
            .p none 30 (.mv (.tmp 13)),
            .p none 31 (.idx 8 (.tmp 29) (.tmp 30)),
            .l none (some 32) (.ld (some 8) (.tmp 31)),
            .l none (some 14) (.al 25 [(.int .i64 0), (.int .i64 0), (.int .i64 0), (.int .i64 0), (.int .i64 0), (.int .i64 0), (.int .i64 0), (.int .u32 0)]),
            .l none none (.st 8 (.tmp 14) (.tmp 32))])
        (.seq (.reg [.p none 33 (.fa 0 (.tmp 14)),
            .l none (some 34) (.ld none (.tmp 33)),
            .p none 35 (.bin .eql .i64 (.tmp 34) (.const (.int .i64 0))),
            .p none 36 (.mv (.tmp 35)),
            .split 36,
            .p (some (36, true)) 37 (.fa 1 (.tmp 14)),
            .l (some (36, true)) (some 38) (.ld none (.tmp 37)),
            .p (some (36, true)) 39 (.mv (.tmp 1)),
            .p (some (36, true)) 40 (.bin .eql .i64 (.tmp 38) (.tmp 39)),
            .p none 41 (.pick (.tmp 36) (.tmp 40) (.const (.bool false))),
            .p none 42 (.mv (.tmp 41)),
            .split 42,
            .p (some (42, true)) 43 (.fa 2 (.tmp 14)),
            .l (some (42, true)) (some 44) (.ld none (.tmp 43)),
            .p (some (42, true)) 45 (.mv (.tmp 2)),
            .p (some (42, true)) 46 (.bin .eql .i64 (.tmp 44) (.tmp 45)),
            .p none 47 (.pick (.tmp 42) (.tmp 46) (.const (.bool false))),
            .p none 48 (.mv (.tmp 47)),
            .split 48,
            .p (some (48, true)) 49 (.fa 3 (.tmp 14)),
            .l (some (48, true)) (some 50) (.ld none (.tmp 49)),
            .p (some (48, true)) 51 (.mv (.tmp 3)),
            .p (some (48, true)) 52 (.bin .eql .i64 (.tmp 50) (.tmp 51)),
            .p none 53 (.pick (.tmp 48) (.tmp 52) (.const (.bool false)))])
        (.cond (.tmp 53)
          (.seq (.reg [.p none 54 (.fa 6 (.tmp 14)),
              .l none (some 55) (.ld none (.tmp 54)),
              .p none 11 (.mv (.tmp 55))])
          (.reg [.p none 12 (.mv (.const (.bool true)))]))
          (.reg [.p none 56 (.mv (.tmp 10)),
              .l none (some 57) (.ld (some 8) (.tmp 14)),
              .l none (some 58) (.bs 25 1 8 [(.int .i64 0), (.int .i64 0), (.int .i64 0), (.int .i64 0), (.int .i64 0), (.int .i64 0), (.int .i64 0), (.int .u32 0)] [(0, 8, (.tmp 57))]),
              .l none (some 59) (.app 25 64 8 [(.int .i64 0), (.int .i64 0), (.int .i64 0), (.int .i64 0), (.int .i64 0), (.int .i64 0), (.int .i64 0), (.int .u32 0)] (.tmp 56) (.tmp 58)),
              .p none 10 (.mv (.tmp 59))])))))
      (.reg [.p none 24 (.mv (.tmp 13)),
          .p none 25 (.bin .add .i64 (.tmp 24) (.const (.int .i64 1))),
          .p none 13 (.mv (.tmp 25))]))))))
  (.seq (.reg [.p none 60 (.mv (.tmp 0)),
      .p none 61 (.mv (.tmp 10)),
      .p none 62 (.nilchk (.tmp 60)),
      .p none 63 (.fa 0 (.tmp 62)),
      .l none none (.st 1 (.tmp 63) (.tmp 61))])
  (.seq (.reg [.p none 64 (.mv (.tmp 11)),
      .p none 65 (.mv (.tmp 12)),
      .p none 8 (.mv (.tmp 64)),
      .p none 9 (.mv (.tmp 65))])
  .ret))))))))
theorem C23 : compile Try.prog 66 (Try.f23.body.getD .skip) = some M23 := by kernel_rfl

/-- (*winnowref16.Plan).Due -/
noncomputable def M24 : MC :=
  (.seq (.reg [.p none 10 (.mv (.const (.slice none 0 0)))])
  (.seq (.seq (.reg [.p none 15 (.mv (.tmp 0)),
      .p none 16 (.isnil false 0 (.tmp 15))])
  (.cond (.tmp 16)
    (.seq (.reg [.p none 10 (.mv (.const (.slice none 0 0)))])
    .ret)
    .skip))
  (.seq (.reg [.p none 11 (.mv (.const (.slice none 0 0))),
      .p none 12 (.mv (.const (.slice none 0 0)))])
  (.seq (.seq (.reg [.p none 13 (.mv (.const (.int .i64 0)))])
  (.block 0
    (.loop
      (.seq (.seq (.reg [.p none 17 (.mv (.tmp 13)),
          .p none 18 (.mv (.tmp 0)),
          .p none 19 (.nilchk (.tmp 18)),
          .p none 20 (.fa 0 (.tmp 19)),
          .l none (some 21) (.ld none (.tmp 20)),
          .p none 22 (.len (.tmp 21)),
          .p none 23 (.bin .lss .i64 (.tmp 17) (.tmp 22))])
      (.cond (.tmp 23)
        .skip
        (.exit 0)))
      (.seq (.block 1
        (.seq (.reg [.p none 26 (.mv (.tmp 0)),
            .p none 27 (.nilchk (.tmp 26)),
            .p none 28 (.fa 0 (.tmp 27)),
            .l none (some 29) (.ld none (.tmp 28)),
            .p none 30 (.mv (.tmp 13)),
            .p none 31 (.idx 8 (.tmp 29) (.tmp 30)),
            .l none (some 32) (.ld (some 8) (.tmp 31)),
            .l none (some 14) (.al 25 [(.int .i64 0), (.int .i64 0), (.int .i64 0), (.int .i64 0), (.int .i64 0), (.int .i64 0), (.int .i64 0), (.int .u32 0)]),
            .l none none (.st 8 (.tmp 14) (.tmp 32))])
        (.seq (.reg [.p none 33 (.fa 0 (.tmp 14)),
            .l none (some 34) (.ld none (.tmp 33)),
            .p none 35 (.bin .neq .i64 (.tmp 34) (.const (.int .i64 0))),
            .p none 36 (.mv (.tmp 35)),
            .split 36,
            .p (some (36, true)) 37 (.fa 2 (.tmp 14)),
            .l (some (36, true)) (some 38) (.ld none (.tmp 37)),
            .p (some (36, true)) 39 (.mv (.tmp 1)),
            .p (some (36, true)) 40 (.bin .eql .i64 (.tmp 38) (.tmp 39)),
            .p none 41 (.pick (.tmp 36) (.tmp 40) (.const (.bool false))),
            .p none 42 (.mv (.tmp 41)),
            .split 42,
            .p (some (42, true)) 43 (.fa 3 (.tmp 14)),
            .l (some (42, true)) (some 44) (.ld none (.tmp 43)),
            .p (some (42, true)) 45 (.mv (.tmp 2)),
            .p (some (42, true)) 46 (.bin .eql .i64 (.tmp 44) (.tmp 45)),
            .p none 47 (.pick (.tmp 42) (.tmp 46) (.const (.bool false))),
            .p none 48 (.mv (.tmp 47)),
            .split 48,
            .p (some (48, true)) 49 (.fa 4 (.tmp 14)),
            .l (some (48, true)) (some 50) (.ld none (.tmp 49)),
            .p (some (48, true)) 51 (.mv (.tmp 3)),
            .p (some (48, true)) 52 (.bin .eql .i64 (.tmp 50) (.tmp 51)),
            .p none 53 (.pick (.tmp 48) (.tmp 52) (.const (.bool false))),
            .p none 54 (.mv (.tmp 53)),
            .split 54,
            .p (some (54, true)) 55 (.mv (.tmp 3)),
            .p (some (54, true)) 56 (.bin .neq .i64 (.tmp 55) (.const (.int .i64 2))),
            .p (some (54, true)) 57 (.mv (.tmp 56)),
            .split 57,
            .p (some (57, false)) 58 (.fa 5 (.tmp 14)),
            .l (some (57, false)) (some 59) (.ld none (.tmp 58)),
            .p (some (57, false)) 60 (.mv (.tmp 4)),
            .p (some (57, false)) 61 (.bin .eql .i64 (.tmp 59) (.tmp 60)),
            .p (some (54, true)) 62 (.pick (.tmp 57) (.const (.bool true)) (.tmp 61)),
            .p none 63 (.pick (.tmp 54) (.tmp 62) (.const (.bool false)))])
        (.cond (.tmp 63)
          (.reg [.p none 64 (.mv (.tmp 12)),
              .l none (some 65) (.ld (some 8) (.tmp 14)),
              .l none (some 66) (.bs 25 1 8 [(.int .i64 0), (.int .i64 0), (.int .i64 0), (.int .i64 0), (.int .i64 0), (.int .i64 0), (.int .i64 0), (.int .u32 0)] [(0, 8, (.tmp 65))]),
              .l none (some 67) (.app 25 64 8 [(.int .i64 0), (.int .i64 0), (.int .i64 0), (.int .i64 0), (.int .i64 0), (.int .i64 0), (.int .i64 0), (.int .u32 0)] (.tmp 64) (.tmp 66)),
              .p none 12 (.mv (.tmp 67))])
          (.reg [.p none 68 (.mv (.tmp 11)),
              .l none (some 69) (.ld (some 8) (.tmp 14)),
              .l none (some 70) (.bs 25 1 8 [(.int .i64 0), (.int .i64 0), (.int .i64 0), (.int .i64 0), (.int .i64 0), (.int .i64 0), (.int .i64 0), (.int .u32 0)] [(0, 8, (.tmp 69))]),
              .l none (some 71) (.app 25 64 8 [(.int .i64 0), (.int .i64 0), (.int .i64 0), (.int .i64 0), (.int .i64 0), (.int .i64 0), (.int .i64 0), (.int .u32 0)] (.tmp 68) (.tmp 70)),
              .p none 11 (.mv (.tmp 71))])))))
      (.reg [.p none 24 (.mv (.tmp 13)),
          .p none 25 (.bin .add .i64 (.tmp 24) (.const (.int .i64 1))),
          .p none 13 (.mv (.tmp 25))]))))))
  (.seq (.reg [.p none 72 (.mv (.tmp 0)),
      .p none 73 (.mv (.tmp 11)),
      .p none 74 (.nilchk (.tmp 72)),
      .p none 75 (.fa 0 (.tmp 74)),
      .l none none (.st 1 (.tmp 75) (.tmp 73))])
  (.seq (.reg [.p none 76 (.mv (.tmp 12)),
      .p none 10 (.mv (.tmp 76))])
  .ret))))))
theorem C24 : compile Try.prog 77 (Try.f24.body.getD .skip) = some M24 := by kernel_rfl

/-- winnowlaw16.spoil -/
noncomputable def M25 : MC :=
  (.seq (.reg [.p none 4 (.mv (.const (.int .i64 0)))])
  (.seq (.seq (.reg [.p none 5 (.mv (.const (.int .i64 0)))])
  (.block 0
    (.loop
      (.seq (.seq (.reg [.p none 7 (.mv (.tmp 5)),
          .p none 8 (.mv (.tmp 0)),
          .p none 9 (.len (.tmp 8)),
          .p none 10 (.bin .lss .i64 (.tmp 7) (.tmp 9))])
      (.cond (.tmp 10)
        .skip
        (.exit 0)))
      (.seq (.block 1
        (.reg [.p none 13 (.mv (.tmp 0)),
            .p none 14 (.mv (.tmp 5)),
            .p none 15 (.mv (.tmp 1)),
            .p none 16 (.bld [(.int .i64 0), (.int .i64 0), (.int .i64 0), (.int .i64 0), (.int .i64 0), (.int .i64 0), (.int .i64 0), (.int .u32 0)] [(0, 1, (.tmp 15))]),
            .p none 17 (.idx 8 (.tmp 13) (.tmp 14)),
            .l none none (.st 8 (.tmp 17) (.tmp 16))]))
      (.reg [.p none 11 (.mv (.tmp 5)),
          .p none 12 (.bin .add .i64 (.tmp 11) (.const (.int .i64 1))),
          .p none 5 (.mv (.tmp 12))]))))))
  (.seq (.seq (.reg [.p none 6 (.mv (.const (.int .i64 0)))])
  (.block 2
    (.loop
      (.seq (.seq (.reg [.p none 18 (.mv (.tmp 6)),
          .p none 19 (.bin .lss .i64 (.tmp 18) (.const (.int .i64 64)))])
      (.cond (.tmp 19)
        .skip
        (.exit 2)))
      (.seq (.block 3
        (.reg [.p none 22 (.mv (.tmp 0)),
            .p none 23 (.mv (.tmp 1)),
            .p none 24 (.neg .i64 (.tmp 23)),
            .p none 25 (.bld [(.int .i64 0), (.int .i64 0), (.int .i64 0), (.int .i64 0), (.int .i64 0), (.int .i64 0), (.int .i64 0), (.int .u32 0)] [(0, 1, (.tmp 24))]),
            .l none (some 26) (.bs 25 1 8 [(.int .i64 0), (.int .i64 0), (.int .i64 0), (.int .i64 0), (.int .i64 0), (.int .i64 0), (.int .i64 0), (.int .u32 0)] [(0, 8, (.tmp 25))]),
            .l none (some 27) (.app 25 64 8 [(.int .i64 0), (.int .i64 0), (.int .i64 0), (.int .i64 0), (.int .i64 0), (.int .i64 0), (.int .i64 0), (.int .u32 0)] (.tmp 22) (.tmp 26)),
            .p none 0 (.mv (.tmp 27))]))
      (.reg [.p none 20 (.mv (.tmp 6)),
          .p none 21 (.bin .add .i64 (.tmp 20) (.const (.int .i64 1))),
          .p none 6 (.mv (.tmp 21))]))))))
  (.seq (.reg [.p none 28 (.mv (.tmp 0)),
      .p none 29 (.len (.tmp 28)),
      .p none 4 (.mv (.tmp 29))])
  .ret))))
theorem C25 : compile Try.prog 30 (Try.f25.body.getD .skip) = some M25 := by kernel_rfl

/-- (*winnowref16.Plan).Left -/
noncomputable def M26 : MC :=
  (.seq (.reg [.p none 2 (.mv (.const (.slice none 0 0)))])
  (.seq (.seq (.reg [.p none 3 (.mv (.tmp 0)),
      .p none 4 (.isnil false 0 (.tmp 3))])
  (.cond (.tmp 4)
    (.seq (.reg [.p none 2 (.mv (.const (.slice none 0 0)))])
    .ret)
    .skip))
  (.seq (.reg [.l none (some 5) (.bs 25 0 8 [] []),
      .p none 6 (.mv (.tmp 0)),
      .p none 7 (.nilchk (.tmp 6)),
      .p none 8 (.fa 0 (.tmp 7)),
      .l none (some 9) (.ld none (.tmp 8)),
      .l none (some 10) (.app 25 64 8 [(.int .i64 0), (.int .i64 0), (.int .i64 0), (.int .i64 0), (.int .i64 0), (.int .i64 0), (.int .i64 0), (.int .u32 0)] (.tmp 5) (.tmp 9)),
      .p none 2 (.mv (.tmp 10))])
  .ret)))
theorem C26 : compile Try.prog 11 (Try.f26.body.getD .skip) = some M26 := by kernel_rfl

/-- winnowlaw16.whole -/
noncomputable def M27 : MC :=
  (.seq (.reg [.p none 2 (.mv (.const (.bool false)))])
  (.seq (.seq (.reg [.p none 3 (.mv (.const (.int .i64 0)))])
  (.block 0
    (.loop
      (.seq (.seq (.reg [.p none 6 (.mv (.tmp 3)),
          .p none 7 (.mv (.tmp 0)),
          .p none 8 (.len (.tmp 7)),
          .p none 9 (.bin .lss .i64 (.tmp 6) (.tmp 8))])
      (.cond (.tmp 9)
        .skip
        (.exit 0)))
      (.seq (.block 1
        (.dreg (.line [.qp 0 none 12 (.mv (.tmp 0)),
            .qp 1 none 13 (.mv (.tmp 3)),
            .qp 2 none 14 (.idx 2 (.tmp 12) (.tmp 13)),
            .qp 3 none 15 (.fa 0 (.tmp 14)),
            .qp 5 none 17 (.mv (.tmp 0)),
            .qp 6 none 18 (.mv (.tmp 3)),
            .qp 7 none 19 (.idx 2 (.tmp 17) (.tmp 18)),
            .qp 8 none 20 (.fa 0 (.tmp 19)),
            .ql 9 none 21 none (.tmp 20),
            .qp 10 none 22 (.len (.tmp 21)),
            .l 4 none (some 16) (.ld none (.tmp 15)),
            .qp 11 none 23 (.slc 8 (.tmp 16) (some (.tmp 22)) none none),
            .l 12 none (some 24) (.call 25 [(.tmp 23), (.const (.int .i64 5))])])))
      (.reg [.p none 10 (.mv (.tmp 3)),
          .p none 11 (.bin .add .i64 (.tmp 10) (.const (.int .i64 1))),
          .p none 3 (.mv (.tmp 11))]))))))
  (.seq (.seq (.reg [.p none 4 (.mv (.const (.int .i64 0)))])
  (.block 2
    (.loop
      (.seq (.seq (.reg [.p none 25 (.mv (.tmp 4)),
          .p none 26 (.mv (.tmp 0)),
          .p none 27 (.len (.tmp 26)),
          .p none 28 (.bin .lss .i64 (.tmp 25) (.tmp 27))])
      (.cond (.tmp 28)
        .skip
        (.exit 2)))
      (.seq (.block 3
        (.seq (.reg [.p none 5 (.mv (.const (.int .i64 0)))])
        (.block 4
          (.loop
            (.seq (.seq (.reg [.p none 31 (.mv (.tmp 5)),
                .p none 32 (.mv (.tmp 0)),
                .p none 33 (.mv (.tmp 4)),
                .p none 34 (.idx 2 (.tmp 32) (.tmp 33)),
                .p none 35 (.fa 0 (.tmp 34)),
                .l none (some 36) (.ld none (.tmp 35)),
                .p none 37 (.len (.tmp 36)),
                .p none 38 (.bin .lss .i64 (.tmp 31) (.tmp 37))])
            (.cond (.tmp 38)
              .skip
              (.exit 4)))
            (.seq (.block 5
              (.seq (.dreg (.line [.qp 0 none 41 (.mv (.tmp 0)),
                  .qp 1 none 42 (.mv (.tmp 4)),
                  .qp 2 none 43 (.idx 2 (.tmp 41) (.tmp 42)),
                  .qp 3 none 44 (.fa 0 (.tmp 43)),
                  .qp 5 none 46 (.mv (.tmp 5)),
                  .qp 8 none 49 (.mv (.tmp 0)),
                  .qp 9 none 50 (.mv (.tmp 4)),
                  .qp 10 none 51 (.idx 2 (.tmp 49) (.tmp 50)),
                  .qp 11 none 52 (.fa 1 (.tmp 51)),
                  .ql 12 none 53 none (.tmp 52),
                  .qp 13 none 54 (.bld [(.int .i64 0), (.int .i64 0), (.int .i64 0), (.int .i64 0), (.int .i64 0), (.int .i64 0), (.int .i64 0), (.int .u32 0)] [(0, 1, (.tmp 53))]),
                  .l 4 none (some 45) (.ld none (.tmp 44)),
                  .qp 6 none 47 (.idx 8 (.tmp 45) (.tmp 46)),
                  .l 7 none (some 48) (.ld (some 8) (.tmp 47)),
                  .qp 14 none 55 (.aeq true [1, 1, 1, 1, 1, 1, 1, 1] (.tmp 48) (.tmp 54))]))
              (.cond (.tmp 55)
                (.seq (.reg [.p none 2 (.mv (.const (.bool false)))])
                .ret)
                .skip)))
            (.reg [.p none 39 (.mv (.tmp 5)),
                .p none 40 (.bin .add .i64 (.tmp 39) (.const (.int .i64 1))),
                .p none 5 (.mv (.tmp 40))])))))))
      (.reg [.p none 29 (.mv (.tmp 4)),
          .p none 30 (.bin .add .i64 (.tmp 29) (.const (.int .i64 1))),
          .p none 4 (.mv (.tmp 30))]))))))
  (.seq (.reg [.p none 2 (.mv (.const (.bool true)))])
  .ret))))
theorem C27 : compile Try.prog 56 (Try.f27.body.getD .skip) = some M27 := by kernel_rfl

/-- winnowref16.Check -/
noncomputable def M28 : MC :=
  (.seq (.reg [.p none 2 (.mv (.const (.int .i64 0)))])
  (.seq (.seq (.reg [.p none 7 (.mv (.tmp 0)),
      .p none 8 (.len (.tmp 7)),
      .p none 9 (.bin .gtr .i64 (.tmp 8) (.const (.int .i64 256)))])
  (.cond (.tmp 9)
    (.seq (.reg [.p none 2 (.mv (.const (.int .i64 2)))])
    .ret)
    .skip))
  (.seq (.seq (.reg [.p none 3 (.mv (.const (.int .i64 0)))])
  (.block 0
    (.loop
      (.seq (.seq (.reg [.p none 10 (.mv (.tmp 3)),
          .p none 11 (.mv (.tmp 0)),
          .p none 12 (.len (.tmp 11)),
          .p none 13 (.bin .lss .i64 (.tmp 10) (.tmp 12))])
      (.cond (.tmp 13)
        .skip
        (.exit 0)))
      (.seq (.block 1
        (.seq (.seq (.reg [.p none 16 (.mv (.tmp 0)),
            .p none 17 (.mv (.tmp 3)),
            .p none 18 (.idx 8 (.tmp 16) (.tmp 17)),
            .l none (some 19) (.ld (some 8) (.tmp 18)),
            .l none (some 20) (.call 38 [(.tmp 19)]),
            .p none 21 (.not (.tmp 20))])
        (.cond (.tmp 21)
          (.seq (.reg [.p none 2 (.mv (.const (.int .i64 160)))])
          .ret)
          .skip))
        (.seq (.reg [.p none 4 (.mv (.const (.int .i64 0)))])
        (.block 2
          (.loop
            (.seq (.seq (.reg [.p none 22 (.mv (.tmp 4)),
                .p none 23 (.mv (.tmp 3)),
                .p none 24 (.bin .lss .i64 (.tmp 22) (.tmp 23))])
            (.cond (.tmp 24)
              .skip
              (.exit 2)))
            (.seq (.block 3
              (.seq (.reg [.p none 27 (.mv (.tmp 0)),
                  .p none 28 (.mv (.tmp 3)),
                  .p none 29 (.idx 8 (.tmp 27) (.tmp 28)),
                  .l none (some 30) (.ld (some 8) (.tmp 29)),
                  .l none (some 5) (.al 25 [(.int .i64 0), (.int .i64 0), (.int .i64 0), (.int .i64 0), (.int .i64 0), (.int .i64 0), (.int .i64 0), (.int .u32 0)]),
                  .l none none (.st 8 (.tmp 5) (.tmp 30))])
              (.seq (.reg [.p none 31 (.mv (.tmp 0)),
                  .p none 32 (.mv (.tmp 4)),
                  .p none 33 (.idx 8 (.tmp 31) (.tmp 32)),
                  .l none (some 34) (.ld (some 8) (.tmp 33)),
                  .l none (some 6) (.al 25 [(.int .i64 0), (.int .i64 0), (.int .i64 0), (.int .i64 0), (.int .i64 0), (.int .i64 0), (.int .i64 0), (.int .u32 0)]),
                  .l none none (.st 8 (.tmp 6) (.tmp 34))])
              (.seq (.reg [.p none 35 (.fa 0 (.tmp 5)),
                  .l none (some 36) (.ld none (.tmp 35)),
                  .p none 37 (.fa 0 (.tmp 6)),
                  .l none (some 38) (.ld none (.tmp 37)),
                  .p none 39 (.bin .eql .i64 (.tmp 36) (.tmp 38)),
                  .p none 40 (.mv (.tmp 39)),
                  .split 40,
                  .p (some (40, true)) 41 (.fa 1 (.tmp 5)),
                  .l (some (40, true)) (some 42) (.ld none (.tmp 41)),
                  .p (some (40, true)) 43 (.fa 1 (.tmp 6)),
                  .l (some (40, true)) (some 44) (.ld none (.tmp 43)),
                  .p (some (40, true)) 45 (.bin .eql .i64 (.tmp 42) (.tmp 44)),
                  .p none 46 (.pick (.tmp 40) (.tmp 45) (.const (.bool false))),
                  .p none 47 (.mv (.tmp 46)),
                  .split 47,
                  .p (some (47, true)) 48 (.fa 2 (.tmp 5)),
                  .l (some (47, true)) (some 49) (.ld none (.tmp 48)),
                  .p (some (47, true)) 50 (.fa 2 (.tmp 6)),
                  .l (some (47, true)) (some 51) (.ld none (.tmp 50)),
                  .p (some (47, true)) 52 (.bin .eql .i64 (.tmp 49) (.tmp 51)),
                  .p none 53 (.pick (.tmp 47) (.tmp 52) (.const (.bool false))),
                  .p none 54 (.mv (.tmp 53)),
                  .split 54,
                  .p (some (54, true)) 55 (.fa 3 (.tmp 5)),
                  .l (some (54, true)) (some 56) (.ld none (.tmp 55)),
                  .p (some (54, true)) 57 (.fa 3 (.tmp 6)),
                  .l (some (54, true)) (some 58) (.ld none (.tmp 57)),
                  .p (some (54, true)) 59 (.bin .eql .i64 (.tmp 56) (.tmp 58)),
                  .p none 60 (.pick (.tmp 54) (.tmp 59) (.const (.bool false)))])
              (.cond (.tmp 60)
                (.seq (.reg [.p none 2 (.mv (.const (.int .i64 160)))])
                .ret)
                .skip)))))
            (.reg [.p none 25 (.mv (.tmp 4)),
                .p none 26 (.bin .add .i64 (.tmp 25) (.const (.int .i64 1))),
                .p none 4 (.mv (.tmp 26))]))))))))
      (.reg [.p none 14 (.mv (.tmp 3)),
          .p none 15 (.bin .add .i64 (.tmp 14) (.const (.int .i64 1))),
          .p none 3 (.mv (.tmp 15))]))))))
  (.seq (.reg [.p none 2 (.mv (.const (.int .i64 0)))])
  .ret))))
theorem C28 : compile Try.prog 61 (Try.f28.body.getD .skip) = some M28 := by kernel_rfl

/-- fault.Check -/
noncomputable def M35 : MC :=
  (.seq (.reg [.p none 2 (.mv (.const (.int .i64 0)))])
  (.seq (.seq (.reg [.p none 7 (.mv (.tmp 0)),
      .p none 8 (.len (.tmp 7)),
      .p none 9 (.bin .gtr .i64 (.tmp 8) (.const (.int .i64 256)))])
  (.cond (.tmp 9)
    (.seq (.reg [.p none 2 (.mv (.const (.int .i64 2)))])
    .ret)
    .skip))
  (.seq (.reg [.l none (some 10) (.mkmap),
      .p none 3 (.mv (.tmp 10))])
  (.seq (.seq (.reg [.p none 11 (.mv (.tmp 0)),
      .p none 12 (.len (.tmp 11)),
      .p none 13 (.mv (.const (.int .i64 0)))])
  (.block 0
    (.loop
      (.seq (.reg [.p none 14 (.bin .lss .i64 (.tmp 13) (.tmp 12))])
      (.seq (.cond (.tmp 14)
        .skip
        (.exit 0))
      (.seq (.block 1
        (.seq (.reg [.p none 15 (.idx 8 (.tmp 11) (.tmp 13)),
            .l none (some 16) (.ld (some 8) (.tmp 15)),
            .l none (some 5) (.al 25 [(.int .i64 0), (.int .i64 0), (.int .i64 0), (.int .i64 0), (.int .i64 0), (.int .i64 0), (.int .i64 0), (.int .u32 0)]),
            .l none none (.st 8 (.tmp 5) (.tmp 16))])
        (.seq (.reg [.l none (some 17) (.ld (some 8) (.tmp 5)),
            .l none (some 18) (.call 41 [(.tmp 17)]),
            .l none (some 6) (.al 68 [(.int .i64 0), (.int .i64 0), (.int .i64 0), (.int .i64 0)]),
            .l none none (.st 4 (.tmp 6) (.tmp 18))])
        (.seq (.dreg (.fork [.qp 0 none 19 (.mv (.tmp 3)),
            .l 1 none (some 20) (.ld (some 4) (.tmp 6))]
          (.line [.l 2 none (some 21) (.raw (.lookup 89 (.tmp 19) (.tmp 20) false)),
              .qp 3 none 22 (.bin .add .i64 (.tmp 21) (.const (.int .i64 1))),
              .l 4 none (some 23) (.raw (.mapEntry 89 (.tmp 19) (.tmp 20))),
              .qp 5 none 24 (.ext 1 (.tmp 23)),
              .l 6 none none (.raw (.entryStore 89 (.tmp 19) (.tmp 24) (.tmp 22)))])
          (.line [.l 4 none (some 23) (.raw (.mapEntry 89 (.tmp 19) (.tmp 20))),
              .qp 5 none 24 (.ext 1 (.tmp 23)),
              .l 2 none (some 21) (.raw (.lookup 89 (.tmp 19) (.tmp 20) false)),
              .qp 3 none 22 (.bin .add .i64 (.tmp 21) (.const (.int .i64 1))),
              .l 6 none none (.raw (.entryStore 89 (.tmp 19) (.tmp 24) (.tmp 22)))])))
        (.seq (.reg [.l none (some 25) (.ld (some 8) (.tmp 5)),
            .l none (some 26) (.call 37 [(.tmp 25)]),
            .p none 27 (.not (.tmp 26)),
            .p none 28 (.mv (.tmp 27)),
            .split 28,
            .p (some (28, false)) 29 (.mv (.tmp 3)),
            .l (some (28, false)) (some 30) (.ld (some 4) (.tmp 6)),
            .l (some (28, false)) (some 31) (.raw (.lookup 89 (.tmp 29) (.tmp 30) false)),
            .p (some (28, false)) 32 (.bin .gtr .i64 (.tmp 31) (.const (.int .i64 1))),
            .p none 33 (.pick (.tmp 28) (.const (.bool true)) (.tmp 32))])
        (.cond (.tmp 33)
          (.seq (.reg [.p none 2 (.mv (.const (.int .i64 160)))])
          .ret)
          .skip))))))
      (.reg [.p none 34 (.bin .add .i64 (.tmp 13) (.const (.int .i64 1))),
          .p none 13 (.mv (.tmp 34))])))))))
  (.seq (.reg [.p none 2 (.mv (.const (.int .i64 0)))])
  .ret)))))
theorem C35 : compile Try.prog 35 (Try.f35.body.getD .skip) = some M35 := by kernel_rfl

/-- fault.right -/
noncomputable def M37 : MC :=
  (.seq (.reg [.l none (some 1) (.bx 25 (.tmp 0)),
      .p none 2 (.mv (.const (.bool false)))])
  (.seq (.reg [.p none 4 (.bld [.nilFunc] [(0, 1, (.func 53))]),
      .p none 5 (.bld [.nilFunc] [(0, 1, (.func 54))]),
      .p none 6 (.bld [.nilFunc] [(0, 1, (.func 56))]),
      .p none 7 (.bld [.nilFunc, .nilFunc, .nilFunc] [(0, 1, (.tmp 4)), (1, 1, (.tmp 5)), (2, 1, (.tmp 6))]),
      .l none (some 3) (.al 91 [.nilFunc, .nilFunc, .nilFunc]),
      .l none none (.st 3 (.tmp 3) (.tmp 7))])
  (.seq (.dreg (.line [.qp 0 none 8 (.fa 0 (.tmp 1)),
      .l 1 none (some 9) (.ld none (.tmp 8)),
      .qp 2 none 10 (.bin .geq .i64 (.tmp 9) (.const (.int .i64 0))),
      .qp 3 none 11 (.mv (.tmp 10)),
      .split 11,
      .qp 4 (some (11, true)) 12 (.fa 0 (.tmp 1)),
      .l 5 (some (11, true)) (some 13) (.ld none (.tmp 12)),
      .qp 6 (some (11, true)) 14 (.bin .lss .i64 (.tmp 13) (.const (.int .i64 3))),
      .qp 7 none 15 (.pick (.tmp 11) (.tmp 14) (.const (.bool false))),
      .qp 8 none 16 (.mv (.tmp 15)),
      .split 16,
      .qp 9 (some (16, true)) 17 (.fa 2 (.tmp 1)),
      .l 10 (some (16, true)) (some 18) (.ld none (.tmp 17)),
      .qp 11 (some (16, true)) 19 (.bin .geq .i64 (.tmp 18) (.const (.int .i64 0))),
      .qp 12 none 20 (.pick (.tmp 16) (.tmp 19) (.const (.bool false))),
      .qp 13 none 21 (.mv (.tmp 20)),
      .split 21,
      .qp 14 (some (21, true)) 22 (.fa 3 (.tmp 1)),
      .l 15 (some (21, true)) (some 23) (.ld none (.tmp 22)),
      .qp 16 (some (21, true)) 24 (.bin .geq .i64 (.tmp 23) (.const (.int .i64 1))),
      .qp 17 none 25 (.pick (.tmp 21) (.tmp 24) (.const (.bool false))),
      .qp 18 none 26 (.mv (.tmp 25)),
      .split 26,
      .qp 19 (some (26, true)) 27 (.fa 3 (.tmp 1)),
      .l 20 (some (26, true)) (some 28) (.ld none (.tmp 27)),
      .qp 21 (some (26, true)) 29 (.bin .leq .i64 (.tmp 28) (.const (.int .i64 16))),
      .qp 22 none 30 (.pick (.tmp 26) (.tmp 29) (.const (.bool false))),
      .qp 23 none 31 (.mv (.tmp 30)),
      .split 31,
      .qp 24 (some (31, true)) 32 (.fa 0 (.tmp 1)),
      .ql 29 (some (31, true)) 37 (some 8) (.tmp 1),
      .l 25 (some (31, true)) (some 33) (.ld none (.tmp 32)),
      .qp 26 (some (31, true)) 34 (.idxa 3 1 (.tmp 3) (.tmp 33)),
      .qp 27 (some (31, true)) 35 (.fa 0 (.tmp 34)),
      .l 28 (some (31, true)) (some 36) (.ld none (.tmp 35)),
      .l 30 (some (31, true)) (some 38) (.callv (.tmp 36) [(.tmp 37)]),
      .qp 31 none 39 (.pick (.tmp 31) (.tmp 38) (.const (.bool false))),
      .qp 32 none 2 (.mv (.tmp 39))]))
  .ret)))
theorem C37 : compile Try.prog 40 (Try.f37.body.getD .skip) = some M37 := by kernel_rfl

/-- winnowref16.good -/
noncomputable def M38 : MC :=
  (.seq (.reg [.l none (some 1) (.bx 25 (.tmp 0)),
      .p none 2 (.mv (.const (.bool false)))])
  (.seq (.seq (.reg [.p none 3 (.fa 2 (.tmp 1)),
      .l none (some 4) (.ld none (.tmp 3)),
      .p none 5 (.bin .lss .i64 (.tmp 4) (.const (.int .i64 0))),
      .p none 6 (.mv (.tmp 5)),
      .split 6,
      .p (some (6, false)) 7 (.fa 3 (.tmp 1)),
      .l (some (6, false)) (some 8) (.ld none (.tmp 7)),
      .p (some (6, false)) 9 (.bin .lss .i64 (.tmp 8) (.const (.int .i64 1))),
      .p none 10 (.pick (.tmp 6) (.const (.bool true)) (.tmp 9)),
      .p none 11 (.mv (.tmp 10)),
      .split 11,
      .p (some (11, false)) 12 (.fa 3 (.tmp 1)),
      .l (some (11, false)) (some 13) (.ld none (.tmp 12)),
      .p (some (11, false)) 14 (.bin .gtr .i64 (.tmp 13) (.const (.int .i64 16))),
      .p none 15 (.pick (.tmp 11) (.const (.bool true)) (.tmp 14))])
  (.cond (.tmp 15)
    (.seq (.reg [.p none 2 (.mv (.const (.bool false)))])
    .ret)
    .skip))
  (.seq (.seq (.reg [.p none 16 (.fa 0 (.tmp 1)),
      .l none (some 17) (.ld none (.tmp 16))])
  (.block 0
    (.seq (.reg [.p none 19 (.bin .eql .i64 (.tmp 17) (.const (.int .i64 0))),
        .p none 18 (.mv (.tmp 19))])
    (.cond (.tmp 18)
      (.seq (.reg [.l none (some 20) (.ld (some 8) (.tmp 1)),
          .l none (some 21) (.call 57 [(.tmp 20)]),
          .p none 2 (.mv (.tmp 21))])
      .ret)
      (.seq (.reg [.p none 23 (.bin .eql .i64 (.tmp 17) (.const (.int .i64 1))),
          .p none 22 (.mv (.tmp 23))])
      (.cond (.tmp 22)
        (.seq (.reg [.l none (some 24) (.ld (some 8) (.tmp 1)),
            .l none (some 25) (.call 58 [(.tmp 24)]),
            .p none 26 (.mv (.tmp 25)),
            .split 26,
            .p (some (26, true)) 27 (.fa 6 (.tmp 1)),
            .l (some (26, true)) (some 28) (.ld none (.tmp 27)),
            .p (some (26, true)) 29 (.bin .geq .i64 (.tmp 28) (.const (.int .i64 0))),
            .p none 30 (.pick (.tmp 26) (.tmp 29) (.const (.bool false))),
            .p none 31 (.mv (.tmp 30)),
            .split 31,
            .p (some (31, true)) 32 (.fa 7 (.tmp 1)),
            .l (some (31, true)) (some 33) (.ld none (.tmp 32)),
            .p (some (31, true)) 34 (.div .rem .u32 (.tmp 33) (.const (.int .u32 2))),
            .p (some (31, true)) 35 (.bin .eql .u32 (.tmp 34) (.const (.int .u32 1))),
            .p none 36 (.pick (.tmp 31) (.tmp 35) (.const (.bool false))),
            .p none 2 (.mv (.tmp 36))])
        .ret)
        (.seq (.reg [.p none 38 (.bin .eql .i64 (.tmp 17) (.const (.int .i64 2))),
            .p none 37 (.mv (.tmp 38))])
        (.cond (.tmp 37)
          (.seq (.reg [.l none (some 39) (.ld (some 8) (.tmp 1)),
              .l none (some 40) (.call 58 [(.tmp 39)]),
              .p none 41 (.mv (.tmp 40)),
              .split 41,
              .p (some (41, true)) 42 (.fa 6 (.tmp 1)),
              .l (some (41, true)) (some 43) (.ld none (.tmp 42)),
              .p (some (41, true)) 44 (.bin .geq .i64 (.tmp 43) (.const (.int .i64 (-268435456)))),
              .p none 45 (.pick (.tmp 41) (.tmp 44) (.const (.bool false))),
              .p none 46 (.mv (.tmp 45)),
              .split 46,
              .p (some (46, true)) 47 (.fa 6 (.tmp 1)),
              .l (some (46, true)) (some 48) (.ld none (.tmp 47)),
              .p (some (46, true)) 49 (.bin .leq .i64 (.tmp 48) (.const (.int .i64 4096))),
              .p none 50 (.pick (.tmp 46) (.tmp 49) (.const (.bool false))),
              .p none 51 (.mv (.tmp 50)),
              .split 51,
              .p (some (51, true)) 52 (.fa 6 (.tmp 1)),
              .l (some (51, true)) (some 53) (.ld none (.tmp 52)),
              .p (some (51, true)) 54 (.bin .neq .i64 (.tmp 53) (.const (.int .i64 0))),
              .p none 55 (.pick (.tmp 51) (.tmp 54) (.const (.bool false))),
              .p none 56 (.mv (.tmp 55)),
              .split 56,
              .p (some (56, true)) 57 (.fa 7 (.tmp 1)),
              .l (some (56, true)) (some 58) (.ld none (.tmp 57)),
              .p (some (56, true)) 59 (.bin .eql .u32 (.tmp 58) (.const (.int .u32 0))),
              .p none 60 (.pick (.tmp 56) (.tmp 59) (.const (.bool false))),
              .p none 2 (.mv (.tmp 60))])
          .ret)
          .skip))))))))
  (.seq (.reg [.p none 2 (.mv (.const (.bool false)))])
  .ret))))
theorem C38 : compile Try.prog 61 (Try.f38.body.getD .skip) = some M38 := by kernel_rfl

/-- (*fault.Plan).take -/
noncomputable def M39 : MC :=
  (.seq (.reg [.p none 4 (.mv (.const (.slice none 0 0)))])
  (.seq (.seq (.reg [.p none 9 (.mv (.tmp 0)),
      .p none 10 (.isnil false 0 (.tmp 9))])
  (.cond (.tmp 10)
    (.seq (.reg [.p none 4 (.mv (.const (.slice none 0 0)))])
    .ret)
    .skip))
  (.seq (.reg [.p none 5 (.mv (.const (.slice none 0 0))),
      .p none 6 (.mv (.const (.slice none 0 0)))])
  (.seq (.seq (.reg [.p none 11 (.mv (.tmp 0)),
      .p none 12 (.nilchk (.tmp 11)),
      .p none 13 (.fa 0 (.tmp 12)),
      .l none (some 14) (.ld none (.tmp 13)),
      .p none 15 (.len (.tmp 14)),
      .p none 16 (.mv (.const (.int .i64 0)))])
  (.block 0
    (.loop
      (.seq (.reg [.p none 17 (.bin .lss .i64 (.tmp 16) (.tmp 15))])
      (.seq (.cond (.tmp 17)
        .skip
        (.exit 0))
      (.seq (.block 1
        (.seq (.reg [.p none 18 (.idx 8 (.tmp 14) (.tmp 16)),
            .l none (some 19) (.ld (some 8) (.tmp 18)),
            .l none (some 8) (.al 25 [(.int .i64 0), (.int .i64 0), (.int .i64 0), (.int .i64 0), (.int .i64 0), (.int .i64 0), (.int .i64 0), (.int .u32 0)]),
            .l none none (.st 8 (.tmp 8) (.tmp 19))])
        (.seq (.reg [.p none 20 (.mv (.tmp 1)),
            .l none (some 21) (.ld (some 8) (.tmp 8)),
            .l none (some 22) (.callv (.tmp 20) [(.tmp 21)])])
        (.cond (.tmp 22)
          (.reg [.p none 23 (.mv (.tmp 5)),
              .l none (some 24) (.ld (some 8) (.tmp 8)),
              .l none (some 25) (.bs 25 1 8 [(.int .i64 0), (.int .i64 0), (.int .i64 0), (.int .i64 0), (.int .i64 0), (.int .i64 0), (.int .i64 0), (.int .u32 0)] [(0, 8, (.tmp 24))]),
              .l none (some 26) (.app 25 64 8 [(.int .i64 0), (.int .i64 0), (.int .i64 0), (.int .i64 0), (.int .i64 0), (.int .i64 0), (.int .i64 0), (.int .u32 0)] (.tmp 23) (.tmp 25)),
              .p none 5 (.mv (.tmp 26))])
          (.reg [.p none 27 (.mv (.tmp 6)),
              .l none (some 28) (.ld (some 8) (.tmp 8)),
              .l none (some 29) (.bs 25 1 8 [(.int .i64 0), (.int .i64 0), (.int .i64 0), (.int .i64 0), (.int .i64 0), (.int .i64 0), (.int .i64 0), (.int .u32 0)] [(0, 8, (.tmp 28))]),
              .l none (some 30) (.app 25 64 8 [(.int .i64 0), (.int .i64 0), (.int .i64 0), (.int .i64 0), (.int .i64 0), (.int .i64 0), (.int .i64 0), (.int .u32 0)] (.tmp 27) (.tmp 29)),
              .p none 6 (.mv (.tmp 30))])))))
      (.reg [.p none 31 (.bin .add .i64 (.tmp 16) (.const (.int .i64 1))),
          .p none 16 (.mv (.tmp 31))])))))))
  (.seq (.reg [.p none 32 (.mv (.tmp 0)),
      .p none 33 (.mv (.tmp 6)),
      .p none 34 (.nilchk (.tmp 32)),
      .p none 35 (.fa 0 (.tmp 34)),
      .l none none (.st 1 (.tmp 35) (.tmp 33))])
  (.seq (.reg [.p none 36 (.mv (.tmp 5)),
      .p none 4 (.mv (.tmp 36))])
  .ret))))))
theorem C39 : compile Try.prog 37 (Try.f39.body.getD .skip) = some M39 := by kernel_rfl

/-- (*fault.Plan).Stop$1 -/
noncomputable def M40 : MC :=
  (.seq (.reg [.l none (some 2) (.bx 25 (.tmp 0)),
      .p none 3 (.mv (.const (.bool false)))])
  (.seq (.dreg (.line [.ql 2 none 6 (some 4) (.tmp 1),
      .l 0 none (some 4) (.ld (some 8) (.tmp 2)),
      .l 1 none (some 5) (.call 41 [(.tmp 4)]),
      .qp 3 none 7 (.aeq false [1, 1, 1, 1] (.tmp 5) (.tmp 6)),
      .qp 4 none 3 (.mv (.tmp 7))]))
  .ret))
theorem C40 : compile Try.prog 8 (Try.f40.body.getD .skip) = some M40 := by kernel_rfl

/-- fault.placeOf -/
noncomputable def M41 : MC :=
  (.seq (.reg [.l none (some 1) (.bx 25 (.tmp 0)),
      .l none (some 2) (.al 68 [(.int .i64 0), (.int .i64 0), (.int .i64 0), (.int .i64 0)])])
  (.seq (.reg [.p none 3 (.fa 0 (.tmp 1)),
      .l none (some 4) (.ld none (.tmp 3)),
      .p none 5 (.fa 1 (.tmp 1)),
      .l none (some 6) (.ld none (.tmp 5)),
      .p none 7 (.fa 2 (.tmp 1)),
      .l none (some 8) (.ld none (.tmp 7)),
      .p none 9 (.fa 3 (.tmp 1)),
      .l none (some 10) (.ld none (.tmp 9)),
      .p none 11 (.bld [(.int .i64 0), (.int .i64 0), (.int .i64 0), (.int .i64 0)] [(0, 1, (.tmp 4)), (1, 1, (.tmp 6)), (2, 1, (.tmp 8)), (3, 1, (.tmp 10))]),
      .l none none (.st 4 (.tmp 2) (.tmp 11))])
  .ret))
theorem C41 : compile Try.prog 12 (Try.f41.body.getD .skip) = some M41 := by kernel_rfl

/-- (*fault.Plan).Due$1 -/
noncomputable def M42 : MC :=
  (.seq (.reg [.l none (some 5) (.bx 25 (.tmp 0)),
      .p none 6 (.mv (.const (.bool false)))])
  (.seq (.reg [.p none 7 (.fa 0 (.tmp 5)),
      .l none (some 8) (.ld none (.tmp 7)),
      .p none 9 (.bin .neq .i64 (.tmp 8) (.const (.int .i64 0))),
      .p none 10 (.mv (.tmp 9)),
      .split 10,
      .p (some (10, true)) 11 (.fa 2 (.tmp 5)),
      .l (some (10, true)) (some 12) (.ld none (.tmp 11)),
      .l (some (10, true)) (some 13) (.ld none (.tmp 1)),
      .p (some (10, true)) 14 (.bin .eql .i64 (.tmp 12) (.tmp 13)),
      .p none 15 (.pick (.tmp 10) (.tmp 14) (.const (.bool false))),
      .p none 16 (.mv (.tmp 15)),
      .split 16,
      .p (some (16, true)) 17 (.fa 3 (.tmp 5)),
      .l (some (16, true)) (some 18) (.ld none (.tmp 17)),
      .l (some (16, true)) (some 19) (.ld none (.tmp 2)),
      .p (some (16, true)) 20 (.bin .eql .i64 (.tmp 18) (.tmp 19)),
      .p none 21 (.pick (.tmp 16) (.tmp 20) (.const (.bool false))),
      .p none 22 (.mv (.tmp 21)),
      .split 22,
      .p (some (22, true)) 23 (.fa 4 (.tmp 5)),
      .l (some (22, true)) (some 24) (.ld none (.tmp 23)),
      .l (some (22, true)) (some 25) (.ld none (.tmp 3)),
      .p (some (22, true)) 26 (.bin .eql .i64 (.tmp 24) (.tmp 25)),
      .p none 27 (.pick (.tmp 22) (.tmp 26) (.const (.bool false))),
      .p none 28 (.mv (.tmp 27)),
      .split 28,
      .l (some (28, true)) (some 29) (.ld none (.tmp 3)),
      .p (some (28, true)) 30 (.bin .neq .i64 (.tmp 29) (.const (.int .i64 2))),
      .p (some (28, true)) 31 (.mv (.tmp 30)),
      .split 31,
      .p (some (31, false)) 32 (.fa 5 (.tmp 5)),
      .l (some (31, false)) (some 33) (.ld none (.tmp 32)),
      .l (some (31, false)) (some 34) (.ld none (.tmp 4)),
      .p (some (31, false)) 35 (.bin .eql .i64 (.tmp 33) (.tmp 34)),
      .p (some (28, true)) 36 (.pick (.tmp 31) (.const (.bool true)) (.tmp 35)),
      .p none 37 (.pick (.tmp 28) (.tmp 36) (.const (.bool false))),
      .p none 6 (.mv (.tmp 37))])
  .ret))
theorem C42 : compile Try.prog 38 (Try.f42.body.getD .skip) = some M42 := by kernel_rfl

/-- fault.right$1 -/
noncomputable def M53 : MC :=
  (.seq (.reg [.l none (some 1) (.bx 25 (.tmp 0)),
      .p none 2 (.mv (.const (.bool false)))])
  (.seq (.reg [.p none 3 (.mv (.const (.int .i64 256)))])
  (.seq (.seq (.reg [.p none 4 (.fa 1 (.tmp 1)),
      .l none (some 5) (.ld none (.tmp 4)),
      .p none 6 (.bin .eql .i64 (.tmp 5) (.const (.int .i64 1)))])
  (.cond (.tmp 6)
    (.reg [.p none 3 (.mv (.const (.int .i64 65535)))])
    .skip))
  (.seq (.reg [.p none 7 (.fa 1 (.tmp 1)),
      .l none (some 8) (.ld none (.tmp 7)),
      .p none 9 (.bin .eql .i64 (.tmp 8) (.const (.int .i64 0))),
      .p none 10 (.mv (.tmp 9)),
      .split 10,
      .p (some (10, false)) 11 (.fa 1 (.tmp 1)),
      .l (some (10, false)) (some 12) (.ld none (.tmp 11)),
      .p (some (10, false)) 13 (.bin .eql .i64 (.tmp 12) (.const (.int .i64 1))),
      .p none 14 (.pick (.tmp 10) (.const (.bool true)) (.tmp 13)),
      .p none 15 (.mv (.tmp 14)),
      .split 15,
      .p (some (15, true)) 16 (.fa 2 (.tmp 1)),
      .l (some (15, true)) (some 17) (.ld none (.tmp 16)),
      .p (some (15, true)) 18 (.mv (.tmp 3)),
      .p (some (15, true)) 19 (.bin .lss .i64 (.tmp 17) (.tmp 18)),
      .p none 20 (.pick (.tmp 15) (.tmp 19) (.const (.bool false))),
      .p none 21 (.mv (.tmp 20)),
      .split 21,
      .p (some (21, true)) 22 (.fa 4 (.tmp 1)),
      .l (some (21, true)) (some 23) (.ld none (.tmp 22)),
      .p (some (21, true)) 24 (.bin .eql .i64 (.tmp 23) (.const (.int .i64 0))),
      .p none 25 (.pick (.tmp 21) (.tmp 24) (.const (.bool false))),
      .p none 26 (.mv (.tmp 25)),
      .split 26,
      .p (some (26, true)) 27 (.fa 5 (.tmp 1)),
      .l (some (26, true)) (some 28) (.ld none (.tmp 27)),
      .p (some (26, true)) 29 (.bin .eql .i64 (.tmp 28) (.const (.int .i64 0))),
      .p none 30 (.pick (.tmp 26) (.tmp 29) (.const (.bool false))),
      .p none 31 (.mv (.tmp 30)),
      .split 31,
      .p (some (31, true)) 32 (.fa 6 (.tmp 1)),
      .l (some (31, true)) (some 33) (.ld none (.tmp 32)),
      .p (some (31, true)) 34 (.bin .geq .i64 (.tmp 33) (.const (.int .i64 0))),
      .p none 35 (.pick (.tmp 31) (.tmp 34) (.const (.bool false))),
      .p none 36 (.mv (.tmp 35)),
      .split 36,
      .p (some (36, true)) 37 (.fa 7 (.tmp 1)),
      .l (some (36, true)) (some 38) (.ld none (.tmp 37)),
      .p (some (36, true)) 39 (.bin .eql .u32 (.tmp 38) (.const (.int .u32 0))),
      .p none 40 (.pick (.tmp 36) (.tmp 39) (.const (.bool false))),
      .p none 2 (.mv (.tmp 40))])
  .ret))))
theorem C53 : compile Try.prog 41 (Try.f53.body.getD .skip) = some M53 := by kernel_rfl

/-- fault.right$2 -/
noncomputable def M54 : MC :=
  (.seq (.reg [.l none (some 1) (.bx 25 (.tmp 0)),
      .p none 2 (.mv (.const (.bool false)))])
  (.seq (.reg [.l none (some 3) (.ld (some 8) (.tmp 1)),
      .l none (some 4) (.call 55 [(.tmp 3)]),
      .p none 5 (.mv (.tmp 4)),
      .split 5,
      .p (some (5, true)) 6 (.fa 6 (.tmp 1)),
      .l (some (5, true)) (some 7) (.ld none (.tmp 6)),
      .p (some (5, true)) 8 (.bin .geq .i64 (.tmp 7) (.const (.int .i64 0))),
      .p none 9 (.pick (.tmp 5) (.tmp 8) (.const (.bool false))),
      .p none 10 (.mv (.tmp 9)),
      .split 10,
      .p (some (10, true)) 11 (.fa 7 (.tmp 1)),
      .l (some (10, true)) (some 12) (.ld none (.tmp 11)),
      .p (some (10, true)) 13 (.bin .and .u32 (.tmp 12) (.const (.int .u32 1))),
      .p (some (10, true)) 14 (.bin .eql .u32 (.tmp 13) (.const (.int .u32 1))),
      .p none 15 (.pick (.tmp 10) (.tmp 14) (.const (.bool false))),
      .p none 2 (.mv (.tmp 15))])
  .ret))
theorem C54 : compile Try.prog 16 (Try.f54.body.getD .skip) = some M54 := by kernel_rfl

/-- fault.damages -/
noncomputable def M55 : MC :=
  (.seq (.reg [.l none (some 1) (.bx 25 (.tmp 0)),
      .p none 2 (.mv (.const (.bool false)))])
  (.seq (.seq (.reg [.p none 3 (.fa 1 (.tmp 1)),
      .l none (some 4) (.ld none (.tmp 3)),
      .p none 5 (.bin .neq .i64 (.tmp 4) (.const (.int .i64 0))),
      .p none 6 (.mv (.tmp 5)),
      .split 6,
      .p (some (6, false)) 7 (.fa 2 (.tmp 1)),
      .l (some (6, false)) (some 8) (.ld none (.tmp 7)),
      .p (some (6, false)) 9 (.bin .geq .i64 (.tmp 8) (.const (.int .i64 256))),
      .p none 10 (.pick (.tmp 6) (.const (.bool true)) (.tmp 9)),
      .p none 11 (.mv (.tmp 10)),
      .split 11,
      .p (some (11, false)) 12 (.fa 4 (.tmp 1)),
      .l (some (11, false)) (some 13) (.ld none (.tmp 12)),
      .p (some (11, false)) 14 (.bin .lss .i64 (.tmp 13) (.const (.int .i64 0))),
      .p none 15 (.pick (.tmp 11) (.const (.bool true)) (.tmp 14)),
      .p none 16 (.mv (.tmp 15)),
      .split 16,
      .p (some (16, false)) 17 (.fa 4 (.tmp 1)),
      .l (some (16, false)) (some 18) (.ld none (.tmp 17)),
      .p (some (16, false)) 19 (.bin .gtr .i64 (.tmp 18) (.const (.int .i64 2))),
      .p none 20 (.pick (.tmp 16) (.const (.bool true)) (.tmp 19))])
  (.cond (.tmp 20)
    (.seq (.reg [.p none 2 (.mv (.const (.bool false)))])
    .ret)
    .skip))
  (.seq (.reg [.p none 21 (.fa 5 (.tmp 1)),
      .l none (some 22) (.ld none (.tmp 21)),
      .p none 23 (.bin .eql .i64 (.tmp 22) (.const (.int .i64 0))),
      .p none 24 (.mv (.tmp 23)),
      .split 24,
      .p (some (24, false)) 25 (.fa 4 (.tmp 1)),
      .l (some (24, false)) (some 26) (.ld none (.tmp 25)),
      .p (some (24, false)) 27 (.bin .eql .i64 (.tmp 26) (.const (.int .i64 2))),
      .p (some (24, false)) 28 (.mv (.tmp 27)),
      .split 28,
      .p (some (28, true)) 29 (.fa 5 (.tmp 1)),
      .l (some (28, true)) (some 30) (.ld none (.tmp 29)),
      .p (some (28, true)) 31 (.bin .gtr .i64 (.tmp 30) (.const (.int .i64 0))),
      .p (some (24, false)) 32 (.pick (.tmp 28) (.tmp 31) (.const (.bool false))),
      .p (some (24, false)) 33 (.mv (.tmp 32)),
      .split 33,
      .p (some (33, true)) 34 (.fa 5 (.tmp 1)),
      .l (some (33, true)) (some 35) (.ld none (.tmp 34)),
      .p (some (33, true)) 36 (.bin .lss .i64 (.tmp 35) (.const (.int .i64 65535))),
      .p (some (24, false)) 37 (.pick (.tmp 33) (.tmp 36) (.const (.bool false))),
      .p none 38 (.pick (.tmp 24) (.const (.bool true)) (.tmp 37)),
      .p none 2 (.mv (.tmp 38))])
  .ret)))
theorem C55 : compile Try.prog 39 (Try.f55.body.getD .skip) = some M55 := by kernel_rfl

/-- fault.right$3 -/
noncomputable def M56 : MC :=
  (.seq (.reg [.l none (some 1) (.bx 25 (.tmp 0)),
      .p none 2 (.mv (.const (.bool false)))])
  (.seq (.reg [.l none (some 3) (.ld (some 8) (.tmp 1)),
      .l none (some 4) (.call 55 [(.tmp 3)]),
      .p none 5 (.mv (.tmp 4)),
      .split 5,
      .p (some (5, true)) 6 (.fa 6 (.tmp 1)),
      .l (some (5, true)) (some 7) (.ld none (.tmp 6)),
      .p (some (5, true)) 8 (.bin .geq .i64 (.tmp 7) (.const (.int .i64 (-268435456)))),
      .p none 9 (.pick (.tmp 5) (.tmp 8) (.const (.bool false))),
      .p none 10 (.mv (.tmp 9)),
      .split 10,
      .p (some (10, true)) 11 (.fa 6 (.tmp 1)),
      .l (some (10, true)) (some 12) (.ld none (.tmp 11)),
      .p (some (10, true)) 13 (.bin .leq .i64 (.tmp 12) (.const (.int .i64 4096))),
      .p none 14 (.pick (.tmp 10) (.tmp 13) (.const (.bool false))),
      .p none 15 (.mv (.tmp 14)),
      .split 15,
      .p (some (15, true)) 16 (.fa 6 (.tmp 1)),
      .l (some (15, true)) (some 17) (.ld none (.tmp 16)),
      .p (some (15, true)) 18 (.bin .neq .i64 (.tmp 17) (.const (.int .i64 0))),
      .p none 19 (.pick (.tmp 15) (.tmp 18) (.const (.bool false))),
      .p none 20 (.mv (.tmp 19)),
      .split 20,
      .p (some (20, true)) 21 (.fa 7 (.tmp 1)),
      .l (some (20, true)) (some 22) (.ld none (.tmp 21)),
      .p (some (20, true)) 23 (.bin .eql .u32 (.tmp 22) (.const (.int .u32 0))),
      .p none 24 (.pick (.tmp 20) (.tmp 23) (.const (.bool false))),
      .p none 2 (.mv (.tmp 24))])
  .ret))
theorem C56 : compile Try.prog 25 (Try.f56.body.getD .skip) = some M56 := by kernel_rfl

/-- winnowref16.stop -/
noncomputable def M57 : MC :=
  (.seq (.reg [.l none (some 1) (.bx 25 (.tmp 0)),
      .p none 2 (.mv (.const (.bool false)))])
  (.seq (.seq (.reg [.p none 3 (.fa 1 (.tmp 1)),
      .l none (some 4) (.ld none (.tmp 3)),
      .p none 5 (.bin .neq .i64 (.tmp 4) (.const (.int .i64 0))),
      .p none 6 (.mv (.tmp 5)),
      .split 6,
      .p (some (6, true)) 7 (.fa 1 (.tmp 1)),
      .l (some (6, true)) (some 8) (.ld none (.tmp 7)),
      .p (some (6, true)) 9 (.bin .neq .i64 (.tmp 8) (.const (.int .i64 1))),
      .p none 10 (.pick (.tmp 6) (.tmp 9) (.const (.bool false))),
      .p none 11 (.mv (.tmp 10)),
      .split 11,
      .p (some (11, false)) 12 (.fa 4 (.tmp 1)),
      .l (some (11, false)) (some 13) (.ld none (.tmp 12)),
      .p (some (11, false)) 14 (.bin .neq .i64 (.tmp 13) (.const (.int .i64 0))),
      .p none 15 (.pick (.tmp 11) (.const (.bool true)) (.tmp 14)),
      .p none 16 (.mv (.tmp 15)),
      .split 16,
      .p (some (16, false)) 17 (.fa 5 (.tmp 1)),
      .l (some (16, false)) (some 18) (.ld none (.tmp 17)),
      .p (some (16, false)) 19 (.bin .neq .i64 (.tmp 18) (.const (.int .i64 0))),
      .p none 20 (.pick (.tmp 16) (.const (.bool true)) (.tmp 19)),
      .p none 21 (.mv (.tmp 20)),
      .split 21,
      .p (some (21, false)) 22 (.fa 7 (.tmp 1)),
      .l (some (21, false)) (some 23) (.ld none (.tmp 22)),
      .p (some (21, false)) 24 (.bin .neq .u32 (.tmp 23) (.const (.int .u32 0))),
      .p none 25 (.pick (.tmp 21) (.const (.bool true)) (.tmp 24)),
      .p none 26 (.mv (.tmp 25)),
      .split 26,
      .p (some (26, false)) 27 (.fa 6 (.tmp 1)),
      .l (some (26, false)) (some 28) (.ld none (.tmp 27)),
      .p (some (26, false)) 29 (.bin .lss .i64 (.tmp 28) (.const (.int .i64 0))),
      .p none 30 (.pick (.tmp 26) (.const (.bool true)) (.tmp 29))])
  (.cond (.tmp 30)
    (.seq (.reg [.p none 2 (.mv (.const (.bool false)))])
    .ret)
    .skip))
  (.seq (.reg [.p none 31 (.fa 1 (.tmp 1)),
      .l none (some 32) (.ld none (.tmp 31)),
      .p none 33 (.bin .eql .i64 (.tmp 32) (.const (.int .i64 0))),
      .p none 34 (.mv (.tmp 33)),
      .split 34,
      .p (some (34, true)) 35 (.fa 2 (.tmp 1)),
      .l (some (34, true)) (some 36) (.ld none (.tmp 35)),
      .p (some (34, true)) 37 (.bin .lss .i64 (.tmp 36) (.const (.int .i64 256))),
      .p none 38 (.pick (.tmp 34) (.tmp 37) (.const (.bool false))),
      .p none 39 (.mv (.tmp 38)),
      .split 39,
      .p (some (39, false)) 40 (.fa 1 (.tmp 1)),
      .l (some (39, false)) (some 41) (.ld none (.tmp 40)),
      .p (some (39, false)) 42 (.bin .eql .i64 (.tmp 41) (.const (.int .i64 1))),
      .p (some (39, false)) 43 (.mv (.tmp 42)),
      .split 43,
      .p (some (43, true)) 44 (.fa 2 (.tmp 1)),
      .l (some (43, true)) (some 45) (.ld none (.tmp 44)),
      .p (some (43, true)) 46 (.bin .lss .i64 (.tmp 45) (.const (.int .i64 65535))),
      .p (some (39, false)) 47 (.pick (.tmp 43) (.tmp 46) (.const (.bool false))),
      .p none 48 (.pick (.tmp 39) (.const (.bool true)) (.tmp 47)),
      .p none 2 (.mv (.tmp 48))])
  .ret)))
theorem C57 : compile Try.prog 49 (Try.f57.body.getD .skip) = some M57 := by kernel_rfl

/-- winnowref16.damage -/
noncomputable def M58 : MC :=
  (.seq (.reg [.l none (some 1) (.bx 25 (.tmp 0)),
      .p none 2 (.mv (.const (.bool false)))])
  (.seq (.seq (.reg [.p none 3 (.fa 1 (.tmp 1)),
      .l none (some 4) (.ld none (.tmp 3)),
      .p none 5 (.bin .neq .i64 (.tmp 4) (.const (.int .i64 0))),
      .p none 6 (.mv (.tmp 5)),
      .split 6,
      .p (some (6, false)) 7 (.fa 2 (.tmp 1)),
      .l (some (6, false)) (some 8) (.ld none (.tmp 7)),
      .p (some (6, false)) 9 (.bin .geq .i64 (.tmp 8) (.const (.int .i64 256))),
      .p none 10 (.pick (.tmp 6) (.const (.bool true)) (.tmp 9)),
      .p none 11 (.mv (.tmp 10)),
      .split 11,
      .p (some (11, false)) 12 (.fa 4 (.tmp 1)),
      .l (some (11, false)) (some 13) (.ld none (.tmp 12)),
      .p (some (11, false)) 14 (.bin .lss .i64 (.tmp 13) (.const (.int .i64 0))),
      .p none 15 (.pick (.tmp 11) (.const (.bool true)) (.tmp 14)),
      .p none 16 (.mv (.tmp 15)),
      .split 16,
      .p (some (16, false)) 17 (.fa 4 (.tmp 1)),
      .l (some (16, false)) (some 18) (.ld none (.tmp 17)),
      .p (some (16, false)) 19 (.bin .gtr .i64 (.tmp 18) (.const (.int .i64 2))),
      .p none 20 (.pick (.tmp 16) (.const (.bool true)) (.tmp 19)),
      .p none 21 (.mv (.tmp 20)),
      .split 21,
      .p (some (21, false)) 22 (.fa 5 (.tmp 1)),
      .l (some (21, false)) (some 23) (.ld none (.tmp 22)),
      .p (some (21, false)) 24 (.bin .lss .i64 (.tmp 23) (.const (.int .i64 0))),
      .p none 25 (.pick (.tmp 21) (.const (.bool true)) (.tmp 24)),
      .p none 26 (.mv (.tmp 25)),
      .split 26,
      .p (some (26, false)) 27 (.fa 5 (.tmp 1)),
      .l (some (26, false)) (some 28) (.ld none (.tmp 27)),
      .p (some (26, false)) 29 (.bin .geq .i64 (.tmp 28) (.const (.int .i64 65535))),
      .p none 30 (.pick (.tmp 26) (.const (.bool true)) (.tmp 29))])
  (.cond (.tmp 30)
    (.seq (.reg [.p none 2 (.mv (.const (.bool false)))])
    .ret)
    .skip))
  (.seq (.reg [.p none 31 (.fa 4 (.tmp 1)),
      .l none (some 32) (.ld none (.tmp 31)),
      .p none 33 (.bin .eql .i64 (.tmp 32) (.const (.int .i64 2))),
      .p none 34 (.mv (.tmp 33)),
      .split 34,
      .p (some (34, false)) 35 (.fa 5 (.tmp 1)),
      .l (some (34, false)) (some 36) (.ld none (.tmp 35)),
      .p (some (34, false)) 37 (.bin .eql .i64 (.tmp 36) (.const (.int .i64 0))),
      .p none 38 (.pick (.tmp 34) (.const (.bool true)) (.tmp 37)),
      .p none 2 (.mv (.tmp 38))])
  .ret)))
theorem C58 : compile Try.prog 39 (Try.f58.body.getD .skip) = some M58 := by kernel_rfl
end Go.Proofs.Ytnkilhmkegmenaa.E
