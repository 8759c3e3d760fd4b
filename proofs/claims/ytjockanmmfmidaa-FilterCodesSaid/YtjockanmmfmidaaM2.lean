/- The intermediate code of the functions that are walked here, each with the proof that it is the translation of the model's code. -/
import Derived.Test.YtjockanmmfmidaaE6
import Derived.KernelRfl
namespace Go.Proofs.Ytjockanmmfmidaa.E
open Go


/-- winnowlaw7.FilterCodes -/
def M5 : MC :=
  (.seq (.reg [.l none (some 3) (.bx 30 (.tmp 0)),
      .p none 6 (.mv (.const (.bool false)))])
  (.seq (.reg [.l none (some 37) (.ld (some 3) (.tmp 3)),
      .l none (some 38) (.call 18 [(.tmp 37)]),
      .l none (some 7) (.al 30 [(.bool false), (.int .i64 0), (.slice none 0 0)]),
      .l none none (.st 3 (.tmp 7) (.tmp 38))])
  (.seq (.reg [.l none (some 40) (.ld (some 3) (.tmp 7)),
      .l none (some 41) (.call 19 [(.tmp 40)]),
      .p none 39 (.mv (.tmp 41)),
      .p none 42 (.ext 0 (.tmp 39)),
      .p none 43 (.ext 1 (.tmp 39)),
      .p none 8 (.mv (.tmp 42)),
      .p none 9 (.mv (.tmp 43))])
  (.seq (.reg [.l none (some 45) (.ld (some 3) (.tmp 7)),
      .l none (some 46) (.call 19 [(.tmp 45)]),
      .p none 44 (.mv (.tmp 46)),
      .p none 47 (.ext 0 (.tmp 44)),
      .p none 48 (.ext 1 (.tmp 44)),
      .p none 10 (.mv (.tmp 47)),
      .p none 11 (.mv (.tmp 48))])
  (.seq (.reg [.p none 49 (.mv (.tmp 8)),
      .l none (some 50) (.call 11 [(.tmp 49), (.const (.int .u8 7))]),
      .p none 12 (.mv (.tmp 50))])
  (.seq (.reg [.l none (some 52) (.ld (some 3) (.tmp 3)),
      .l none (some 53) (.call 20 [(.tmp 52)]),
      .p none 51 (.mv (.tmp 53)),
      .p none 54 (.ext 0 (.tmp 51)),
      .p none 55 (.ext 1 (.tmp 51)),
      .p none 13 (.mv (.tmp 54)),
      .p none 14 (.mv (.tmp 55))])
  (.seq (.reg [.p none 56 (.mv (.tmp 1)),
      .l none (some 57) (.call 21 [(.tmp 56)]),
      .p none 15 (.mv (.tmp 57))])
  (.seq (.reg [.p none 59 (.mv (.tmp 15)),
      .p none 60 (.mv (.tmp 1)),
      .p none 61 (.len (.tmp 60)),
      .p none 62 (.slc 1 (.tmp 59) none (some (.tmp 61)) none),
      .l none (some 63) (.call 22 [(.tmp 62)]),
      .p none 58 (.mv (.tmp 63)),
      .p none 64 (.ext 0 (.tmp 58)),
      .p none 65 (.ext 1 (.tmp 58)),
      .l none (some 16) (.al 30 [(.bool false), (.int .i64 0), (.slice none 0 0)]),
      .l none none (.st 3 (.tmp 16) (.tmp 64)),
      .p none 17 (.mv (.tmp 65))])
  (.seq (.reg [.p none 67 (.mv (.tmp 15)),
      .p none 68 (.mv (.tmp 1)),
      .p none 69 (.len (.tmp 68)),
      .p none 70 (.slc 1 (.tmp 67) none (some (.tmp 69)) none),
      .l none (some 71) (.call 22 [(.tmp 70)]),
      .p none 66 (.mv (.tmp 71)),
      .p none 72 (.ext 0 (.tmp 66)),
      .p none 73 (.ext 1 (.tmp 66)),
      .l none (some 18) (.al 30 [(.bool false), (.int .i64 0), (.slice none 0 0)]),
      .l none none (.st 3 (.tmp 18) (.tmp 72)),
      .p none 19 (.mv (.tmp 73))])
  (.seq (.reg [.p none 74 (.fa 2 (.tmp 16)),
      .l none (some 75) (.ld none (.tmp 74)),
      .l none (some 76) (.call 11 [(.tmp 75), (.const (.int .u8 9))]),
      .p none 20 (.mv (.tmp 76))])
  (.seq (.reg [.p none 78 (.mv (.tmp 1)),
      .l none (some 79) (.call 23 [(.tmp 78)]),
      .p none 77 (.mv (.tmp 79)),
      .p none 80 (.ext 0 (.tmp 77)),
      .p none 81 (.ext 1 (.tmp 77)),
      .l none (some 21) (.al 30 [(.bool false), (.int .i64 0), (.slice none 0 0)]),
      .l none none (.st 3 (.tmp 21) (.tmp 80)),
      .p none 22 (.mv (.tmp 81))])
  (.seq (.seq (.reg [.p none 23 (.mv (.const (.int .i64 0)))])
  (.block 0
    (.loop
      (.seq (.seq (.reg [.p none 82 (.mv (.tmp 23)),
          .p none 83 (.mv (.tmp 2)),
          .p none 84 (.len (.tmp 83)),
          .p none 85 (.bin .lss .i64 (.tmp 82) (.tmp 84))])
      (.cond (.tmp 85)
        .skip
        (.exit 0)))
      (.seq (.block 1
        (.seq (.dreg (.line [.qp 1 none 89 (.mv (.tmp 2)),
            .qp 2 none 90 (.mv (.tmp 23)),
            .qp 3 none 91 (.idx 1 (.tmp 89) (.tmp 90)),
            .qp 7 none 95 (.mv (.tmp 2)),
            .qp 8 none 96 (.mv (.tmp 23)),
            .qp 9 none 97 (.idx 1 (.tmp 95) (.tmp 96)),
            .ql 6 none 94 (some 3) (.tmp 3),
            .ql 0 none 88 (some 3) (.tmp 7),
            .ql 10 none 98 none (.tmp 97),
            .l 4 none (some 92) (.ld none (.tmp 91)),
            .l 5 none (some 93) (.call 13 [(.tmp 88), (.tmp 92)]),
            .l 11 none (some 99) (.call 14 [(.tmp 94), (.tmp 98)]),
            .qp 12 none 100 (.beq true (.tmp 93) (.tmp 99))]))
        (.cond (.tmp 100)
          (.seq (.reg [.p none 6 (.mv (.const (.bool false)))])
          .ret)
          .skip)))
      (.reg [.p none 86 (.mv (.tmp 23)),
          .p none 87 (.bin .add .i64 (.tmp 86) (.const (.int .i64 1))),
          .p none 23 (.mv (.tmp 87))]))))))
  (.seq (.dreg (.line [.ql 2 none 103 (some 3) (.tmp 3),
      .l 0 none (some 101) (.ld (some 3) (.tmp 7)),
      .l 1 none (some 102) (.call 24 [(.tmp 101)]),
      .l 3 none (some 104) (.call 25 [(.tmp 103)]),
      .qp 4 none 105 (.bin .eql .i64 (.tmp 102) (.tmp 104)),
      .qp 5 none 106 (.mv (.tmp 105)),
      .split 106,
      .qp 6 (some (106, true)) 107 (.mv (.tmp 9)),
      .qp 7 (some (106, true)) 108 (.mv (.tmp 14)),
      .qp 8 (some (106, true)) 109 (.bin .eql .i64 (.tmp 107) (.tmp 108)),
      .qp 9 none 110 (.pick (.tmp 106) (.tmp 109) (.const (.bool false))),
      .qp 10 none 111 (.mv (.tmp 110)),
      .split 111,
      .qp 11 (some (111, true)) 112 (.mv (.tmp 11)),
      .qp 12 (some (111, true)) 113 (.mv (.tmp 14)),
      .qp 13 (some (111, true)) 114 (.bin .eql .i64 (.tmp 112) (.tmp 113)),
      .qp 14 none 115 (.pick (.tmp 111) (.tmp 114) (.const (.bool false))),
      .qp 15 none 116 (.mv (.tmp 115)),
      .split 116,
      .qp 16 (some (116, true)) 117 (.mv (.tmp 10)),
      .qp 17 (some (116, true)) 118 (.mv (.tmp 13)),
      .l 18 (some (116, true)) (some 119) (.call 26 [(.tmp 117), (.tmp 118)]),
      .qp 19 none 120 (.pick (.tmp 116) (.tmp 119) (.const (.bool false))),
      .qp 20 none 121 (.mv (.tmp 120)),
      .split 121,
      .qp 21 (some (121, true)) 122 (.mv (.tmp 12)),
      .qp 22 (some (121, true)) 123 (.mv (.tmp 13)),
      .qp 23 (some (121, true)) 124 (.len (.tmp 123)),
      .qp 24 (some (121, true)) 125 (.bin .add .i64 (.tmp 124) (.const (.int .i64 64))),
      .qp 25 (some (121, true)) 126 (.bin .eql .i64 (.tmp 122) (.tmp 125)),
      .qp 26 none 127 (.pick (.tmp 121) (.tmp 126) (.const (.bool false))),
      .qp 27 none 128 (.mv (.tmp 127)),
      .split 128,
      .ql 29 (some (128, true)) 130 (some 3) (.tmp 3),
      .l 28 (some (128, true)) (some 129) (.ld (some 3) (.tmp 7)),
      .l 30 (some (128, true)) (some 131) (.call 27 [(.tmp 129), (.tmp 130)]),
      .qp 31 none 132 (.pick (.tmp 128) (.tmp 131) (.const (.bool false))),
      .qp 32 none 24 (.mv (.tmp 132))]))
  (.seq (.seq (.reg [.p none 133 (.mv (.tmp 24)),
      .p none 134 (.not (.tmp 133)),
      .p none 135 (.mv (.tmp 134)),
      .split 135,
      .p (some (135, false)) 136 (.mv (.tmp 17)),
      .p (some (135, false)) 137 (.mv (.tmp 22)),
      .p (some (135, false)) 138 (.bin .neq .i64 (.tmp 136) (.tmp 137)),
      .p none 139 (.pick (.tmp 135) (.const (.bool true)) (.tmp 138)),
      .p none 140 (.mv (.tmp 139)),
      .split 140,
      .p (some (140, false)) 141 (.mv (.tmp 19)),
      .p (some (140, false)) 142 (.mv (.tmp 22)),
      .p (some (140, false)) 143 (.bin .neq .i64 (.tmp 141) (.tmp 142)),
      .p none 144 (.pick (.tmp 140) (.const (.bool true)) (.tmp 143)),
      .p none 145 (.mv (.tmp 144)),
      .split 145,
      .l (some (145, false)) (some 146) (.ld (some 3) (.tmp 18)),
      .l (some (145, false)) (some 147) (.ld (some 3) (.tmp 21)),
      .l (some (145, false)) (some 148) (.call 15 [(.tmp 146), (.tmp 147)]),
      .p (some (145, false)) 149 (.not (.tmp 148)),
      .p none 150 (.pick (.tmp 145) (.const (.bool true)) (.tmp 149)),
      .p none 151 (.mv (.tmp 150)),
      .split 151,
      .p (some (151, false)) 152 (.mv (.tmp 20)),
      .p (some (151, false)) 153 (.fa 2 (.tmp 21)),
      .l (some (151, false)) (some 154) (.ld none (.tmp 153)),
      .p (some (151, false)) 155 (.len (.tmp 154)),
      .p (some (151, false)) 156 (.bin .add .i64 (.tmp 155) (.const (.int .i64 64))),
      .p (some (151, false)) 157 (.bin .neq .i64 (.tmp 152) (.tmp 156)),
      .p none 158 (.pick (.tmp 151) (.const (.bool true)) (.tmp 157)),
      .p none 159 (.mv (.tmp 158)),
      .split 159,
      .p (some (159, false)) 160 (.mv (.tmp 15)),
      .p (some (159, false)) 161 (.mv (.tmp 1)),
      .l (some (159, false)) (some 162) (.call 21 [(.tmp 161)]),
      .l (some (159, false)) (some 163) (.call 26 [(.tmp 160), (.tmp 162)]),
      .p (some (159, false)) 164 (.not (.tmp 163)),
      .p none 165 (.pick (.tmp 159) (.const (.bool true)) (.tmp 164))])
  (.cond (.tmp 165)
    (.seq (.reg [.p none 6 (.mv (.const (.bool false)))])
    .ret)
    .skip))
  (.seq (.reg [.l none (some 166) (.ld (some 3) (.tmp 3)),
      .l none (some 167) (.call 18 [(.tmp 166)]),
      .l none (some 25) (.al 30 [(.bool false), (.int .i64 0), (.slice none 0 0)]),
      .l none none (.st 3 (.tmp 25) (.tmp 167))])
  (.seq (.reg [.l none (some 168) (.ld (some 3) (.tmp 7)),
      .l none (some 26) (.al 30 [(.bool false), (.int .i64 0), (.slice none 0 0)]),
      .l none none (.st 3 (.tmp 26) (.tmp 168))])
  (.seq (.reg [.p none 169 (.fa 1 (.tmp 7)),
      .l none (some 170) (.ld none (.tmp 169)),
      .p none 171 (.bin .add .i64 (.tmp 170) (.const (.int .i64 9))),
      .p none 172 (.fa 1 (.tmp 26)),
      .l none none (.st 1 (.tmp 172) (.tmp 171))])
  (.seq (.reg [.l none (some 173) (.ld (some 3) (.tmp 25)),
      .l none (some 27) (.al 30 [(.bool false), (.int .i64 0), (.slice none 0 0)]),
      .l none none (.st 3 (.tmp 27) (.tmp 173))])
  (.seq (.reg [.p none 174 (.fa 1 (.tmp 3)),
      .l none (some 175) (.ld none (.tmp 174)),
      .p none 176 (.bin .add .i64 (.tmp 175) (.const (.int .i64 9))),
      .p none 177 (.fa 1 (.tmp 27)),
      .l none none (.st 1 (.tmp 177) (.tmp 176))])
  (.seq (.seq (.dreg (.line [.ql 2 none 180 (some 3) (.tmp 27),
      .l 0 none (some 178) (.ld (some 3) (.tmp 26)),
      .l 1 none (some 179) (.call 24 [(.tmp 178)]),
      .l 3 none (some 181) (.call 25 [(.tmp 180)]),
      .qp 4 none 182 (.bin .neq .i64 (.tmp 179) (.tmp 181))]))
  (.cond (.tmp 182)
    (.seq (.reg [.p none 6 (.mv (.const (.bool false)))])
    .ret)
    .skip))
  (.seq (.reg [.p none 183 (.fa 2 (.tmp 25)),
      .l none (some 184) (.ld none (.tmp 183)),
      .l none (some 185) (.call 28 [(.tmp 184)])])
  (.seq (.reg [.p none 186 (.fa 2 (.tmp 7)),
      .l none (some 187) (.ld none (.tmp 186)),
      .l none (some 188) (.call 28 [(.tmp 187)])])
  (.seq (.reg [.l none (some 190) (.ld (some 3) (.tmp 7)),
      .l none (some 191) (.call 19 [(.tmp 190)]),
      .p none 189 (.mv (.tmp 191)),
      .p none 192 (.ext 0 (.tmp 189)),
      .p none 193 (.ext 1 (.tmp 189)),
      .p none 28 (.mv (.tmp 192)),
      .p none 29 (.mv (.tmp 193))])
  (.seq (.reg [.l none (some 195) (.ld (some 3) (.tmp 25)),
      .l none (some 196) (.call 20 [(.tmp 195)]),
      .p none 194 (.mv (.tmp 196)),
      .p none 197 (.ext 0 (.tmp 194)),
      .p none 198 (.ext 1 (.tmp 194)),
      .p none 30 (.mv (.tmp 197)),
      .p none 31 (.mv (.tmp 198))])
  (.seq (.reg [.p none 200 (.mv (.tmp 15)),
      .p none 201 (.mv (.tmp 1)),
      .p none 202 (.len (.tmp 201)),
      .p none 203 (.slc 1 (.tmp 200) none (some (.tmp 202)) none),
      .l none (some 204) (.call 28 [(.tmp 203)]),
      .l none (some 205) (.call 22 [(.tmp 204)]),
      .p none 199 (.mv (.tmp 205)),
      .p none 206 (.ext 0 (.tmp 199)),
      .p none 207 (.ext 1 (.tmp 199)),
      .l none (some 32) (.al 30 [(.bool false), (.int .i64 0), (.slice none 0 0)]),
      .l none none (.st 3 (.tmp 32) (.tmp 206)),
      .p none 33 (.mv (.tmp 207))])
  (.seq (.reg [.p none 209 (.mv (.tmp 1)),
      .l none (some 210) (.call 21 [(.tmp 209)]),
      .p none 211 (.mv (.tmp 1)),
      .p none 212 (.len (.tmp 211)),
      .p none 213 (.slc 1 (.tmp 210) none (some (.tmp 212)) none),
      .l none (some 214) (.call 28 [(.tmp 213)]),
      .l none (some 215) (.call 23 [(.tmp 214)]),
      .p none 208 (.mv (.tmp 215)),
      .p none 216 (.ext 0 (.tmp 208)),
      .p none 217 (.ext 1 (.tmp 208)),
      .l none (some 34) (.al 30 [(.bool false), (.int .i64 0), (.slice none 0 0)]),
      .l none none (.st 3 (.tmp 34) (.tmp 216)),
      .p none 35 (.mv (.tmp 217))])
  (.seq (.seq (.reg [.p none 218 (.mv (.tmp 2)),
      .p none 219 (.len (.tmp 218)),
      .p none 220 (.bin .sub .i64 (.tmp 219) (.const (.int .i64 1))),
      .p none 36 (.mv (.tmp 220))])
  (.block 2
    (.loop
      (.seq (.seq (.reg [.p none 221 (.mv (.tmp 36)),
          .p none 222 (.bin .geq .i64 (.tmp 221) (.const (.int .i64 0)))])
      (.cond (.tmp 222)
        .skip
        (.exit 2)))
      (.seq (.block 3
        (.seq (.dreg (.line [.qp 1 none 226 (.mv (.tmp 2)),
            .qp 2 none 227 (.mv (.tmp 36)),
            .qp 3 none 228 (.idx 1 (.tmp 226) (.tmp 227)),
            .qp 7 none 232 (.mv (.tmp 2)),
            .qp 8 none 233 (.mv (.tmp 36)),
            .qp 9 none 234 (.idx 1 (.tmp 232) (.tmp 233)),
            .ql 6 none 231 (some 3) (.tmp 25),
            .ql 0 none 225 (some 3) (.tmp 7),
            .ql 10 none 235 none (.tmp 234),
            .l 4 none (some 229) (.ld none (.tmp 228)),
            .l 5 none (some 230) (.call 13 [(.tmp 225), (.tmp 229)]),
            .l 11 none (some 236) (.call 14 [(.tmp 231), (.tmp 235)]),
            .qp 12 none 237 (.beq true (.tmp 230) (.tmp 236))]))
        (.cond (.tmp 237)
          (.seq (.reg [.p none 6 (.mv (.const (.bool false)))])
          .ret)
          .skip)))
      (.reg [.p none 223 (.mv (.tmp 36)),
          .p none 224 (.bin .sub .i64 (.tmp 223) (.const (.int .i64 1))),
          .p none 36 (.mv (.tmp 224))]))))))
  (.seq (.reg [.p none 238 (.mv (.tmp 28)),
      .p none 239 (.mv (.tmp 30)),
      .l none (some 240) (.call 26 [(.tmp 238), (.tmp 239)]),
      .p none 241 (.mv (.tmp 240)),
      .split 241,
      .p (some (241, true)) 242 (.mv (.tmp 29)),
      .p (some (241, true)) 243 (.mv (.tmp 31)),
      .p (some (241, true)) 244 (.bin .eql .i64 (.tmp 242) (.tmp 243)),
      .p none 245 (.pick (.tmp 241) (.tmp 244) (.const (.bool false))),
      .p none 246 (.mv (.tmp 245)),
      .split 246,
      .l (some (246, true)) (some 247) (.ld (some 3) (.tmp 32)),
      .l (some (246, true)) (some 248) (.ld (some 3) (.tmp 34)),
      .l (some (246, true)) (some 249) (.call 15 [(.tmp 247), (.tmp 248)]),
      .p none 250 (.pick (.tmp 246) (.tmp 249) (.const (.bool false))),
      .p none 251 (.mv (.tmp 250)),
      .split 251,
      .p (some (251, true)) 252 (.mv (.tmp 33)),
      .p (some (251, true)) 253 (.mv (.tmp 35)),
      .p (some (251, true)) 254 (.bin .eql .i64 (.tmp 252) (.tmp 253)),
      .p none 255 (.pick (.tmp 251) (.tmp 254) (.const (.bool false))),
      .p none 256 (.mv (.tmp 255)),
      .split 256,
      .l (some (256, true)) (some 257) (.ld (some 3) (.tmp 18)),
      .l (some (256, true)) (some 258) (.ld (some 3) (.tmp 21)),
      .l (some (256, true)) (some 259) (.call 15 [(.tmp 257), (.tmp 258)]),
      .p none 260 (.pick (.tmp 256) (.tmp 259) (.const (.bool false))),
      .p none 6 (.mv (.tmp 260))])
  .ret))))))))))))))))))))))))))))
theorem C5 : compile Try.prog 261 (Try.f5.body.getD .skip) = some M5 := by kernel_rfl

/-- winnowlaw7.given -/
def M18 : MC :=
  (.seq (.reg [.l none (some 1) (.bx 30 (.tmp 0)),
      .l none (some 2) (.al 30 [(.bool false), (.int .i64 0), (.slice none 0 0)])])
  (.seq (.reg [.l none (some 4) (.ld (some 3) (.tmp 1)),
      .l none (some 3) (.al 30 [(.bool false), (.int .i64 0), (.slice none 0 0)]),
      .l none none (.st 3 (.tmp 3) (.tmp 4))])
  (.seq (.dreg (.line [.qp 0 none 5 (.fa 2 (.tmp 1)),
      .qp 3 none 8 (.fa 2 (.tmp 1)),
      .ql 4 none 9 none (.tmp 8),
      .qp 5 none 10 (.len (.tmp 9)),
      .l 1 none (some 6) (.ld none (.tmp 5)),
      .l 2 none (some 7) (.call 21 [(.tmp 6)]),
      .qp 6 none 11 (.slc 1 (.tmp 7) none (some (.tmp 10)) none),
      .qp 7 none 12 (.fa 2 (.tmp 3)),
      .l 8 none none (.st 1 (.tmp 12) (.tmp 11))]))
  (.seq (.reg [.l none (some 13) (.ld (some 3) (.tmp 3)),
      .l none none (.st 3 (.tmp 2) (.tmp 13))])
  .ret))))
theorem C18 : compile Try.prog 14 (Try.f18.body.getD .skip) = some M18 := by kernel_rfl

/-- filter.Encode -/
def M19 : MC :=
  (.seq (.reg [.l none (some 1) (.bx 30 (.tmp 0)),
      .p none 2 (.mv (.const (.slice none 0 0))),
      .p none 3 (.mv (.const (.int .i64 0)))])
  (.seq (.seq (.reg [.l none (some 5) (.ld (some 3) (.tmp 1)),
      .l none (some 6) (.call 33 [(.tmp 5)])])
  (.block 0
    (.seq (.reg [.p none 8 (.bin .eql .i64 (.tmp 6) (.const (.int .i64 1))),
        .p none 7 (.mv (.tmp 8))])
    (.cond (.tmp 7)
      (.seq (.reg [.l none (some 9) (.bs 5 1 1 [(.int .u8 0)] [(0, 1, (.const (.int .u8 255)))]),
          .p none 2 (.mv (.tmp 9)),
          .p none 3 (.mv (.const (.int .i64 0)))])
      .ret)
      (.seq (.reg [.p none 11 (.bin .eql .i64 (.tmp 6) (.const (.int .i64 2))),
          .p none 10 (.mv (.tmp 11))])
      (.cond (.tmp 10)
        (.seq (.reg [.l none (some 12) (.bs 5 1 1 [(.int .u8 0)] [(0, 1, (.const (.int .u8 0)))]),
            .p none 2 (.mv (.tmp 12)),
            .p none 3 (.mv (.const (.int .i64 0)))])
        .ret)
        (.seq (.reg [.p none 14 (.bin .eql .i64 (.tmp 6) (.const (.int .i64 3))),
            .p none 13 (.mv (.tmp 14))])
        (.cond (.tmp 13)
          (.seq (.dreg (.fork [.qp 0 none 15 (.fa 1 (.tmp 1)),
              .qp 4 none 19 (.fa 2 (.tmp 1)),
              .ql 5 none 20 none (.tmp 19),
              .qp 6 none 21 (.len (.tmp 20)),
              .ql 1 none 16 none (.tmp 15),
              .qp 2 none 17 (.conv .u8 (.tmp 16))]
            (.line [.l 3 none (some 18) (.bs 5 1 1 [(.int .u8 0)] [(0, 1, (.tmp 17))]),
                .l 7 none (some 22) (.call 35 [(.tmp 21)]),
                .l 8 none (some 23) (.app 5 1 1 [(.int .u8 0)] (.tmp 18) (.tmp 22)),
                .qp 9 none 4 (.mv (.tmp 23))])
            (.line [.l 7 none (some 22) (.call 35 [(.tmp 21)]),
                .l 3 none (some 18) (.bs 5 1 1 [(.int .u8 0)] [(0, 1, (.tmp 17))]),
                .l 8 none (some 23) (.app 5 1 1 [(.int .u8 0)] (.tmp 18) (.tmp 22)),
                .qp 9 none 4 (.mv (.tmp 23))])))
          (.seq (.reg [.p none 24 (.mv (.tmp 4)),
              .p none 25 (.fa 2 (.tmp 1)),
              .l none (some 26) (.ld none (.tmp 25)),
              .l none (some 27) (.app 5 1 1 [(.int .u8 0)] (.tmp 24) (.tmp 26)),
              .p none 2 (.mv (.tmp 27)),
              .p none 3 (.mv (.const (.int .i64 0)))])
          .ret))
          .skip))))))))
  (.seq (.reg [.p none 2 (.mv (.const (.slice none 0 0))),
      .p none 3 (.mv (.const (.int .i64 70)))])
  .ret)))
theorem C19 : compile Try.prog 28 (Try.f19.body.getD .skip) = some M19 := by kernel_rfl

/-- winnowref7.Encode -/
def M20 : MC :=
  (.seq (.reg [.l none (some 1) (.bx 30 (.tmp 0)),
      .p none 2 (.mv (.const (.slice none 0 0))),
      .p none 3 (.mv (.const (.int .i64 0)))])
  (.seq (.reg [.l none (some 6) (.ld (some 3) (.tmp 1)),
      .l none (some 7) (.call 25 [(.tmp 6)]),
      .p none 4 (.mv (.tmp 7))])
  (.seq (.seq (.reg [.p none 8 (.mv (.tmp 4)),
      .p none 9 (.bin .neq .i64 (.tmp 8) (.const (.int .i64 0)))])
  (.cond (.tmp 9)
    (.seq (.reg [.p none 10 (.mv (.tmp 4)),
        .p none 2 (.mv (.const (.slice none 0 0))),
        .p none 3 (.mv (.tmp 10))])
    .ret)
    .skip))
  (.seq (.seq (.reg [.p none 11 (.fa 0 (.tmp 1)),
      .l none (some 12) (.ld none (.tmp 11))])
  (.cond (.tmp 12)
    (.seq (.reg [.l none (some 13) (.bs 5 1 1 [(.int .u8 0)] [(0, 1, (.const (.int .u8 255)))]),
        .p none 2 (.mv (.tmp 13)),
        .p none 3 (.mv (.const (.int .i64 0)))])
    .ret)
    .skip))
  (.seq (.seq (.reg [.p none 14 (.fa 2 (.tmp 1)),
      .l none (some 15) (.ld none (.tmp 14)),
      .p none 16 (.len (.tmp 15)),
      .p none 17 (.bin .eql .i64 (.tmp 16) (.const (.int .i64 0)))])
  (.cond (.tmp 17)
    (.seq (.reg [.l none (some 18) (.bs 5 1 1 [(.int .u8 0)] [(0, 1, (.const (.int .u8 0)))]),
        .p none 2 (.mv (.tmp 18)),
        .p none 3 (.mv (.const (.int .i64 0)))])
    .ret)
    .skip))
  (.seq (.dreg (.fork [.qp 0 none 19 (.fa 1 (.tmp 1)),
      .qp 4 none 23 (.fa 2 (.tmp 1)),
      .ql 5 none 24 none (.tmp 23),
      .qp 6 none 25 (.len (.tmp 24)),
      .ql 1 none 20 none (.tmp 19),
      .qp 2 none 21 (.conv .u8 (.tmp 20))]
    (.line [.l 3 none (some 22) (.bs 5 1 1 [(.int .u8 0)] [(0, 1, (.tmp 21))]),
        .l 7 none (some 26) (.call 36 [(.tmp 25)]),
        .l 8 none (some 27) (.app 5 1 1 [(.int .u8 0)] (.tmp 22) (.tmp 26)),
        .qp 9 none 5 (.mv (.tmp 27))])
    (.line [.l 7 none (some 26) (.call 36 [(.tmp 25)]),
        .l 3 none (some 22) (.bs 5 1 1 [(.int .u8 0)] [(0, 1, (.tmp 21))]),
        .l 8 none (some 27) (.app 5 1 1 [(.int .u8 0)] (.tmp 22) (.tmp 26)),
        .qp 9 none 5 (.mv (.tmp 27))])))
  (.seq (.reg [.p none 28 (.mv (.tmp 5)),
      .p none 29 (.fa 2 (.tmp 1)),
      .l none (some 30) (.ld none (.tmp 29)),
      .l none (some 31) (.app 5 1 1 [(.int .u8 0)] (.tmp 28) (.tmp 30)),
      .p none 2 (.mv (.tmp 31)),
      .p none 3 (.mv (.const (.int .i64 0)))])
  .ret)))))))
theorem C20 : compile Try.prog 32 (Try.f20.body.getD .skip) = some M20 := by kernel_rfl

/-- winnowlaw7.roomy -/
def M21 : MC :=
  (.seq (.reg [.p none 2 (.mv (.const (.slice none 0 0)))])
  (.seq (.reg [.p none 5 (.mv (.tmp 0)),
      .p none 6 (.len (.tmp 5)),
      .p none 7 (.bin .add .i64 (.tmp 6) (.const (.int .i64 64))),
      .l none (some 8) (.mks 5 1 1 [(.int .u8 0)] (.tmp 7) (.tmp 7)),
      .p none 3 (.mv (.tmp 8))])
  (.seq (.seq (.reg [.p none 4 (.mv (.const (.int .i64 0)))])
  (.block 0
    (.loop
      (.seq (.seq (.reg [.p none 9 (.mv (.tmp 4)),
          .p none 10 (.mv (.tmp 3)),
          .p none 11 (.len (.tmp 10)),
          .p none 12 (.bin .lss .i64 (.tmp 9) (.tmp 11))])
      (.cond (.tmp 12)
        .skip
        (.exit 0)))
      (.seq (.block 1
        (.seq (.reg [.p none 15 (.mv (.tmp 3)),
            .p none 16 (.mv (.tmp 4)),
            .p none 17 (.idx 1 (.tmp 15) (.tmp 16)),
            .l none none (.st 1 (.tmp 17) (.const (.int .u8 165)))])
        (.seq (.reg [.p none 18 (.mv (.tmp 4)),
            .p none 19 (.mv (.tmp 0)),
            .p none 20 (.len (.tmp 19)),
            .p none 21 (.bin .lss .i64 (.tmp 18) (.tmp 20))])
        (.cond (.tmp 21)
          (.reg [.p none 22 (.mv (.tmp 3)),
              .p none 23 (.mv (.tmp 4)),
              .p none 24 (.mv (.tmp 0)),
              .p none 25 (.mv (.tmp 4)),
              .p none 26 (.idx 1 (.tmp 24) (.tmp 25)),
              .l none (some 27) (.ld none (.tmp 26)),
              .p none 28 (.idx 1 (.tmp 22) (.tmp 23)),
              .l none none (.st 1 (.tmp 28) (.tmp 27))])
          .skip))))
      (.reg [.p none 13 (.mv (.tmp 4)),
          .p none 14 (.bin .add .i64 (.tmp 13) (.const (.int .i64 1))),
          .p none 4 (.mv (.tmp 14))]))))))
  (.seq (.reg [.p none 29 (.mv (.tmp 3)),
      .p none 2 (.mv (.tmp 29))])
  .ret))))
theorem C21 : compile Try.prog 30 (Try.f21.body.getD .skip) = some M21 := by kernel_rfl

/-- filter.Decode -/
def M22 : MC :=
  (.seq (.reg [.l none (some 2) (.al 30 [(.bool false), (.int .i64 0), (.slice none 0 0)]),
      .p none 3 (.mv (.const (.int .i64 0)))])
  (.seq (.reg [.p none 7 (.mv (.tmp 0)),
      .l none (some 8) (.call 37 [(.tmp 7)]),
      .p none 4 (.mv (.tmp 8))])
  (.seq (.reg [.l none (some 5) (.al 30 [(.bool false), (.int .i64 0), (.slice none 0 0)])])
  (.seq (.seq (.reg [.p none 9 (.mv (.tmp 4)),
      .l none (some 10) (.call 38 [(.tmp 9), (.const (.int .i64 1))]),
      .p none 6 (.mv (.tmp 10))])
  (.seq (.reg [.p none 11 (.mv (.tmp 6))])
  (.block 0
    (.seq (.reg [.p none 25 (.bin .eql .u64 (.tmp 11) (.const (.int .u64 0))),
        .p none 24 (.mv (.tmp 25))])
    (.cond (.tmp 24)
      .skip
      (.seq (.reg [.p none 27 (.bin .eql .u64 (.tmp 11) (.const (.int .u64 255))),
          .p none 26 (.mv (.tmp 27))])
      (.cond (.tmp 26)
        (.reg [.p none 28 (.fa 0 (.tmp 5)),
            .l none none (.st 1 (.tmp 28) (.const (.bool true)))])
        (.seq (.reg [.p none 12 (.mv (.tmp 6)),
            .p none 13 (.conv .i64 (.tmp 12)),
            .p none 14 (.fa 1 (.tmp 5)),
            .l none none (.st 1 (.tmp 14) (.tmp 13))])
        (.seq (.reg [.p none 15 (.mv (.tmp 4)),
            .p none 16 (.mv (.tmp 4)),
            .l none (some 17) (.call 40 [(.tmp 16), (.const (.int .i64 4096))]),
            .l none (some 18) (.call 39 [(.tmp 15), (.tmp 17)]),
            .p none 19 (.fa 2 (.tmp 5)),
            .l none none (.st 1 (.tmp 19) (.tmp 18))])
        (.seq (.reg [.l none (some 20) (.ld (some 3) (.tmp 5)),
            .l none (some 21) (.call 33 [(.tmp 20)]),
            .p none 22 (.bin .neq .i64 (.tmp 21) (.const (.int .i64 3)))])
        (.cond (.tmp 22)
          (.seq (.reg [.p none 23 (.bld [(.bool false), (.int .i64 0), (.slice none 0 0)] []),
              .l none none (.st 3 (.tmp 2) (.tmp 23)),
              .p none 3 (.mv (.const (.int .i64 70)))])
          .ret)
          .skip)))))))))))
  (.seq (.seq (.reg [.p none 29 (.mv (.tmp 4)),
      .l none (some 30) (.call 41 [(.tmp 29)]),
      .p none 31 (.fld 0 none (.tmp 30)),
      .p none 32 (.bin .neq .i64 (.tmp 31) (.const (.int .i64 0)))])
  (.cond (.tmp 32)
    (.seq (.reg [.p none 33 (.bld [(.bool false), (.int .i64 0), (.slice none 0 0)] []),
        .l none none (.st 3 (.tmp 2) (.tmp 33)),
        .p none 3 (.mv (.const (.int .i64 70)))])
    .ret)
    .skip))
  (.seq (.reg [.l none (some 34) (.ld (some 3) (.tmp 5)),
      .l none none (.st 3 (.tmp 2) (.tmp 34)),
      .p none 3 (.mv (.const (.int .i64 0)))])
  .ret))))))
theorem C22 : compile Try.prog 35 (Try.f22.body.getD .skip) = some M22 := by kernel_rfl

/-- winnowref7.Decode -/
def M23 : MC :=
  (.seq (.reg [.l none (some 2) (.al 30 [(.bool false), (.int .i64 0), (.slice none 0 0)]),
      .p none 3 (.mv (.const (.int .i64 0)))])
  (.seq (.seq (.reg [.p none 7 (.mv (.tmp 0)),
      .p none 8 (.len (.tmp 7)),
      .p none 9 (.bin .eql .i64 (.tmp 8) (.const (.int .i64 1))),
      .p none 10 (.mv (.tmp 9)),
      .split 10,
      .p (some (10, true)) 11 (.mv (.tmp 0)),
      .p (some (10, true)) 12 (.idx 1 (.tmp 11) (.const (.int .i64 0))),
      .l (some (10, true)) (some 13) (.ld none (.tmp 12)),
      .p (some (10, true)) 14 (.bin .eql .u8 (.tmp 13) (.const (.int .u8 0))),
      .p none 15 (.pick (.tmp 10) (.tmp 14) (.const (.bool false)))])
  (.cond (.tmp 15)
    (.seq (.reg [.p none 16 (.bld [(.bool false), (.int .i64 0), (.slice none 0 0)] []),
        .l none none (.st 3 (.tmp 2) (.tmp 16)),
        .p none 3 (.mv (.const (.int .i64 0)))])
    .ret)
    .skip))
  (.seq (.seq (.reg [.p none 17 (.mv (.tmp 0)),
      .p none 18 (.len (.tmp 17)),
      .p none 19 (.bin .eql .i64 (.tmp 18) (.const (.int .i64 1))),
      .p none 20 (.mv (.tmp 19)),
      .split 20,
      .p (some (20, true)) 21 (.mv (.tmp 0)),
      .p (some (20, true)) 22 (.idx 1 (.tmp 21) (.const (.int .i64 0))),
      .l (some (20, true)) (some 23) (.ld none (.tmp 22)),
      .p (some (20, true)) 24 (.bin .eql .u8 (.tmp 23) (.const (.int .u8 255))),
      .p none 25 (.pick (.tmp 20) (.tmp 24) (.const (.bool false)))])
  (.cond (.tmp 25)
    (.seq (.reg [.p none 26 (.bld [(.bool false), (.int .i64 0), (.slice none 0 0)] [(0, 1, (.const (.bool true)))]),
        .l none none (.st 3 (.tmp 2) (.tmp 26)),
        .p none 3 (.mv (.const (.int .i64 0)))])
    .ret)
    .skip))
  (.seq (.seq (.reg [.p none 27 (.mv (.tmp 0)),
      .p none 28 (.len (.tmp 27)),
      .p none 29 (.bin .lss .i64 (.tmp 28) (.const (.int .i64 1))),
      .p none 30 (.mv (.tmp 29)),
      .split 30,
      .p (some (30, false)) 31 (.mv (.tmp 0)),
      .p (some (30, false)) 32 (.idx 1 (.tmp 31) (.const (.int .i64 0))),
      .l (some (30, false)) (some 33) (.ld none (.tmp 32)),
      .p (some (30, false)) 34 (.bin .lss .u8 (.tmp 33) (.const (.int .u8 1))),
      .p none 35 (.pick (.tmp 30) (.const (.bool true)) (.tmp 34)),
      .p none 36 (.mv (.tmp 35)),
      .split 36,
      .p (some (36, false)) 37 (.mv (.tmp 0)),
      .p (some (36, false)) 38 (.idx 1 (.tmp 37) (.const (.int .i64 0))),
      .l (some (36, false)) (some 39) (.ld none (.tmp 38)),
      .p (some (36, false)) 40 (.bin .gtr .u8 (.tmp 39) (.const (.int .u8 8))),
      .p none 41 (.pick (.tmp 36) (.const (.bool true)) (.tmp 40))])
  (.cond (.tmp 41)
    (.seq (.reg [.p none 42 (.bld [(.bool false), (.int .i64 0), (.slice none 0 0)] []),
        .l none none (.st 3 (.tmp 2) (.tmp 42)),
        .p none 3 (.mv (.const (.int .i64 70)))])
    .ret)
    .skip))
  (.seq (.reg [.p none 44 (.mv (.tmp 0)),
      .p none 45 (.slc 1 (.tmp 44) (some (.const (.int .i64 1))) none none),
      .l none (some 46) (.call 42 [(.tmp 45)]),
      .p none 43 (.mv (.tmp 46)),
      .p none 47 (.ext 0 (.tmp 43)),
      .p none 48 (.ext 1 (.tmp 43)),
      .p none 49 (.ext 2 (.tmp 43)),
      .p none 4 (.mv (.tmp 47)),
      .p none 5 (.mv (.tmp 48)),
      .p none 6 (.mv (.tmp 49))])
  (.seq (.seq (.reg [.p none 50 (.mv (.tmp 6)),
      .p none 51 (.bin .neq .i64 (.tmp 50) (.const (.int .i64 0))),
      .p none 52 (.mv (.tmp 51)),
      .split 52,
      .p (some (52, false)) 53 (.mv (.tmp 4)),
      .p (some (52, false)) 54 (.bin .lss .i64 (.tmp 53) (.const (.int .i64 1))),
      .p none 55 (.pick (.tmp 52) (.const (.bool true)) (.tmp 54)),
      .p none 56 (.mv (.tmp 55)),
      .split 56,
      .p (some (56, false)) 57 (.mv (.tmp 4)),
      .p (some (56, false)) 58 (.bin .gtr .i64 (.tmp 57) (.const (.int .i64 4096))),
      .p none 59 (.pick (.tmp 56) (.const (.bool true)) (.tmp 58)),
      .p none 60 (.mv (.tmp 59)),
      .split 60,
      .p (some (60, false)) 61 (.mv (.tmp 0)),
      .p (some (60, false)) 62 (.len (.tmp 61)),
      .p (some (60, false)) 63 (.mv (.tmp 5)),
      .p (some (60, false)) 64 (.bin .add .i64 (.const (.int .i64 1)) (.tmp 63)),
      .p (some (60, false)) 65 (.mv (.tmp 4)),
      .p (some (60, false)) 66 (.bin .add .i64 (.tmp 64) (.tmp 65)),
      .p (some (60, false)) 67 (.bin .neq .i64 (.tmp 62) (.tmp 66)),
      .p none 68 (.pick (.tmp 60) (.const (.bool true)) (.tmp 67))])
  (.cond (.tmp 68)
    (.seq (.reg [.p none 69 (.bld [(.bool false), (.int .i64 0), (.slice none 0 0)] []),
        .l none none (.st 3 (.tmp 2) (.tmp 69)),
        .p none 3 (.mv (.const (.int .i64 70)))])
    .ret)
    .skip))
  (.seq (.dreg (.line [.qp 0 none 70 (.mv (.tmp 0)),
      .qp 1 none 71 (.idx 1 (.tmp 70) (.const (.int .i64 0))),
      .qp 5 none 75 (.mv (.tmp 0)),
      .qp 6 none 76 (.mv (.tmp 5)),
      .qp 7 none 77 (.bin .add .i64 (.const (.int .i64 1)) (.tmp 76)),
      .qp 8 none 78 (.slc 1 (.tmp 75) (some (.tmp 77)) none none),
      .ql 2 none 72 none (.tmp 71),
      .qp 3 none 73 (.conv .i64 (.tmp 72)),
      .l 4 none (some 74) (.bs 5 0 1 [] []),
      .l 9 none (some 79) (.app 5 1 1 [(.int .u8 0)] (.tmp 74) (.tmp 78)),
      .qp 10 none 80 (.bld [(.bool false), (.int .i64 0), (.slice none 0 0)] [(1, 1, (.tmp 73)), (2, 1, (.tmp 79))]),
      .l 11 none none (.st 3 (.tmp 2) (.tmp 80)),
      .qp 12 none 3 (.mv (.const (.int .i64 0)))]))
  .ret)))))))
theorem C23 : compile Try.prog 81 (Try.f23.body.getD .skip) = some M23 := by kernel_rfl

/-- filter.Check -/
def M24 : MC :=
  (.seq (.reg [.l none (some 1) (.bx 30 (.tmp 0)),
      .p none 2 (.mv (.const (.int .i64 0)))])
  (.seq (.seq (.reg [.l none (some 3) (.ld (some 3) (.tmp 1)),
      .l none (some 4) (.call 33 [(.tmp 3)]),
      .p none 5 (.bin .eql .i64 (.tmp 4) (.const (.int .i64 0)))])
  (.cond (.tmp 5)
    (.seq (.reg [.p none 2 (.mv (.const (.int .i64 70)))])
    .ret)
    .skip))
  (.seq (.reg [.p none 2 (.mv (.const (.int .i64 0)))])
  .ret)))
theorem C24 : compile Try.prog 6 (Try.f24.body.getD .skip) = some M24 := by kernel_rfl

/-- winnowlaw7.kept -/
def M27 : MC :=
  (.seq (.reg [.l none (some 2) (.bx 30 (.tmp 0)),
      .l none (some 3) (.bx 30 (.tmp 1)),
      .p none 4 (.mv (.const (.bool false)))])
  (.seq (.dreg (.line [.ql 1 none 6 (some 3) (.tmp 3),
      .l 0 none (some 5) (.ld (some 3) (.tmp 2)),
      .l 2 none (some 7) (.call 15 [(.tmp 5), (.tmp 6)]),
      .qp 3 none 8 (.mv (.tmp 7)),
      .split 8,
      .qp 4 (some (8, true)) 9 (.fa 2 (.tmp 2)),
      .qp 6 (some (8, true)) 11 (.fa 2 (.tmp 3)),
      .qp 11 (some (8, true)) 16 (.fa 2 (.tmp 3)),
      .ql 12 (some (8, true)) 17 none (.tmp 16),
      .ql 7 (some (8, true)) 12 none (.tmp 11),
      .qp 8 (some (8, true)) 13 (.len (.tmp 12)),
      .qp 9 (some (8, true)) 14 (.bin .add .i64 (.tmp 13) (.const (.int .i64 64))),
      .ql 5 (some (8, true)) 10 none (.tmp 9),
      .qp 10 (some (8, true)) 15 (.slc 1 (.tmp 10) none (some (.tmp 14)) none),
      .l 13 (some (8, true)) (some 18) (.call 21 [(.tmp 17)]),
      .l 14 (some (8, true)) (some 19) (.call 26 [(.tmp 15), (.tmp 18)]),
      .qp 15 none 20 (.pick (.tmp 8) (.tmp 19) (.const (.bool false))),
      .qp 16 none 4 (.mv (.tmp 20))]))
  .ret))
theorem C27 : compile Try.prog 21 (Try.f27.body.getD .skip) = some M27 := by kernel_rfl

/-- winnowlaw7.turned -/
def M28 : MC :=
  (.seq (.reg [.p none 2 (.mv (.const (.slice none 0 0)))])
  (.seq (.seq (.reg [.p none 3 (.mv (.tmp 0)),
      .p none 4 (.len (.tmp 3)),
      .p none 5 (.bin .gtr .i64 (.tmp 4) (.const (.int .i64 0)))])
  (.cond (.tmp 5)
    (.reg [.p none 6 (.mv (.tmp 0)),
        .p none 7 (.mv (.tmp 0)),
        .p none 8 (.len (.tmp 7)),
        .p none 9 (.bin .sub .i64 (.tmp 8) (.const (.int .i64 1))),
        .p none 10 (.mv (.tmp 0)),
        .p none 11 (.mv (.tmp 0)),
        .p none 12 (.len (.tmp 11)),
        .p none 13 (.bin .sub .i64 (.tmp 12) (.const (.int .i64 1))),
        .p none 14 (.idx 1 (.tmp 10) (.tmp 13)),
        .l none (some 15) (.ld none (.tmp 14)),
        .p none 16 (.bin .xor .u8 (.tmp 15) (.const (.int .u8 85))),
        .p none 17 (.idx 1 (.tmp 6) (.tmp 9)),
        .l none none (.st 1 (.tmp 17) (.tmp 16))])
    .skip))
  (.seq (.reg [.p none 18 (.mv (.tmp 0)),
      .p none 2 (.mv (.tmp 18))])
  .ret)))
theorem C28 : compile Try.prog 19 (Try.f28.body.getD .skip) = some M28 := by kernel_rfl

/-- nums.Put -/
def M35 : MC :=
  (.seq (.reg [.p none 2 (.mv (.const (.slice none 0 0)))])
  (.seq (.seq (.reg [.p none 4 (.mv (.tmp 0)),
      .p none 5 (.bin .lss .i64 (.tmp 4) (.const (.int .i64 0)))])
  (.cond (.tmp 5)
    (.seq (.reg [.p none 2 (.mv (.const (.slice none 0 0)))])
    .ret)
    .skip))
  (.seq (.reg [.p none 3 (.mv (.const (.slice none 0 0)))])
  (.seq (.block 0
    (.loop
      (.seq (.seq (.reg [.p none 6 (.mv (.tmp 0)),
          .p none 7 (.bin .geq .i64 (.tmp 6) (.const (.int .i64 128)))])
      (.cond (.tmp 7)
        .skip
        (.exit 0)))
      (.block 1
        (.seq (.reg [.p none 8 (.mv (.tmp 3)),
            .p none 9 (.mv (.tmp 0)),
            .p none 10 (.conv .u8 (.tmp 9)),
            .p none 11 (.bin .or .u8 (.tmp 10) (.const (.int .u8 128))),
            .l none (some 12) (.bs 5 1 1 [(.int .u8 0)] [(0, 1, (.tmp 11))]),
            .l none (some 13) (.app 5 1 1 [(.int .u8 0)] (.tmp 8) (.tmp 12)),
            .p none 3 (.mv (.tmp 13))])
        (.reg [.p none 14 (.mv (.tmp 0)),
            .p none 15 (.shf .shr (.tmp 14) (.const (.int .u64 7))),
            .p none 0 (.mv (.tmp 15))]))))))
  (.seq (.reg [.p none 16 (.mv (.tmp 3)),
      .p none 17 (.mv (.tmp 0)),
      .p none 18 (.conv .u8 (.tmp 17)),
      .l none (some 19) (.bs 5 1 1 [(.int .u8 0)] [(0, 1, (.tmp 18))]),
      .l none (some 20) (.app 5 1 1 [(.int .u8 0)] (.tmp 16) (.tmp 19)),
      .p none 2 (.mv (.tmp 20))])
  .ret)))))
theorem C35 : compile Try.prog 21 (Try.f35.body.getD .skip) = some M35 := by kernel_rfl

/-- winnowref2.Put -/
def M36 : MC :=
  (.seq (.reg [.p none 2 (.mv (.const (.slice none 0 0)))])
  (.seq (.reg [.p none 3 (.mv (.const (.slice none 0 0)))])
  (.seq (.seq (.reg [.p none 4 (.mv (.tmp 0)),
      .p none 5 (.bin .lss .i64 (.tmp 4) (.const (.int .i64 0)))])
  (.cond (.tmp 5)
    (.seq (.reg [.p none 6 (.mv (.tmp 3)),
        .p none 2 (.mv (.tmp 6))])
    .ret)
    .skip))
  (.seq (.block 0
    (.loop
      (.seq (.seq (.reg [.p none 7 (.mv (.tmp 0)),
          .p none 8 (.bin .geq .i64 (.tmp 7) (.const (.int .i64 128)))])
      (.cond (.tmp 8)
        .skip
        (.exit 0)))
      (.block 1
        (.seq (.reg [.p none 9 (.mv (.tmp 3)),
            .p none 10 (.mv (.tmp 0)),
            .p none 11 (.div .rem .i64 (.tmp 10) (.const (.int .i64 128))),
            .p none 12 (.bin .add .i64 (.tmp 11) (.const (.int .i64 128))),
            .p none 13 (.conv .u8 (.tmp 12)),
            .l none (some 14) (.bs 5 1 1 [(.int .u8 0)] [(0, 1, (.tmp 13))]),
            .l none (some 15) (.app 5 1 1 [(.int .u8 0)] (.tmp 9) (.tmp 14)),
            .p none 3 (.mv (.tmp 15))])
        (.reg [.p none 16 (.mv (.tmp 0)),
            .p none 17 (.div .quo .i64 (.tmp 16) (.const (.int .i64 128))),
            .p none 0 (.mv (.tmp 17))]))))))
  (.seq (.reg [.p none 18 (.mv (.tmp 3)),
      .p none 19 (.mv (.tmp 0)),
      .p none 20 (.conv .u8 (.tmp 19)),
      .l none (some 21) (.bs 5 1 1 [(.int .u8 0)] [(0, 1, (.tmp 20))]),
      .l none (some 22) (.app 5 1 1 [(.int .u8 0)] (.tmp 18) (.tmp 21)),
      .p none 3 (.mv (.tmp 22))])
  (.seq (.reg [.p none 23 (.mv (.tmp 3)),
      .p none 2 (.mv (.tmp 23))])
  .ret))))))
theorem C36 : compile Try.prog 24 (Try.f36.body.getD .skip) = some M36 := by kernel_rfl

/-- nums.NewCursor -/
def M37 : MC :=
  (.seq (.reg [.p none 2 (.mv (.const (.pointer none)))])
  (.seq (.reg [.p none 3 (.mv (.tmp 0)),
      .l none (some 4) (.app 5 1 1 [(.int .u8 0)] (.const (.slice none 0 0)) (.tmp 3)),
      .p none 5 (.bld [(.slice none 0 0), (.int .i64 0), (.int .i64 0)] [(0, 1, (.tmp 4))]),
      .l none (some 6) (.bx 66 (.tmp 5)),
      .p none 2 (.mv (.tmp 6))])
  .ret))
theorem C37 : compile Try.prog 7 (Try.f37.body.getD .skip) = some M37 := by kernel_rfl

/-- (*nums.Cursor).Fixed -/
def M38 : MC :=
  (.seq (.reg [.l none (some 3) (.bx 3 (.tmp 1)),
      .p none 4 (.mv (.const (.int .u64 0)))])
  (.seq (.reg [.l none (some 5) (.al 22 [(.int .u64 0)])])
  (.seq (.reg [.p none 6 (.mv (.tmp 0)),
      .p none 7 (.mkf (.func 44) [] [(.tmp 3), (.tmp 5)]),
      .l none (some 8) (.call 43 [(.tmp 6), (.tmp 7)])])
  (.seq (.reg [.l none (some 9) (.ld none (.tmp 5)),
      .p none 4 (.mv (.tmp 9))])
  .ret))))
theorem C38 : compile Try.prog 10 (Try.f38.body.getD .skip) = some M38 := by kernel_rfl

/-- (*nums.Cursor).Take -/
def M39 : MC :=
  (.seq (.reg [.l none (some 3) (.bx 3 (.tmp 1)),
      .p none 4 (.mv (.const (.slice none 0 0)))])
  (.seq (.reg [.l none (some 5) (.al 28 [(.slice none 0 0)])])
  (.seq (.reg [.p none 6 (.mv (.tmp 0)),
      .p none 7 (.mkf (.func 46) [] [(.tmp 3), (.tmp 5)]),
      .l none (some 8) (.call 43 [(.tmp 6), (.tmp 7)])])
  (.seq (.reg [.l none (some 9) (.ld none (.tmp 5)),
      .p none 4 (.mv (.tmp 9))])
  .ret))))
theorem C39 : compile Try.prog 10 (Try.f39.body.getD .skip) = some M39 := by kernel_rfl

/-- (*nums.Cursor).Num -/
def M40 : MC :=
  (.seq (.reg [.l none (some 3) (.bx 2 (.tmp 1)),
      .p none 4 (.mv (.const (.int .i64 0)))])
  (.seq (.reg [.l none (some 5) (.al 2 [(.int .i64 0)])])
  (.seq (.reg [.p none 6 (.mv (.tmp 0)),
      .p none 7 (.mkf (.func 47) [] [(.tmp 3), (.tmp 5)]),
      .l none (some 8) (.call 43 [(.tmp 6), (.tmp 7)])])
  (.seq (.reg [.l none (some 9) (.ld none (.tmp 5)),
      .p none 4 (.mv (.tmp 9))])
  .ret))))
theorem C40 : compile Try.prog 10 (Try.f40.body.getD .skip) = some M40 := by kernel_rfl

/-- (*nums.Cursor).End -/
def M41 : MC :=
  (.seq (.reg [.l none (some 2) (.al 61 [(.int .i64 0), (.int .i64 0)])])
  (.seq (.block 0
    (.seq (.reg [.p none 4 (.mv (.tmp 0)),
        .p none 5 (.isnil false 0 (.tmp 4)),
        .p none 3 (.mv (.tmp 5))])
    (.cond (.tmp 3)
      (.seq (.reg [.p none 6 (.bld [(.int .i64 0), (.int .i64 0)] [(0, 1, (.const (.int .i64 1)))]),
          .l none none (.st 2 (.tmp 2) (.tmp 6))])
      .ret)
      (.seq (.reg [.p none 8 (.mv (.tmp 0)),
          .p none 9 (.nilchk (.tmp 8)),
          .p none 10 (.fa 2 (.tmp 9)),
          .l none (some 11) (.ld none (.tmp 10)),
          .p none 12 (.bin .neq .i64 (.tmp 11) (.const (.int .i64 0))),
          .p none 7 (.mv (.tmp 12))])
      (.cond (.tmp 7)
        (.seq (.dreg (.line [.qp 0 none 13 (.mv (.tmp 0)),
            .qp 1 none 14 (.nilchk (.tmp 13)),
            .qp 2 none 15 (.fa 2 (.tmp 14)),
            .qp 4 none 17 (.mv (.tmp 0)),
            .qp 5 none 18 (.nilchk (.tmp 17)),
            .qp 6 none 19 (.fa 1 (.tmp 18)),
            .ql 7 none 20 none (.tmp 19),
            .l 3 none (some 16) (.ld none (.tmp 15)),
            .qp 8 none 21 (.bld [(.int .i64 0), (.int .i64 0)] [(0, 1, (.tmp 16)), (1, 1, (.tmp 20))]),
            .l 9 none none (.st 2 (.tmp 2) (.tmp 21))]))
        .ret)
        (.seq (.dreg (.line [.qp 0 none 23 (.mv (.tmp 0)),
            .qp 1 none 24 (.nilchk (.tmp 23)),
            .qp 2 none 25 (.fa 1 (.tmp 24)),
            .qp 4 none 27 (.mv (.tmp 0)),
            .qp 5 none 28 (.nilchk (.tmp 27)),
            .qp 6 none 29 (.fa 0 (.tmp 28)),
            .ql 7 none 30 none (.tmp 29),
            .qp 8 none 31 (.len (.tmp 30)),
            .l 3 none (some 26) (.ld none (.tmp 25)),
            .qp 9 none 32 (.bin .lss .i64 (.tmp 26) (.tmp 31)),
            .qp 10 none 22 (.mv (.tmp 32))]))
        (.cond (.tmp 22)
          (.seq (.reg [.p none 33 (.mv (.tmp 0)),
              .p none 34 (.nilchk (.tmp 33)),
              .p none 35 (.fa 1 (.tmp 34)),
              .l none (some 36) (.ld none (.tmp 35)),
              .p none 37 (.bld [(.int .i64 0), (.int .i64 0)] [(0, 1, (.const (.int .i64 22))), (1, 1, (.tmp 36))]),
              .l none none (.st 2 (.tmp 2) (.tmp 37))])
          .ret)
          .skip)))))))
  (.seq (.reg [.p none 38 (.bld [(.int .i64 0), (.int .i64 0)] []),
      .l none none (.st 2 (.tmp 2) (.tmp 38))])
  .ret)))
theorem C41 : compile Try.prog 39 (Try.f41.body.getD .skip) = some M41 := by kernel_rfl

/-- winnowref2.Get -/
def M42 : MC :=
  (.seq (.reg [.p none 2 (.mv (.const (.int .i64 0))),
      .p none 3 (.mv (.const (.int .i64 0))),
      .p none 4 (.mv (.const (.int .i64 0)))])
  (.seq (.reg [.p none 5 (.mv (.const (.int .i64 0)))])
  (.seq (.reg [.p none 6 (.mv (.const (.int .i64 1)))])
  (.seq (.seq (.reg [.p none 7 (.mv (.const (.int .i64 0)))])
  (.block 0
    (.loop
      (.seq (.seq (.reg [.p none 9 (.mv (.tmp 7)),
          .p none 10 (.mv (.tmp 0)),
          .p none 11 (.len (.tmp 10)),
          .p none 12 (.bin .lss .i64 (.tmp 9) (.tmp 11))])
      (.cond (.tmp 12)
        .skip
        (.exit 0)))
      (.seq (.block 1
        (.seq (.reg [.p none 15 (.mv (.tmp 0)),
            .p none 16 (.mv (.tmp 7)),
            .p none 17 (.idx 1 (.tmp 15) (.tmp 16)),
            .l none (some 18) (.ld none (.tmp 17)),
            .p none 19 (.conv .i64 (.tmp 18)),
            .p none 20 (.div .rem .i64 (.tmp 19) (.const (.int .i64 128))),
            .p none 8 (.mv (.tmp 20))])
        (.seq (.reg [.p none 21 (.mv (.tmp 5)),
            .p none 22 (.mv (.tmp 8)),
            .p none 23 (.mv (.tmp 6)),
            .p none 24 (.bin .mul .i64 (.tmp 22) (.tmp 23)),
            .p none 25 (.bin .add .i64 (.tmp 21) (.tmp 24)),
            .p none 5 (.mv (.tmp 25))])
        (.seq (.seq (.reg [.p none 26 (.mv (.tmp 0)),
            .p none 27 (.mv (.tmp 7)),
            .p none 28 (.idx 1 (.tmp 26) (.tmp 27)),
            .l none (some 29) (.ld none (.tmp 28)),
            .p none 30 (.bin .lss .u8 (.tmp 29) (.const (.int .u8 128)))])
        (.cond (.tmp 30)
          (.seq (.seq (.reg [.p none 31 (.mv (.tmp 7)),
              .p none 32 (.bin .gtr .i64 (.tmp 31) (.const (.int .i64 0))),
              .p none 33 (.mv (.tmp 32)),
              .split 33,
              .p (some (33, true)) 34 (.mv (.tmp 0)),
              .p (some (33, true)) 35 (.mv (.tmp 7)),
              .p (some (33, true)) 36 (.idx 1 (.tmp 34) (.tmp 35)),
              .l (some (33, true)) (some 37) (.ld none (.tmp 36)),
              .p (some (33, true)) 38 (.bin .eql .u8 (.tmp 37) (.const (.int .u8 0))),
              .p none 39 (.pick (.tmp 33) (.tmp 38) (.const (.bool false)))])
          (.cond (.tmp 39)
            (.seq (.reg [.p none 2 (.mv (.const (.int .i64 0))),
                .p none 3 (.mv (.const (.int .i64 0))),
                .p none 4 (.mv (.const (.int .i64 21)))])
            .ret)
            .skip))
          (.seq (.reg [.p none 40 (.mv (.tmp 5)),
              .p none 41 (.mv (.tmp 7)),
              .p none 42 (.bin .add .i64 (.tmp 41) (.const (.int .i64 1))),
              .p none 2 (.mv (.tmp 40)),
              .p none 3 (.mv (.tmp 42)),
              .p none 4 (.mv (.const (.int .i64 0)))])
          .ret))
          .skip))
        (.seq (.seq (.reg [.p none 43 (.mv (.tmp 7)),
            .p none 44 (.bin .eql .i64 (.tmp 43) (.const (.int .i64 8)))])
        (.cond (.tmp 44)
          (.seq (.reg [.p none 2 (.mv (.const (.int .i64 0))),
              .p none 3 (.mv (.const (.int .i64 0))),
              .p none 4 (.mv (.const (.int .i64 21)))])
          .ret)
          .skip))
        (.reg [.p none 45 (.mv (.tmp 6)),
            .p none 46 (.bin .mul .i64 (.tmp 45) (.const (.int .i64 128))),
            .p none 6 (.mv (.tmp 46))]))))))
      (.reg [.p none 13 (.mv (.tmp 7)),
          .p none 14 (.bin .add .i64 (.tmp 13) (.const (.int .i64 1))),
          .p none 7 (.mv (.tmp 14))]))))))
  (.seq (.reg [.p none 2 (.mv (.const (.int .i64 0))),
      .p none 3 (.mv (.const (.int .i64 0))),
      .p none 4 (.mv (.const (.int .i64 20)))])
  .ret)))))
theorem C42 : compile Try.prog 47 (Try.f42.body.getD .skip) = some M42 := by kernel_rfl

/-- (*nums.Cursor).reads -/
def M43 : MC :=
  (.seq (.seq (.reg [.p none 6 (.mv (.tmp 0)),
      .p none 7 (.isnil false 0 (.tmp 6)),
      .p none 8 (.mv (.tmp 7)),
      .split 8,
      .p (some (8, false)) 9 (.mv (.tmp 0)),
      .p (some (8, false)) 10 (.nilchk (.tmp 9)),
      .p (some (8, false)) 11 (.fa 2 (.tmp 10)),
      .l (some (8, false)) (some 12) (.ld none (.tmp 11)),
      .p (some (8, false)) 13 (.bin .neq .i64 (.tmp 12) (.const (.int .i64 0))),
      .p none 14 (.pick (.tmp 8) (.const (.bool true)) (.tmp 13))])
  (.cond (.tmp 14)
    .ret
    .skip))
  (.seq (.dreg (.line [.qp 0 none 16 (.mv (.tmp 1)),
      .qp 1 none 17 (.mv (.tmp 0)),
      .qp 2 none 18 (.nilchk (.tmp 17)),
      .qp 3 none 19 (.fa 0 (.tmp 18)),
      .qp 5 none 21 (.mv (.tmp 0)),
      .qp 6 none 22 (.nilchk (.tmp 21)),
      .qp 7 none 23 (.fa 1 (.tmp 22)),
      .ql 8 none 24 none (.tmp 23),
      .l 4 none (some 20) (.ld none (.tmp 19)),
      .qp 9 none 25 (.slc 1 (.tmp 20) (some (.tmp 24)) none none),
      .l 10 none (some 26) (.callv (.tmp 16) [(.tmp 25)]),
      .qp 11 none 15 (.mv (.tmp 26)),
      .qp 12 none 27 (.ext 0 (.tmp 15)),
      .qp 13 none 28 (.ext 1 (.tmp 15)),
      .qp 14 none 4 (.mv (.tmp 27)),
      .qp 15 none 5 (.mv (.tmp 28))]))
  (.seq (.seq (.reg [.p none 29 (.mv (.tmp 5)),
      .p none 30 (.bin .neq .i64 (.tmp 29) (.const (.int .i64 0)))])
  (.cond (.tmp 30)
    (.seq (.reg [.p none 31 (.mv (.tmp 0)),
        .p none 32 (.mv (.tmp 5)),
        .p none 33 (.nilchk (.tmp 31)),
        .p none 34 (.fa 2 (.tmp 33)),
        .l none none (.st 1 (.tmp 34) (.tmp 32))])
    .ret)
    .skip))
  (.reg [.p none 35 (.mv (.tmp 0)),
      .p none 36 (.nilchk (.tmp 35)),
      .p none 37 (.fa 1 (.tmp 36)),
      .l none (some 38) (.ld none (.tmp 37)),
      .p none 39 (.mv (.tmp 4)),
      .p none 40 (.bin .add .i64 (.tmp 38) (.tmp 39)),
      .p none 41 (.nilchk (.tmp 35)),
      .p none 42 (.fa 1 (.tmp 41)),
      .l none none (.st 1 (.tmp 42) (.tmp 40))]))))
theorem C43 : compile Try.prog 43 (Try.f43.body.getD .skip) = some M43 := by kernel_rfl

/-- (*nums.Cursor).Fixed$1 -/
def M44 : MC :=
  (.seq (.reg [.p none 4 (.mv (.const (.int .i64 0))),
      .p none 5 (.mv (.const (.int .i64 0)))])
  (.seq (.block 0
    (.seq (.reg [.l none (some 7) (.ld none (.tmp 1)),
        .p none 8 (.bin .lss .i64 (.tmp 7) (.const (.int .i64 1))),
        .p none 9 (.mv (.tmp 8)),
        .split 9,
        .l (some (9, false)) (some 10) (.ld none (.tmp 1)),
        .p (some (9, false)) 11 (.bin .gtr .i64 (.tmp 10) (.const (.int .i64 8))),
        .p none 12 (.pick (.tmp 9) (.const (.bool true)) (.tmp 11)),
        .p none 6 (.mv (.tmp 12))])
    (.cond (.tmp 6)
      (.seq (.reg [.p none 4 (.mv (.const (.int .i64 0))),
          .p none 5 (.mv (.const (.int .i64 23)))])
      .ret)
      (.seq (.reg [.l none (some 14) (.ld none (.tmp 1)),
          .p none 15 (.mv (.tmp 0)),
          .p none 16 (.len (.tmp 15)),
          .p none 17 (.bin .gtr .i64 (.tmp 14) (.tmp 16)),
          .p none 13 (.mv (.tmp 17))])
      (.cond (.tmp 13)
        (.seq (.reg [.p none 4 (.mv (.const (.int .i64 0))),
            .p none 5 (.mv (.const (.int .i64 20)))])
        .ret)
        .skip)))))
  (.seq (.reg [.p none 18 (.mv (.tmp 0)),
      .l none (some 19) (.ld none (.tmp 1)),
      .p none 20 (.slc 1 (.tmp 18) none (some (.tmp 19)) none),
      .l none (some 21) (.call 45 [(.tmp 20)]),
      .l none none (.st 1 (.tmp 2) (.tmp 21))])
  (.seq (.reg [.l none (some 22) (.ld none (.tmp 1)),
      .p none 4 (.mv (.tmp 22)),
      .p none 5 (.mv (.const (.int .i64 0)))])
  .ret))))
theorem C44 : compile Try.prog 23 (Try.f44.body.getD .skip) = some M44 := by kernel_rfl

/-- nums.Word -/
def M45 : MC :=
  (.seq (.reg [.p none 2 (.mv (.const (.int .u64 0)))])
  (.seq (.reg [.p none 3 (.mv (.const (.int .u64 0)))])
  (.seq (.seq (.reg [.p none 5 (.mv (.tmp 0)),
      .p none 6 (.len (.tmp 5)),
      .p none 7 (.mm false .i64 (.tmp 6) [(.const (.int .i64 8))]),
      .p none 8 (.mv (.const (.int .i64 0)))])
  (.block 0
    (.loop
      (.seq (.reg [.p none 9 (.bin .lss .i64 (.tmp 8) (.tmp 7))])
      (.seq (.cond (.tmp 9)
        .skip
        (.exit 0))
      (.seq (.block 1
        (.seq (.reg [.p none 10 (.mv (.tmp 8)),
            .p none 4 (.mv (.tmp 10))])
        (.reg [.p none 11 (.mv (.tmp 3)),
            .p none 12 (.mv (.tmp 0)),
            .p none 13 (.mv (.tmp 4)),
            .p none 14 (.idx 1 (.tmp 12) (.tmp 13)),
            .l none (some 15) (.ld none (.tmp 14)),
            .p none 16 (.conv .u64 (.tmp 15)),
            .p none 17 (.mv (.tmp 4)),
            .p none 18 (.bin .mul .i64 (.const (.int .i64 8)) (.tmp 17)),
            .p none 19 (.shf .shl (.tmp 16) (.tmp 18)),
            .p none 20 (.bin .or .u64 (.tmp 11) (.tmp 19)),
            .p none 3 (.mv (.tmp 20))])))
      (.reg [.p none 21 (.bin .add .i64 (.tmp 8) (.const (.int .i64 1))),
          .p none 8 (.mv (.tmp 21))])))))))
  (.seq (.reg [.p none 22 (.mv (.tmp 3)),
      .p none 2 (.mv (.tmp 22))])
  .ret))))
theorem C45 : compile Try.prog 23 (Try.f45.body.getD .skip) = some M45 := by kernel_rfl

/-- (*nums.Cursor).Take$1 -/
def M46 : MC :=
  (.seq (.reg [.p none 4 (.mv (.const (.int .i64 0))),
      .p none 5 (.mv (.const (.int .i64 0)))])
  (.seq (.block 0
    (.seq (.reg [.l none (some 7) (.ld none (.tmp 1)),
        .p none 8 (.bin .lss .i64 (.tmp 7) (.const (.int .i64 0))),
        .p none 6 (.mv (.tmp 8))])
    (.cond (.tmp 6)
      (.seq (.reg [.p none 4 (.mv (.const (.int .i64 0))),
          .p none 5 (.mv (.const (.int .i64 23)))])
      .ret)
      (.seq (.reg [.l none (some 10) (.ld none (.tmp 1)),
          .p none 11 (.mv (.tmp 0)),
          .p none 12 (.len (.tmp 11)),
          .p none 13 (.bin .gtr .i64 (.tmp 10) (.tmp 12)),
          .p none 9 (.mv (.tmp 13))])
      (.cond (.tmp 9)
        (.seq (.reg [.p none 4 (.mv (.const (.int .i64 0))),
            .p none 5 (.mv (.const (.int .i64 20)))])
        .ret)
        .skip)))))
  (.seq (.dreg (.line [.qp 1 none 15 (.mv (.tmp 0)),
      .ql 2 none 16 none (.tmp 1),
      .qp 3 none 17 (.slc 1 (.tmp 15) none (some (.tmp 16)) none),
      .l 0 none (some 14) (.ld none (.tmp 2)),
      .l 4 none (some 18) (.app 5 1 1 [(.int .u8 0)] (.tmp 14) (.tmp 17)),
      .l 5 none none (.st 1 (.tmp 2) (.tmp 18))]))
  (.seq (.reg [.l none (some 19) (.ld none (.tmp 1)),
      .p none 4 (.mv (.tmp 19)),
      .p none 5 (.mv (.const (.int .i64 0)))])
  .ret))))
theorem C46 : compile Try.prog 20 (Try.f46.body.getD .skip) = some M46 := by kernel_rfl

/-- (*nums.Cursor).Num$1 -/
def M47 : MC :=
  (.seq (.reg [.p none 4 (.mv (.const (.int .i64 0))),
      .p none 5 (.mv (.const (.int .i64 0)))])
  (.seq (.reg [.p none 10 (.mv (.tmp 0)),
      .l none (some 11) (.call 48 [(.tmp 10)]),
      .p none 9 (.mv (.tmp 11)),
      .p none 12 (.ext 0 (.tmp 9)),
      .p none 13 (.ext 1 (.tmp 9)),
      .p none 14 (.ext 2 (.tmp 9)),
      .p none 6 (.mv (.tmp 12)),
      .p none 7 (.mv (.tmp 13)),
      .p none 8 (.mv (.tmp 14))])
  (.seq (.seq (.reg [.p none 15 (.mv (.tmp 8)),
      .p none 16 (.bin .eql .i64 (.tmp 15) (.const (.int .i64 0))),
      .p none 17 (.mv (.tmp 16)),
      .split 17,
      .p (some (17, true)) 18 (.mv (.tmp 6)),
      .l (some (17, true)) (some 19) (.ld none (.tmp 1)),
      .p (some (17, true)) 20 (.bin .gtr .i64 (.tmp 18) (.tmp 19)),
      .p none 21 (.pick (.tmp 17) (.tmp 20) (.const (.bool false)))])
  (.cond (.tmp 21)
    (.reg [.p none 8 (.mv (.const (.int .i64 23)))])
    .skip))
  (.seq (.seq (.reg [.p none 22 (.mv (.tmp 8)),
      .p none 23 (.bin .eql .i64 (.tmp 22) (.const (.int .i64 0)))])
  (.cond (.tmp 23)
    (.reg [.p none 24 (.mv (.tmp 6)),
        .l none none (.st 1 (.tmp 2) (.tmp 24))])
    .skip))
  (.seq (.reg [.p none 25 (.mv (.tmp 7)),
      .p none 26 (.mv (.tmp 8)),
      .p none 4 (.mv (.tmp 25)),
      .p none 5 (.mv (.tmp 26))])
  .ret)))))
theorem C47 : compile Try.prog 27 (Try.f47.body.getD .skip) = some M47 := by kernel_rfl

/-- nums.Get -/
def M48 : MC :=
  (.seq (.reg [.p none 2 (.mv (.const (.int .i64 0))),
      .p none 3 (.mv (.const (.int .i64 0))),
      .p none 4 (.mv (.const (.int .i64 0)))])
  (.seq (.reg [.p none 5 (.mv (.const (.int .i64 0)))])
  (.seq (.seq (.reg [.p none 8 (.mv (.tmp 0)),
      .p none 9 (.len (.tmp 8)),
      .p none 10 (.mv (.const (.int .i64 0)))])
  (.block 0
    (.loop
      (.seq (.reg [.p none 11 (.bin .lss .i64 (.tmp 10) (.tmp 9))])
      (.seq (.cond (.tmp 11)
        .skip
        (.exit 0))
      (.seq (.block 1
        (.seq (.reg [.p none 12 (.mv (.tmp 10)),
            .p none 13 (.idx 1 (.tmp 8) (.tmp 10)),
            .l none (some 14) (.ld none (.tmp 13)),
            .p none 6 (.mv (.tmp 12)),
            .p none 7 (.mv (.tmp 14))])
        (.seq (.seq (.reg [.p none 15 (.mv (.tmp 6)),
            .p none 16 (.bin .eql .i64 (.tmp 15) (.const (.int .i64 8))),
            .p none 17 (.mv (.tmp 16)),
            .split 17,
            .p (some (17, true)) 18 (.mv (.tmp 7)),
            .p (some (17, true)) 19 (.bin .geq .u8 (.tmp 18) (.const (.int .u8 128))),
            .p none 20 (.pick (.tmp 17) (.tmp 19) (.const (.bool false)))])
        (.cond (.tmp 20)
          (.seq (.reg [.p none 2 (.mv (.const (.int .i64 0))),
              .p none 3 (.mv (.const (.int .i64 0))),
              .p none 4 (.mv (.const (.int .i64 21)))])
          .ret)
          .skip))
        (.seq (.reg [.p none 21 (.mv (.tmp 5)),
            .p none 22 (.mv (.tmp 7)),
            .p none 23 (.bin .and .u8 (.tmp 22) (.const (.int .u8 127))),
            .p none 24 (.conv .i64 (.tmp 23)),
            .p none 25 (.mv (.tmp 6)),
            .p none 26 (.bin .mul .i64 (.const (.int .i64 7)) (.tmp 25)),
            .p none 27 (.shf .shl (.tmp 24) (.tmp 26)),
            .p none 28 (.bin .or .i64 (.tmp 21) (.tmp 27)),
            .p none 5 (.mv (.tmp 28))])
        (.seq (.reg [.p none 29 (.mv (.tmp 7)),
            .p none 30 (.bin .lss .u8 (.tmp 29) (.const (.int .u8 128)))])
        (.cond (.tmp 30)
          (.seq (.seq (.reg [.p none 31 (.mv (.tmp 7)),
              .p none 32 (.bin .eql .u8 (.tmp 31) (.const (.int .u8 0))),
              .p none 33 (.mv (.tmp 32)),
              .split 33,
              .p (some (33, true)) 34 (.mv (.tmp 6)),
              .p (some (33, true)) 35 (.bin .gtr .i64 (.tmp 34) (.const (.int .i64 0))),
              .p none 36 (.pick (.tmp 33) (.tmp 35) (.const (.bool false)))])
          (.cond (.tmp 36)
            (.seq (.reg [.p none 2 (.mv (.const (.int .i64 0))),
                .p none 3 (.mv (.const (.int .i64 0))),
                .p none 4 (.mv (.const (.int .i64 21)))])
            .ret)
            .skip))
          (.seq (.reg [.p none 37 (.mv (.tmp 5)),
              .p none 38 (.mv (.tmp 6)),
              .p none 39 (.bin .add .i64 (.tmp 38) (.const (.int .i64 1))),
              .p none 2 (.mv (.tmp 37)),
              .p none 3 (.mv (.tmp 39)),
              .p none 4 (.mv (.const (.int .i64 0)))])
          .ret))
          .skip))))))
      (.reg [.p none 40 (.bin .add .i64 (.tmp 10) (.const (.int .i64 1))),
          .p none 10 (.mv (.tmp 40))])))))))
  (.seq (.reg [.p none 2 (.mv (.const (.int .i64 0))),
      .p none 3 (.mv (.const (.int .i64 0))),
      .p none 4 (.mv (.const (.int .i64 20)))])
  .ret))))
theorem C48 : compile Try.prog 41 (Try.f48.body.getD .skip) = some M48 := by kernel_rfl

/-- winnowlaw7.FilterRound -/
def M6 : MC :=
  (.seq (.reg [.l none (some 2) (.bx 30 (.tmp 0)),
      .p none 4 (.mv (.const (.bool false)))])
  (.seq (.reg [.l none (some 14) (.ld (some 3) (.tmp 2)),
      .l none (some 15) (.call 19 [(.tmp 14)]),
      .p none 13 (.mv (.tmp 15)),
      .p none 16 (.ext 0 (.tmp 13)),
      .p none 17 (.ext 1 (.tmp 13)),
      .p none 5 (.mv (.tmp 16)),
      .p none 6 (.mv (.tmp 17))])
  (.seq (.seq (.reg [.p none 18 (.mv (.tmp 6)),
      .p none 19 (.bin .eql .i64 (.tmp 18) (.const (.int .i64 0)))])
  (.cond (.tmp 19)
    (.seq (.reg [.p none 21 (.mv (.tmp 5)),
        .l none (some 22) (.call 22 [(.tmp 21)]),
        .p none 20 (.mv (.tmp 22)),
        .p none 23 (.ext 0 (.tmp 20)),
        .p none 24 (.ext 1 (.tmp 20)),
        .l none (some 7) (.al 30 [(.bool false), (.int .i64 0), (.slice none 0 0)]),
        .l none none (.st 3 (.tmp 7) (.tmp 23)),
        .p none 8 (.mv (.tmp 24))])
    (.seq (.reg [.p none 25 (.mv (.tmp 8)),
        .p none 26 (.bin .neq .i64 (.tmp 25) (.const (.int .i64 0))),
        .p none 27 (.mv (.tmp 26)),
        .split 27,
        .l (some (27, false)) (some 28) (.ld (some 3) (.tmp 7)),
        .l (some (27, false)) (some 29) (.ld (some 3) (.tmp 2)),
        .l (some (27, false)) (some 30) (.call 15 [(.tmp 28), (.tmp 29)]),
        .p (some (27, false)) 31 (.not (.tmp 30)),
        .p none 32 (.pick (.tmp 27) (.const (.bool true)) (.tmp 31)),
        .p none 33 (.mv (.tmp 32)),
        .split 33,
        .p (some (33, false)) 34 (.mv (.tmp 5)),
        .p (some (33, false)) 35 (.len (.tmp 34)),
        .p (some (33, false)) 36 (.bin .gtr .i64 (.tmp 35) (.const (.int .i64 4099))),
        .p none 37 (.pick (.tmp 33) (.const (.bool true)) (.tmp 36))])
    (.cond (.tmp 37)
      (.seq (.reg [.p none 4 (.mv (.const (.bool false)))])
      .ret)
      .skip)))
    .skip))
  (.seq (.reg [.p none 39 (.mv (.tmp 1)),
      .l none (some 40) (.call 22 [(.tmp 39)]),
      .p none 38 (.mv (.tmp 40)),
      .p none 41 (.ext 0 (.tmp 38)),
      .p none 42 (.ext 1 (.tmp 38)),
      .l none (some 9) (.al 30 [(.bool false), (.int .i64 0), (.slice none 0 0)]),
      .l none none (.st 3 (.tmp 9) (.tmp 41)),
      .p none 10 (.mv (.tmp 42))])
  (.seq (.seq (.reg [.p none 43 (.mv (.tmp 10)),
      .p none 44 (.bin .neq .i64 (.tmp 43) (.const (.int .i64 0)))])
  (.cond (.tmp 44)
    (.seq (.reg [.p none 45 (.mv (.tmp 10)),
        .p none 46 (.bin .eql .i64 (.tmp 45) (.const (.int .i64 70))),
        .p none 47 (.mv (.tmp 46)),
        .split 47,
        .l (some (47, true)) (some 48) (.ld (some 3) (.tmp 9)),
        .p (some (47, true)) 49 (.bld [(.bool false), (.int .i64 0), (.slice none 0 0)] []),
        .l (some (47, true)) (some 50) (.call 15 [(.tmp 48), (.tmp 49)]),
        .p none 51 (.pick (.tmp 47) (.tmp 50) (.const (.bool false))),
        .p none 52 (.mv (.tmp 51)),
        .split 52,
        .l (some (52, true)) (some 53) (.call 29 []),
        .p none 54 (.pick (.tmp 52) (.tmp 53) (.const (.bool false))),
        .p none 4 (.mv (.tmp 54))])
    .ret)
    .skip))
  (.seq (.reg [.l none (some 56) (.ld (some 3) (.tmp 9)),
      .l none (some 57) (.call 19 [(.tmp 56)]),
      .p none 55 (.mv (.tmp 57)),
      .p none 58 (.ext 0 (.tmp 55)),
      .p none 59 (.ext 1 (.tmp 55)),
      .p none 11 (.mv (.tmp 58)),
      .p none 12 (.mv (.tmp 59))])
  (.seq (.reg [.p none 60 (.mv (.tmp 12)),
      .p none 61 (.bin .eql .i64 (.tmp 60) (.const (.int .i64 0))),
      .p none 62 (.mv (.tmp 61)),
      .split 62,
      .p (some (62, true)) 63 (.mv (.tmp 11)),
      .p (some (62, true)) 64 (.mv (.tmp 1)),
      .l (some (62, true)) (some 65) (.call 26 [(.tmp 63), (.tmp 64)]),
      .p none 66 (.pick (.tmp 62) (.tmp 65) (.const (.bool false))),
      .p none 67 (.mv (.tmp 66)),
      .split 67,
      .l (some (67, true)) (some 68) (.call 29 []),
      .p none 69 (.pick (.tmp 67) (.tmp 68) (.const (.bool false))),
      .p none 4 (.mv (.tmp 69))])
  .ret)))))))
theorem C6 : compile Try.prog 70 (Try.f6.body.getD .skip) = some M6 := by kernel_rfl

/-- winnowlaw7.works -/
def M29 : MC :=
  (.seq (.reg [.p none 0 (.mv (.const (.bool false)))])
  (.seq (.reg [.l none (some 6) (.bs 9 1 1 [(.string ⟨#[]⟩)] [(0, 1, (.const (.string ⟨#[97]⟩)))]),
      .l none (some 7) (.call 10 [(.tmp 6), (.const (.int .i64 8))]),
      .p none 5 (.mv (.tmp 7)),
      .p none 8 (.ext 0 (.tmp 5)),
      .p none 9 (.ext 1 (.tmp 5)),
      .l none (some 1) (.al 30 [(.bool false), (.int .i64 0), (.slice none 0 0)]),
      .l none none (.st 3 (.tmp 1) (.tmp 8)),
      .p none 2 (.mv (.tmp 9))])
  (.seq (.reg [.l none (some 11) (.call 10 [(.const (.slice none 0 0)), (.const (.int .i64 8))]),
      .p none 10 (.mv (.tmp 11)),
      .p none 12 (.ext 0 (.tmp 10)),
      .p none 13 (.ext 1 (.tmp 10)),
      .l none (some 3) (.al 30 [(.bool false), (.int .i64 0), (.slice none 0 0)]),
      .l none none (.st 3 (.tmp 3) (.tmp 12)),
      .p none 4 (.mv (.tmp 13))])
  (.seq (.reg [.p none 14 (.mv (.tmp 2)),
      .p none 15 (.bin .eql .i64 (.tmp 14) (.const (.int .i64 0))),
      .p none 16 (.mv (.tmp 15)),
      .split 16,
      .p (some (16, true)) 17 (.mv (.tmp 4)),
      .p (some (16, true)) 18 (.bin .eql .i64 (.tmp 17) (.const (.int .i64 0))),
      .p none 19 (.pick (.tmp 16) (.tmp 18) (.const (.bool false))),
      .p none 20 (.mv (.tmp 19)),
      .split 20,
      .l (some (20, true)) (some 21) (.ld (some 3) (.tmp 1)),
      .l (some (20, true)) (some 22) (.call 13 [(.tmp 21), (.const (.string ⟨#[97]⟩))]),
      .p none 23 (.pick (.tmp 20) (.tmp 22) (.const (.bool false))),
      .p none 24 (.mv (.tmp 23)),
      .split 24,
      .l (some (24, true)) (some 25) (.ld (some 3) (.tmp 3)),
      .l (some (24, true)) (some 26) (.call 13 [(.tmp 25), (.const (.string ⟨#[97]⟩))]),
      .p (some (24, true)) 27 (.not (.tmp 26)),
      .p none 28 (.pick (.tmp 24) (.tmp 27) (.const (.bool false))),
      .p none 29 (.mv (.tmp 28)),
      .split 29,
      .p (some (29, true)) 30 (.fa 2 (.tmp 1)),
      .l (some (29, true)) (some 31) (.ld none (.tmp 30)),
      .p (some (29, true)) 32 (.len (.tmp 31)),
      .p (some (29, true)) 33 (.bin .eql .i64 (.tmp 32) (.const (.int .i64 1))),
      .p none 34 (.pick (.tmp 29) (.tmp 33) (.const (.bool false))),
      .p none 0 (.mv (.tmp 34))])
  .ret))))
theorem C29 : compile Try.prog 35 (Try.f29.body.getD .skip) = some M29 := by kernel_rfl
end Go.Proofs.Ytjockanmmfmidaa.E
