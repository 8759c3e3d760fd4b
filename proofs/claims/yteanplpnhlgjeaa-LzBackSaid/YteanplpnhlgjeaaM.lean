/- The intermediate code of the functions that are walked here, each with the proof that it is the translation of the model's code. -/
import Derived.Test.YteanplpnhlgjeaaE6
import Derived.KernelRfl
namespace Go.Proofs.Yteanplpnhlgjeaa.E
open Go
theorem mixed : Try.prog.follows .mixedOrders = true := by kernel_rfl

/-- winnowlaw3.LzTokens -/
def M4 : MC :=
  (.seq (.reg [.p none 2 (.mv (.const (.bool false)))])
  (.seq (.reg [.p none 31 (.mv (.tmp 0)),
      .l none (some 32) (.call 13 [(.tmp 31)]),
      .p none 30 (.mv (.tmp 32)),
      .p none 33 (.ext 0 (.tmp 30)),
      .p none 34 (.ext 1 (.tmp 30)),
      .p none 3 (.mv (.tmp 33)),
      .p none 4 (.mv (.tmp 34))])
  (.seq (.reg [.p none 36 (.mv (.tmp 0)),
      .l none (some 37) (.call 14 [(.tmp 36)]),
      .p none 35 (.mv (.tmp 37)),
      .p none 38 (.ext 0 (.tmp 35)),
      .p none 39 (.ext 1 (.tmp 35)),
      .p none 5 (.mv (.tmp 38)),
      .p none 6 (.mv (.tmp 39))])
  (.seq (.reg [.p none 40 (.mv (.tmp 0)),
      .l none (some 41) (.call 15 [(.tmp 40)]),
      .p none 42 (.bld [(.slice none 0 0), (.int .i64 0), (.int .i64 0)] [(1, 1, (.const (.int .i64 (-77))))]),
      .l none (some 43) (.bs 31 1 3 [(.slice none 0 0), (.int .i64 0), (.int .i64 0)] [(0, 3, (.tmp 42))]),
      .l none (some 44) (.app 31 40 3 [(.slice none 0 0), (.int .i64 0), (.int .i64 0)] (.tmp 41) (.tmp 43)),
      .p none 7 (.mv (.tmp 44))])
  (.seq (.reg [.p none 45 (.mv (.tmp 7)),
      .p none 46 (.mv (.tmp 0)),
      .p none 47 (.len (.tmp 46)),
      .p none 48 (.slc 3 (.tmp 45) none (some (.tmp 47)) none),
      .p none 8 (.mv (.tmp 48))])
  (.seq (.reg [.p none 50 (.mv (.tmp 8)),
      .l none (some 51) (.call 16 [(.tmp 50)]),
      .p none 49 (.mv (.tmp 51)),
      .p none 52 (.ext 0 (.tmp 49)),
      .p none 53 (.ext 1 (.tmp 49)),
      .p none 9 (.mv (.tmp 52)),
      .p none 10 (.mv (.tmp 53))])
  (.seq (.reg [.p none 55 (.mv (.tmp 8)),
      .l none (some 56) (.call 16 [(.tmp 55)]),
      .p none 54 (.mv (.tmp 56)),
      .p none 57 (.ext 0 (.tmp 54)),
      .p none 58 (.ext 1 (.tmp 54)),
      .p none 11 (.mv (.tmp 57)),
      .p none 12 (.mv (.tmp 58))])
  (.seq (.reg [.p none 60 (.mv (.tmp 8)),
      .l none (some 61) (.call 17 [(.tmp 60)]),
      .p none 59 (.mv (.tmp 61)),
      .p none 62 (.ext 0 (.tmp 59)),
      .p none 63 (.ext 1 (.tmp 59)),
      .p none 13 (.mv (.tmp 62)),
      .p none 14 (.mv (.tmp 63))])
  (.seq (.reg [.p none 65 (.mv (.tmp 8)),
      .l none (some 66) (.call 17 [(.tmp 65)]),
      .p none 64 (.mv (.tmp 66)),
      .p none 67 (.ext 0 (.tmp 64)),
      .p none 68 (.ext 1 (.tmp 64)),
      .p none 15 (.mv (.tmp 67)),
      .p none 16 (.mv (.tmp 68))])
  (.seq (.reg [.l none (some 69) (.bs 5 1 1 [(.int .u8 0)] [(0, 1, (.const (.int .u8 97)))]),
      .p none 70 (.bld [(.slice none 0 0), (.int .i64 0), (.int .i64 0)] [(0, 1, (.tmp 69)), (1, 1, (.const (.int .i64 1))), (2, 1, (.const (.int .i64 5)))]),
      .l none (some 71) (.bs 31 1 3 [(.slice none 0 0), (.int .i64 0), (.int .i64 0)] [(0, 3, (.tmp 70))]),
      .l none (some 72) (.call 16 [(.tmp 71)])])
  (.seq (.reg [.l none (some 73) (.bs 5 1 1 [(.int .u8 0)] [(0, 1, (.const (.int .u8 97)))]),
      .p none 74 (.bld [(.slice none 0 0), (.int .i64 0), (.int .i64 0)] [(0, 1, (.tmp 73)), (1, 1, (.const (.int .i64 1))), (2, 1, (.const (.int .i64 5)))]),
      .l none (some 75) (.bs 31 1 3 [(.slice none 0 0), (.int .i64 0), (.int .i64 0)] [(0, 3, (.tmp 74))]),
      .l none (some 76) (.call 17 [(.tmp 75)])])
  (.seq (.reg [.p none 77 (.mv (.tmp 10)),
      .p none 78 (.mv (.tmp 4)),
      .p none 79 (.bin .eql .i64 (.tmp 77) (.tmp 78)),
      .p none 80 (.mv (.tmp 79)),
      .split 80,
      .p (some (80, true)) 81 (.mv (.tmp 14)),
      .p (some (80, true)) 82 (.mv (.tmp 6)),
      .p (some (80, true)) 83 (.bin .eql .i64 (.tmp 81) (.tmp 82)),
      .p none 84 (.pick (.tmp 80) (.tmp 83) (.const (.bool false))),
      .p none 85 (.mv (.tmp 84)),
      .split 85,
      .p (some (85, true)) 86 (.mv (.tmp 9)),
      .p (some (85, true)) 87 (.mv (.tmp 3)),
      .l (some (85, true)) (some 88) (.call 18 [(.tmp 86), (.tmp 87)]),
      .p none 89 (.pick (.tmp 85) (.tmp 88) (.const (.bool false))),
      .p none 90 (.mv (.tmp 89)),
      .split 90,
      .p (some (90, true)) 91 (.mv (.tmp 11)),
      .p (some (90, true)) 92 (.mv (.tmp 3)),
      .l (some (90, true)) (some 93) (.call 18 [(.tmp 91), (.tmp 92)]),
      .p none 94 (.pick (.tmp 90) (.tmp 93) (.const (.bool false))),
      .p none 95 (.mv (.tmp 94)),
      .split 95,
      .p (some (95, true)) 96 (.mv (.tmp 13)),
      .p (some (95, true)) 97 (.mv (.tmp 5)),
      .l (some (95, true)) (some 98) (.call 18 [(.tmp 96), (.tmp 97)]),
      .p none 99 (.pick (.tmp 95) (.tmp 98) (.const (.bool false))),
      .p none 100 (.mv (.tmp 99)),
      .split 100,
      .p (some (100, true)) 101 (.mv (.tmp 15)),
      .p (some (100, true)) 102 (.mv (.tmp 5)),
      .l (some (100, true)) (some 103) (.call 18 [(.tmp 101), (.tmp 102)]),
      .p none 104 (.pick (.tmp 100) (.tmp 103) (.const (.bool false))),
      .p none 17 (.mv (.tmp 104))])
  (.seq (.reg [.p none 105 (.mv (.tmp 17)),
      .p none 106 (.mv (.tmp 105)),
      .split 106,
      .p (some (106, true)) 107 (.mv (.tmp 9)),
      .l (some (106, true)) (some 108) (.call 19 [(.tmp 107)]),
      .p (some (106, true)) 109 (.mv (.tmp 13)),
      .l (some (106, true)) (some 110) (.call 19 [(.tmp 109)]),
      .p (some (106, true)) 111 (.bin .add .i64 (.tmp 108) (.tmp 110)),
      .p (some (106, true)) 112 (.mv (.tmp 3)),
      .p (some (106, true)) 113 (.len (.tmp 112)),
      .p (some (106, true)) 114 (.mv (.tmp 5)),
      .p (some (106, true)) 115 (.len (.tmp 114)),
      .p (some (106, true)) 116 (.bin .add .i64 (.tmp 113) (.tmp 115)),
      .p (some (106, true)) 117 (.bin .add .i64 (.tmp 116) (.const (.int .i64 128))),
      .p (some (106, true)) 118 (.bin .eql .i64 (.tmp 111) (.tmp 117)),
      .p none 119 (.pick (.tmp 106) (.tmp 118) (.const (.bool false))),
      .p none 120 (.mv (.tmp 119)),
      .split 120,
      .p (some (120, true)) 121 (.mv (.tmp 11)),
      .p (some (120, true)) 122 (.mv (.tmp 3)),
      .l (some (120, true)) (some 123) (.call 18 [(.tmp 121), (.tmp 122)]),
      .p none 124 (.pick (.tmp 120) (.tmp 123) (.const (.bool false))),
      .p none 125 (.mv (.tmp 124)),
      .split 125,
      .p (some (125, true)) 126 (.mv (.tmp 15)),
      .p (some (125, true)) 127 (.mv (.tmp 5)),
      .l (some (125, true)) (some 128) (.call 18 [(.tmp 126), (.tmp 127)]),
      .p none 129 (.pick (.tmp 125) (.tmp 128) (.const (.bool false))),
      .p none 130 (.mv (.tmp 129)),
      .split 130,
      .p (some (130, true)) 131 (.mv (.tmp 8)),
      .p (some (130, true)) 132 (.mv (.tmp 0)),
      .l (some (130, true)) (some 133) (.call 20 [(.tmp 131), (.tmp 132)]),
      .p none 134 (.pick (.tmp 130) (.tmp 133) (.const (.bool false))),
      .p none 17 (.mv (.tmp 134))])
  (.seq (.seq (.reg [.p none 18 (.mv (.const (.int .i64 0)))])
  (.block 0
    (.loop
      (.seq (.seq (.reg [.p none 135 (.mv (.tmp 18)),
          .p none 136 (.mv (.tmp 0)),
          .p none 137 (.len (.tmp 136)),
          .p none 138 (.bin .lss .i64 (.tmp 135) (.tmp 137))])
      (.cond (.tmp 138)
        .skip
        (.exit 0)))
      (.seq (.block 1
        (.dreg (.line [.qp 0 none 141 (.mv (.tmp 17)),
            .qp 1 none 142 (.mv (.tmp 141)),
            .split 142,
            .qp 2 (some (142, true)) 143 (.mv (.tmp 8)),
            .qp 3 (some (142, true)) 144 (.mv (.tmp 18)),
            .qp 4 (some (142, true)) 145 (.idx 3 (.tmp 143) (.tmp 144)),
            .qp 5 (some (142, true)) 146 (.fa 0 (.tmp 145)),
            .qp 7 (some (142, true)) 148 (.mv (.tmp 0)),
            .qp 8 (some (142, true)) 149 (.mv (.tmp 18)),
            .qp 9 (some (142, true)) 150 (.idx 3 (.tmp 148) (.tmp 149)),
            .qp 10 (some (142, true)) 151 (.fa 0 (.tmp 150)),
            .ql 11 (some (142, true)) 152 none (.tmp 151),
            .l 6 (some (142, true)) (some 147) (.ld none (.tmp 146)),
            .l 12 (some (142, true)) (some 153) (.call 21 [(.tmp 147), (.tmp 152)]),
            .qp 13 none 154 (.pick (.tmp 142) (.tmp 153) (.const (.bool false))),
            .qp 14 none 17 (.mv (.tmp 154))])))
      (.reg [.p none 139 (.mv (.tmp 18)),
          .p none 140 (.bin .add .i64 (.tmp 139) (.const (.int .i64 1))),
          .p none 18 (.mv (.tmp 140))]))))))
  (.seq (.reg [.p none 155 (.mv (.tmp 17)),
      .p none 156 (.mv (.tmp 155)),
      .split 156,
      .p (some (156, true)) 157 (.mv (.tmp 7)),
      .p (some (156, true)) 158 (.mv (.tmp 0)),
      .p (some (156, true)) 159 (.len (.tmp 158)),
      .p (some (156, true)) 160 (.idx 3 (.tmp 157) (.tmp 159)),
      .p (some (156, true)) 161 (.fa 1 (.tmp 160)),
      .l (some (156, true)) (some 162) (.ld none (.tmp 161)),
      .p (some (156, true)) 163 (.bin .eql .i64 (.tmp 162) (.const (.int .i64 (-77)))),
      .p none 164 (.pick (.tmp 156) (.tmp 163) (.const (.bool false))),
      .p none 165 (.mv (.tmp 164)),
      .split 165,
      .p (some (165, true)) 166 (.mv (.tmp 7)),
      .p (some (165, true)) 167 (.mv (.tmp 0)),
      .p (some (165, true)) 168 (.len (.tmp 167)),
      .p (some (165, true)) 169 (.idx 3 (.tmp 166) (.tmp 168)),
      .p (some (165, true)) 170 (.fa 2 (.tmp 169)),
      .l (some (165, true)) (some 171) (.ld none (.tmp 170)),
      .p (some (165, true)) 172 (.bin .eql .i64 (.tmp 171) (.const (.int .i64 0))),
      .p none 173 (.pick (.tmp 165) (.tmp 172) (.const (.bool false))),
      .p none 174 (.mv (.tmp 173)),
      .split 174,
      .p (some (174, true)) 175 (.mv (.tmp 7)),
      .p (some (174, true)) 176 (.mv (.tmp 0)),
      .p (some (174, true)) 177 (.len (.tmp 176)),
      .p (some (174, true)) 178 (.idx 3 (.tmp 175) (.tmp 177)),
      .p (some (174, true)) 179 (.fa 0 (.tmp 178)),
      .l (some (174, true)) (some 180) (.ld none (.tmp 179)),
      .p (some (174, true)) 181 (.len (.tmp 180)),
      .p (some (174, true)) 182 (.bin .eql .i64 (.tmp 181) (.const (.int .i64 0))),
      .p none 183 (.pick (.tmp 174) (.tmp 182) (.const (.bool false))),
      .p none 17 (.mv (.tmp 183))])
  (.seq (.reg [.p none 184 (.mv (.tmp 8)),
      .l none (some 185) (.call 16 [(.tmp 184)])])
  (.seq (.reg [.p none 186 (.mv (.tmp 8)),
      .l none (some 187) (.call 17 [(.tmp 186)])])
  (.seq (.seq (.reg [.p none 19 (.mv (.const (.int .i64 0)))])
  (.block 2
    (.loop
      (.seq (.seq (.reg [.p none 188 (.mv (.tmp 19)),
          .p none 189 (.mv (.tmp 8)),
          .p none 190 (.len (.tmp 189)),
          .p none 191 (.div .quo .i64 (.tmp 190) (.const (.int .i64 2))),
          .p none 192 (.bin .lss .i64 (.tmp 188) (.tmp 191))])
      (.cond (.tmp 192)
        .skip
        (.exit 2)))
      (.seq (.block 3
        (.seq (.reg [.p none 195 (.mv (.tmp 8)),
            .p none 196 (.mv (.tmp 19)),
            .p none 197 (.idx 3 (.tmp 195) (.tmp 196)),
            .l none (some 198) (.ld (some 3) (.tmp 197)),
            .l none (some 20) (.al 31 [(.slice none 0 0), (.int .i64 0), (.int .i64 0)]),
            .l none none (.st 3 (.tmp 20) (.tmp 198))])
        (.seq (.reg [.p none 199 (.mv (.tmp 8)),
            .p none 200 (.mv (.tmp 19)),
            .p none 201 (.mv (.tmp 8)),
            .p none 202 (.mv (.tmp 8)),
            .p none 203 (.len (.tmp 202)),
            .p none 204 (.bin .sub .i64 (.tmp 203) (.const (.int .i64 1))),
            .p none 205 (.mv (.tmp 19)),
            .p none 206 (.bin .sub .i64 (.tmp 204) (.tmp 205)),
            .p none 207 (.idx 3 (.tmp 201) (.tmp 206)),
            .l none (some 208) (.ld (some 3) (.tmp 207)),
            .p none 209 (.idx 3 (.tmp 199) (.tmp 200)),
            .l none none (.st 3 (.tmp 209) (.tmp 208))])
        (.reg [.p none 210 (.mv (.tmp 8)),
            .p none 211 (.mv (.tmp 8)),
            .p none 212 (.len (.tmp 211)),
            .p none 213 (.bin .sub .i64 (.tmp 212) (.const (.int .i64 1))),
            .p none 214 (.mv (.tmp 19)),
            .p none 215 (.bin .sub .i64 (.tmp 213) (.tmp 214)),
            .l none (some 216) (.ld (some 3) (.tmp 20)),
            .p none 217 (.idx 3 (.tmp 210) (.tmp 215)),
            .l none none (.st 3 (.tmp 217) (.tmp 216))]))))
      (.reg [.p none 193 (.mv (.tmp 19)),
          .p none 194 (.bin .add .i64 (.tmp 193) (.const (.int .i64 1))),
          .p none 19 (.mv (.tmp 194))]))))))
  (.seq (.reg [.p none 218 (.mv (.tmp 8)),
      .l none (some 219) (.call 15 [(.tmp 218)]),
      .p none 21 (.mv (.tmp 219))])
  (.seq (.reg [.p none 221 (.mv (.tmp 21)),
      .l none (some 222) (.call 13 [(.tmp 221)]),
      .p none 220 (.mv (.tmp 222)),
      .p none 223 (.ext 0 (.tmp 220)),
      .p none 224 (.ext 1 (.tmp 220)),
      .p none 22 (.mv (.tmp 223)),
      .p none 23 (.mv (.tmp 224))])
  (.seq (.reg [.p none 226 (.mv (.tmp 21)),
      .l none (some 227) (.call 14 [(.tmp 226)]),
      .p none 225 (.mv (.tmp 227)),
      .p none 228 (.ext 0 (.tmp 225)),
      .p none 229 (.ext 1 (.tmp 225)),
      .p none 24 (.mv (.tmp 228)),
      .p none 25 (.mv (.tmp 229))])
  (.seq (.reg [.p none 231 (.mv (.tmp 8)),
      .l none (some 232) (.call 16 [(.tmp 231)]),
      .p none 230 (.mv (.tmp 232)),
      .p none 233 (.ext 0 (.tmp 230)),
      .p none 234 (.ext 1 (.tmp 230)),
      .p none 26 (.mv (.tmp 233)),
      .p none 27 (.mv (.tmp 234))])
  (.seq (.reg [.p none 236 (.mv (.tmp 8)),
      .l none (some 237) (.call 17 [(.tmp 236)]),
      .p none 235 (.mv (.tmp 237)),
      .p none 238 (.ext 0 (.tmp 235)),
      .p none 239 (.ext 1 (.tmp 235)),
      .p none 28 (.mv (.tmp 238)),
      .p none 29 (.mv (.tmp 239))])
  (.seq (.reg [.p none 240 (.mv (.tmp 17)),
      .p none 241 (.mv (.tmp 240)),
      .split 241,
      .p (some (241, true)) 242 (.mv (.tmp 27)),
      .p (some (241, true)) 243 (.mv (.tmp 23)),
      .p (some (241, true)) 244 (.bin .eql .i64 (.tmp 242) (.tmp 243)),
      .p none 245 (.pick (.tmp 241) (.tmp 244) (.const (.bool false))),
      .p none 246 (.mv (.tmp 245)),
      .split 246,
      .p (some (246, true)) 247 (.mv (.tmp 29)),
      .p (some (246, true)) 248 (.mv (.tmp 25)),
      .p (some (246, true)) 249 (.bin .eql .i64 (.tmp 247) (.tmp 248)),
      .p none 250 (.pick (.tmp 246) (.tmp 249) (.const (.bool false))),
      .p none 251 (.mv (.tmp 250)),
      .split 251,
      .p (some (251, true)) 252 (.mv (.tmp 26)),
      .p (some (251, true)) 253 (.mv (.tmp 22)),
      .l (some (251, true)) (some 254) (.call 18 [(.tmp 252), (.tmp 253)]),
      .p none 255 (.pick (.tmp 251) (.tmp 254) (.const (.bool false))),
      .p none 256 (.mv (.tmp 255)),
      .split 256,
      .p (some (256, true)) 257 (.mv (.tmp 28)),
      .p (some (256, true)) 258 (.mv (.tmp 24)),
      .l (some (256, true)) (some 259) (.call 18 [(.tmp 257), (.tmp 258)]),
      .p none 260 (.pick (.tmp 256) (.tmp 259) (.const (.bool false))),
      .p none 2 (.mv (.tmp 260))])
  .ret))))))))))))))))))))))))
theorem C4 : compile Try.prog 261 (Try.f4.body.getD .skip) = some M4 := by kernel_rfl

/-- winnowref3.Expand -/
def M13 : MC :=
  (.seq (.reg [.p none 2 (.mv (.const (.slice none 0 0))),
      .p none 3 (.mv (.const (.int .i64 0)))])
  (.seq (.reg [.p none 4 (.mv (.const (.slice none 0 0)))])
  (.seq (.seq (.reg [.p none 5 (.mv (.const (.int .i64 0)))])
  (.block 0
    (.loop
      (.seq (.seq (.reg [.p none 10 (.mv (.tmp 5)),
          .p none 11 (.mv (.tmp 0)),
          .p none 12 (.len (.tmp 11)),
          .p none 13 (.bin .lss .i64 (.tmp 10) (.tmp 12))])
      (.cond (.tmp 13)
        .skip
        (.exit 0)))
      (.seq (.block 1
        (.seq (.reg [.p none 16 (.mv (.tmp 0)),
            .p none 17 (.mv (.tmp 5)),
            .p none 18 (.idx 3 (.tmp 16) (.tmp 17)),
            .l none (some 19) (.ld (some 3) (.tmp 18)),
            .l none (some 6) (.al 31 [(.slice none 0 0), (.int .i64 0), (.int .i64 0)]),
            .l none none (.st 3 (.tmp 6) (.tmp 19))])
        (.seq (.reg [.l none (some 20) (.ld (some 3) (.tmp 6)),
            .p none 21 (.mv (.tmp 4)),
            .p none 22 (.len (.tmp 21)),
            .p none 23 (.mv (.tmp 5)),
            .p none 24 (.mv (.tmp 0)),
            .p none 25 (.len (.tmp 24)),
            .p none 26 (.bin .sub .i64 (.tmp 25) (.const (.int .i64 1))),
            .p none 27 (.bin .eql .i64 (.tmp 23) (.tmp 26)),
            .l none (some 28) (.call 32 [(.tmp 20), (.tmp 22), (.tmp 27)]),
            .p none 7 (.mv (.tmp 28))])
        (.seq (.seq (.reg [.p none 29 (.mv (.tmp 7)),
            .p none 30 (.not (.tmp 29))])
        (.cond (.tmp 30)
          (.seq (.reg [.p none 2 (.mv (.const (.slice none 0 0))),
              .p none 3 (.mv (.const (.int .i64 31)))])
          .ret)
          .skip))
        (.seq (.seq (.reg [.p none 31 (.mv (.tmp 4)),
            .p none 32 (.len (.tmp 31)),
            .p none 33 (.fa 0 (.tmp 6)),
            .l none (some 34) (.ld none (.tmp 33)),
            .p none 35 (.len (.tmp 34)),
            .p none 36 (.bin .add .i64 (.tmp 32) (.tmp 35)),
            .p none 37 (.fa 2 (.tmp 6)),
            .l none (some 38) (.ld none (.tmp 37)),
            .p none 39 (.bin .add .i64 (.tmp 36) (.tmp 38)),
            .p none 40 (.bin .gtr .i64 (.tmp 39) (.const (.int .i64 65536)))])
        (.cond (.tmp 40)
          (.seq (.reg [.p none 2 (.mv (.const (.slice none 0 0))),
              .p none 3 (.mv (.const (.int .i64 2)))])
          .ret)
          .skip))
        (.seq (.reg [.p none 41 (.mv (.tmp 4)),
            .p none 42 (.fa 0 (.tmp 6)),
            .l none (some 43) (.ld none (.tmp 42)),
            .l none (some 44) (.app 5 1 1 [(.int .u8 0)] (.tmp 41) (.tmp 43)),
            .p none 4 (.mv (.tmp 44))])
        (.seq (.reg [.p none 8 (.mv (.const (.int .i64 0)))])
        (.block 2
          (.loop
            (.seq (.seq (.reg [.p none 45 (.mv (.tmp 8)),
                .p none 46 (.fa 2 (.tmp 6)),
                .l none (some 47) (.ld none (.tmp 46)),
                .p none 48 (.bin .lss .i64 (.tmp 45) (.tmp 47))])
            (.cond (.tmp 48)
              .skip
              (.exit 2)))
            (.seq (.block 3
              (.seq (.reg [.p none 51 (.mv (.tmp 4)),
                  .p none 52 (.mv (.tmp 4)),
                  .p none 53 (.len (.tmp 52)),
                  .p none 54 (.fa 1 (.tmp 6)),
                  .l none (some 55) (.ld none (.tmp 54)),
                  .p none 56 (.bin .sub .i64 (.tmp 53) (.tmp 55)),
                  .p none 57 (.idx 1 (.tmp 51) (.tmp 56)),
                  .l none (some 58) (.ld none (.tmp 57)),
                  .p none 9 (.mv (.tmp 58))])
              (.reg [.p none 59 (.mv (.tmp 4)),
                  .p none 60 (.mv (.tmp 9)),
                  .l none (some 61) (.bs 5 1 1 [(.int .u8 0)] [(0, 1, (.tmp 60))]),
                  .l none (some 62) (.app 5 1 1 [(.int .u8 0)] (.tmp 59) (.tmp 61)),
                  .p none 4 (.mv (.tmp 62))])))
            (.reg [.p none 49 (.mv (.tmp 8)),
                .p none 50 (.bin .add .i64 (.tmp 49) (.const (.int .i64 1))),
                .p none 8 (.mv (.tmp 50))]))))))))))))
      (.reg [.p none 14 (.mv (.tmp 5)),
          .p none 15 (.bin .add .i64 (.tmp 14) (.const (.int .i64 1))),
          .p none 5 (.mv (.tmp 15))]))))))
  (.seq (.reg [.p none 63 (.mv (.tmp 4)),
      .p none 2 (.mv (.tmp 63)),
      .p none 3 (.mv (.const (.int .i64 0)))])
  .ret))))
theorem C13 : compile Try.prog 64 (Try.f13.body.getD .skip) = some M13 := by kernel_rfl

/-- winnowref3.Write -/
def M14 : MC :=
  (.seq (.reg [.p none 2 (.mv (.const (.slice none 0 0))),
      .p none 3 (.mv (.const (.int .i64 0)))])
  (.seq (.reg [.p none 10 (.mv (.tmp 0)),
      .l none (some 11) (.call 13 [(.tmp 10)]),
      .p none 9 (.mv (.tmp 11)),
      .p none 12 (.ext 0 (.tmp 9)),
      .p none 13 (.ext 1 (.tmp 9)),
      .p none 4 (.mv (.tmp 12)),
      .p none 5 (.mv (.tmp 13))])
  (.seq (.seq (.reg [.p none 14 (.mv (.tmp 5)),
      .p none 15 (.bin .neq .i64 (.tmp 14) (.const (.int .i64 0)))])
  (.cond (.tmp 15)
    (.seq (.reg [.p none 16 (.mv (.tmp 5)),
        .p none 2 (.mv (.const (.slice none 0 0))),
        .p none 3 (.mv (.tmp 16))])
    .ret)
    .skip))
  (.seq (.reg [.p none 6 (.mv (.const (.slice none 0 0)))])
  (.seq (.seq (.reg [.p none 7 (.mv (.const (.int .i64 0)))])
  (.block 0
    (.loop
      (.seq (.seq (.reg [.p none 17 (.mv (.tmp 7)),
          .p none 18 (.mv (.tmp 0)),
          .p none 19 (.len (.tmp 18)),
          .p none 20 (.bin .lss .i64 (.tmp 17) (.tmp 19))])
      (.cond (.tmp 20)
        .skip
        (.exit 0)))
      (.seq (.block 1
        (.seq (.reg [.p none 23 (.mv (.tmp 0)),
            .p none 24 (.mv (.tmp 7)),
            .p none 25 (.idx 3 (.tmp 23) (.tmp 24)),
            .l none (some 26) (.ld (some 3) (.tmp 25)),
            .l none (some 8) (.al 31 [(.slice none 0 0), (.int .i64 0), (.int .i64 0)]),
            .l none none (.st 3 (.tmp 8) (.tmp 26))])
        (.seq (.reg [.p none 27 (.mv (.tmp 6)),
            .p none 28 (.fa 0 (.tmp 8)),
            .l none (some 29) (.ld none (.tmp 28)),
            .p none 30 (.len (.tmp 29)),
            .l none (some 31) (.call 33 [(.tmp 30)]),
            .l none (some 32) (.app 5 1 1 [(.int .u8 0)] (.tmp 27) (.tmp 31)),
            .p none 6 (.mv (.tmp 32))])
        (.seq (.reg [.p none 33 (.mv (.tmp 6)),
            .p none 34 (.fa 0 (.tmp 8)),
            .l none (some 35) (.ld none (.tmp 34)),
            .l none (some 36) (.app 5 1 1 [(.int .u8 0)] (.tmp 33) (.tmp 35)),
            .p none 6 (.mv (.tmp 36))])
        (.seq (.reg [.p none 37 (.fa 2 (.tmp 8)),
            .l none (some 38) (.ld none (.tmp 37)),
            .p none 39 (.bin .gtr .i64 (.tmp 38) (.const (.int .i64 0)))])
        (.cond (.tmp 39)
          (.seq (.reg [.p none 40 (.mv (.tmp 6)),
              .p none 41 (.fa 2 (.tmp 8)),
              .l none (some 42) (.ld none (.tmp 41)),
              .p none 43 (.bin .sub .i64 (.tmp 42) (.const (.int .i64 4))),
              .l none (some 44) (.call 33 [(.tmp 43)]),
              .l none (some 45) (.app 5 1 1 [(.int .u8 0)] (.tmp 40) (.tmp 44)),
              .p none 6 (.mv (.tmp 45))])
          (.reg [.p none 46 (.mv (.tmp 6)),
              .p none 47 (.fa 1 (.tmp 8)),
              .l none (some 48) (.ld none (.tmp 47)),
              .l none (some 49) (.call 33 [(.tmp 48)]),
              .l none (some 50) (.app 5 1 1 [(.int .u8 0)] (.tmp 46) (.tmp 49)),
              .p none 6 (.mv (.tmp 50))]))
          .skip))))))
      (.reg [.p none 21 (.mv (.tmp 7)),
          .p none 22 (.bin .add .i64 (.tmp 21) (.const (.int .i64 1))),
          .p none 7 (.mv (.tmp 22))]))))))
  (.seq (.reg [.p none 51 (.mv (.tmp 6)),
      .p none 2 (.mv (.tmp 51)),
      .p none 3 (.mv (.const (.int .i64 0)))])
  .ret))))))
theorem C14 : compile Try.prog 52 (Try.f14.body.getD .skip) = some M14 := by kernel_rfl

/-- winnowlaw3.copied -/
def M15 : MC :=
  (.seq (.reg [.p none 2 (.mv (.const (.slice none 0 0)))])
  (.seq (.reg [.p none 3 (.mv (.const (.slice none 0 0)))])
  (.seq (.seq (.reg [.p none 4 (.mv (.const (.int .i64 0)))])
  (.block 0
    (.loop
      (.seq (.seq (.reg [.p none 5 (.mv (.tmp 4)),
          .p none 6 (.mv (.tmp 0)),
          .p none 7 (.len (.tmp 6)),
          .p none 8 (.bin .lss .i64 (.tmp 5) (.tmp 7))])
      (.cond (.tmp 8)
        .skip
        (.exit 0)))
      (.seq (.block 1
        (.dreg (.line [.qp 0 none 11 (.mv (.tmp 3)),
            .qp 1 none 12 (.mv (.tmp 0)),
            .qp 2 none 13 (.mv (.tmp 4)),
            .qp 3 none 14 (.idx 3 (.tmp 12) (.tmp 13)),
            .qp 4 none 15 (.fa 0 (.tmp 14)),
            .qp 7 none 18 (.mv (.tmp 0)),
            .qp 8 none 19 (.mv (.tmp 4)),
            .qp 9 none 20 (.idx 3 (.tmp 18) (.tmp 19)),
            .qp 10 none 21 (.fa 1 (.tmp 20)),
            .qp 12 none 23 (.mv (.tmp 0)),
            .qp 13 none 24 (.mv (.tmp 4)),
            .qp 14 none 25 (.idx 3 (.tmp 23) (.tmp 24)),
            .qp 15 none 26 (.fa 2 (.tmp 25)),
            .ql 16 none 27 none (.tmp 26),
            .ql 11 none 22 none (.tmp 21),
            .l 5 none (some 16) (.ld none (.tmp 15)),
            .l 6 none (some 17) (.call 23 [(.tmp 16)]),
            .qp 17 none 28 (.bld [(.slice none 0 0), (.int .i64 0), (.int .i64 0)] [(0, 1, (.tmp 17)), (1, 1, (.tmp 22)), (2, 1, (.tmp 27))]),
            .l 18 none (some 29) (.bs 31 1 3 [(.slice none 0 0), (.int .i64 0), (.int .i64 0)] [(0, 3, (.tmp 28))]),
            .l 19 none (some 30) (.app 31 40 3 [(.slice none 0 0), (.int .i64 0), (.int .i64 0)] (.tmp 11) (.tmp 29)),
            .qp 20 none 3 (.mv (.tmp 30))])))
      (.reg [.p none 9 (.mv (.tmp 4)),
          .p none 10 (.bin .add .i64 (.tmp 9) (.const (.int .i64 1))),
          .p none 4 (.mv (.tmp 10))]))))))
  (.seq (.reg [.p none 31 (.mv (.tmp 3)),
      .p none 2 (.mv (.tmp 31))])
  .ret))))
theorem C15 : compile Try.prog 32 (Try.f15.body.getD .skip) = some M15 := by kernel_rfl

/-- lz.Expand -/
def M16 : MC :=
  (.seq (.reg [.p none 2 (.mv (.const (.slice none 0 0))),
      .p none 3 (.mv (.const (.int .i64 0)))])
  (.seq (.reg [.p none 4 (.mv (.const (.slice none 0 0)))])
  (.seq (.seq (.reg [.p none 7 (.mv (.tmp 0)),
      .p none 8 (.len (.tmp 7)),
      .p none 9 (.mv (.const (.int .i64 0)))])
  (.block 0
    (.loop
      (.seq (.reg [.p none 10 (.bin .lss .i64 (.tmp 9) (.tmp 8))])
      (.seq (.cond (.tmp 10)
        .skip
        (.exit 0))
      (.seq (.block 1
        (.seq (.reg [.p none 11 (.mv (.tmp 9)),
            .p none 12 (.idx 3 (.tmp 7) (.tmp 9)),
            .l none (some 13) (.ld (some 3) (.tmp 12)),
            .l none (some 6) (.al 31 [(.slice none 0 0), (.int .i64 0), (.int .i64 0)]),
            .p none 5 (.mv (.tmp 11)),
            .l none none (.st 3 (.tmp 6) (.tmp 13))])
        (.seq (.seq (.reg [.l none (some 14) (.ld (some 3) (.tmp 6)),
            .p none 15 (.mv (.tmp 4)),
            .p none 16 (.len (.tmp 15)),
            .p none 17 (.fa 0 (.tmp 6)),
            .l none (some 18) (.ld none (.tmp 17)),
            .p none 19 (.len (.tmp 18)),
            .p none 20 (.bin .add .i64 (.tmp 16) (.tmp 19)),
            .p none 21 (.mv (.tmp 5)),
            .p none 22 (.mv (.tmp 0)),
            .p none 23 (.len (.tmp 22)),
            .p none 24 (.bin .sub .i64 (.tmp 23) (.const (.int .i64 1))),
            .p none 25 (.bin .eql .i64 (.tmp 21) (.tmp 24)),
            .l none (some 26) (.call 34 [(.tmp 14), (.tmp 20), (.tmp 25)]),
            .p none 27 (.not (.tmp 26))])
        (.cond (.tmp 27)
          (.seq (.reg [.p none 2 (.mv (.const (.slice none 0 0))),
              .p none 3 (.mv (.const (.int .i64 31)))])
          .ret)
          .skip))
        (.seq (.seq (.reg [.p none 28 (.mv (.tmp 4)),
            .p none 29 (.len (.tmp 28)),
            .p none 30 (.fa 0 (.tmp 6)),
            .l none (some 31) (.ld none (.tmp 30)),
            .p none 32 (.len (.tmp 31)),
            .p none 33 (.bin .add .i64 (.tmp 29) (.tmp 32)),
            .p none 34 (.fa 2 (.tmp 6)),
            .l none (some 35) (.ld none (.tmp 34)),
            .p none 36 (.bin .add .i64 (.tmp 33) (.tmp 35)),
            .p none 37 (.bin .gtr .i64 (.tmp 36) (.const (.int .i64 65536)))])
        (.cond (.tmp 37)
          (.seq (.reg [.p none 2 (.mv (.const (.slice none 0 0))),
              .p none 3 (.mv (.const (.int .i64 2)))])
          .ret)
          .skip))
        (.dreg (.line [.qp 0 none 38 (.mv (.tmp 4)),
            .qp 1 none 39 (.fa 0 (.tmp 6)),
            .qp 4 none 42 (.fa 1 (.tmp 6)),
            .qp 6 none 44 (.fa 2 (.tmp 6)),
            .ql 7 none 45 none (.tmp 44),
            .ql 5 none 43 none (.tmp 42),
            .l 2 none (some 40) (.ld none (.tmp 39)),
            .l 3 none (some 41) (.app 5 1 1 [(.int .u8 0)] (.tmp 38) (.tmp 40)),
            .l 8 none (some 46) (.call 35 [(.tmp 41), (.tmp 43), (.tmp 45)]),
            .qp 9 none 4 (.mv (.tmp 46))]))))))
      (.reg [.p none 47 (.bin .add .i64 (.tmp 9) (.const (.int .i64 1))),
          .p none 9 (.mv (.tmp 47))])))))))
  (.seq (.reg [.p none 48 (.mv (.tmp 4)),
      .p none 2 (.mv (.tmp 48)),
      .p none 3 (.mv (.const (.int .i64 0)))])
  .ret))))
theorem C16 : compile Try.prog 49 (Try.f16.body.getD .skip) = some M16 := by kernel_rfl

/-- lz.Write -/
def M17 : MC :=
  (.seq (.reg [.p none 2 (.mv (.const (.slice none 0 0))),
      .p none 3 (.mv (.const (.int .i64 0)))])
  (.seq (.seq (.reg [.p none 10 (.mv (.tmp 0)),
      .l none (some 11) (.call 16 [(.tmp 10)]),
      .p none 9 (.mv (.tmp 11)),
      .p none 12 (.ext 0 (.tmp 9)),
      .p none 13 (.ext 1 (.tmp 9)),
      .p none 4 (.mv (.tmp 12)),
      .p none 5 (.mv (.tmp 13))])
  (.seq (.reg [.p none 14 (.mv (.tmp 5)),
      .p none 15 (.bin .neq .i64 (.tmp 14) (.const (.int .i64 0)))])
  (.cond (.tmp 15)
    (.seq (.reg [.p none 16 (.mv (.tmp 5)),
        .p none 2 (.mv (.const (.slice none 0 0))),
        .p none 3 (.mv (.tmp 16))])
    .ret)
    .skip)))
  (.seq (.reg [.p none 6 (.mv (.const (.slice none 0 0)))])
  (.seq (.seq (.reg [.p none 17 (.mv (.tmp 0)),
      .p none 18 (.len (.tmp 17)),
      .p none 19 (.mv (.const (.int .i64 0)))])
  (.block 0
    (.loop
      (.seq (.reg [.p none 20 (.bin .lss .i64 (.tmp 19) (.tmp 18))])
      (.seq (.cond (.tmp 20)
        .skip
        (.exit 0))
      (.seq (.block 1
        (.seq (.reg [.p none 21 (.idx 3 (.tmp 17) (.tmp 19)),
            .l none (some 22) (.ld (some 3) (.tmp 21)),
            .l none (some 8) (.al 31 [(.slice none 0 0), (.int .i64 0), (.int .i64 0)]),
            .l none none (.st 3 (.tmp 8) (.tmp 22))])
        (.reg [.p none 23 (.mv (.tmp 6)),
            .l none (some 24) (.ld (some 3) (.tmp 8)),
            .l none (some 25) (.call 36 [(.tmp 24)]),
            .l none (some 26) (.app 5 1 1 [(.int .u8 0)] (.tmp 23) (.tmp 25)),
            .p none 6 (.mv (.tmp 26))])))
      (.reg [.p none 27 (.bin .add .i64 (.tmp 19) (.const (.int .i64 1))),
          .p none 19 (.mv (.tmp 27))])))))))
  (.seq (.reg [.p none 28 (.mv (.tmp 6)),
      .p none 2 (.mv (.tmp 28)),
      .p none 3 (.mv (.const (.int .i64 0)))])
  .ret)))))
theorem C17 : compile Try.prog 29 (Try.f17.body.getD .skip) = some M17 := by kernel_rfl

/-- winnowlaw3.sameBytes -/
def M18 : MC :=
  (.seq (.reg [.p none 4 (.mv (.const (.bool false)))])
  (.seq (.seq (.reg [.p none 6 (.mv (.tmp 0)),
      .p none 7 (.len (.tmp 6)),
      .p none 8 (.mv (.tmp 1)),
      .p none 9 (.len (.tmp 8)),
      .p none 10 (.bin .neq .i64 (.tmp 7) (.tmp 9))])
  (.cond (.tmp 10)
    (.seq (.reg [.p none 4 (.mv (.const (.bool false)))])
    .ret)
    .skip))
  (.seq (.seq (.reg [.p none 5 (.mv (.const (.int .i64 0)))])
  (.block 0
    (.loop
      (.seq (.seq (.reg [.p none 11 (.mv (.tmp 5)),
          .p none 12 (.mv (.tmp 0)),
          .p none 13 (.len (.tmp 12)),
          .p none 14 (.bin .lss .i64 (.tmp 11) (.tmp 13))])
      (.cond (.tmp 14)
        .skip
        (.exit 0)))
      (.seq (.block 1
        (.seq (.dreg (.line [.qp 0 none 17 (.mv (.tmp 0)),
            .qp 1 none 18 (.mv (.tmp 5)),
            .qp 2 none 19 (.idx 1 (.tmp 17) (.tmp 18)),
            .qp 4 none 21 (.mv (.tmp 1)),
            .qp 5 none 22 (.mv (.tmp 5)),
            .qp 6 none 23 (.idx 1 (.tmp 21) (.tmp 22)),
            .ql 7 none 24 none (.tmp 23),
            .l 3 none (some 20) (.ld none (.tmp 19)),
            .qp 8 none 25 (.bin .neq .u8 (.tmp 20) (.tmp 24))]))
        (.cond (.tmp 25)
          (.seq (.reg [.p none 4 (.mv (.const (.bool false)))])
          .ret)
          .skip)))
      (.reg [.p none 15 (.mv (.tmp 5)),
          .p none 16 (.bin .add .i64 (.tmp 15) (.const (.int .i64 1))),
          .p none 5 (.mv (.tmp 16))]))))))
  (.seq (.reg [.p none 4 (.mv (.const (.bool true)))])
  .ret))))
theorem C18 : compile Try.prog 26 (Try.f18.body.getD .skip) = some M18 := by kernel_rfl

/-- winnowlaw3.full -/
def M19 : MC :=
  (.seq (.reg [.p none 2 (.mv (.const (.int .i64 0)))])
  (.seq (.seq (.reg [.p none 3 (.mv (.const (.int .i64 0)))])
  (.block 0
    (.loop
      (.seq (.seq (.reg [.p none 5 (.mv (.tmp 3)),
          .p none 6 (.mv (.tmp 0)),
          .p none 7 (.len (.tmp 6)),
          .p none 8 (.bin .lss .i64 (.tmp 5) (.tmp 7))])
      (.cond (.tmp 8)
        .skip
        (.exit 0)))
      (.seq (.block 1
        (.reg [.p none 11 (.mv (.tmp 0)),
            .p none 12 (.mv (.tmp 3)),
            .p none 13 (.idx 1 (.tmp 11) (.tmp 12)),
            .l none none (.st 1 (.tmp 13) (.const (.int .u8 202)))]))
      (.reg [.p none 9 (.mv (.tmp 3)),
          .p none 10 (.bin .add .i64 (.tmp 9) (.const (.int .i64 1))),
          .p none 3 (.mv (.tmp 10))]))))))
  (.seq (.seq (.reg [.p none 4 (.mv (.const (.int .i64 0)))])
  (.block 2
    (.loop
      (.seq (.seq (.reg [.p none 14 (.mv (.tmp 4)),
          .p none 15 (.bin .lss .i64 (.tmp 14) (.const (.int .i64 64)))])
      (.cond (.tmp 15)
        .skip
        (.exit 2)))
      (.seq (.block 3
        (.reg [.p none 18 (.mv (.tmp 0)),
            .l none (some 19) (.bs 5 1 1 [(.int .u8 0)] [(0, 1, (.const (.int .u8 203)))]),
            .l none (some 20) (.app 5 1 1 [(.int .u8 0)] (.tmp 18) (.tmp 19)),
            .p none 0 (.mv (.tmp 20))]))
      (.reg [.p none 16 (.mv (.tmp 4)),
          .p none 17 (.bin .add .i64 (.tmp 16) (.const (.int .i64 1))),
          .p none 4 (.mv (.tmp 17))]))))))
  (.seq (.reg [.p none 21 (.mv (.tmp 0)),
      .p none 22 (.len (.tmp 21)),
      .p none 2 (.mv (.tmp 22))])
  .ret))))
theorem C19 : compile Try.prog 23 (Try.f19.body.getD .skip) = some M19 := by kernel_rfl

/-- winnowlaw3.same -/
def M20 : MC :=
  (.seq (.reg [.p none 4 (.mv (.const (.bool false)))])
  (.seq (.seq (.reg [.p none 7 (.mv (.tmp 0)),
      .p none 8 (.len (.tmp 7)),
      .p none 9 (.mv (.tmp 1)),
      .p none 10 (.len (.tmp 9)),
      .p none 11 (.bin .neq .i64 (.tmp 8) (.tmp 10))])
  (.cond (.tmp 11)
    (.seq (.reg [.p none 4 (.mv (.const (.bool false)))])
    .ret)
    .skip))
  (.seq (.seq (.reg [.p none 5 (.mv (.const (.int .i64 0)))])
  (.block 0
    (.loop
      (.seq (.seq (.reg [.p none 12 (.mv (.tmp 5)),
          .p none 13 (.mv (.tmp 0)),
          .p none 14 (.len (.tmp 13)),
          .p none 15 (.bin .lss .i64 (.tmp 12) (.tmp 14))])
      (.cond (.tmp 15)
        .skip
        (.exit 0)))
      (.seq (.block 1
        (.seq (.dreg (.line [.qp 0 none 18 (.mv (.tmp 0)),
            .qp 1 none 19 (.mv (.tmp 5)),
            .qp 2 none 20 (.idx 3 (.tmp 18) (.tmp 19)),
            .qp 3 none 21 (.fa 0 (.tmp 20)),
            .qp 5 none 23 (.mv (.tmp 1)),
            .qp 6 none 24 (.mv (.tmp 5)),
            .qp 7 none 25 (.idx 3 (.tmp 23) (.tmp 24)),
            .qp 8 none 26 (.fa 0 (.tmp 25)),
            .ql 9 none 27 none (.tmp 26),
            .l 4 none (some 22) (.ld none (.tmp 21)),
            .l 10 none (some 28) (.call 18 [(.tmp 22), (.tmp 27)]),
            .qp 11 none 6 (.mv (.tmp 28))]))
        (.seq (.dreg (.line [.qp 0 none 29 (.mv (.tmp 6)),
            .qp 1 none 30 (.not (.tmp 29)),
            .qp 2 none 31 (.mv (.tmp 30)),
            .split 31,
            .qp 3 (some (31, false)) 32 (.mv (.tmp 0)),
            .qp 4 (some (31, false)) 33 (.mv (.tmp 5)),
            .qp 5 (some (31, false)) 34 (.idx 3 (.tmp 32) (.tmp 33)),
            .qp 6 (some (31, false)) 35 (.fa 1 (.tmp 34)),
            .qp 8 (some (31, false)) 37 (.mv (.tmp 1)),
            .qp 9 (some (31, false)) 38 (.mv (.tmp 5)),
            .qp 10 (some (31, false)) 39 (.idx 3 (.tmp 37) (.tmp 38)),
            .qp 11 (some (31, false)) 40 (.fa 1 (.tmp 39)),
            .ql 12 (some (31, false)) 41 none (.tmp 40),
            .l 7 (some (31, false)) (some 36) (.ld none (.tmp 35)),
            .qp 13 (some (31, false)) 42 (.bin .neq .i64 (.tmp 36) (.tmp 41)),
            .qp 14 none 43 (.pick (.tmp 31) (.const (.bool true)) (.tmp 42)),
            .qp 15 none 44 (.mv (.tmp 43)),
            .split 44,
            .qp 16 (some (44, false)) 45 (.mv (.tmp 0)),
            .qp 17 (some (44, false)) 46 (.mv (.tmp 5)),
            .qp 18 (some (44, false)) 47 (.idx 3 (.tmp 45) (.tmp 46)),
            .qp 19 (some (44, false)) 48 (.fa 2 (.tmp 47)),
            .qp 21 (some (44, false)) 50 (.mv (.tmp 1)),
            .qp 22 (some (44, false)) 51 (.mv (.tmp 5)),
            .qp 23 (some (44, false)) 52 (.idx 3 (.tmp 50) (.tmp 51)),
            .qp 24 (some (44, false)) 53 (.fa 2 (.tmp 52)),
            .ql 25 (some (44, false)) 54 none (.tmp 53),
            .l 20 (some (44, false)) (some 49) (.ld none (.tmp 48)),
            .qp 26 (some (44, false)) 55 (.bin .neq .i64 (.tmp 49) (.tmp 54)),
            .qp 27 none 56 (.pick (.tmp 44) (.const (.bool true)) (.tmp 55))]))
        (.cond (.tmp 56)
          (.seq (.reg [.p none 4 (.mv (.const (.bool false)))])
          .ret)
          .skip))))
      (.reg [.p none 16 (.mv (.tmp 5)),
          .p none 17 (.bin .add .i64 (.tmp 16) (.const (.int .i64 1))),
          .p none 5 (.mv (.tmp 17))]))))))
  (.seq (.reg [.p none 4 (.mv (.const (.bool true)))])
  .ret))))
theorem C20 : compile Try.prog 57 (Try.f20.body.getD .skip) = some M20 := by kernel_rfl

/-- winnowlaw3.kept -/
def M21 : MC :=
  (.seq (.reg [.p none 4 (.mv (.const (.bool false)))])
  (.seq (.reg [.p none 6 (.mv (.tmp 0)),
      .p none 7 (.mv (.tmp 1)),
      .p none 8 (.len (.tmp 7)),
      .p none 9 (.bin .add .i64 (.tmp 8) (.const (.int .i64 4))),
      .p none 10 (.slc 1 (.tmp 6) none (some (.tmp 9)) none),
      .p none 5 (.mv (.tmp 10))])
  (.seq (.reg [.p none 11 (.mv (.tmp 0)),
      .p none 12 (.mv (.tmp 1)),
      .l none (some 13) (.call 18 [(.tmp 11), (.tmp 12)]),
      .p none 14 (.mv (.tmp 13)),
      .split 14,
      .p (some (14, true)) 15 (.mv (.tmp 5)),
      .p (some (14, true)) 16 (.mv (.tmp 1)),
      .p (some (14, true)) 17 (.len (.tmp 16)),
      .p (some (14, true)) 18 (.idx 1 (.tmp 15) (.tmp 17)),
      .l (some (14, true)) (some 19) (.ld none (.tmp 18)),
      .p (some (14, true)) 20 (.bin .eql .u8 (.tmp 19) (.const (.int .u8 165))),
      .p none 21 (.pick (.tmp 14) (.tmp 20) (.const (.bool false))),
      .p none 22 (.mv (.tmp 21)),
      .split 22,
      .p (some (22, true)) 23 (.mv (.tmp 5)),
      .p (some (22, true)) 24 (.mv (.tmp 1)),
      .p (some (22, true)) 25 (.len (.tmp 24)),
      .p (some (22, true)) 26 (.bin .add .i64 (.tmp 25) (.const (.int .i64 1))),
      .p (some (22, true)) 27 (.idx 1 (.tmp 23) (.tmp 26)),
      .l (some (22, true)) (some 28) (.ld none (.tmp 27)),
      .p (some (22, true)) 29 (.bin .eql .u8 (.tmp 28) (.const (.int .u8 90))),
      .p none 30 (.pick (.tmp 22) (.tmp 29) (.const (.bool false))),
      .p none 31 (.mv (.tmp 30)),
      .split 31,
      .p (some (31, true)) 32 (.mv (.tmp 5)),
      .p (some (31, true)) 33 (.mv (.tmp 1)),
      .p (some (31, true)) 34 (.len (.tmp 33)),
      .p (some (31, true)) 35 (.bin .add .i64 (.tmp 34) (.const (.int .i64 2))),
      .p (some (31, true)) 36 (.idx 1 (.tmp 32) (.tmp 35)),
      .l (some (31, true)) (some 37) (.ld none (.tmp 36)),
      .p (some (31, true)) 38 (.bin .eql .u8 (.tmp 37) (.const (.int .u8 167))),
      .p none 39 (.pick (.tmp 31) (.tmp 38) (.const (.bool false))),
      .p none 40 (.mv (.tmp 39)),
      .split 40,
      .p (some (40, true)) 41 (.mv (.tmp 5)),
      .p (some (40, true)) 42 (.mv (.tmp 1)),
      .p (some (40, true)) 43 (.len (.tmp 42)),
      .p (some (40, true)) 44 (.bin .add .i64 (.tmp 43) (.const (.int .i64 3))),
      .p (some (40, true)) 45 (.idx 1 (.tmp 41) (.tmp 44)),
      .l (some (40, true)) (some 46) (.ld none (.tmp 45)),
      .p (some (40, true)) 47 (.bin .eql .u8 (.tmp 46) (.const (.int .u8 91))),
      .p none 48 (.pick (.tmp 40) (.tmp 47) (.const (.bool false))),
      .p none 4 (.mv (.tmp 48))])
  .ret)))
theorem C21 : compile Try.prog 49 (Try.f21.body.getD .skip) = some M21 := by kernel_rfl

/-- winnowlaw3.roomy -/
def M23 : MC :=
  (.seq (.reg [.p none 2 (.mv (.const (.slice none 0 0)))])
  (.seq (.reg [.l none (some 4) (.bs 5 0 1 [] []),
      .p none 5 (.mv (.tmp 0)),
      .l none (some 6) (.app 5 1 1 [(.int .u8 0)] (.tmp 4) (.tmp 5)),
      .p none 3 (.mv (.tmp 6))])
  (.seq (.reg [.p none 7 (.mv (.tmp 3)),
      .l none (some 8) (.bs 5 4 1 [(.int .u8 0), (.int .u8 0), (.int .u8 0), (.int .u8 0)] [(0, 1, (.const (.int .u8 165))), (1, 1, (.const (.int .u8 90))), (2, 1, (.const (.int .u8 167))), (3, 1, (.const (.int .u8 91)))]),
      .l none (some 9) (.app 5 1 1 [(.int .u8 0)] (.tmp 7) (.tmp 8)),
      .p none 3 (.mv (.tmp 9))])
  (.seq (.reg [.p none 10 (.mv (.tmp 3)),
      .p none 11 (.mv (.tmp 0)),
      .p none 12 (.len (.tmp 11)),
      .p none 13 (.slc 1 (.tmp 10) none (some (.tmp 12)) none),
      .p none 2 (.mv (.tmp 13))])
  .ret))))
theorem C23 : compile Try.prog 14 (Try.f23.body.getD .skip) = some M23 := by kernel_rfl

/-- winnowref3.fits -/
def M32 : MC :=
  (.seq (.reg [.l none (some 3) (.bx 31 (.tmp 0)),
      .p none 6 (.mv (.const (.bool false)))])
  (.seq (.seq (.reg [.p none 8 (.fa 1 (.tmp 3)),
      .l none (some 9) (.ld none (.tmp 8)),
      .p none 10 (.bin .eql .i64 (.tmp 9) (.const (.int .i64 0))),
      .p none 11 (.mv (.tmp 10)),
      .split 11,
      .p (some (11, true)) 12 (.fa 2 (.tmp 3)),
      .l (some (11, true)) (some 13) (.ld none (.tmp 12)),
      .p (some (11, true)) 14 (.bin .eql .i64 (.tmp 13) (.const (.int .i64 0))),
      .p none 15 (.pick (.tmp 11) (.tmp 14) (.const (.bool false)))])
  (.cond (.tmp 15)
    (.seq (.reg [.p none 16 (.mv (.tmp 2)),
        .p none 17 (.mv (.tmp 16)),
        .split 17,
        .p (some (17, true)) 18 (.fa 0 (.tmp 3)),
        .l (some (17, true)) (some 19) (.ld none (.tmp 18)),
        .p (some (17, true)) 20 (.len (.tmp 19)),
        .p (some (17, true)) 21 (.bin .gtr .i64 (.tmp 20) (.const (.int .i64 0))),
        .p none 22 (.pick (.tmp 17) (.tmp 21) (.const (.bool false))),
        .p none 6 (.mv (.tmp 22))])
    .ret)
    .skip))
  (.seq (.reg [.p none 23 (.mv (.tmp 1)),
      .p none 24 (.fa 0 (.tmp 3)),
      .l none (some 25) (.ld none (.tmp 24)),
      .p none 26 (.len (.tmp 25)),
      .p none 27 (.bin .add .i64 (.tmp 23) (.tmp 26)),
      .p none 7 (.mv (.tmp 27))])
  (.seq (.reg [.p none 28 (.fa 2 (.tmp 3)),
      .l none (some 29) (.ld none (.tmp 28)),
      .p none 30 (.bin .geq .i64 (.tmp 29) (.const (.int .i64 4))),
      .p none 31 (.mv (.tmp 30)),
      .split 31,
      .p (some (31, true)) 32 (.fa 2 (.tmp 3)),
      .l (some (31, true)) (some 33) (.ld none (.tmp 32)),
      .p (some (31, true)) 34 (.bin .leq .i64 (.tmp 33) (.const (.int .i64 259))),
      .p none 35 (.pick (.tmp 31) (.tmp 34) (.const (.bool false))),
      .p none 36 (.mv (.tmp 35)),
      .split 36,
      .p (some (36, true)) 37 (.fa 1 (.tmp 3)),
      .l (some (36, true)) (some 38) (.ld none (.tmp 37)),
      .p (some (36, true)) 39 (.bin .geq .i64 (.tmp 38) (.const (.int .i64 1))),
      .p none 40 (.pick (.tmp 36) (.tmp 39) (.const (.bool false))),
      .p none 41 (.mv (.tmp 40)),
      .split 41,
      .p (some (41, true)) 42 (.fa 1 (.tmp 3)),
      .l (some (41, true)) (some 43) (.ld none (.tmp 42)),
      .p (some (41, true)) 44 (.bin .leq .i64 (.tmp 43) (.const (.int .i64 32768))),
      .p none 45 (.pick (.tmp 41) (.tmp 44) (.const (.bool false))),
      .p none 46 (.mv (.tmp 45)),
      .split 46,
      .p (some (46, true)) 47 (.fa 1 (.tmp 3)),
      .l (some (46, true)) (some 48) (.ld none (.tmp 47)),
      .p (some (46, true)) 49 (.mv (.tmp 7)),
      .p (some (46, true)) 50 (.bin .leq .i64 (.tmp 48) (.tmp 49)),
      .p none 51 (.pick (.tmp 46) (.tmp 50) (.const (.bool false))),
      .p none 6 (.mv (.tmp 51))])
  .ret))))
theorem C32 : compile Try.prog 52 (Try.f32.body.getD .skip) = some M32 := by kernel_rfl

/-- winnowref2.Put -/
def M33 : MC :=
  (.seq (.reg [.p none 2 (.mv (.const (.slice none 0 0)))])
  (.seq (.reg [.p none 3 (.mv (.const (.slice none 0 0)))])
  (.seq (.seq (.reg [.p none 4 (.mv (.tmp 0)),
      .p none 5 (.bin .lss .i64 (.tmp 4) (.const (.int .i64 0)))])
  (.cond (.tmp 5)
    (.seq (.reg [.p none 6 (.mv (.tmp 3)),
        .p none 2 (.mv (.tmp 6))])
    .ret)
    .skip))
  (.seq (.block 0
    (.loop
      (.seq (.seq (.reg [.p none 7 (.mv (.tmp 0)),
          .p none 8 (.bin .geq .i64 (.tmp 7) (.const (.int .i64 128)))])
      (.cond (.tmp 8)
        .skip
        (.exit 0)))
      (.block 1
        (.seq (.reg [.p none 9 (.mv (.tmp 3)),
            .p none 10 (.mv (.tmp 0)),
            .p none 11 (.div .rem .i64 (.tmp 10) (.const (.int .i64 128))),
            .p none 12 (.bin .add .i64 (.tmp 11) (.const (.int .i64 128))),
            .p none 13 (.conv .u8 (.tmp 12)),
            .l none (some 14) (.bs 5 1 1 [(.int .u8 0)] [(0, 1, (.tmp 13))]),
            .l none (some 15) (.app 5 1 1 [(.int .u8 0)] (.tmp 9) (.tmp 14)),
            .p none 3 (.mv (.tmp 15))])
        (.reg [.p none 16 (.mv (.tmp 0)),
            .p none 17 (.div .quo .i64 (.tmp 16) (.const (.int .i64 128))),
            .p none 0 (.mv (.tmp 17))]))))))
  (.seq (.reg [.p none 18 (.mv (.tmp 3)),
      .p none 19 (.mv (.tmp 0)),
      .p none 20 (.conv .u8 (.tmp 19)),
      .l none (some 21) (.bs 5 1 1 [(.int .u8 0)] [(0, 1, (.tmp 20))]),
      .l none (some 22) (.app 5 1 1 [(.int .u8 0)] (.tmp 18) (.tmp 21)),
      .p none 3 (.mv (.tmp 22))])
  (.seq (.reg [.p none 23 (.mv (.tmp 3)),
      .p none 2 (.mv (.tmp 23))])
  .ret))))))
theorem C33 : compile Try.prog 24 (Try.f33.body.getD .skip) = some M33 := by kernel_rfl

/-- lz.right -/
def M34 : MC :=
  (.seq (.reg [.l none (some 3) (.bx 31 (.tmp 0)),
      .p none 6 (.mv (.const (.bool false)))])
  (.seq (.seq (.reg [.l none (some 7) (.ld (some 3) (.tmp 3)),
      .l none (some 8) (.call 45 [(.tmp 7)])])
  (.cond (.tmp 8)
    (.seq (.reg [.p none 9 (.mv (.tmp 2)),
        .p none 10 (.mv (.tmp 9)),
        .split 10,
        .p (some (10, true)) 11 (.fa 0 (.tmp 3)),
        .l (some (10, true)) (some 12) (.ld none (.tmp 11)),
        .p (some (10, true)) 13 (.len (.tmp 12)),
        .p (some (10, true)) 14 (.bin .gtr .i64 (.tmp 13) (.const (.int .i64 0))),
        .p none 15 (.pick (.tmp 10) (.tmp 14) (.const (.bool false))),
        .p none 6 (.mv (.tmp 15))])
    .ret)
    .skip))
  (.seq (.reg [.p none 16 (.fa 2 (.tmp 3)),
      .l none (some 17) (.ld none (.tmp 16)),
      .p none 18 (.bin .geq .i64 (.tmp 17) (.const (.int .i64 4))),
      .p none 19 (.mv (.tmp 18)),
      .split 19,
      .p (some (19, true)) 20 (.fa 2 (.tmp 3)),
      .l (some (19, true)) (some 21) (.ld none (.tmp 20)),
      .p (some (19, true)) 22 (.bin .leq .i64 (.tmp 21) (.const (.int .i64 259))),
      .p none 23 (.pick (.tmp 19) (.tmp 22) (.const (.bool false))),
      .p none 24 (.mv (.tmp 23)),
      .split 24,
      .p (some (24, true)) 25 (.fa 1 (.tmp 3)),
      .l (some (24, true)) (some 26) (.ld none (.tmp 25)),
      .p (some (24, true)) 27 (.bin .geq .i64 (.tmp 26) (.const (.int .i64 1))),
      .p none 28 (.pick (.tmp 24) (.tmp 27) (.const (.bool false))),
      .p none 29 (.mv (.tmp 28)),
      .split 29,
      .p (some (29, true)) 30 (.fa 1 (.tmp 3)),
      .l (some (29, true)) (some 31) (.ld none (.tmp 30)),
      .p (some (29, true)) 32 (.mv (.tmp 1)),
      .p (some (29, true)) 33 (.mm false .i64 (.const (.int .i64 32768)) [(.tmp 32)]),
      .p (some (29, true)) 34 (.bin .leq .i64 (.tmp 31) (.tmp 33)),
      .p none 35 (.pick (.tmp 29) (.tmp 34) (.const (.bool false))),
      .p none 6 (.mv (.tmp 35))])
  .ret)))
theorem C34 : compile Try.prog 36 (Try.f34.body.getD .skip) = some M34 := by kernel_rfl

/-- lz.again -/
def M35 : MC :=
  (.seq (.reg [.p none 6 (.mv (.const (.slice none 0 0)))])
  (.seq (.seq (.reg [.p none 7 (.mv (.tmp 2)),
      .p none 8 (.mv (.const (.int .i64 0)))])
  (.block 0
    (.loop
      (.seq (.reg [.p none 9 (.bin .lss .i64 (.tmp 8) (.tmp 7))])
      (.seq (.cond (.tmp 9)
        .skip
        (.exit 0))
      (.seq (.block 1
        (.reg [.p none 10 (.mv (.tmp 0)),
            .p none 11 (.mv (.tmp 0)),
            .p none 12 (.mv (.tmp 0)),
            .p none 13 (.len (.tmp 12)),
            .p none 14 (.mv (.tmp 1)),
            .p none 15 (.bin .sub .i64 (.tmp 13) (.tmp 14)),
            .p none 16 (.idx 1 (.tmp 11) (.tmp 15)),
            .l none (some 17) (.ld none (.tmp 16)),
            .l none (some 18) (.bs 5 1 1 [(.int .u8 0)] [(0, 1, (.tmp 17))]),
            .l none (some 19) (.app 5 1 1 [(.int .u8 0)] (.tmp 10) (.tmp 18)),
            .p none 0 (.mv (.tmp 19))]))
      (.reg [.p none 20 (.bin .add .i64 (.tmp 8) (.const (.int .i64 1))),
          .p none 8 (.mv (.tmp 20))])))))))
  (.seq (.reg [.p none 21 (.mv (.tmp 0)),
      .p none 6 (.mv (.tmp 21))])
  .ret)))
theorem C35 : compile Try.prog 22 (Try.f35.body.getD .skip) = some M35 := by kernel_rfl

/-- lz.bytes -/
def M36 : MC :=
  (.seq (.reg [.l none (some 1) (.bx 31 (.tmp 0)),
      .p none 2 (.mv (.const (.slice none 0 0)))])
  (.seq (.dreg (.line [.qp 0 none 4 (.fa 0 (.tmp 1)),
      .qp 4 none 8 (.fa 0 (.tmp 1)),
      .ql 5 none 9 none (.tmp 8),
      .l 1 none (some 5) (.ld none (.tmp 4)),
      .qp 2 none 6 (.len (.tmp 5)),
      .l 3 none (some 7) (.call 46 [(.tmp 6)]),
      .l 6 none (some 10) (.app 5 1 1 [(.int .u8 0)] (.tmp 7) (.tmp 9)),
      .qp 7 none 3 (.mv (.tmp 10))]))
  (.seq (.seq (.reg [.l none (some 11) (.ld (some 3) (.tmp 1)),
      .l none (some 12) (.call 45 [(.tmp 11)])])
  (.cond (.tmp 12)
    (.seq (.reg [.p none 13 (.mv (.tmp 3)),
        .p none 2 (.mv (.tmp 13))])
    .ret)
    .skip))
  (.seq (.reg [.p none 14 (.mv (.tmp 3)),
      .p none 15 (.fa 2 (.tmp 1)),
      .l none (some 16) (.ld none (.tmp 15)),
      .p none 17 (.bin .sub .i64 (.tmp 16) (.const (.int .i64 4))),
      .l none (some 18) (.call 46 [(.tmp 17)]),
      .l none (some 19) (.app 5 1 1 [(.int .u8 0)] (.tmp 14) (.tmp 18)),
      .p none 3 (.mv (.tmp 19))])
  (.seq (.reg [.p none 20 (.mv (.tmp 3)),
      .p none 21 (.fa 1 (.tmp 1)),
      .l none (some 22) (.ld none (.tmp 21)),
      .l none (some 23) (.call 46 [(.tmp 22)]),
      .l none (some 24) (.app 5 1 1 [(.int .u8 0)] (.tmp 20) (.tmp 23)),
      .p none 2 (.mv (.tmp 24))])
  .ret)))))
theorem C36 : compile Try.prog 25 (Try.f36.body.getD .skip) = some M36 := by kernel_rfl

/-- lz.none -/
def M45 : MC :=
  (.seq (.reg [.l none (some 1) (.bx 31 (.tmp 0)),
      .p none 2 (.mv (.const (.bool false)))])
  (.seq (.reg [.p none 3 (.fa 1 (.tmp 1)),
      .l none (some 4) (.ld none (.tmp 3)),
      .p none 5 (.bin .eql .i64 (.tmp 4) (.const (.int .i64 0))),
      .p none 6 (.mv (.tmp 5)),
      .split 6,
      .p (some (6, true)) 7 (.fa 2 (.tmp 1)),
      .l (some (6, true)) (some 8) (.ld none (.tmp 7)),
      .p (some (6, true)) 9 (.bin .eql .i64 (.tmp 8) (.const (.int .i64 0))),
      .p none 10 (.pick (.tmp 6) (.tmp 9) (.const (.bool false))),
      .p none 2 (.mv (.tmp 10))])
  .ret))
theorem C45 : compile Try.prog 11 (Try.f45.body.getD .skip) = some M45 := by kernel_rfl

/-- nums.Put -/
def M46 : MC :=
  (.seq (.reg [.p none 2 (.mv (.const (.slice none 0 0)))])
  (.seq (.seq (.reg [.p none 4 (.mv (.tmp 0)),
      .p none 5 (.bin .lss .i64 (.tmp 4) (.const (.int .i64 0)))])
  (.cond (.tmp 5)
    (.seq (.reg [.p none 2 (.mv (.const (.slice none 0 0)))])
    .ret)
    .skip))
  (.seq (.reg [.p none 3 (.mv (.const (.slice none 0 0)))])
  (.seq (.block 0
    (.loop
      (.seq (.seq (.reg [.p none 6 (.mv (.tmp 0)),
          .p none 7 (.bin .geq .i64 (.tmp 6) (.const (.int .i64 128)))])
      (.cond (.tmp 7)
        .skip
        (.exit 0)))
      (.block 1
        (.seq (.reg [.p none 8 (.mv (.tmp 3)),
            .p none 9 (.mv (.tmp 0)),
            .p none 10 (.conv .u8 (.tmp 9)),
            .p none 11 (.bin .or .u8 (.tmp 10) (.const (.int .u8 128))),
            .l none (some 12) (.bs 5 1 1 [(.int .u8 0)] [(0, 1, (.tmp 11))]),
            .l none (some 13) (.app 5 1 1 [(.int .u8 0)] (.tmp 8) (.tmp 12)),
            .p none 3 (.mv (.tmp 13))])
        (.reg [.p none 14 (.mv (.tmp 0)),
            .p none 15 (.shf .shr (.tmp 14) (.const (.int .u64 7))),
            .p none 0 (.mv (.tmp 15))]))))))
  (.seq (.reg [.p none 16 (.mv (.tmp 3)),
      .p none 17 (.mv (.tmp 0)),
      .p none 18 (.conv .u8 (.tmp 17)),
      .l none (some 19) (.bs 5 1 1 [(.int .u8 0)] [(0, 1, (.tmp 18))]),
      .l none (some 20) (.app 5 1 1 [(.int .u8 0)] (.tmp 16) (.tmp 19)),
      .p none 2 (.mv (.tmp 20))])
  .ret)))))
theorem C46 : compile Try.prog 21 (Try.f46.body.getD .skip) = some M46 := by kernel_rfl

/-- winnowlaw3.LzDecodes -/
def M6 : MC :=
  (.seq (.reg [.p none 4 (.mv (.const (.bool false)))])
  (.seq (.reg [.p none 35 (.mv (.tmp 0)),
      .p none 36 (.mv (.tmp 1)),
      .l none (some 37) (.call 26 [(.tmp 35), (.tmp 36)]),
      .p none 34 (.mv (.tmp 37)),
      .p none 38 (.ext 0 (.tmp 34)),
      .p none 39 (.ext 1 (.tmp 34)),
      .p none 5 (.mv (.tmp 38)),
      .p none 6 (.mv (.tmp 39))])
  (.seq (.reg [.p none 41 (.mv (.tmp 0)),
      .p none 42 (.mv (.tmp 1)),
      .l none (some 43) (.call 27 [(.tmp 41), (.tmp 42)]),
      .p none 40 (.mv (.tmp 43)),
      .p none 44 (.ext 0 (.tmp 40)),
      .p none 45 (.ext 1 (.tmp 40)),
      .p none 7 (.mv (.tmp 44)),
      .p none 8 (.mv (.tmp 45))])
  (.seq (.reg [.p none 46 (.mv (.tmp 0)),
      .l none (some 47) (.call 23 [(.tmp 46)]),
      .p none 9 (.mv (.tmp 47))])
  (.seq (.reg [.p none 49 (.mv (.tmp 9)),
      .p none 50 (.mv (.tmp 1)),
      .l none (some 51) (.call 28 [(.tmp 49), (.tmp 50)]),
      .p none 48 (.mv (.tmp 51)),
      .p none 52 (.ext 0 (.tmp 48)),
      .p none 53 (.ext 1 (.tmp 48)),
      .p none 10 (.mv (.tmp 52)),
      .p none 11 (.mv (.tmp 53))])
  (.seq (.reg [.p none 55 (.mv (.tmp 9)),
      .p none 56 (.mv (.tmp 1)),
      .l none (some 57) (.call 28 [(.tmp 55), (.tmp 56)]),
      .p none 54 (.mv (.tmp 57)),
      .p none 58 (.ext 0 (.tmp 54)),
      .p none 59 (.ext 1 (.tmp 54)),
      .p none 12 (.mv (.tmp 58)),
      .p none 13 (.mv (.tmp 59))])
  (.seq (.reg [.p none 61 (.mv (.tmp 9)),
      .p none 62 (.mv (.tmp 1)),
      .l none (some 63) (.call 29 [(.tmp 61), (.tmp 62)]),
      .p none 60 (.mv (.tmp 63)),
      .p none 64 (.ext 0 (.tmp 60)),
      .p none 65 (.ext 1 (.tmp 60)),
      .p none 14 (.mv (.tmp 64)),
      .p none 15 (.mv (.tmp 65))])
  (.seq (.reg [.p none 67 (.mv (.tmp 9)),
      .p none 68 (.mv (.tmp 1)),
      .l none (some 69) (.call 29 [(.tmp 67), (.tmp 68)]),
      .p none 66 (.mv (.tmp 69)),
      .p none 70 (.ext 0 (.tmp 66)),
      .p none 71 (.ext 1 (.tmp 66)),
      .p none 16 (.mv (.tmp 70)),
      .p none 17 (.mv (.tmp 71))])
  (.seq (.reg [.l none (some 72) (.bs 5 4 1 [(.int .u8 0), (.int .u8 0), (.int .u8 0), (.int .u8 0)] [(0, 1, (.const (.int .u8 1))), (1, 1, (.const (.int .u8 97))), (2, 1, (.const (.int .u8 1))), (3, 1, (.const (.int .u8 1)))]),
      .l none (some 73) (.call 28 [(.tmp 72), (.const (.int .i64 6))])])
  (.seq (.reg [.l none (some 74) (.bs 5 4 1 [(.int .u8 0), (.int .u8 0), (.int .u8 0), (.int .u8 0)] [(0, 1, (.const (.int .u8 1))), (1, 1, (.const (.int .u8 97))), (2, 1, (.const (.int .u8 1))), (3, 1, (.const (.int .u8 1)))]),
      .l none (some 75) (.call 29 [(.tmp 74), (.const (.int .i64 6))])])
  (.seq (.reg [.p none 76 (.mv (.tmp 11)),
      .p none 77 (.mv (.tmp 6)),
      .p none 78 (.bin .eql .i64 (.tmp 76) (.tmp 77)),
      .p none 79 (.mv (.tmp 78)),
      .split 79,
      .p (some (79, true)) 80 (.mv (.tmp 15)),
      .p (some (79, true)) 81 (.mv (.tmp 8)),
      .p (some (79, true)) 82 (.bin .eql .i64 (.tmp 80) (.tmp 81)),
      .p none 83 (.pick (.tmp 79) (.tmp 82) (.const (.bool false))),
      .p none 84 (.mv (.tmp 83)),
      .split 84,
      .p (some (84, true)) 85 (.mv (.tmp 10)),
      .p (some (84, true)) 86 (.mv (.tmp 5)),
      .l (some (84, true)) (some 87) (.call 18 [(.tmp 85), (.tmp 86)]),
      .p none 88 (.pick (.tmp 84) (.tmp 87) (.const (.bool false))),
      .p none 89 (.mv (.tmp 88)),
      .split 89,
      .p (some (89, true)) 90 (.mv (.tmp 12)),
      .p (some (89, true)) 91 (.mv (.tmp 5)),
      .l (some (89, true)) (some 92) (.call 18 [(.tmp 90), (.tmp 91)]),
      .p none 93 (.pick (.tmp 89) (.tmp 92) (.const (.bool false))),
      .p none 94 (.mv (.tmp 93)),
      .split 94,
      .p (some (94, true)) 95 (.mv (.tmp 14)),
      .p (some (94, true)) 96 (.mv (.tmp 7)),
      .l (some (94, true)) (some 97) (.call 20 [(.tmp 95), (.tmp 96)]),
      .p none 98 (.pick (.tmp 94) (.tmp 97) (.const (.bool false))),
      .p none 99 (.mv (.tmp 98)),
      .split 99,
      .p (some (99, true)) 100 (.mv (.tmp 16)),
      .p (some (99, true)) 101 (.mv (.tmp 7)),
      .l (some (99, true)) (some 102) (.call 20 [(.tmp 100), (.tmp 101)]),
      .p none 103 (.pick (.tmp 99) (.tmp 102) (.const (.bool false))),
      .p none 18 (.mv (.tmp 103))])
  (.seq (.reg [.p none 104 (.mv (.tmp 14)),
      .l none (some 105) (.call 30 [(.tmp 104)]),
      .p none 19 (.mv (.tmp 105))])
  (.seq (.reg [.p none 106 (.mv (.tmp 10)),
      .l none (some 107) (.call 19 [(.tmp 106)]),
      .p none 20 (.mv (.tmp 107))])
  (.seq (.seq (.reg [.p none 21 (.mv (.const (.int .i64 0)))])
  (.block 0
    (.loop
      (.seq (.seq (.reg [.p none 108 (.mv (.tmp 21)),
          .p none 109 (.mv (.tmp 14)),
          .p none 110 (.len (.tmp 109)),
          .p none 111 (.bin .lss .i64 (.tmp 108) (.tmp 110))])
      (.cond (.tmp 111)
        .skip
        (.exit 0)))
      (.seq (.block 1
        (.reg [.p none 114 (.mv (.tmp 14)),
            .p none 115 (.mv (.tmp 21)),
            .p none 116 (.bld [(.slice none 0 0), (.int .i64 0), (.int .i64 0)] [(1, 1, (.const (.int .i64 (-1))))]),
            .p none 117 (.idx 3 (.tmp 114) (.tmp 115)),
            .l none none (.st 3 (.tmp 117) (.tmp 116))]))
      (.reg [.p none 112 (.mv (.tmp 21)),
          .p none 113 (.bin .add .i64 (.tmp 112) (.const (.int .i64 1))),
          .p none 21 (.mv (.tmp 113))]))))))
  (.seq (.seq (.reg [.p none 22 (.mv (.const (.int .i64 0)))])
  (.block 2
    (.loop
      (.seq (.seq (.reg [.p none 118 (.mv (.tmp 22)),
          .p none 119 (.bin .lss .i64 (.tmp 118) (.const (.int .i64 64)))])
      (.cond (.tmp 119)
        .skip
        (.exit 2)))
      (.seq (.block 3
        (.reg [.p none 122 (.mv (.tmp 14)),
            .p none 123 (.bld [(.slice none 0 0), (.int .i64 0), (.int .i64 0)] [(1, 1, (.const (.int .i64 (-2))))]),
            .l none (some 124) (.bs 31 1 3 [(.slice none 0 0), (.int .i64 0), (.int .i64 0)] [(0, 3, (.tmp 123))]),
            .l none (some 125) (.app 31 40 3 [(.slice none 0 0), (.int .i64 0), (.int .i64 0)] (.tmp 122) (.tmp 124)),
            .p none 14 (.mv (.tmp 125))]))
      (.reg [.p none 120 (.mv (.tmp 22)),
          .p none 121 (.bin .add .i64 (.tmp 120) (.const (.int .i64 1))),
          .p none 22 (.mv (.tmp 121))]))))))
  (.seq (.reg [.p none 127 (.mv (.tmp 9)),
      .p none 128 (.mv (.tmp 1)),
      .l none (some 129) (.call 28 [(.tmp 127), (.tmp 128)]),
      .p none 126 (.mv (.tmp 129)),
      .p none 130 (.ext 0 (.tmp 126)),
      .p none 131 (.ext 1 (.tmp 126)),
      .p none 23 (.mv (.tmp 130)),
      .p none 24 (.mv (.tmp 131))])
  (.seq (.reg [.p none 132 (.mv (.tmp 18)),
      .p none 133 (.mv (.tmp 132)),
      .split 133,
      .p (some (133, true)) 134 (.mv (.tmp 19)),
      .p (some (133, true)) 135 (.bin .geq .i64 (.tmp 134) (.const (.int .i64 0))),
      .p none 136 (.pick (.tmp 133) (.tmp 135) (.const (.bool false))),
      .p none 137 (.mv (.tmp 136)),
      .split 137,
      .p (some (137, true)) 138 (.mv (.tmp 20)),
      .p (some (137, true)) 139 (.mv (.tmp 5)),
      .p (some (137, true)) 140 (.len (.tmp 139)),
      .p (some (137, true)) 141 (.bin .add .i64 (.tmp 140) (.const (.int .i64 64))),
      .p (some (137, true)) 142 (.bin .eql .i64 (.tmp 138) (.tmp 141)),
      .p none 143 (.pick (.tmp 137) (.tmp 142) (.const (.bool false))),
      .p none 144 (.mv (.tmp 143)),
      .split 144,
      .p (some (144, true)) 145 (.mv (.tmp 14)),
      .p (some (144, true)) 146 (.len (.tmp 145)),
      .p (some (144, true)) 147 (.mv (.tmp 7)),
      .p (some (144, true)) 148 (.len (.tmp 147)),
      .p (some (144, true)) 149 (.bin .add .i64 (.tmp 148) (.const (.int .i64 64))),
      .p (some (144, true)) 150 (.bin .eql .i64 (.tmp 146) (.tmp 149)),
      .p none 151 (.pick (.tmp 144) (.tmp 150) (.const (.bool false))),
      .p none 152 (.mv (.tmp 151)),
      .split 152,
      .p (some (152, true)) 153 (.mv (.tmp 16)),
      .p (some (152, true)) 154 (.mv (.tmp 7)),
      .l (some (152, true)) (some 155) (.call 20 [(.tmp 153), (.tmp 154)]),
      .p none 156 (.pick (.tmp 152) (.tmp 155) (.const (.bool false))),
      .p none 157 (.mv (.tmp 156)),
      .split 157,
      .p (some (157, true)) 158 (.mv (.tmp 9)),
      .p (some (157, true)) 159 (.mv (.tmp 0)),
      .l (some (157, true)) (some 160) (.call 21 [(.tmp 158), (.tmp 159)]),
      .p none 161 (.pick (.tmp 157) (.tmp 160) (.const (.bool false))),
      .p none 162 (.mv (.tmp 161)),
      .split 162,
      .p (some (162, true)) 163 (.mv (.tmp 23)),
      .p (some (162, true)) 164 (.mv (.tmp 5)),
      .l (some (162, true)) (some 165) (.call 18 [(.tmp 163), (.tmp 164)]),
      .p none 166 (.pick (.tmp 162) (.tmp 165) (.const (.bool false))),
      .p none 167 (.mv (.tmp 166)),
      .split 167,
      .p (some (167, true)) 168 (.mv (.tmp 12)),
      .p (some (167, true)) 169 (.mv (.tmp 5)),
      .l (some (167, true)) (some 170) (.call 18 [(.tmp 168), (.tmp 169)]),
      .p none 171 (.pick (.tmp 167) (.tmp 170) (.const (.bool false))),
      .p none 18 (.mv (.tmp 171))])
  (.seq (.reg [.p none 172 (.mv (.tmp 9)),
      .p none 173 (.mv (.tmp 1)),
      .l none (some 174) (.call 29 [(.tmp 172), (.tmp 173)])])
  (.seq (.reg [.p none 175 (.mv (.tmp 9)),
      .p none 176 (.mv (.tmp 1)),
      .l none (some 177) (.call 28 [(.tmp 175), (.tmp 176)])])
  (.seq (.reg [.p none 178 (.mv (.tmp 9)),
      .l none (some 179) (.call 25 [(.tmp 178)]),
      .p none 25 (.mv (.tmp 179))])
  (.seq (.reg [.p none 181 (.mv (.tmp 25)),
      .p none 182 (.mv (.tmp 1)),
      .l none (some 183) (.call 26 [(.tmp 181), (.tmp 182)]),
      .p none 180 (.mv (.tmp 183)),
      .p none 184 (.ext 0 (.tmp 180)),
      .p none 185 (.ext 1 (.tmp 180)),
      .p none 26 (.mv (.tmp 184)),
      .p none 27 (.mv (.tmp 185))])
  (.seq (.reg [.p none 187 (.mv (.tmp 25)),
      .p none 188 (.mv (.tmp 1)),
      .l none (some 189) (.call 27 [(.tmp 187), (.tmp 188)]),
      .p none 186 (.mv (.tmp 189)),
      .p none 190 (.ext 0 (.tmp 186)),
      .p none 191 (.ext 1 (.tmp 186)),
      .p none 28 (.mv (.tmp 190)),
      .p none 29 (.mv (.tmp 191))])
  (.seq (.reg [.p none 193 (.mv (.tmp 9)),
      .p none 194 (.mv (.tmp 1)),
      .l none (some 195) (.call 28 [(.tmp 193), (.tmp 194)]),
      .p none 192 (.mv (.tmp 195)),
      .p none 196 (.ext 0 (.tmp 192)),
      .p none 197 (.ext 1 (.tmp 192)),
      .p none 30 (.mv (.tmp 196)),
      .p none 31 (.mv (.tmp 197))])
  (.seq (.reg [.p none 199 (.mv (.tmp 9)),
      .p none 200 (.mv (.tmp 1)),
      .l none (some 201) (.call 29 [(.tmp 199), (.tmp 200)]),
      .p none 198 (.mv (.tmp 201)),
      .p none 202 (.ext 0 (.tmp 198)),
      .p none 203 (.ext 1 (.tmp 198)),
      .p none 32 (.mv (.tmp 202)),
      .p none 33 (.mv (.tmp 203))])
  (.seq (.reg [.p none 204 (.mv (.tmp 18)),
      .p none 205 (.mv (.tmp 204)),
      .split 205,
      .p (some (205, true)) 206 (.mv (.tmp 31)),
      .p (some (205, true)) 207 (.mv (.tmp 27)),
      .p (some (205, true)) 208 (.bin .eql .i64 (.tmp 206) (.tmp 207)),
      .p none 209 (.pick (.tmp 205) (.tmp 208) (.const (.bool false))),
      .p none 210 (.mv (.tmp 209)),
      .split 210,
      .p (some (210, true)) 211 (.mv (.tmp 33)),
      .p (some (210, true)) 212 (.mv (.tmp 29)),
      .p (some (210, true)) 213 (.bin .eql .i64 (.tmp 211) (.tmp 212)),
      .p none 214 (.pick (.tmp 210) (.tmp 213) (.const (.bool false))),
      .p none 215 (.mv (.tmp 214)),
      .split 215,
      .p (some (215, true)) 216 (.mv (.tmp 30)),
      .p (some (215, true)) 217 (.mv (.tmp 26)),
      .l (some (215, true)) (some 218) (.call 18 [(.tmp 216), (.tmp 217)]),
      .p none 219 (.pick (.tmp 215) (.tmp 218) (.const (.bool false))),
      .p none 220 (.mv (.tmp 219)),
      .split 220,
      .p (some (220, true)) 221 (.mv (.tmp 32)),
      .p (some (220, true)) 222 (.mv (.tmp 28)),
      .l (some (220, true)) (some 223) (.call 20 [(.tmp 221), (.tmp 222)]),
      .p none 224 (.pick (.tmp 220) (.tmp 223) (.const (.bool false))),
      .p none 4 (.mv (.tmp 224))])
  .ret)))))))))))))))))))))))))
theorem C6 : compile Try.prog 225 (Try.f6.body.getD .skip) = some M6 := by kernel_rfl

/-- winnowlaw3.turned -/
def M25 : MC :=
  (.seq (.reg [.p none 2 (.mv (.const (.slice none 0 0)))])
  (.seq (.seq (.reg [.p none 3 (.mv (.const (.int .i64 0)))])
  (.block 0
    (.loop
      (.seq (.seq (.reg [.p none 6 (.mv (.tmp 3)),
          .p none 7 (.mv (.tmp 0)),
          .p none 8 (.len (.tmp 7)),
          .p none 9 (.div .quo .i64 (.tmp 8) (.const (.int .i64 2))),
          .p none 10 (.bin .lss .i64 (.tmp 6) (.tmp 9))])
      (.cond (.tmp 10)
        .skip
        (.exit 0)))
      (.seq (.block 1
        (.seq (.reg [.p none 13 (.mv (.tmp 0)),
            .p none 14 (.mv (.tmp 3)),
            .p none 15 (.idx 1 (.tmp 13) (.tmp 14)),
            .l none (some 16) (.ld none (.tmp 15)),
            .p none 4 (.mv (.tmp 16))])
        (.seq (.reg [.p none 17 (.mv (.tmp 0)),
            .p none 18 (.mv (.tmp 3)),
            .p none 19 (.mv (.tmp 0)),
            .p none 20 (.mv (.tmp 0)),
            .p none 21 (.len (.tmp 20)),
            .p none 22 (.bin .sub .i64 (.tmp 21) (.const (.int .i64 1))),
            .p none 23 (.mv (.tmp 3)),
            .p none 24 (.bin .sub .i64 (.tmp 22) (.tmp 23)),
            .p none 25 (.idx 1 (.tmp 19) (.tmp 24)),
            .l none (some 26) (.ld none (.tmp 25)),
            .p none 27 (.idx 1 (.tmp 17) (.tmp 18)),
            .l none none (.st 1 (.tmp 27) (.tmp 26))])
        (.reg [.p none 28 (.mv (.tmp 0)),
            .p none 29 (.mv (.tmp 0)),
            .p none 30 (.len (.tmp 29)),
            .p none 31 (.bin .sub .i64 (.tmp 30) (.const (.int .i64 1))),
            .p none 32 (.mv (.tmp 3)),
            .p none 33 (.bin .sub .i64 (.tmp 31) (.tmp 32)),
            .p none 34 (.mv (.tmp 4)),
            .p none 35 (.idx 1 (.tmp 28) (.tmp 33)),
            .l none none (.st 1 (.tmp 35) (.tmp 34))]))))
      (.reg [.p none 11 (.mv (.tmp 3)),
          .p none 12 (.bin .add .i64 (.tmp 11) (.const (.int .i64 1))),
          .p none 3 (.mv (.tmp 12))]))))))
  (.seq (.seq (.reg [.p none 5 (.mv (.const (.int .i64 0)))])
  (.block 2
    (.loop
      (.seq (.seq (.reg [.p none 36 (.mv (.tmp 5)),
          .p none 37 (.mv (.tmp 0)),
          .p none 38 (.len (.tmp 37)),
          .p none 39 (.bin .lss .i64 (.tmp 36) (.tmp 38))])
      (.cond (.tmp 39)
        .skip
        (.exit 2)))
      (.seq (.block 3
        (.reg [.p none 42 (.mv (.tmp 0)),
            .p none 43 (.mv (.tmp 5)),
            .p none 44 (.mv (.tmp 0)),
            .p none 45 (.mv (.tmp 5)),
            .p none 46 (.idx 1 (.tmp 44) (.tmp 45)),
            .l none (some 47) (.ld none (.tmp 46)),
            .p none 48 (.bin .xor .u8 (.tmp 47) (.const (.int .u8 1))),
            .p none 49 (.idx 1 (.tmp 42) (.tmp 43)),
            .l none none (.st 1 (.tmp 49) (.tmp 48))]))
      (.reg [.p none 40 (.mv (.tmp 5)),
          .p none 41 (.bin .add .i64 (.tmp 40) (.const (.int .i64 1))),
          .p none 5 (.mv (.tmp 41))]))))))
  (.seq (.reg [.l none (some 50) (.bs 5 0 1 [] []),
      .p none 51 (.mv (.tmp 0)),
      .l none (some 52) (.app 5 1 1 [(.int .u8 0)] (.tmp 50) (.tmp 51)),
      .p none 2 (.mv (.tmp 52))])
  .ret))))
theorem C25 : compile Try.prog 53 (Try.f25.body.getD .skip) = some M25 := by kernel_rfl

/-- winnowref3.Decode -/
def M26 : MC :=
  (.seq (.reg [.p none 4 (.mv (.const (.slice none 0 0))),
      .p none 5 (.mv (.const (.int .i64 0)))])
  (.seq (.reg [.p none 9 (.mv (.tmp 0)),
      .p none 10 (.mv (.tmp 1)),
      .l none (some 11) (.call 27 [(.tmp 9), (.tmp 10)]),
      .p none 8 (.mv (.tmp 11)),
      .p none 12 (.ext 0 (.tmp 8)),
      .p none 13 (.ext 1 (.tmp 8)),
      .p none 6 (.mv (.tmp 12)),
      .p none 7 (.mv (.tmp 13))])
  (.seq (.seq (.reg [.p none 14 (.mv (.tmp 7)),
      .p none 15 (.bin .neq .i64 (.tmp 14) (.const (.int .i64 0)))])
  (.cond (.tmp 15)
    (.seq (.reg [.p none 16 (.mv (.tmp 7)),
        .p none 4 (.mv (.const (.slice none 0 0))),
        .p none 5 (.mv (.tmp 16))])
    .ret)
    .skip))
  (.seq (.reg [.p none 17 (.mv (.tmp 6)),
      .l none (some 18) (.call 13 [(.tmp 17)]),
      .p none 19 (.ext 0 (.tmp 18)),
      .p none 20 (.ext 1 (.tmp 18)),
      .p none 4 (.mv (.tmp 19)),
      .p none 5 (.mv (.tmp 20))])
  .ret))))
theorem C26 : compile Try.prog 21 (Try.f26.body.getD .skip) = some M26 := by kernel_rfl

/-- winnowref3.Tokens -/
def M27 : MC :=
  (.seq (.reg [.p none 4 (.mv (.const (.slice none 0 0))),
      .p none 5 (.mv (.const (.int .i64 0)))])
  (.seq (.seq (.reg [.p none 17 (.mv (.tmp 1)),
      .p none 18 (.bin .lss .i64 (.tmp 17) (.const (.int .i64 0))),
      .p none 19 (.mv (.tmp 18)),
      .split 19,
      .p (some (19, false)) 20 (.mv (.tmp 1)),
      .p (some (19, false)) 21 (.bin .gtr .i64 (.tmp 20) (.const (.int .i64 65536))),
      .p none 22 (.pick (.tmp 19) (.const (.bool true)) (.tmp 21))])
  (.cond (.tmp 22)
    (.seq (.reg [.p none 4 (.mv (.const (.slice none 0 0))),
        .p none 5 (.mv (.const (.int .i64 3)))])
    .ret)
    .skip))
  (.seq (.reg [.p none 6 (.mv (.const (.slice none 0 0)))])
  (.seq (.reg [.p none 7 (.mv (.const (.int .i64 0)))])
  (.seq (.reg [.p none 8 (.mv (.const (.int .i64 0)))])
  (.seq (.block 0
    (.loop
      (.seq (.seq (.reg [.p none 23 (.mv (.tmp 8)),
          .p none 24 (.mv (.tmp 1)),
          .p none 25 (.bin .lss .i64 (.tmp 23) (.tmp 24))])
      (.cond (.tmp 25)
        .skip
        (.exit 0)))
      (.block 1
        (.seq (.reg [.l none (some 9) (.al 31 [(.slice none 0 0), (.int .i64 0), (.int .i64 0)])])
        (.seq (.reg [.p none 27 (.mv (.tmp 0)),
            .p none 28 (.mv (.tmp 7)),
            .l none (some 29) (.call 41 [(.tmp 27), (.tmp 28)]),
            .p none 26 (.mv (.tmp 29)),
            .p none 30 (.ext 0 (.tmp 26)),
            .p none 31 (.ext 1 (.tmp 26)),
            .p none 10 (.mv (.tmp 30)),
            .p none 11 (.mv (.tmp 31))])
        (.seq (.seq (.reg [.p none 32 (.mv (.tmp 10)),
            .p none 33 (.bin .lss .i64 (.tmp 32) (.const (.int .i64 0))),
            .p none 34 (.mv (.tmp 33)),
            .split 34,
            .p (some (34, false)) 35 (.mv (.tmp 10)),
            .p (some (34, false)) 36 (.mv (.tmp 0)),
            .p (some (34, false)) 37 (.len (.tmp 36)),
            .p (some (34, false)) 38 (.mv (.tmp 11)),
            .p (some (34, false)) 39 (.bin .sub .i64 (.tmp 37) (.tmp 38)),
            .p (some (34, false)) 40 (.bin .gtr .i64 (.tmp 35) (.tmp 39)),
            .p none 41 (.pick (.tmp 34) (.const (.bool true)) (.tmp 40)),
            .p none 42 (.mv (.tmp 41)),
            .split 42,
            .p (some (42, false)) 43 (.mv (.tmp 8)),
            .p (some (42, false)) 44 (.mv (.tmp 10)),
            .p (some (42, false)) 45 (.bin .add .i64 (.tmp 43) (.tmp 44)),
            .p (some (42, false)) 46 (.mv (.tmp 1)),
            .p (some (42, false)) 47 (.bin .gtr .i64 (.tmp 45) (.tmp 46)),
            .p none 48 (.pick (.tmp 42) (.const (.bool true)) (.tmp 47))])
        (.cond (.tmp 48)
          (.seq (.reg [.p none 4 (.mv (.const (.slice none 0 0))),
              .p none 5 (.mv (.const (.int .i64 30)))])
          .ret)
          .skip))
        (.seq (.reg [.l none (some 49) (.bs 5 0 1 [] []),
            .p none 50 (.mv (.tmp 0)),
            .p none 51 (.mv (.tmp 11)),
            .p none 52 (.mv (.tmp 11)),
            .p none 53 (.mv (.tmp 10)),
            .p none 54 (.bin .add .i64 (.tmp 52) (.tmp 53)),
            .p none 55 (.slc 1 (.tmp 50) (some (.tmp 51)) (some (.tmp 54)) none),
            .l none (some 56) (.app 5 1 1 [(.int .u8 0)] (.tmp 49) (.tmp 55)),
            .p none 57 (.fa 0 (.tmp 9)),
            .l none none (.st 1 (.tmp 57) (.tmp 56))])
        (.seq (.reg [.p none 58 (.mv (.tmp 11)),
            .p none 59 (.mv (.tmp 10)),
            .p none 60 (.bin .add .i64 (.tmp 58) (.tmp 59)),
            .p none 7 (.mv (.tmp 60))])
        (.seq (.reg [.p none 61 (.mv (.tmp 8)),
            .p none 62 (.mv (.tmp 10)),
            .p none 63 (.bin .add .i64 (.tmp 61) (.tmp 62)),
            .p none 8 (.mv (.tmp 63))])
        (.seq (.seq (.reg [.p none 64 (.mv (.tmp 8)),
            .p none 65 (.mv (.tmp 1)),
            .p none 66 (.bin .lss .i64 (.tmp 64) (.tmp 65))])
        (.cond (.tmp 66)
          (.seq (.reg [.p none 68 (.mv (.tmp 0)),
              .p none 69 (.mv (.tmp 7)),
              .l none (some 70) (.call 41 [(.tmp 68), (.tmp 69)]),
              .p none 67 (.mv (.tmp 70)),
              .p none 71 (.ext 0 (.tmp 67)),
              .p none 72 (.ext 1 (.tmp 67)),
              .p none 12 (.mv (.tmp 71)),
              .p none 13 (.mv (.tmp 72))])
          (.seq (.seq (.reg [.p none 73 (.mv (.tmp 12)),
              .p none 74 (.bin .lss .i64 (.tmp 73) (.const (.int .i64 0)))])
          (.cond (.tmp 74)
            (.seq (.reg [.p none 4 (.mv (.const (.slice none 0 0))),
                .p none 5 (.mv (.const (.int .i64 30)))])
            .ret)
            .skip))
          (.seq (.reg [.p none 76 (.mv (.tmp 0)),
              .p none 77 (.mv (.tmp 13)),
              .l none (some 78) (.call 41 [(.tmp 76), (.tmp 77)]),
              .p none 75 (.mv (.tmp 78)),
              .p none 79 (.ext 0 (.tmp 75)),
              .p none 80 (.ext 1 (.tmp 75)),
              .p none 14 (.mv (.tmp 79)),
              .p none 15 (.mv (.tmp 80))])
          (.seq (.seq (.reg [.p none 81 (.mv (.tmp 14)),
              .p none 82 (.bin .lss .i64 (.tmp 81) (.const (.int .i64 0))),
              .p none 83 (.mv (.tmp 82)),
              .split 83,
              .p (some (83, false)) 84 (.mv (.tmp 8)),
              .p (some (83, false)) 85 (.mv (.tmp 12)),
              .p (some (83, false)) 86 (.bin .add .i64 (.tmp 84) (.tmp 85)),
              .p (some (83, false)) 87 (.bin .add .i64 (.tmp 86) (.const (.int .i64 4))),
              .p (some (83, false)) 88 (.mv (.tmp 1)),
              .p (some (83, false)) 89 (.bin .gtr .i64 (.tmp 87) (.tmp 88)),
              .p none 90 (.pick (.tmp 83) (.const (.bool true)) (.tmp 89))])
          (.cond (.tmp 90)
            (.seq (.reg [.p none 4 (.mv (.const (.slice none 0 0))),
                .p none 5 (.mv (.const (.int .i64 30)))])
            .ret)
            .skip))
          (.seq (.reg [.p none 91 (.mv (.tmp 12)),
              .p none 92 (.bin .add .i64 (.tmp 91) (.const (.int .i64 4))),
              .p none 93 (.fa 2 (.tmp 9)),
              .l none none (.st 1 (.tmp 93) (.tmp 92))])
          (.seq (.reg [.p none 94 (.mv (.tmp 14)),
              .p none 95 (.fa 1 (.tmp 9)),
              .l none none (.st 1 (.tmp 95) (.tmp 94))])
          (.seq (.reg [.p none 96 (.mv (.tmp 15)),
              .p none 7 (.mv (.tmp 96))])
          (.reg [.p none 97 (.mv (.tmp 8)),
              .p none 98 (.fa 2 (.tmp 9)),
              .l none (some 99) (.ld none (.tmp 98)),
              .p none 100 (.bin .add .i64 (.tmp 97) (.tmp 99)),
              .p none 8 (.mv (.tmp 100))]))))))))
          .skip))
        (.seq (.reg [.l none (some 101) (.ld (some 3) (.tmp 9)),
            .p none 102 (.mv (.tmp 8)),
            .p none 103 (.mv (.tmp 10)),
            .p none 104 (.bin .sub .i64 (.tmp 102) (.tmp 103)),
            .p none 105 (.fa 2 (.tmp 9)),
            .l none (some 106) (.ld none (.tmp 105)),
            .p none 107 (.bin .sub .i64 (.tmp 104) (.tmp 106)),
            .p none 108 (.mv (.tmp 8)),
            .p none 109 (.mv (.tmp 1)),
            .p none 110 (.bin .eql .i64 (.tmp 108) (.tmp 109)),
            .l none (some 111) (.call 32 [(.tmp 101), (.tmp 107), (.tmp 110)]),
            .p none 16 (.mv (.tmp 111))])
        (.seq (.seq (.reg [.p none 112 (.mv (.tmp 16)),
            .p none 113 (.not (.tmp 112))])
        (.cond (.tmp 113)
          (.seq (.reg [.p none 4 (.mv (.const (.slice none 0 0))),
              .p none 5 (.mv (.const (.int .i64 30)))])
          .ret)
          .skip))
        (.reg [.p none 114 (.mv (.tmp 6)),
            .l none (some 115) (.ld (some 3) (.tmp 9)),
            .l none (some 116) (.bs 31 1 3 [(.slice none 0 0), (.int .i64 0), (.int .i64 0)] [(0, 3, (.tmp 115))]),
            .l none (some 117) (.app 31 40 3 [(.slice none 0 0), (.int .i64 0), (.int .i64 0)] (.tmp 114) (.tmp 116)),
            .p none 6 (.mv (.tmp 117))]))))))))))))))
  (.seq (.seq (.reg [.p none 118 (.mv (.tmp 7)),
      .p none 119 (.mv (.tmp 0)),
      .p none 120 (.len (.tmp 119)),
      .p none 121 (.bin .neq .i64 (.tmp 118) (.tmp 120))])
  (.cond (.tmp 121)
    (.seq (.reg [.p none 4 (.mv (.const (.slice none 0 0))),
        .p none 5 (.mv (.const (.int .i64 30)))])
    .ret)
    .skip))
  (.seq (.reg [.p none 122 (.mv (.tmp 6)),
      .p none 4 (.mv (.tmp 122)),
      .p none 5 (.mv (.const (.int .i64 0)))])
  .ret))))))))
theorem C27 : compile Try.prog 123 (Try.f27.body.getD .skip) = some M27 := by kernel_rfl

/-- lz.Decode -/
def M28 : MC :=
  (.seq (.reg [.p none 4 (.mv (.const (.slice none 0 0))),
      .p none 5 (.mv (.const (.int .i64 0)))])
  (.seq (.seq (.reg [.p none 7 (.mv (.tmp 1)),
      .p none 8 (.bin .lss .i64 (.tmp 7) (.const (.int .i64 0))),
      .p none 9 (.mv (.tmp 8)),
      .split 9,
      .p (some (9, false)) 10 (.mv (.tmp 1)),
      .p (some (9, false)) 11 (.bin .gtr .i64 (.tmp 10) (.const (.int .i64 65536))),
      .p none 12 (.pick (.tmp 9) (.const (.bool true)) (.tmp 11))])
  (.cond (.tmp 12)
    (.seq (.reg [.p none 4 (.mv (.const (.slice none 0 0))),
        .p none 5 (.mv (.const (.int .i64 3)))])
    .ret)
    .skip))
  (.seq (.reg [.l none (some 6) (.al 25 [(.slice none 0 0)])])
  (.seq (.seq (.reg [.p none 13 (.mv (.tmp 0)),
      .p none 14 (.mv (.tmp 1)),
      .p none 15 (.mkf (.func 43) [] [(.tmp 6)]),
      .l none (some 16) (.call 42 [(.tmp 13), (.tmp 14), (.tmp 15)]),
      .p none 17 (.not (.tmp 16))])
  (.cond (.tmp 17)
    (.seq (.reg [.p none 4 (.mv (.const (.slice none 0 0))),
        .p none 5 (.mv (.const (.int .i64 30)))])
    .ret)
    .skip))
  (.seq (.reg [.l none (some 18) (.ld none (.tmp 6)),
      .p none 4 (.mv (.tmp 18)),
      .p none 5 (.mv (.const (.int .i64 0)))])
  .ret)))))
theorem C28 : compile Try.prog 19 (Try.f28.body.getD .skip) = some M28 := by kernel_rfl

/-- lz.Tokens -/
def M29 : MC :=
  (.seq (.reg [.p none 4 (.mv (.const (.slice none 0 0))),
      .p none 5 (.mv (.const (.int .i64 0)))])
  (.seq (.seq (.reg [.p none 7 (.mv (.tmp 1)),
      .p none 8 (.bin .lss .i64 (.tmp 7) (.const (.int .i64 0))),
      .p none 9 (.mv (.tmp 8)),
      .split 9,
      .p (some (9, false)) 10 (.mv (.tmp 1)),
      .p (some (9, false)) 11 (.bin .gtr .i64 (.tmp 10) (.const (.int .i64 65536))),
      .p none 12 (.pick (.tmp 9) (.const (.bool true)) (.tmp 11))])
  (.cond (.tmp 12)
    (.seq (.reg [.p none 4 (.mv (.const (.slice none 0 0))),
        .p none 5 (.mv (.const (.int .i64 3)))])
    .ret)
    .skip))
  (.seq (.reg [.l none (some 6) (.al 24 [(.slice none 0 0)])])
  (.seq (.seq (.reg [.p none 13 (.mv (.tmp 0)),
      .p none 14 (.mv (.tmp 1)),
      .p none 15 (.mkf (.func 44) [] [(.tmp 6)]),
      .l none (some 16) (.call 42 [(.tmp 13), (.tmp 14), (.tmp 15)]),
      .p none 17 (.not (.tmp 16))])
  (.cond (.tmp 17)
    (.seq (.reg [.p none 4 (.mv (.const (.slice none 0 0))),
        .p none 5 (.mv (.const (.int .i64 30)))])
    .ret)
    .skip))
  (.seq (.reg [.l none (some 18) (.ld none (.tmp 6)),
      .p none 4 (.mv (.tmp 18)),
      .p none 5 (.mv (.const (.int .i64 0)))])
  .ret)))))
theorem C29 : compile Try.prog 19 (Try.f29.body.getD .skip) = some M29 := by kernel_rfl

/-- winnowlaw3.spoilt -/
def M30 : MC :=
  (.seq (.reg [.p none 2 (.mv (.const (.int .i64 0)))])
  (.seq (.seq (.reg [.p none 3 (.mv (.const (.int .i64 0)))])
  (.block 0
    (.loop
      (.seq (.seq (.reg [.p none 11 (.mv (.tmp 3)),
          .p none 12 (.mv (.tmp 0)),
          .p none 13 (.len (.tmp 12)),
          .p none 14 (.bin .lss .i64 (.tmp 11) (.tmp 13))])
      (.cond (.tmp 14)
        .skip
        (.exit 0)))
      (.seq (.block 1
        (.seq (.reg [.p none 4 (.mv (.const (.int .i64 0)))])
        (.block 2
          (.loop
            (.seq (.seq (.reg [.p none 17 (.mv (.tmp 4)),
                .p none 18 (.mv (.tmp 0)),
                .p none 19 (.mv (.tmp 3)),
                .p none 20 (.idx 3 (.tmp 18) (.tmp 19)),
                .p none 21 (.fa 0 (.tmp 20)),
                .l none (some 22) (.ld none (.tmp 21)),
                .p none 23 (.len (.tmp 22)),
                .p none 24 (.bin .lss .i64 (.tmp 17) (.tmp 23))])
            (.cond (.tmp 24)
              .skip
              (.exit 2)))
            (.seq (.block 3
              (.reg [.p none 27 (.mv (.tmp 0)),
                  .p none 28 (.mv (.tmp 3)),
                  .p none 29 (.idx 3 (.tmp 27) (.tmp 28)),
                  .p none 30 (.fa 0 (.tmp 29)),
                  .l none (some 31) (.ld none (.tmp 30)),
                  .p none 32 (.mv (.tmp 4)),
                  .p none 33 (.mv (.tmp 3)),
                  .p none 34 (.div .rem .i64 (.tmp 33) (.const (.int .i64 251))),
                  .p none 35 (.conv .u8 (.tmp 34)),
                  .p none 36 (.idx 1 (.tmp 31) (.tmp 32)),
                  .l none none (.st 1 (.tmp 36) (.tmp 35))]))
            (.reg [.p none 25 (.mv (.tmp 4)),
                .p none 26 (.bin .add .i64 (.tmp 25) (.const (.int .i64 1))),
                .p none 4 (.mv (.tmp 26))])))))))
      (.reg [.p none 15 (.mv (.tmp 3)),
          .p none 16 (.bin .add .i64 (.tmp 15) (.const (.int .i64 1))),
          .p none 3 (.mv (.tmp 16))]))))))
  (.seq (.reg [.p none 5 (.mv (.const (.int .i64 0)))])
  (.seq (.seq (.reg [.p none 6 (.mv (.const (.int .i64 0)))])
  (.block 4
    (.loop
      (.seq (.seq (.reg [.p none 37 (.mv (.tmp 6)),
          .p none 38 (.mv (.tmp 0)),
          .p none 39 (.len (.tmp 38)),
          .p none 40 (.bin .lss .i64 (.tmp 37) (.tmp 39))])
      (.cond (.tmp 40)
        .skip
        (.exit 4)))
      (.seq (.block 5
        (.seq (.reg [.p none 43 (.mv (.tmp 0)),
            .p none 44 (.mv (.tmp 6)),
            .p none 45 (.idx 3 (.tmp 43) (.tmp 44)),
            .p none 46 (.fa 0 (.tmp 45)),
            .l none (some 47) (.ld none (.tmp 46)),
            .p none 7 (.mv (.tmp 47))])
        (.seq (.seq (.reg [.p none 8 (.mv (.const (.int .i64 0)))])
        (.block 6
          (.loop
            (.seq (.seq (.reg [.p none 48 (.mv (.tmp 8)),
                .p none 49 (.bin .lss .i64 (.tmp 48) (.const (.int .i64 64)))])
            (.cond (.tmp 49)
              .skip
              (.exit 6)))
            (.seq (.block 7
              (.reg [.p none 52 (.mv (.tmp 7)),
                  .l none (some 53) (.bs 5 1 1 [(.int .u8 0)] [(0, 1, (.const (.int .u8 255)))]),
                  .l none (some 54) (.app 5 1 1 [(.int .u8 0)] (.tmp 52) (.tmp 53)),
                  .p none 7 (.mv (.tmp 54))]))
            (.reg [.p none 50 (.mv (.tmp 8)),
                .p none 51 (.bin .add .i64 (.tmp 50) (.const (.int .i64 1))),
                .p none 8 (.mv (.tmp 51))]))))))
        (.reg [.p none 55 (.mv (.tmp 5)),
            .p none 56 (.mv (.tmp 7)),
            .p none 57 (.len (.tmp 56)),
            .p none 58 (.bin .add .i64 (.tmp 55) (.tmp 57)),
            .p none 5 (.mv (.tmp 58))]))))
      (.reg [.p none 41 (.mv (.tmp 6)),
          .p none 42 (.bin .add .i64 (.tmp 41) (.const (.int .i64 1))),
          .p none 6 (.mv (.tmp 42))]))))))
  (.seq (.seq (.reg [.p none 9 (.mv (.const (.int .i64 0)))])
  (.block 8
    (.loop
      (.seq (.seq (.reg [.p none 59 (.mv (.tmp 9)),
          .p none 60 (.mv (.tmp 0)),
          .p none 61 (.len (.tmp 60)),
          .p none 62 (.bin .lss .i64 (.tmp 59) (.tmp 61))])
      (.cond (.tmp 62)
        .skip
        (.exit 8)))
      (.seq (.block 9
        (.seq (.reg [.p none 10 (.mv (.const (.int .i64 0)))])
        (.block 10
          (.loop
            (.seq (.seq (.reg [.p none 65 (.mv (.tmp 10)),
                .p none 66 (.mv (.tmp 0)),
                .p none 67 (.mv (.tmp 9)),
                .p none 68 (.idx 3 (.tmp 66) (.tmp 67)),
                .p none 69 (.fa 0 (.tmp 68)),
                .l none (some 70) (.ld none (.tmp 69)),
                .p none 71 (.len (.tmp 70)),
                .p none 72 (.bin .lss .i64 (.tmp 65) (.tmp 71))])
            (.cond (.tmp 72)
              .skip
              (.exit 10)))
            (.seq (.block 11
              (.seq (.reg [.p none 75 (.mv (.tmp 0)),
                  .p none 76 (.mv (.tmp 9)),
                  .p none 77 (.idx 3 (.tmp 75) (.tmp 76)),
                  .p none 78 (.fa 0 (.tmp 77)),
                  .l none (some 79) (.ld none (.tmp 78)),
                  .p none 80 (.mv (.tmp 10)),
                  .p none 81 (.idx 1 (.tmp 79) (.tmp 80)),
                  .l none (some 82) (.ld none (.tmp 81)),
                  .p none 83 (.mv (.tmp 9)),
                  .p none 84 (.div .rem .i64 (.tmp 83) (.const (.int .i64 251))),
                  .p none 85 (.conv .u8 (.tmp 84)),
                  .p none 86 (.bin .neq .u8 (.tmp 82) (.tmp 85))])
              (.cond (.tmp 86)
                (.seq (.reg [.p none 2 (.mv (.const (.int .i64 (-1))))])
                .ret)
                .skip)))
            (.reg [.p none 73 (.mv (.tmp 10)),
                .p none 74 (.bin .add .i64 (.tmp 73) (.const (.int .i64 1))),
                .p none 10 (.mv (.tmp 74))])))))))
      (.reg [.p none 63 (.mv (.tmp 9)),
          .p none 64 (.bin .add .i64 (.tmp 63) (.const (.int .i64 1))),
          .p none 9 (.mv (.tmp 64))]))))))
  (.seq (.reg [.p none 87 (.mv (.tmp 5)),
      .p none 2 (.mv (.tmp 87))])
  .ret))))))
theorem C30 : compile Try.prog 88 (Try.f30.body.getD .skip) = some M30 := by kernel_rfl

/-- winnowref3.number -/
def M41 : MC :=
  (.seq (.reg [.p none 4 (.mv (.const (.int .i64 0))),
      .p none 5 (.mv (.const (.int .i64 0)))])
  (.seq (.reg [.p none 10 (.mv (.tmp 0)),
      .p none 11 (.mv (.tmp 1)),
      .p none 12 (.slc 1 (.tmp 10) (some (.tmp 11)) none none),
      .l none (some 13) (.call 51 [(.tmp 12)]),
      .p none 9 (.mv (.tmp 13)),
      .p none 14 (.ext 0 (.tmp 9)),
      .p none 15 (.ext 1 (.tmp 9)),
      .p none 16 (.ext 2 (.tmp 9)),
      .p none 6 (.mv (.tmp 14)),
      .p none 7 (.mv (.tmp 15)),
      .p none 8 (.mv (.tmp 16))])
  (.seq (.seq (.reg [.p none 17 (.mv (.tmp 8)),
      .p none 18 (.bin .neq .i64 (.tmp 17) (.const (.int .i64 0))),
      .p none 19 (.mv (.tmp 18)),
      .split 19,
      .p (some (19, false)) 20 (.mv (.tmp 6)),
      .p (some (19, false)) 21 (.bin .gtr .i64 (.tmp 20) (.const (.int .i64 65536))),
      .p none 22 (.pick (.tmp 19) (.const (.bool true)) (.tmp 21))])
  (.cond (.tmp 22)
    (.seq (.reg [.p none 23 (.mv (.tmp 1)),
        .p none 4 (.mv (.const (.int .i64 (-1)))),
        .p none 5 (.mv (.tmp 23))])
    .ret)
    .skip))
  (.seq (.reg [.p none 24 (.mv (.tmp 6)),
      .p none 25 (.mv (.tmp 1)),
      .p none 26 (.mv (.tmp 7)),
      .p none 27 (.bin .add .i64 (.tmp 25) (.tmp 26)),
      .p none 4 (.mv (.tmp 24)),
      .p none 5 (.mv (.tmp 27))])
  .ret))))
theorem C41 : compile Try.prog 28 (Try.f41.body.getD .skip) = some M41 := by kernel_rfl

/-- lz.read -/
def M42 : MC :=
  (.seq (.reg [.p none 6 (.mv (.const (.bool false)))])
  (.seq (.reg [.p none 13 (.mv (.tmp 0)),
      .l none (some 14) (.call 52 [(.tmp 13)]),
      .p none 7 (.mv (.tmp 14))])
  (.seq (.reg [.p none 8 (.mv (.const (.int .i64 0)))])
  (.seq (.block 0
    (.loop
      (.seq (.seq (.reg [.p none 15 (.mv (.tmp 7)),
          .l none (some 16) (.call 53 [(.tmp 15)]),
          .p none 17 (.bin .gtr .i64 (.tmp 16) (.const (.int .i64 0)))])
      (.cond (.tmp 17)
        .skip
        (.exit 0)))
      (.block 1
        (.seq (.reg [.p none 18 (.mv (.tmp 1)),
            .p none 19 (.mv (.tmp 8)),
            .p none 20 (.bin .sub .i64 (.tmp 18) (.tmp 19)),
            .p none 9 (.mv (.tmp 20))])
        (.seq (.reg [.p none 21 (.mv (.tmp 7)),
            .p none 22 (.mv (.tmp 9)),
            .l none (some 23) (.call 54 [(.tmp 21), (.tmp 22)]),
            .p none 10 (.mv (.tmp 23))])
        (.seq (.reg [.p none 24 (.mv (.tmp 7)),
            .p none 25 (.mv (.tmp 10)),
            .l none (some 26) (.call 55 [(.tmp 24), (.tmp 25)]),
            .p none 27 (.bld [(.slice none 0 0), (.int .i64 0), (.int .i64 0)] [(0, 1, (.tmp 26))]),
            .l none (some 11) (.al 31 [(.slice none 0 0), (.int .i64 0), (.int .i64 0)]),
            .l none none (.st 3 (.tmp 11) (.tmp 27))])
        (.seq (.reg [.p none 28 (.mv (.tmp 8)),
            .p none 29 (.fa 0 (.tmp 11)),
            .l none (some 30) (.ld none (.tmp 29)),
            .p none 31 (.len (.tmp 30)),
            .p none 32 (.bin .add .i64 (.tmp 28) (.tmp 31)),
            .p none 8 (.mv (.tmp 32))])
        (.seq (.seq (.reg [.p none 33 (.mv (.tmp 7)),
            .l none (some 34) (.call 53 [(.tmp 33)]),
            .p none 35 (.bin .gtr .i64 (.tmp 34) (.const (.int .i64 0)))])
        (.cond (.tmp 35)
          (.seq (.reg [.p none 36 (.mv (.tmp 7)),
              .l none (some 37) (.call 54 [(.tmp 36), (.const (.int .i64 255))]),
              .p none 38 (.bin .add .i64 (.tmp 37) (.const (.int .i64 4))),
              .p none 39 (.fa 2 (.tmp 11)),
              .l none none (.st 1 (.tmp 39) (.tmp 38))])
          (.reg [.p none 40 (.mv (.tmp 7)),
              .p none 41 (.mv (.tmp 8)),
              .p none 42 (.mm false .i64 (.const (.int .i64 32768)) [(.tmp 41)]),
              .l none (some 43) (.call 54 [(.tmp 40), (.tmp 42)]),
              .p none 44 (.fa 1 (.tmp 11)),
              .l none none (.st 1 (.tmp 44) (.tmp 43))]))
          .skip))
        (.seq (.seq (.reg [.p none 45 (.mv (.tmp 7)),
            .l none (some 46) (.call 56 [(.tmp 45)]),
            .l none (some 12) (.al 75 [(.int .i64 0), (.int .i64 0)]),
            .l none none (.st 2 (.tmp 12) (.tmp 46))])
        (.seq (.reg [.p none 47 (.fa 0 (.tmp 12)),
            .l none (some 48) (.ld none (.tmp 47)),
            .p none 49 (.bin .neq .i64 (.tmp 48) (.const (.int .i64 0))),
            .p none 50 (.mv (.tmp 49)),
            .split 50,
            .p (some (50, true)) 51 (.fa 0 (.tmp 12)),
            .l (some (50, true)) (some 52) (.ld none (.tmp 51)),
            .p (some (50, true)) 53 (.bin .neq .i64 (.tmp 52) (.const (.int .i64 22))),
            .p none 54 (.pick (.tmp 50) (.tmp 53) (.const (.bool false)))])
        (.cond (.tmp 54)
          (.seq (.reg [.p none 6 (.mv (.const (.bool false)))])
          .ret)
          .skip)))
        (.seq (.seq (.dreg (.line [.qp 1 none 56 (.mv (.tmp 8)),
            .qp 2 none 57 (.mv (.tmp 7)),
            .ql 0 none 55 (some 3) (.tmp 11),
            .l 3 none (some 58) (.call 53 [(.tmp 57)]),
            .qp 4 none 59 (.bin .eql .i64 (.tmp 58) (.const (.int .i64 0))),
            .l 5 none (some 60) (.call 34 [(.tmp 55), (.tmp 56), (.tmp 59)]),
            .qp 6 none 61 (.not (.tmp 60)),
            .qp 7 none 62 (.mv (.tmp 61)),
            .split 62,
            .qp 8 (some (62, false)) 63 (.mv (.tmp 8)),
            .qp 9 (some (62, false)) 64 (.fa 2 (.tmp 11)),
            .qp 12 (some (62, false)) 67 (.mv (.tmp 1)),
            .l 10 (some (62, false)) (some 65) (.ld none (.tmp 64)),
            .qp 11 (some (62, false)) 66 (.bin .add .i64 (.tmp 63) (.tmp 65)),
            .qp 13 (some (62, false)) 68 (.bin .gtr .i64 (.tmp 66) (.tmp 67)),
            .qp 14 none 69 (.pick (.tmp 62) (.const (.bool true)) (.tmp 68)),
            .qp 15 none 70 (.mv (.tmp 69)),
            .split 70,
            .l 16 (some (70, false)) (some 71) (.ld (some 3) (.tmp 11)),
            .l 17 (some (70, false)) (some 72) (.call 45 [(.tmp 71)]),
            .qp 18 (some (70, false)) 73 (.mv (.tmp 72)),
            .split 73,
            .qp 19 (some (73, true)) 74 (.mv (.tmp 8)),
            .qp 20 (some (73, true)) 75 (.mv (.tmp 1)),
            .qp 21 (some (73, true)) 76 (.bin .neq .i64 (.tmp 74) (.tmp 75)),
            .qp 22 (some (70, false)) 77 (.pick (.tmp 73) (.tmp 76) (.const (.bool false))),
            .qp 23 none 78 (.pick (.tmp 70) (.const (.bool true)) (.tmp 77))]))
        (.cond (.tmp 78)
          (.seq (.reg [.p none 6 (.mv (.const (.bool false)))])
          .ret)
          .skip))
        (.seq (.reg [.p none 79 (.mv (.tmp 8)),
            .p none 80 (.fa 2 (.tmp 11)),
            .l none (some 81) (.ld none (.tmp 80)),
            .p none 82 (.bin .add .i64 (.tmp 79) (.tmp 81)),
            .p none 8 (.mv (.tmp 82))])
        (.reg [.p none 83 (.mv (.tmp 2)),
            .l none (some 84) (.ld (some 3) (.tmp 11)),
            .l none (some 85) (.callv (.tmp 83) [(.tmp 84)])])))))))))))))
  (.seq (.reg [.p none 86 (.mv (.tmp 8)),
      .p none 87 (.mv (.tmp 1)),
      .p none 88 (.bin .eql .i64 (.tmp 86) (.tmp 87)),
      .p none 89 (.mv (.tmp 88)),
      .split 89,
      .p (some (89, true)) 90 (.mv (.tmp 7)),
      .l (some (89, true)) (some 91) (.call 56 [(.tmp 90)]),
      .p (some (89, true)) 92 (.fld 0 none (.tmp 91)),
      .p (some (89, true)) 93 (.bin .eql .i64 (.tmp 92) (.const (.int .i64 0))),
      .p none 94 (.pick (.tmp 89) (.tmp 93) (.const (.bool false))),
      .p none 6 (.mv (.tmp 94))])
  .ret)))))
theorem C42 : compile Try.prog 95 (Try.f42.body.getD .skip) = some M42 := by kernel_rfl

/-- lz.Decode$1 -/
def M43 : MC :=
  (.seq (.reg [.l none (some 2) (.bx 31 (.tmp 0))])
  (.dreg (.line [.qp 1 none 4 (.fa 0 (.tmp 2)),
      .qp 4 none 7 (.fa 1 (.tmp 2)),
      .qp 6 none 9 (.fa 2 (.tmp 2)),
      .ql 7 none 10 none (.tmp 9),
      .ql 5 none 8 none (.tmp 7),
      .ql 2 none 5 none (.tmp 4),
      .l 0 none (some 3) (.ld none (.tmp 1)),
      .l 3 none (some 6) (.app 5 1 1 [(.int .u8 0)] (.tmp 3) (.tmp 5)),
      .l 8 none (some 11) (.call 35 [(.tmp 6), (.tmp 8), (.tmp 10)]),
      .l 9 none none (.st 1 (.tmp 1) (.tmp 11))])))
theorem C43 : compile Try.prog 12 (Try.f43.body.getD .skip) = some M43 := by kernel_rfl

/-- lz.Tokens$1 -/
def M44 : MC :=
  (.seq (.reg [.l none (some 2) (.bx 31 (.tmp 0))])
  (.reg [.l none (some 3) (.ld none (.tmp 1)),
      .l none (some 4) (.ld (some 3) (.tmp 2)),
      .l none (some 5) (.bs 31 1 3 [(.slice none 0 0), (.int .i64 0), (.int .i64 0)] [(0, 3, (.tmp 4))]),
      .l none (some 6) (.app 31 40 3 [(.slice none 0 0), (.int .i64 0), (.int .i64 0)] (.tmp 3) (.tmp 5)),
      .l none none (.st 1 (.tmp 1) (.tmp 6))]))
theorem C44 : compile Try.prog 7 (Try.f44.body.getD .skip) = some M44 := by kernel_rfl

/-- winnowref2.Get -/
def M51 : MC :=
  (.seq (.reg [.p none 2 (.mv (.const (.int .i64 0))),
      .p none 3 (.mv (.const (.int .i64 0))),
      .p none 4 (.mv (.const (.int .i64 0)))])
  (.seq (.reg [.p none 5 (.mv (.const (.int .i64 0)))])
  (.seq (.reg [.p none 6 (.mv (.const (.int .i64 1)))])
  (.seq (.seq (.reg [.p none 7 (.mv (.const (.int .i64 0)))])
  (.block 0
    (.loop
      (.seq (.seq (.reg [.p none 9 (.mv (.tmp 7)),
          .p none 10 (.mv (.tmp 0)),
          .p none 11 (.len (.tmp 10)),
          .p none 12 (.bin .lss .i64 (.tmp 9) (.tmp 11))])
      (.cond (.tmp 12)
        .skip
        (.exit 0)))
      (.seq (.block 1
        (.seq (.reg [.p none 15 (.mv (.tmp 0)),
            .p none 16 (.mv (.tmp 7)),
            .p none 17 (.idx 1 (.tmp 15) (.tmp 16)),
            .l none (some 18) (.ld none (.tmp 17)),
            .p none 19 (.conv .i64 (.tmp 18)),
            .p none 20 (.div .rem .i64 (.tmp 19) (.const (.int .i64 128))),
            .p none 8 (.mv (.tmp 20))])
        (.seq (.reg [.p none 21 (.mv (.tmp 5)),
            .p none 22 (.mv (.tmp 8)),
            .p none 23 (.mv (.tmp 6)),
            .p none 24 (.bin .mul .i64 (.tmp 22) (.tmp 23)),
            .p none 25 (.bin .add .i64 (.tmp 21) (.tmp 24)),
            .p none 5 (.mv (.tmp 25))])
        (.seq (.seq (.reg [.p none 26 (.mv (.tmp 0)),
            .p none 27 (.mv (.tmp 7)),
            .p none 28 (.idx 1 (.tmp 26) (.tmp 27)),
            .l none (some 29) (.ld none (.tmp 28)),
            .p none 30 (.bin .lss .u8 (.tmp 29) (.const (.int .u8 128)))])
        (.cond (.tmp 30)
          (.seq (.seq (.reg [.p none 31 (.mv (.tmp 7)),
              .p none 32 (.bin .gtr .i64 (.tmp 31) (.const (.int .i64 0))),
              .p none 33 (.mv (.tmp 32)),
              .split 33,
              .p (some (33, true)) 34 (.mv (.tmp 0)),
              .p (some (33, true)) 35 (.mv (.tmp 7)),
              .p (some (33, true)) 36 (.idx 1 (.tmp 34) (.tmp 35)),
              .l (some (33, true)) (some 37) (.ld none (.tmp 36)),
              .p (some (33, true)) 38 (.bin .eql .u8 (.tmp 37) (.const (.int .u8 0))),
              .p none 39 (.pick (.tmp 33) (.tmp 38) (.const (.bool false)))])
          (.cond (.tmp 39)
            (.seq (.reg [.p none 2 (.mv (.const (.int .i64 0))),
                .p none 3 (.mv (.const (.int .i64 0))),
                .p none 4 (.mv (.const (.int .i64 21)))])
            .ret)
            .skip))
          (.seq (.reg [.p none 40 (.mv (.tmp 5)),
              .p none 41 (.mv (.tmp 7)),
              .p none 42 (.bin .add .i64 (.tmp 41) (.const (.int .i64 1))),
              .p none 2 (.mv (.tmp 40)),
              .p none 3 (.mv (.tmp 42)),
              .p none 4 (.mv (.const (.int .i64 0)))])
          .ret))
          .skip))
        (.seq (.seq (.reg [.p none 43 (.mv (.tmp 7)),
            .p none 44 (.bin .eql .i64 (.tmp 43) (.const (.int .i64 8)))])
        (.cond (.tmp 44)
          (.seq (.reg [.p none 2 (.mv (.const (.int .i64 0))),
              .p none 3 (.mv (.const (.int .i64 0))),
              .p none 4 (.mv (.const (.int .i64 21)))])
          .ret)
          .skip))
        (.reg [.p none 45 (.mv (.tmp 6)),
            .p none 46 (.bin .mul .i64 (.tmp 45) (.const (.int .i64 128))),
            .p none 6 (.mv (.tmp 46))]))))))
      (.reg [.p none 13 (.mv (.tmp 7)),
          .p none 14 (.bin .add .i64 (.tmp 13) (.const (.int .i64 1))),
          .p none 7 (.mv (.tmp 14))]))))))
  (.seq (.reg [.p none 2 (.mv (.const (.int .i64 0))),
      .p none 3 (.mv (.const (.int .i64 0))),
      .p none 4 (.mv (.const (.int .i64 20)))])
  .ret)))))
theorem C51 : compile Try.prog 47 (Try.f51.body.getD .skip) = some M51 := by kernel_rfl

/-- nums.NewCursor -/
def M52 : MC :=
  (.seq (.reg [.p none 2 (.mv (.const (.pointer none)))])
  (.seq (.reg [.p none 3 (.mv (.tmp 0)),
      .l none (some 4) (.app 5 1 1 [(.int .u8 0)] (.const (.slice none 0 0)) (.tmp 3)),
      .p none 5 (.bld [(.slice none 0 0), (.int .i64 0), (.int .i64 0)] [(0, 1, (.tmp 4))]),
      .l none (some 6) (.bx 80 (.tmp 5)),
      .p none 2 (.mv (.tmp 6))])
  .ret))
theorem C52 : compile Try.prog 7 (Try.f52.body.getD .skip) = some M52 := by kernel_rfl

/-- (*nums.Cursor).Rest -/
def M53 : MC :=
  (.seq (.reg [.p none 2 (.mv (.const (.int .i64 0)))])
  (.seq (.seq (.reg [.p none 3 (.mv (.tmp 0)),
      .p none 4 (.isnil false 0 (.tmp 3)),
      .p none 5 (.mv (.tmp 4)),
      .split 5,
      .p (some (5, false)) 6 (.mv (.tmp 0)),
      .p (some (5, false)) 7 (.nilchk (.tmp 6)),
      .p (some (5, false)) 8 (.fa 2 (.tmp 7)),
      .l (some (5, false)) (some 9) (.ld none (.tmp 8)),
      .p (some (5, false)) 10 (.bin .neq .i64 (.tmp 9) (.const (.int .i64 0))),
      .p none 11 (.pick (.tmp 5) (.const (.bool true)) (.tmp 10))])
  (.cond (.tmp 11)
    (.seq (.reg [.p none 2 (.mv (.const (.int .i64 0)))])
    .ret)
    .skip))
  (.seq (.dreg (.line [.qp 0 none 12 (.mv (.tmp 0)),
      .qp 1 none 13 (.nilchk (.tmp 12)),
      .qp 2 none 14 (.fa 0 (.tmp 13)),
      .qp 5 none 17 (.mv (.tmp 0)),
      .qp 6 none 18 (.nilchk (.tmp 17)),
      .qp 7 none 19 (.fa 1 (.tmp 18)),
      .ql 8 none 20 none (.tmp 19),
      .l 3 none (some 15) (.ld none (.tmp 14)),
      .qp 4 none 16 (.len (.tmp 15)),
      .qp 9 none 21 (.bin .sub .i64 (.tmp 16) (.tmp 20)),
      .qp 10 none 2 (.mv (.tmp 21))]))
  .ret)))
theorem C53 : compile Try.prog 22 (Try.f53.body.getD .skip) = some M53 := by kernel_rfl

/-- (*nums.Cursor).Num -/
def M54 : MC :=
  (.seq (.reg [.l none (some 3) (.bx 2 (.tmp 1)),
      .p none 4 (.mv (.const (.int .i64 0)))])
  (.seq (.reg [.l none (some 5) (.al 2 [(.int .i64 0)])])
  (.seq (.reg [.p none 6 (.mv (.tmp 0)),
      .p none 7 (.mkf (.func 58) [] [(.tmp 3), (.tmp 5)]),
      .l none (some 8) (.call 57 [(.tmp 6), (.tmp 7)])])
  (.seq (.reg [.l none (some 9) (.ld none (.tmp 5)),
      .p none 4 (.mv (.tmp 9))])
  .ret))))
theorem C54 : compile Try.prog 10 (Try.f54.body.getD .skip) = some M54 := by kernel_rfl

/-- (*nums.Cursor).Take -/
def M55 : MC :=
  (.seq (.reg [.l none (some 3) (.bx 3 (.tmp 1)),
      .p none 4 (.mv (.const (.slice none 0 0)))])
  (.seq (.reg [.l none (some 5) (.al 25 [(.slice none 0 0)])])
  (.seq (.reg [.p none 6 (.mv (.tmp 0)),
      .p none 7 (.mkf (.func 60) [] [(.tmp 3), (.tmp 5)]),
      .l none (some 8) (.call 57 [(.tmp 6), (.tmp 7)])])
  (.seq (.reg [.l none (some 9) (.ld none (.tmp 5)),
      .p none 4 (.mv (.tmp 9))])
  .ret))))
theorem C55 : compile Try.prog 10 (Try.f55.body.getD .skip) = some M55 := by kernel_rfl

/-- (*nums.Cursor).End -/
def M56 : MC :=
  (.seq (.reg [.l none (some 2) (.al 75 [(.int .i64 0), (.int .i64 0)])])
  (.seq (.block 0
    (.seq (.reg [.p none 4 (.mv (.tmp 0)),
        .p none 5 (.isnil false 0 (.tmp 4)),
        .p none 3 (.mv (.tmp 5))])
    (.cond (.tmp 3)
      (.seq (.reg [.p none 6 (.bld [(.int .i64 0), (.int .i64 0)] [(0, 1, (.const (.int .i64 1)))]),
          .l none none (.st 2 (.tmp 2) (.tmp 6))])
      .ret)
      (.seq (.reg [.p none 8 (.mv (.tmp 0)),
          .p none 9 (.nilchk (.tmp 8)),
          .p none 10 (.fa 2 (.tmp 9)),
          .l none (some 11) (.ld none (.tmp 10)),
          .p none 12 (.bin .neq .i64 (.tmp 11) (.const (.int .i64 0))),
          .p none 7 (.mv (.tmp 12))])
      (.cond (.tmp 7)
        (.seq (.dreg (.line [.qp 0 none 13 (.mv (.tmp 0)),
            .qp 1 none 14 (.nilchk (.tmp 13)),
            .qp 2 none 15 (.fa 2 (.tmp 14)),
            .qp 4 none 17 (.mv (.tmp 0)),
            .qp 5 none 18 (.nilchk (.tmp 17)),
            .qp 6 none 19 (.fa 1 (.tmp 18)),
            .ql 7 none 20 none (.tmp 19),
            .l 3 none (some 16) (.ld none (.tmp 15)),
            .qp 8 none 21 (.bld [(.int .i64 0), (.int .i64 0)] [(0, 1, (.tmp 16)), (1, 1, (.tmp 20))]),
            .l 9 none none (.st 2 (.tmp 2) (.tmp 21))]))
        .ret)
        (.seq (.dreg (.line [.qp 0 none 23 (.mv (.tmp 0)),
            .qp 1 none 24 (.nilchk (.tmp 23)),
            .qp 2 none 25 (.fa 1 (.tmp 24)),
            .qp 4 none 27 (.mv (.tmp 0)),
            .qp 5 none 28 (.nilchk (.tmp 27)),
            .qp 6 none 29 (.fa 0 (.tmp 28)),
            .ql 7 none 30 none (.tmp 29),
            .qp 8 none 31 (.len (.tmp 30)),
            .l 3 none (some 26) (.ld none (.tmp 25)),
            .qp 9 none 32 (.bin .lss .i64 (.tmp 26) (.tmp 31)),
            .qp 10 none 22 (.mv (.tmp 32))]))
        (.cond (.tmp 22)
          (.seq (.reg [.p none 33 (.mv (.tmp 0)),
              .p none 34 (.nilchk (.tmp 33)),
              .p none 35 (.fa 1 (.tmp 34)),
              .l none (some 36) (.ld none (.tmp 35)),
              .p none 37 (.bld [(.int .i64 0), (.int .i64 0)] [(0, 1, (.const (.int .i64 22))), (1, 1, (.tmp 36))]),
              .l none none (.st 2 (.tmp 2) (.tmp 37))])
          .ret)
          .skip)))))))
  (.seq (.reg [.p none 38 (.bld [(.int .i64 0), (.int .i64 0)] []),
      .l none none (.st 2 (.tmp 2) (.tmp 38))])
  .ret)))
theorem C56 : compile Try.prog 39 (Try.f56.body.getD .skip) = some M56 := by kernel_rfl

/-- (*nums.Cursor).reads -/
def M57 : MC :=
  (.seq (.seq (.reg [.p none 6 (.mv (.tmp 0)),
      .p none 7 (.isnil false 0 (.tmp 6)),
      .p none 8 (.mv (.tmp 7)),
      .split 8,
      .p (some (8, false)) 9 (.mv (.tmp 0)),
      .p (some (8, false)) 10 (.nilchk (.tmp 9)),
      .p (some (8, false)) 11 (.fa 2 (.tmp 10)),
      .l (some (8, false)) (some 12) (.ld none (.tmp 11)),
      .p (some (8, false)) 13 (.bin .neq .i64 (.tmp 12) (.const (.int .i64 0))),
      .p none 14 (.pick (.tmp 8) (.const (.bool true)) (.tmp 13))])
  (.cond (.tmp 14)
    .ret
    .skip))
  (.seq (.dreg (.line [.qp 0 none 16 (.mv (.tmp 1)),
      .qp 1 none 17 (.mv (.tmp 0)),
      .qp 2 none 18 (.nilchk (.tmp 17)),
      .qp 3 none 19 (.fa 0 (.tmp 18)),
      .qp 5 none 21 (.mv (.tmp 0)),
      .qp 6 none 22 (.nilchk (.tmp 21)),
      .qp 7 none 23 (.fa 1 (.tmp 22)),
      .ql 8 none 24 none (.tmp 23),
      .l 4 none (some 20) (.ld none (.tmp 19)),
      .qp 9 none 25 (.slc 1 (.tmp 20) (some (.tmp 24)) none none),
      .l 10 none (some 26) (.callv (.tmp 16) [(.tmp 25)]),
      .qp 11 none 15 (.mv (.tmp 26)),
      .qp 12 none 27 (.ext 0 (.tmp 15)),
      .qp 13 none 28 (.ext 1 (.tmp 15)),
      .qp 14 none 4 (.mv (.tmp 27)),
      .qp 15 none 5 (.mv (.tmp 28))]))
  (.seq (.seq (.reg [.p none 29 (.mv (.tmp 5)),
      .p none 30 (.bin .neq .i64 (.tmp 29) (.const (.int .i64 0)))])
  (.cond (.tmp 30)
    (.seq (.reg [.p none 31 (.mv (.tmp 0)),
        .p none 32 (.mv (.tmp 5)),
        .p none 33 (.nilchk (.tmp 31)),
        .p none 34 (.fa 2 (.tmp 33)),
        .l none none (.st 1 (.tmp 34) (.tmp 32))])
    .ret)
    .skip))
  (.reg [.p none 35 (.mv (.tmp 0)),
      .p none 36 (.nilchk (.tmp 35)),
      .p none 37 (.fa 1 (.tmp 36)),
      .l none (some 38) (.ld none (.tmp 37)),
      .p none 39 (.mv (.tmp 4)),
      .p none 40 (.bin .add .i64 (.tmp 38) (.tmp 39)),
      .p none 41 (.nilchk (.tmp 35)),
      .p none 42 (.fa 1 (.tmp 41)),
      .l none none (.st 1 (.tmp 42) (.tmp 40))]))))
theorem C57 : compile Try.prog 43 (Try.f57.body.getD .skip) = some M57 := by kernel_rfl

/-- (*nums.Cursor).Num$1 -/
def M58 : MC :=
  (.seq (.reg [.p none 4 (.mv (.const (.int .i64 0))),
      .p none 5 (.mv (.const (.int .i64 0)))])
  (.seq (.reg [.p none 10 (.mv (.tmp 0)),
      .l none (some 11) (.call 59 [(.tmp 10)]),
      .p none 9 (.mv (.tmp 11)),
      .p none 12 (.ext 0 (.tmp 9)),
      .p none 13 (.ext 1 (.tmp 9)),
      .p none 14 (.ext 2 (.tmp 9)),
      .p none 6 (.mv (.tmp 12)),
      .p none 7 (.mv (.tmp 13)),
      .p none 8 (.mv (.tmp 14))])
  (.seq (.seq (.reg [.p none 15 (.mv (.tmp 8)),
      .p none 16 (.bin .eql .i64 (.tmp 15) (.const (.int .i64 0))),
      .p none 17 (.mv (.tmp 16)),
      .split 17,
      .p (some (17, true)) 18 (.mv (.tmp 6)),
      .l (some (17, true)) (some 19) (.ld none (.tmp 1)),
      .p (some (17, true)) 20 (.bin .gtr .i64 (.tmp 18) (.tmp 19)),
      .p none 21 (.pick (.tmp 17) (.tmp 20) (.const (.bool false)))])
  (.cond (.tmp 21)
    (.reg [.p none 8 (.mv (.const (.int .i64 23)))])
    .skip))
  (.seq (.seq (.reg [.p none 22 (.mv (.tmp 8)),
      .p none 23 (.bin .eql .i64 (.tmp 22) (.const (.int .i64 0)))])
  (.cond (.tmp 23)
    (.reg [.p none 24 (.mv (.tmp 6)),
        .l none none (.st 1 (.tmp 2) (.tmp 24))])
    .skip))
  (.seq (.reg [.p none 25 (.mv (.tmp 7)),
      .p none 26 (.mv (.tmp 8)),
      .p none 4 (.mv (.tmp 25)),
      .p none 5 (.mv (.tmp 26))])
  .ret)))))
theorem C58 : compile Try.prog 27 (Try.f58.body.getD .skip) = some M58 := by kernel_rfl

/-- nums.Get -/
def M59 : MC :=
  (.seq (.reg [.p none 2 (.mv (.const (.int .i64 0))),
      .p none 3 (.mv (.const (.int .i64 0))),
      .p none 4 (.mv (.const (.int .i64 0)))])
  (.seq (.reg [.p none 5 (.mv (.const (.int .i64 0)))])
  (.seq (.seq (.reg [.p none 8 (.mv (.tmp 0)),
      .p none 9 (.len (.tmp 8)),
      .p none 10 (.mv (.const (.int .i64 0)))])
  (.block 0
    (.loop
      (.seq (.reg [.p none 11 (.bin .lss .i64 (.tmp 10) (.tmp 9))])
      (.seq (.cond (.tmp 11)
        .skip
        (.exit 0))
      (.seq (.block 1
        (.seq (.reg [.p none 12 (.mv (.tmp 10)),
            .p none 13 (.idx 1 (.tmp 8) (.tmp 10)),
            .l none (some 14) (.ld none (.tmp 13)),
            .p none 6 (.mv (.tmp 12)),
            .p none 7 (.mv (.tmp 14))])
        (.seq (.seq (.reg [.p none 15 (.mv (.tmp 6)),
            .p none 16 (.bin .eql .i64 (.tmp 15) (.const (.int .i64 8))),
            .p none 17 (.mv (.tmp 16)),
            .split 17,
            .p (some (17, true)) 18 (.mv (.tmp 7)),
            .p (some (17, true)) 19 (.bin .geq .u8 (.tmp 18) (.const (.int .u8 128))),
            .p none 20 (.pick (.tmp 17) (.tmp 19) (.const (.bool false)))])
        (.cond (.tmp 20)
          (.seq (.reg [.p none 2 (.mv (.const (.int .i64 0))),
              .p none 3 (.mv (.const (.int .i64 0))),
              .p none 4 (.mv (.const (.int .i64 21)))])
          .ret)
          .skip))
        (.seq (.reg [.p none 21 (.mv (.tmp 5)),
            .p none 22 (.mv (.tmp 7)),
            .p none 23 (.bin .and .u8 (.tmp 22) (.const (.int .u8 127))),
            .p none 24 (.conv .i64 (.tmp 23)),
            .p none 25 (.mv (.tmp 6)),
            .p none 26 (.bin .mul .i64 (.const (.int .i64 7)) (.tmp 25)),
            .p none 27 (.shf .shl (.tmp 24) (.tmp 26)),
            .p none 28 (.bin .or .i64 (.tmp 21) (.tmp 27)),
            .p none 5 (.mv (.tmp 28))])
        (.seq (.reg [.p none 29 (.mv (.tmp 7)),
            .p none 30 (.bin .lss .u8 (.tmp 29) (.const (.int .u8 128)))])
        (.cond (.tmp 30)
          (.seq (.seq (.reg [.p none 31 (.mv (.tmp 7)),
              .p none 32 (.bin .eql .u8 (.tmp 31) (.const (.int .u8 0))),
              .p none 33 (.mv (.tmp 32)),
              .split 33,
              .p (some (33, true)) 34 (.mv (.tmp 6)),
              .p (some (33, true)) 35 (.bin .gtr .i64 (.tmp 34) (.const (.int .i64 0))),
              .p none 36 (.pick (.tmp 33) (.tmp 35) (.const (.bool false)))])
          (.cond (.tmp 36)
            (.seq (.reg [.p none 2 (.mv (.const (.int .i64 0))),
                .p none 3 (.mv (.const (.int .i64 0))),
                .p none 4 (.mv (.const (.int .i64 21)))])
            .ret)
            .skip))
          (.seq (.reg [.p none 37 (.mv (.tmp 5)),
              .p none 38 (.mv (.tmp 6)),
              .p none 39 (.bin .add .i64 (.tmp 38) (.const (.int .i64 1))),
              .p none 2 (.mv (.tmp 37)),
              .p none 3 (.mv (.tmp 39)),
              .p none 4 (.mv (.const (.int .i64 0)))])
          .ret))
          .skip))))))
      (.reg [.p none 40 (.bin .add .i64 (.tmp 10) (.const (.int .i64 1))),
          .p none 10 (.mv (.tmp 40))])))))))
  (.seq (.reg [.p none 2 (.mv (.const (.int .i64 0))),
      .p none 3 (.mv (.const (.int .i64 0))),
      .p none 4 (.mv (.const (.int .i64 20)))])
  .ret))))
theorem C59 : compile Try.prog 41 (Try.f59.body.getD .skip) = some M59 := by kernel_rfl

/-- (*nums.Cursor).Take$1 -/
def M60 : MC :=
  (.seq (.reg [.p none 4 (.mv (.const (.int .i64 0))),
      .p none 5 (.mv (.const (.int .i64 0)))])
  (.seq (.block 0
    (.seq (.reg [.l none (some 7) (.ld none (.tmp 1)),
        .p none 8 (.bin .lss .i64 (.tmp 7) (.const (.int .i64 0))),
        .p none 6 (.mv (.tmp 8))])
    (.cond (.tmp 6)
      (.seq (.reg [.p none 4 (.mv (.const (.int .i64 0))),
          .p none 5 (.mv (.const (.int .i64 23)))])
      .ret)
      (.seq (.reg [.l none (some 10) (.ld none (.tmp 1)),
          .p none 11 (.mv (.tmp 0)),
          .p none 12 (.len (.tmp 11)),
          .p none 13 (.bin .gtr .i64 (.tmp 10) (.tmp 12)),
          .p none 9 (.mv (.tmp 13))])
      (.cond (.tmp 9)
        (.seq (.reg [.p none 4 (.mv (.const (.int .i64 0))),
            .p none 5 (.mv (.const (.int .i64 20)))])
        .ret)
        .skip)))))
  (.seq (.dreg (.line [.qp 1 none 15 (.mv (.tmp 0)),
      .ql 2 none 16 none (.tmp 1),
      .qp 3 none 17 (.slc 1 (.tmp 15) none (some (.tmp 16)) none),
      .l 0 none (some 14) (.ld none (.tmp 2)),
      .l 4 none (some 18) (.app 5 1 1 [(.int .u8 0)] (.tmp 14) (.tmp 17)),
      .l 5 none none (.st 1 (.tmp 2) (.tmp 18))]))
  (.seq (.reg [.l none (some 19) (.ld none (.tmp 1)),
      .p none 4 (.mv (.tmp 19)),
      .p none 5 (.mv (.const (.int .i64 0)))])
  .ret))))
theorem C60 : compile Try.prog 20 (Try.f60.body.getD .skip) = some M60 := by kernel_rfl
end Go.Proofs.Yteanplpnhlgjeaa.E
