/- The intermediate code of the functions that are walked here, each with the proof that it is the translation of the model's code. -/
import Derived.Test.YthhmhmnhbababaaE6
import Derived.KernelRfl
namespace Go.Proofs.Ythhmhmnhbababaa.E
open Go
theorem mixed : Try.prog.follows .mixedOrders = true := by kernel_rfl

/-- winnowlaw8.FootDamage -/
def M12 : MC :=
  (.seq (.reg [.l none (some 2) (.bx 24 (.tmp 0)),
      .p none 4 (.mv (.const (.bool false)))])
  (.seq (.reg [.l none (some 21) (.ld (some 2) (.tmp 2)),
      .l none (some 22) (.call 24 [(.tmp 21)]),
      .p none 20 (.mv (.tmp 22)),
      .p none 23 (.ext 0 (.tmp 20)),
      .p none 24 (.ext 1 (.tmp 20)),
      .p none 5 (.mv (.tmp 23)),
      .p none 6 (.mv (.tmp 24))])
  (.seq (.seq (.reg [.p none 25 (.mv (.tmp 6)),
      .p none 26 (.bin .neq .i64 (.tmp 25) (.const (.int .i64 0)))])
  (.cond (.tmp 26)
    (.seq (.reg [.l none (some 27) (.call 41 []),
        .p none 4 (.mv (.tmp 27))])
    .ret)
    .skip))
  (.seq (.reg [.l none (some 28) (.ld (some 2) (.tmp 2)),
      .l none (some 29) (.call 42 [(.tmp 28)]),
      .p none 7 (.mv (.tmp 29))])
  (.seq (.reg [.l none (some 30) (.ld (some 2) (.tmp 2)),
      .l none (some 31) (.call 26 [(.tmp 30)]),
      .p none 8 (.mv (.tmp 31))])
  (.seq (.reg [.p none 9 (.mv (.const (.int .i64 0)))])
  (.seq (.block 0
    (.loop
      (.seq (.seq (.reg [.p none 32 (.mv (.tmp 9)),
          .p none 33 (.mv (.tmp 8)),
          .p none 34 (.len (.tmp 33)),
          .p none 35 (.bin .lss .i64 (.tmp 32) (.tmp 34)),
          .p none 36 (.mv (.tmp 35)),
          .split 36,
          .p (some (36, true)) 37 (.mv (.tmp 8)),
          .p (some (36, true)) 38 (.mv (.tmp 9)),
          .p (some (36, true)) 39 (.idx 3 (.tmp 37) (.tmp 38)),
          .p (some (36, true)) 40 (.fa 0 (.tmp 39)),
          .l (some (36, true)) (some 41) (.ld none (.tmp 40)),
          .p (some (36, true)) 42 (.bin .eql .i64 (.tmp 41) (.const (.int .i64 0))),
          .p none 43 (.pick (.tmp 36) (.tmp 42) (.const (.bool false)))])
      (.cond (.tmp 43)
        .skip
        (.exit 0)))
      (.block 1
        (.reg [.p none 44 (.mv (.tmp 9)),
            .p none 45 (.bin .add .i64 (.tmp 44) (.const (.int .i64 1))),
            .p none 9 (.mv (.tmp 45))])))))
  (.seq (.reg [.p none 46 (.mv (.tmp 8)),
      .p none 47 (.mv (.tmp 9)),
      .p none 48 (.slc 3 (.tmp 46) (some (.tmp 47)) none none),
      .p none 10 (.mv (.tmp 48))])
  (.seq (.seq (.reg [.p none 49 (.mv (.tmp 10)),
      .p none 50 (.len (.tmp 49)),
      .p none 51 (.bin .lss .i64 (.tmp 50) (.const (.int .i64 2))),
      .p none 52 (.mv (.tmp 51)),
      .split 52,
      .p (some (52, false)) 53 (.mv (.tmp 10)),
      .p (some (52, false)) 54 (.idx 3 (.tmp 53) (.const (.int .i64 0))),
      .p (some (52, false)) 55 (.fa 1 (.tmp 54)),
      .l (some (52, false)) (some 56) (.ld none (.tmp 55)),
      .p (some (52, false)) 57 (.mv (.tmp 7)),
      .p (some (52, false)) 58 (.bin .neq .i64 (.tmp 56) (.tmp 57)),
      .p none 59 (.pick (.tmp 52) (.const (.bool true)) (.tmp 58)),
      .p none 60 (.mv (.tmp 59)),
      .split 60,
      .p (some (60, false)) 61 (.mv (.tmp 10)),
      .p (some (60, false)) 62 (.mv (.tmp 10)),
      .p (some (60, false)) 63 (.len (.tmp 62)),
      .p (some (60, false)) 64 (.bin .sub .i64 (.tmp 63) (.const (.int .i64 1))),
      .p (some (60, false)) 65 (.idx 3 (.tmp 61) (.tmp 64)),
      .p (some (60, false)) 66 (.fa 2 (.tmp 65)),
      .l (some (60, false)) (some 67) (.ld none (.tmp 66)),
      .p (some (60, false)) 68 (.mv (.tmp 7)),
      .p (some (60, false)) 69 (.mv (.tmp 5)),
      .p (some (60, false)) 70 (.len (.tmp 69)),
      .p (some (60, false)) 71 (.bin .add .i64 (.tmp 68) (.tmp 70)),
      .p (some (60, false)) 72 (.bin .neq .i64 (.tmp 67) (.tmp 71)),
      .p none 73 (.pick (.tmp 60) (.const (.bool true)) (.tmp 72))])
  (.cond (.tmp 73)
    (.seq (.reg [.p none 4 (.mv (.const (.bool false)))])
    .ret)
    .skip))
  (.seq (.reg [.p none 74 (.mv (.tmp 10)),
      .p none 75 (.len (.tmp 74)),
      .l none (some 76) (.mks 4 1 1 [(.bool false)] (.tmp 75) (.tmp 75)),
      .p none 11 (.mv (.tmp 76))])
  (.seq (.reg [.p none 12 (.mv (.const (.bool false)))])
  (.seq (.seq (.reg [.p none 13 (.mv (.const (.int .i64 0)))])
  (.block 2
    (.loop
      (.seq (.seq (.reg [.p none 77 (.mv (.tmp 13)),
          .p none 78 (.mv (.tmp 1)),
          .p none 79 (.len (.tmp 78)),
          .p none 80 (.bin .lss .i64 (.tmp 77) (.tmp 79))])
      (.cond (.tmp 80)
        .skip
        (.exit 2)))
      (.seq (.block 3
        (.seq (.reg [.p none 83 (.mv (.tmp 1)),
            .p none 84 (.mv (.tmp 13)),
            .p none 85 (.idx 3 (.tmp 83) (.tmp 84)),
            .p none 86 (.fa 0 (.tmp 85)),
            .l none (some 87) (.ld none (.tmp 86)),
            .p none 88 (.mv (.tmp 10)),
            .p none 89 (.len (.tmp 88)),
            .p none 90 (.div .rem .i64 (.tmp 87) (.tmp 89)),
            .p none 14 (.mv (.tmp 90))])
        (.seq (.seq (.reg [.p none 91 (.mv (.tmp 14)),
            .p none 92 (.bin .lss .i64 (.tmp 91) (.const (.int .i64 0)))])
        (.cond (.tmp 92)
          (.reg [.p none 93 (.mv (.tmp 14)),
              .p none 94 (.mv (.tmp 10)),
              .p none 95 (.len (.tmp 94)),
              .p none 96 (.bin .add .i64 (.tmp 93) (.tmp 95)),
              .p none 14 (.mv (.tmp 96))])
          .skip))
        (.seq (.seq (.dreg (.line [.qp 0 none 97 (.mv (.tmp 11)),
            .qp 1 none 98 (.mv (.tmp 14)),
            .qp 2 none 99 (.idx 1 (.tmp 97) (.tmp 98)),
            .l 3 none (some 100) (.ld none (.tmp 99)),
            .qp 4 none 101 (.mv (.tmp 100)),
            .split 101,
            .qp 5 (some (101, false)) 102 (.mv (.tmp 10)),
            .qp 6 (some (101, false)) 103 (.mv (.tmp 14)),
            .qp 7 (some (101, false)) 104 (.idx 3 (.tmp 102) (.tmp 103)),
            .qp 8 (some (101, false)) 105 (.fa 1 (.tmp 104)),
            .qp 10 (some (101, false)) 107 (.mv (.tmp 7)),
            .l 9 (some (101, false)) (some 106) (.ld none (.tmp 105)),
            .qp 11 (some (101, false)) 108 (.bin .lss .i64 (.tmp 106) (.tmp 107)),
            .qp 12 none 109 (.pick (.tmp 101) (.const (.bool true)) (.tmp 108)),
            .qp 13 none 110 (.mv (.tmp 109)),
            .split 110,
            .qp 14 (some (110, false)) 111 (.mv (.tmp 10)),
            .qp 15 (some (110, false)) 112 (.mv (.tmp 14)),
            .qp 16 (some (110, false)) 113 (.idx 3 (.tmp 111) (.tmp 112)),
            .qp 17 (some (110, false)) 114 (.fa 2 (.tmp 113)),
            .qp 19 (some (110, false)) 116 (.mv (.tmp 10)),
            .qp 20 (some (110, false)) 117 (.mv (.tmp 14)),
            .qp 21 (some (110, false)) 118 (.idx 3 (.tmp 116) (.tmp 117)),
            .qp 22 (some (110, false)) 119 (.fa 1 (.tmp 118)),
            .ql 23 (some (110, false)) 120 none (.tmp 119),
            .l 18 (some (110, false)) (some 115) (.ld none (.tmp 114)),
            .qp 24 (some (110, false)) 121 (.bin .leq .i64 (.tmp 115) (.tmp 120)),
            .qp 25 none 122 (.pick (.tmp 110) (.const (.bool true)) (.tmp 121)),
            .qp 26 none 123 (.mv (.tmp 122)),
            .split 123,
            .qp 27 (some (123, false)) 124 (.mv (.tmp 10)),
            .qp 28 (some (123, false)) 125 (.mv (.tmp 14)),
            .qp 29 (some (123, false)) 126 (.idx 3 (.tmp 124) (.tmp 125)),
            .qp 30 (some (123, false)) 127 (.fa 2 (.tmp 126)),
            .qp 32 (some (123, false)) 129 (.mv (.tmp 7)),
            .qp 33 (some (123, false)) 130 (.mv (.tmp 5)),
            .qp 34 (some (123, false)) 131 (.len (.tmp 130)),
            .qp 35 (some (123, false)) 132 (.bin .add .i64 (.tmp 129) (.tmp 131)),
            .l 31 (some (123, false)) (some 128) (.ld none (.tmp 127)),
            .qp 36 (some (123, false)) 133 (.bin .gtr .i64 (.tmp 128) (.tmp 132)),
            .qp 37 none 134 (.pick (.tmp 123) (.const (.bool true)) (.tmp 133))]))
        (.cond (.tmp 134)
          (.exit 3)
          .skip))
        (.seq (.dreg (.line [.qp 0 none 135 (.mv (.tmp 11)),
            .qp 1 none 136 (.mv (.tmp 14)),
            .qp 2 none 137 (.mv (.tmp 5)),
            .qp 3 none 138 (.mv (.tmp 10)),
            .qp 4 none 139 (.mv (.tmp 14)),
            .qp 5 none 140 (.idx 3 (.tmp 138) (.tmp 139)),
            .qp 6 none 141 (.fa 1 (.tmp 140)),
            .qp 8 none 143 (.mv (.tmp 7)),
            .qp 10 none 145 (.mv (.tmp 10)),
            .qp 11 none 146 (.mv (.tmp 14)),
            .qp 12 none 147 (.idx 3 (.tmp 145) (.tmp 146)),
            .qp 13 none 148 (.fa 2 (.tmp 147)),
            .qp 15 none 150 (.mv (.tmp 7)),
            .qp 17 none 152 (.mv (.tmp 1)),
            .qp 18 none 153 (.mv (.tmp 13)),
            .qp 19 none 154 (.idx 3 (.tmp 152) (.tmp 153)),
            .ql 14 none 149 none (.tmp 148),
            .qp 16 none 151 (.bin .sub .i64 (.tmp 149) (.tmp 150)),
            .ql 7 none 142 none (.tmp 141),
            .qp 9 none 144 (.bin .sub .i64 (.tmp 142) (.tmp 143)),
            .l 20 none (some 155) (.ld (some 3) (.tmp 154)),
            .l 21 none (some 156) (.call 43 [(.tmp 137), (.tmp 144), (.tmp 151), (.tmp 155)]),
            .qp 22 none 157 (.idx 1 (.tmp 135) (.tmp 136)),
            .l 23 none none (.st 1 (.tmp 157) (.tmp 156))]))
        (.reg [.p none 158 (.mv (.tmp 12)),
            .p none 159 (.mv (.tmp 158)),
            .split 159,
            .p (some (159, false)) 160 (.mv (.tmp 11)),
            .p (some (159, false)) 161 (.mv (.tmp 14)),
            .p (some (159, false)) 162 (.idx 1 (.tmp 160) (.tmp 161)),
            .l (some (159, false)) (some 163) (.ld none (.tmp 162)),
            .p none 164 (.pick (.tmp 159) (.const (.bool true)) (.tmp 163)),
            .p none 12 (.mv (.tmp 164))]))))))
      (.reg [.p none 81 (.mv (.tmp 13)),
          .p none 82 (.bin .add .i64 (.tmp 81) (.const (.int .i64 1))),
          .p none 13 (.mv (.tmp 82))]))))))
  (.seq (.reg [.p none 165 (.mv (.tmp 5)),
      .p none 166 (.len (.tmp 165)),
      .p none 167 (.bin .sub .i64 (.tmp 166) (.const (.int .i64 24))),
      .p none 15 (.mv (.tmp 167))])
  (.seq (.reg [.p none 169 (.mv (.tmp 5)),
      .p none 170 (.mv (.tmp 15)),
      .p none 171 (.slc 1 (.tmp 169) (some (.tmp 170)) none none),
      .p none 172 (.mv (.tmp 7)),
      .p none 173 (.mv (.tmp 5)),
      .p none 174 (.len (.tmp 173)),
      .p none 175 (.bin .add .i64 (.tmp 172) (.tmp 174)),
      .l none (some 176) (.call 21 [(.tmp 171), (.tmp 175)]),
      .p none 168 (.mv (.tmp 176)),
      .p none 177 (.ext 0 (.tmp 168)),
      .p none 178 (.ext 1 (.tmp 168)),
      .l none (some 16) (.al 36 [(.int .i64 0), (.int .i64 0)]),
      .l none none (.st 2 (.tmp 16) (.tmp 177)),
      .p none 17 (.mv (.tmp 178))])
  (.seq (.seq (.reg [.p none 179 (.mv (.tmp 17)),
      .p none 180 (.bin .neq .i64 (.tmp 179) (.const (.int .i64 0)))])
  (.cond (.tmp 180)
    (.seq (.reg [.p none 181 (.mv (.tmp 12)),
        .p none 182 (.mv (.tmp 181)),
        .split 182,
        .p (some (182, true)) 183 (.mv (.tmp 17)),
        .p (some (182, true)) 184 (.bin .eql .i64 (.tmp 183) (.const (.int .i64 81))),
        .p none 185 (.pick (.tmp 182) (.tmp 184) (.const (.bool false))),
        .p none 186 (.mv (.tmp 185)),
        .split 186,
        .l (some (186, true)) (some 187) (.call 41 []),
        .p none 188 (.pick (.tmp 186) (.tmp 187) (.const (.bool false))),
        .p none 4 (.mv (.tmp 188))])
    .ret)
    .skip))
  (.seq (.dreg (.fork [.qp 0 none 190 (.mv (.tmp 5)),
      .qp 1 none 191 (.mv (.tmp 15)),
      .qp 2 none 192 (.slc 1 (.tmp 190) none (some (.tmp 191)) none),
      .ql 3 none 193 (some 2) (.tmp 16)]
    (.line [.l 4 none (some 194) (.call 39 [(.tmp 192), (.tmp 193)]),
        .qp 5 none 189 (.mv (.tmp 194)),
        .qp 6 none 195 (.ext 0 (.tmp 189)),
        .qp 7 none 196 (.ext 1 (.tmp 189)),
        .l 8 none (some 18) (.al 24 [(.int .i64 0), (.slice none 0 0)]),
        .l 9 none none (.st 2 (.tmp 18) (.tmp 195)),
        .qp 10 none 19 (.mv (.tmp 196))])
    (.line [.l 8 none (some 18) (.al 24 [(.int .i64 0), (.slice none 0 0)]),
        .l 4 none (some 194) (.call 39 [(.tmp 192), (.tmp 193)]),
        .qp 5 none 189 (.mv (.tmp 194)),
        .qp 6 none 195 (.ext 0 (.tmp 189)),
        .qp 7 none 196 (.ext 1 (.tmp 189)),
        .l 9 none none (.st 2 (.tmp 18) (.tmp 195)),
        .qp 10 none 19 (.mv (.tmp 196))])))
  (.seq (.seq (.reg [.p none 197 (.mv (.tmp 12)),
      .p none 198 (.not (.tmp 197))])
  (.cond (.tmp 198)
    (.seq (.reg [.p none 199 (.mv (.tmp 19)),
        .p none 200 (.bin .eql .i64 (.tmp 199) (.const (.int .i64 0))),
        .p none 201 (.mv (.tmp 200)),
        .split 201,
        .l (some (201, true)) (some 202) (.ld (some 2) (.tmp 18)),
        .l (some (201, true)) (some 203) (.ld (some 2) (.tmp 2)),
        .l (some (201, true)) (some 204) (.call 37 [(.tmp 202), (.tmp 203)]),
        .p none 205 (.pick (.tmp 201) (.tmp 204) (.const (.bool false))),
        .p none 206 (.mv (.tmp 205)),
        .split 206,
        .l (some (206, true)) (some 207) (.call 41 []),
        .p none 208 (.pick (.tmp 206) (.tmp 207) (.const (.bool false))),
        .p none 4 (.mv (.tmp 208))])
    .ret)
    .skip))
  (.seq (.reg [.p none 209 (.mv (.tmp 19)),
      .p none 210 (.bin .eql .i64 (.tmp 209) (.const (.int .i64 80))),
      .p none 211 (.mv (.tmp 210)),
      .split 211,
      .l (some (211, true)) (some 212) (.call 41 []),
      .p none 213 (.pick (.tmp 211) (.tmp 212) (.const (.bool false))),
      .p none 4 (.mv (.tmp 213))])
  .ret))))))))))))))))))
theorem C12 : compile Try.prog 214 (Try.f12.body.getD .skip) = some M12 := by kernel_rfl

/-- foot.Check -/
def M14 : MC :=
  (.seq (.reg [.l none (some 1) (.bx 24 (.tmp 0)),
      .p none 2 (.mv (.const (.int .i64 0)))])
  (.seq (.seq (.reg [.p none 10 (.fa 0 (.tmp 1)),
      .l none (some 11) (.ld none (.tmp 10)),
      .p none 12 (.bin .lss .i64 (.tmp 11) (.const (.int .i64 1))),
      .p none 13 (.mv (.tmp 12)),
      .split 13,
      .p (some (13, false)) 14 (.fa 0 (.tmp 1)),
      .l (some (13, false)) (some 15) (.ld none (.tmp 14)),
      .p (some (13, false)) 16 (.bin .gtr .i64 (.tmp 15) (.const (.int .i64 65535))),
      .p none 17 (.pick (.tmp 13) (.const (.bool true)) (.tmp 16))])
  (.cond (.tmp 17)
    (.seq (.reg [.p none 2 (.mv (.const (.int .i64 80)))])
    .ret)
    .skip))
  (.seq (.reg [.p none 3 (.mv (.const (.int .i64 (-1)))),
      .p none 4 (.mv (.const (.int .i64 0)))])
  (.seq (.seq (.reg [.p none 18 (.fa 1 (.tmp 1)),
      .l none (some 19) (.ld none (.tmp 18)),
      .p none 20 (.len (.tmp 19)),
      .p none 21 (.mv (.const (.int .i64 0)))])
  (.block 0
    (.loop
      (.seq (.reg [.p none 22 (.bin .lss .i64 (.tmp 21) (.tmp 20))])
      (.seq (.cond (.tmp 22)
        .skip
        (.exit 0))
      (.seq (.block 1
        (.seq (.reg [.p none 23 (.idx 5 (.tmp 19) (.tmp 21)),
            .l none (some 24) (.ld (some 5) (.tmp 23)),
            .l none (some 6) (.al 71 [(.int .i64 0), (.slice none 0 0), (.bool false), (.int .i64 0), (.slice none 0 0)]),
            .l none none (.st 5 (.tmp 6) (.tmp 24))])
        (.seq (.reg [.p none 25 (.mv (.tmp 4)),
            .p none 26 (.fa 1 (.tmp 6)),
            .l none (some 27) (.ld none (.tmp 26)),
            .p none 28 (.len (.tmp 27)),
            .p none 29 (.bin .add .i64 (.tmp 25) (.tmp 28)),
            .p none 4 (.mv (.tmp 29))])
        (.seq (.seq (.reg [.p none 30 (.fa 0 (.tmp 6)),
            .l none (some 31) (.ld none (.tmp 30)),
            .p none 32 (.mv (.tmp 3)),
            .p none 33 (.bin .leq .i64 (.tmp 31) (.tmp 32)),
            .p none 34 (.mv (.tmp 33)),
            .split 34,
            .p (some (34, false)) 35 (.fa 0 (.tmp 6)),
            .l (some (34, false)) (some 36) (.ld none (.tmp 35)),
            .p (some (34, false)) 37 (.fa 0 (.tmp 1)),
            .l (some (34, false)) (some 38) (.ld none (.tmp 37)),
            .p (some (34, false)) 39 (.bin .geq .i64 (.tmp 36) (.tmp 38)),
            .p none 40 (.pick (.tmp 34) (.const (.bool true)) (.tmp 39)),
            .p none 41 (.mv (.tmp 40)),
            .split 41,
            .p (some (41, false)) 42 (.fa 1 (.tmp 6)),
            .l (some (41, false)) (some 43) (.ld none (.tmp 42)),
            .p (some (41, false)) 44 (.len (.tmp 43)),
            .p (some (41, false)) 45 (.bin .eql .i64 (.tmp 44) (.const (.int .i64 0))),
            .p none 46 (.pick (.tmp 41) (.const (.bool true)) (.tmp 45)),
            .p none 47 (.mv (.tmp 46)),
            .split 47,
            .p (some (47, false)) 48 (.mv (.tmp 4)),
            .p (some (47, false)) 49 (.bin .gtr .i64 (.tmp 48) (.const (.int .i64 262144))),
            .p none 50 (.pick (.tmp 47) (.const (.bool true)) (.tmp 49)),
            .p none 51 (.mv (.tmp 50)),
            .split 51,
            .p (some (51, false)) 52 (.fa 2 (.tmp 6)),
            .l (some (51, false)) (some 53) (.ld (some 3) (.tmp 52)),
            .l (some (51, false)) (some 54) (.call 46 [(.tmp 53)]),
            .p (some (51, false)) 55 (.bin .neq .i64 (.tmp 54) (.const (.int .i64 0))),
            .p none 56 (.pick (.tmp 51) (.const (.bool true)) (.tmp 55))])
        (.cond (.tmp 56)
          (.seq (.reg [.p none 2 (.mv (.const (.int .i64 80)))])
          .ret)
          .skip))
        (.seq (.reg [.p none 57 (.fa 0 (.tmp 6)),
            .l none (some 58) (.ld none (.tmp 57)),
            .p none 3 (.mv (.tmp 58))])
        (.seq (.reg [.p none 7 (.mv (.const (.string ⟨#[]⟩)))])
        (.seq (.reg [.p none 59 (.fa 1 (.tmp 6)),
            .l none (some 60) (.ld none (.tmp 59)),
            .p none 61 (.len (.tmp 60)),
            .p none 62 (.mv (.const (.int .i64 0)))])
        (.block 2
          (.loop
            (.seq (.reg [.p none 63 (.bin .lss .i64 (.tmp 62) (.tmp 61))])
            (.seq (.cond (.tmp 63)
              .skip
              (.exit 2))
            (.seq (.block 3
              (.seq (.reg [.p none 64 (.idx 4 (.tmp 60) (.tmp 62)),
                  .l none (some 65) (.ld (some 4) (.tmp 64)),
                  .l none (some 9) (.al 74 [(.int .i64 0), (.int .i64 0), (.int .i64 0), (.string ⟨#[]⟩)]),
                  .l none none (.st 4 (.tmp 9) (.tmp 65))])
              (.seq (.seq (.reg [.l none (some 66) (.ld (some 4) (.tmp 9)),
                  .p none 67 (.mv (.tmp 7)),
                  .l none (some 68) (.call 47 [(.tmp 66), (.tmp 67)]),
                  .p none 69 (.not (.tmp 68))])
              (.cond (.tmp 69)
                (.seq (.reg [.p none 2 (.mv (.const (.int .i64 80)))])
                .ret)
                .skip))
              (.reg [.p none 70 (.fa 3 (.tmp 9)),
                  .l none (some 71) (.ld none (.tmp 70)),
                  .p none 7 (.mv (.tmp 71))]))))
            (.reg [.p none 72 (.bin .add .i64 (.tmp 62) (.const (.int .i64 1))),
                .p none 62 (.mv (.tmp 72))])))))))))))))
      (.reg [.p none 73 (.bin .add .i64 (.tmp 21) (.const (.int .i64 1))),
          .p none 21 (.mv (.tmp 73))])))))))
  (.seq (.reg [.p none 2 (.mv (.const (.int .i64 0)))])
  .ret)))))
theorem C14 : compile Try.prog 74 (Try.f14.body.getD .skip) = some M14 := by kernel_rfl

/-- foot.Trailer -/
def M21 : MC :=
  (.seq (.reg [.l none (some 4) (.al 36 [(.int .i64 0), (.int .i64 0)]),
      .p none 5 (.mv (.const (.int .i64 0)))])
  (.seq (.seq (.reg [.p none 14 (.mv (.tmp 0)),
      .p none 15 (.len (.tmp 14)),
      .p none 16 (.bin .neq .i64 (.tmp 15) (.const (.int .i64 24)))])
  (.cond (.tmp 16)
    (.seq (.reg [.p none 17 (.bld [(.int .i64 0), (.int .i64 0)] []),
        .l none none (.st 2 (.tmp 4) (.tmp 17)),
        .p none 5 (.mv (.const (.int .i64 81)))])
    .ret)
    .skip))
  (.seq (.reg [.p none 19 (.mv (.tmp 0)),
      .l none (some 20) (.call 49 [(.tmp 19)]),
      .p none 18 (.mv (.tmp 20)),
      .p none 21 (.ext 0 (.tmp 18)),
      .p none 22 (.ext 1 (.tmp 18)),
      .p none 6 (.mv (.tmp 21)),
      .p none 7 (.mv (.tmp 22))])
  (.seq (.seq (.reg [.p none 23 (.mv (.tmp 7)),
      .p none 24 (.bin .neq .i64 (.tmp 23) (.const (.int .i64 0)))])
  (.cond (.tmp 24)
    (.seq (.reg [.p none 25 (.bld [(.int .i64 0), (.int .i64 0)] []),
        .l none none (.st 2 (.tmp 4) (.tmp 25)),
        .p none 5 (.mv (.const (.int .i64 81)))])
    .ret)
    .skip))
  (.seq (.reg [.p none 8 (.mv (.const (.int .i64 4)))])
  (.seq (.dreg (.line [.qp 0 none 26 (.mv (.tmp 6)),
      .qp 1 none 27 (.mv (.tmp 8)),
      .qp 2 none 28 (.mv (.tmp 8)),
      .qp 3 none 29 (.bin .add .i64 (.tmp 28) (.const (.int .i64 8))),
      .qp 4 none 30 (.slc 1 (.tmp 26) (some (.tmp 27)) (some (.tmp 29)) none),
      .qp 6 none 32 (.mv (.tmp 6)),
      .qp 7 none 33 (.mv (.tmp 8)),
      .qp 8 none 34 (.bin .add .i64 (.tmp 33) (.const (.int .i64 8))),
      .qp 9 none 35 (.slc 1 (.tmp 32) (some (.tmp 34)) none none),
      .l 5 none (some 31) (.call 50 [(.tmp 30)]),
      .l 10 none (some 36) (.call 50 [(.tmp 35)]),
      .qp 11 none 9 (.mv (.tmp 31)),
      .qp 12 none 10 (.mv (.tmp 36))]))
  (.seq (.seq (.reg [.p none 37 (.mv (.tmp 6)),
      .p none 38 (.mv (.tmp 8)),
      .p none 39 (.slc 1 (.tmp 37) none (some (.tmp 38)) none),
      .l none (some 40) (.b2s (.tmp 39)),
      .p none 41 (.sbin .neq (.tmp 40) (.const (.string ⟨#[119, 110, 119, 49]⟩))),
      .p none 42 (.mv (.tmp 41)),
      .split 42,
      .p (some (42, false)) 43 (.mv (.tmp 9)),
      .p (some (42, false)) 44 (.bin .gtr .u64 (.tmp 43) (.const (.int .u64 268435456))),
      .p none 45 (.pick (.tmp 42) (.const (.bool true)) (.tmp 44)),
      .p none 46 (.mv (.tmp 45)),
      .split 46,
      .p (some (46, false)) 47 (.mv (.tmp 10)),
      .p (some (46, false)) 48 (.bin .gtr .u64 (.tmp 47) (.const (.int .u64 33554432))),
      .p none 49 (.pick (.tmp 46) (.const (.bool true)) (.tmp 48))])
  (.cond (.tmp 49)
    (.seq (.reg [.p none 50 (.bld [(.int .i64 0), (.int .i64 0)] []),
        .l none none (.st 2 (.tmp 4) (.tmp 50)),
        .p none 5 (.mv (.const (.int .i64 81)))])
    .ret)
    .skip))
  (.seq (.reg [.p none 51 (.mv (.tmp 9)),
      .p none 52 (.conv .i64 (.tmp 51)),
      .p none 53 (.mv (.tmp 10)),
      .p none 54 (.conv .i64 (.tmp 53)),
      .p none 55 (.bld [(.int .i64 0), (.int .i64 0)] [(0, 1, (.tmp 52)), (1, 1, (.tmp 54))]),
      .l none (some 11) (.al 36 [(.int .i64 0), (.int .i64 0)]),
      .l none none (.st 2 (.tmp 11) (.tmp 55))])
  (.seq (.seq (.reg [.l none (some 57) (.ld (some 2) (.tmp 11)),
      .l none (some 58) (.call 51 [(.tmp 57)]),
      .p none 56 (.mv (.tmp 58)),
      .p none 59 (.ext 0 (.tmp 56)),
      .p none 60 (.ext 1 (.tmp 56)),
      .p none 12 (.mv (.tmp 59)),
      .p none 13 (.mv (.tmp 60))])
  (.seq (.reg [.p none 61 (.mv (.tmp 13)),
      .p none 62 (.not (.tmp 61))])
  (.cond (.tmp 62)
    (.seq (.reg [.p none 63 (.bld [(.int .i64 0), (.int .i64 0)] []),
        .l none none (.st 2 (.tmp 4) (.tmp 63)),
        .p none 5 (.mv (.const (.int .i64 81)))])
    .ret)
    .skip)))
  (.seq (.seq (.reg [.p none 64 (.fa 0 (.tmp 11)),
      .l none (some 65) (.ld none (.tmp 64)),
      .p none 66 (.fa 1 (.tmp 11)),
      .l none (some 67) (.ld none (.tmp 66)),
      .p none 68 (.bin .add .i64 (.tmp 65) (.tmp 67)),
      .p none 69 (.bin .add .i64 (.tmp 68) (.const (.int .i64 24))),
      .p none 70 (.mv (.tmp 1)),
      .p none 71 (.bin .neq .i64 (.tmp 69) (.tmp 70))])
  (.cond (.tmp 71)
    (.seq (.reg [.p none 72 (.bld [(.int .i64 0), (.int .i64 0)] []),
        .l none none (.st 2 (.tmp 4) (.tmp 72)),
        .p none 5 (.mv (.const (.int .i64 82)))])
    .ret)
    .skip))
  (.seq (.reg [.l none (some 73) (.ld (some 2) (.tmp 11)),
      .l none none (.st 2 (.tmp 4) (.tmp 73)),
      .p none 5 (.mv (.const (.int .i64 0)))])
  .ret)))))))))))
theorem C21 : compile Try.prog 74 (Try.f21.body.getD .skip) = some M21 := by kernel_rfl

/-- winnowlaw8.same -/
def M23 : MC :=
  (.seq (.reg [.p none 4 (.mv (.const (.bool false)))])
  (.seq (.seq (.reg [.p none 6 (.mv (.tmp 0)),
      .p none 7 (.len (.tmp 6)),
      .p none 8 (.mv (.tmp 1)),
      .p none 9 (.len (.tmp 8)),
      .p none 10 (.bin .neq .i64 (.tmp 7) (.tmp 9))])
  (.cond (.tmp 10)
    (.seq (.reg [.p none 4 (.mv (.const (.bool false)))])
    .ret)
    .skip))
  (.seq (.seq (.reg [.p none 5 (.mv (.const (.int .i64 0)))])
  (.block 0
    (.loop
      (.seq (.seq (.reg [.p none 11 (.mv (.tmp 5)),
          .p none 12 (.mv (.tmp 0)),
          .p none 13 (.len (.tmp 12)),
          .p none 14 (.bin .lss .i64 (.tmp 11) (.tmp 13))])
      (.cond (.tmp 14)
        .skip
        (.exit 0)))
      (.seq (.block 1
        (.seq (.dreg (.line [.qp 0 none 17 (.mv (.tmp 0)),
            .qp 1 none 18 (.mv (.tmp 5)),
            .qp 2 none 19 (.idx 1 (.tmp 17) (.tmp 18)),
            .qp 4 none 21 (.mv (.tmp 1)),
            .qp 5 none 22 (.mv (.tmp 5)),
            .qp 6 none 23 (.idx 1 (.tmp 21) (.tmp 22)),
            .ql 7 none 24 none (.tmp 23),
            .l 3 none (some 20) (.ld none (.tmp 19)),
            .qp 8 none 25 (.bin .neq .u8 (.tmp 20) (.tmp 24))]))
        (.cond (.tmp 25)
          (.seq (.reg [.p none 4 (.mv (.const (.bool false)))])
          .ret)
          .skip)))
      (.reg [.p none 15 (.mv (.tmp 5)),
          .p none 16 (.bin .add .i64 (.tmp 15) (.const (.int .i64 1))),
          .p none 5 (.mv (.tmp 16))]))))))
  (.seq (.reg [.p none 4 (.mv (.const (.bool true)))])
  .ret))))
theorem C23 : compile Try.prog 26 (Try.f23.body.getD .skip) = some M23 := by kernel_rfl

/-- foot.Encode -/
def M24 : MC :=
  (.seq (.reg [.l none (some 1) (.bx 24 (.tmp 0)),
      .p none 2 (.mv (.const (.slice none 0 0))),
      .p none 3 (.mv (.const (.int .i64 0)))])
  (.seq (.seq (.reg [.l none (some 12) (.ld (some 2) (.tmp 1)),
      .l none (some 13) (.call 14 [(.tmp 12)]),
      .p none 4 (.mv (.tmp 13))])
  (.seq (.reg [.p none 14 (.mv (.tmp 4)),
      .p none 15 (.bin .neq .i64 (.tmp 14) (.const (.int .i64 0)))])
  (.cond (.tmp 15)
    (.seq (.reg [.p none 16 (.mv (.tmp 4)),
        .p none 2 (.mv (.const (.slice none 0 0))),
        .p none 3 (.mv (.tmp 16))])
    .ret)
    .skip)))
  (.seq (.dreg (.line [.ql 2 none 19 (some 2) (.tmp 1),
      .l 0 none (some 17) (.ld (some 2) (.tmp 1)),
      .l 1 none (some 18) (.call 55 [(.tmp 17)]),
      .l 3 none (some 20) (.call 56 [(.tmp 19)]),
      .qp 4 none 5 (.mv (.tmp 18)),
      .qp 5 none 6 (.mv (.tmp 20))]))
  (.seq (.seq (.reg [.p none 21 (.mv (.tmp 5)),
      .p none 22 (.len (.tmp 21)),
      .p none 23 (.bin .gtr .i64 (.tmp 22) (.const (.int .i64 16777216))),
      .p none 24 (.mv (.tmp 23)),
      .split 24,
      .p (some (24, false)) 25 (.mv (.tmp 6)),
      .p (some (24, false)) 26 (.bin .gtr .i64 (.tmp 25) (.const (.int .i64 268435456))),
      .p none 27 (.pick (.tmp 24) (.const (.bool true)) (.tmp 26))])
  (.cond (.tmp 27)
    (.seq (.reg [.p none 2 (.mv (.const (.slice none 0 0))),
        .p none 3 (.mv (.const (.int .i64 62)))])
    .ret)
    .skip))
  (.seq (.reg [.p none 7 (.mv (.const (.slice none 0 0)))])
  (.seq (.reg [.l none (some 28) (.mks 5 1 1 [(.int .u8 0)] (.const (.int .i64 4096)) (.const (.int .i64 4096))),
      .p none 8 (.mv (.tmp 28))])
  (.seq (.seq (.reg [.p none 29 (.mv (.tmp 5)),
      .p none 9 (.mv (.tmp 29))])
  (.block 0
    (.loop
      (.seq (.seq (.reg [.p none 30 (.mv (.tmp 9)),
          .p none 31 (.len (.tmp 30)),
          .p none 32 (.bin .gtr .i64 (.tmp 31) (.const (.int .i64 0)))])
      (.cond (.tmp 32)
        .skip
        (.exit 0)))
      (.block 1
        (.seq (.reg [.p none 33 (.mv (.tmp 8)),
            .p none 34 (.mv (.tmp 9)),
            .l none (some 35) (.cpy 1 (.tmp 33) (.tmp 34)),
            .p none 10 (.mv (.tmp 35))])
        (.seq (.reg [.p none 36 (.mv (.tmp 7)),
            .p none 37 (.mv (.tmp 8)),
            .p none 38 (.mv (.tmp 10)),
            .p none 39 (.slc 1 (.tmp 37) none (some (.tmp 38)) none),
            .l none (some 40) (.call 57 [(.tmp 39)]),
            .l none (some 41) (.app 5 1 1 [(.int .u8 0)] (.tmp 36) (.tmp 40)),
            .p none 7 (.mv (.tmp 41))])
        (.reg [.p none 42 (.mv (.tmp 9)),
            .p none 43 (.mv (.tmp 10)),
            .p none 44 (.slc 1 (.tmp 42) (some (.tmp 43)) none none),
            .p none 9 (.mv (.tmp 44))]))))))))
  (.seq (.reg [.l none (some 45) (.bs 5 4 1 [(.int .u8 0), (.int .u8 0), (.int .u8 0), (.int .u8 0)] [(0, 1, (.const (.int .u8 119))), (1, 1, (.const (.int .u8 110))), (2, 1, (.const (.int .u8 119))), (3, 1, (.const (.int .u8 49)))]),
      .l none (some 46) (.raw (.convert 34 34 (.tmp 45))),
      .p none 11 (.mv (.tmp 46))])
  (.seq (.reg [.p none 47 (.mv (.tmp 11)),
      .p none 48 (.mv (.tmp 6)),
      .p none 49 (.conv .u64 (.tmp 48)),
      .l none (some 50) (.call 58 [(.tmp 49), (.const (.int .i64 8))]),
      .l none (some 51) (.app 5 1 1 [(.int .u8 0)] (.tmp 47) (.tmp 50)),
      .p none 11 (.mv (.tmp 51))])
  (.seq (.reg [.p none 52 (.mv (.tmp 11)),
      .p none 53 (.mv (.tmp 7)),
      .p none 54 (.len (.tmp 53)),
      .p none 55 (.conv .u64 (.tmp 54)),
      .l none (some 56) (.call 58 [(.tmp 55), (.const (.int .i64 8))]),
      .l none (some 57) (.app 5 1 1 [(.int .u8 0)] (.tmp 52) (.tmp 56)),
      .p none 11 (.mv (.tmp 57))])
  (.seq (.reg [.p none 58 (.mv (.tmp 7)),
      .p none 59 (.mv (.tmp 11)),
      .l none (some 60) (.call 57 [(.tmp 59)]),
      .l none (some 61) (.app 5 1 1 [(.int .u8 0)] (.tmp 58) (.tmp 60)),
      .p none 2 (.mv (.tmp 61)),
      .p none 3 (.mv (.const (.int .i64 0)))])
  .ret)))))))))))
theorem C24 : compile Try.prog 62 (Try.f24.body.getD .skip) = some M24 := by kernel_rfl

/-- foot.Tiles -/
def M26 : MC :=
  (.seq (.reg [.l none (some 1) (.bx 24 (.tmp 0)),
      .p none 2 (.mv (.const (.slice none 0 0)))])
  (.seq (.reg [.l none (some 15) (.ld (some 2) (.tmp 1)),
      .l none (some 16) (.call 24 [(.tmp 15)]),
      .p none 14 (.mv (.tmp 16)),
      .p none 17 (.ext 0 (.tmp 14)),
      .p none 18 (.ext 1 (.tmp 14)),
      .p none 3 (.mv (.tmp 17)),
      .p none 4 (.mv (.tmp 18))])
  (.seq (.seq (.reg [.p none 19 (.mv (.tmp 4)),
      .p none 20 (.bin .neq .i64 (.tmp 19) (.const (.int .i64 0)))])
  (.cond (.tmp 20)
    (.seq (.reg [.p none 2 (.mv (.const (.slice none 0 0)))])
    .ret)
    .skip))
  (.seq (.reg [.l none (some 5) (.al 43 [(.slice none 0 0)])])
  (.seq (.reg [.l none (some 6) (.al 2 [(.int .i64 0)]),
      .l none none (.st 1 (.tmp 6) (.const (.int .i64 0)))])
  (.seq (.reg [.p none 21 (.mkf (.func 63) [] [(.tmp 5), (.tmp 6)]),
      .p none 7 (.mv (.tmp 21))])
  (.seq (.seq (.reg [.p none 22 (.fa 1 (.tmp 1)),
      .l none (some 23) (.ld none (.tmp 22)),
      .p none 24 (.len (.tmp 23)),
      .p none 25 (.mv (.const (.int .i64 0)))])
  (.block 0
    (.loop
      (.seq (.reg [.p none 26 (.bin .lss .i64 (.tmp 25) (.tmp 24))])
      (.seq (.cond (.tmp 26)
        .skip
        (.exit 0))
      (.seq (.block 1
        (.seq (.reg [.p none 27 (.idx 5 (.tmp 23) (.tmp 25)),
            .l none (some 28) (.ld (some 5) (.tmp 27)),
            .l none (some 9) (.al 71 [(.int .i64 0), (.slice none 0 0), (.bool false), (.int .i64 0), (.slice none 0 0)]),
            .l none none (.st 5 (.tmp 9) (.tmp 28))])
        (.seq (.reg [.p none 29 (.fa 1 (.tmp 9)),
            .l none (some 30) (.ld none (.tmp 29)),
            .p none 31 (.len (.tmp 30)),
            .p none 32 (.mv (.const (.int .i64 0)))])
        (.block 2
          (.loop
            (.seq (.reg [.p none 33 (.bin .lss .i64 (.tmp 32) (.tmp 31))])
            (.seq (.cond (.tmp 33)
              .skip
              (.exit 2))
            (.seq (.block 3
              (.seq (.reg [.p none 34 (.idx 4 (.tmp 30) (.tmp 32)),
                  .l none (some 35) (.ld (some 4) (.tmp 34)),
                  .l none (some 11) (.al 74 [(.int .i64 0), (.int .i64 0), (.int .i64 0), (.string ⟨#[]⟩)]),
                  .l none none (.st 4 (.tmp 11) (.tmp 35))])
              (.reg [.p none 36 (.mv (.tmp 7)),
                  .p none 37 (.fa 0 (.tmp 11)),
                  .l none (some 38) (.ld none (.tmp 37)),
                  .p none 39 (.bin .add .i64 (.tmp 38) (.const (.int .i64 5))),
                  .l none (some 40) (.callv (.tmp 36) [(.const (.int .i64 0)), (.tmp 39)])])))
            (.reg [.p none 41 (.bin .add .i64 (.tmp 32) (.const (.int .i64 1))),
                .p none 32 (.mv (.tmp 41))])))))))))
      (.reg [.p none 42 (.bin .add .i64 (.tmp 25) (.const (.int .i64 1))),
          .p none 25 (.mv (.tmp 42))])))))))
  (.seq (.seq (.reg [.p none 43 (.mv (.tmp 3)),
      .p none 44 (.len (.tmp 43)),
      .p none 45 (.bin .sub .i64 (.tmp 44) (.const (.int .i64 24))),
      .p none 12 (.mv (.tmp 45))])
  (.block 4
    (.loop
      (.seq (.seq (.reg [.p none 46 (.mv (.tmp 12)),
          .p none 47 (.bin .gtr .i64 (.tmp 46) (.const (.int .i64 0)))])
      (.cond (.tmp 47)
        .skip
        (.exit 4)))
      (.block 5
        (.seq (.reg [.p none 48 (.mv (.tmp 12)),
            .p none 49 (.mm false .i64 (.tmp 48) [(.const (.int .i64 4100))]),
            .p none 13 (.mv (.tmp 49))])
        (.seq (.reg [.p none 50 (.mv (.tmp 7)),
            .p none 51 (.mv (.tmp 13)),
            .l none (some 52) (.callv (.tmp 50) [(.const (.int .i64 1)), (.tmp 51)])])
        (.reg [.p none 53 (.mv (.tmp 12)),
            .p none 54 (.mv (.tmp 13)),
            .p none 55 (.bin .sub .i64 (.tmp 53) (.tmp 54)),
            .p none 12 (.mv (.tmp 55))]))))))))
  (.seq (.reg [.p none 56 (.mv (.tmp 7)),
      .l none (some 57) (.callv (.tmp 56) [(.const (.int .i64 2)), (.const (.int .i64 24))])])
  (.seq (.reg [.l none (some 58) (.ld none (.tmp 5)),
      .p none 2 (.mv (.tmp 58))])
  .ret))))))))))
theorem C26 : compile Try.prog 59 (Try.f26.body.getD .skip) = some M26 := by kernel_rfl

/-- foot.NewDecoder -/
def M31 : MC :=
  (.seq (.reg [.l none (some 1) (.bx 36 (.tmp 0)),
      .p none 2 (.mv (.const (.pointer none))),
      .p none 3 (.mv (.const (.int .i64 0)))])
  (.seq (.seq (.reg [.l none (some 7) (.ld (some 2) (.tmp 1)),
      .l none (some 8) (.call 51 [(.tmp 7)]),
      .p none 6 (.mv (.tmp 8)),
      .p none 9 (.ext 0 (.tmp 6)),
      .p none 10 (.ext 1 (.tmp 6)),
      .p none 4 (.mv (.tmp 9)),
      .p none 5 (.mv (.tmp 10))])
  (.seq (.reg [.p none 11 (.mv (.tmp 5)),
      .p none 12 (.not (.tmp 11))])
  (.cond (.tmp 12)
    (.seq (.reg [.p none 2 (.mv (.const (.pointer none))),
        .p none 3 (.mv (.const (.int .i64 81)))])
    .ret)
    .skip)))
  (.seq (.reg [.l none (some 13) (.ld (some 2) (.tmp 1)),
      .p none 14 (.fa 1 (.tmp 1)),
      .l none (some 15) (.ld none (.tmp 14)),
      .p none 16 (.bld [(.int .i64 0), (.int .i64 0), (.int .i64 0), (.slice none 0 0), (.bool false)] [(0, 2, (.tmp 13)), (2, 1, (.tmp 15))]),
      .l none (some 17) (.bx 98 (.tmp 16)),
      .p none 2 (.mv (.tmp 17)),
      .p none 3 (.mv (.const (.int .i64 0)))])
  .ret)))
theorem C31 : compile Try.prog 18 (Try.f31.body.getD .skip) = some M31 := by kernel_rfl

/-- (*foot.Decoder).Page -/
def M33 : MC :=
  (.seq (.reg [.p none 4 (.mv (.const (.int .i64 0)))])
  (.seq (.seq (.reg [.p none 8 (.mv (.tmp 0)),
      .p none 9 (.isnil false 0 (.tmp 8))])
  (.cond (.tmp 9)
    (.seq (.reg [.p none 4 (.mv (.const (.int .i64 1)))])
    .ret)
    .skip))
  (.seq (.reg [.p none 10 (.mv (.tmp 0)),
      .p none 11 (.nilchk (.tmp 10)),
      .p none 12 (.fa 2 (.tmp 11)),
      .l none (some 13) (.ld none (.tmp 12)),
      .p none 14 (.mm false .i64 (.tmp 13) [(.const (.int .i64 4100))]),
      .p none 5 (.mv (.tmp 14))])
  (.seq (.seq (.reg [.p none 15 (.mv (.tmp 0)),
      .p none 16 (.nilchk (.tmp 15)),
      .p none 17 (.fa 4 (.tmp 16)),
      .l none (some 18) (.ld none (.tmp 17)),
      .p none 19 (.mv (.tmp 18)),
      .split 19,
      .p (some (19, false)) 20 (.mv (.tmp 5)),
      .p (some (19, false)) 21 (.bin .eql .i64 (.tmp 20) (.const (.int .i64 0))),
      .p none 22 (.pick (.tmp 19) (.const (.bool true)) (.tmp 21)),
      .p none 23 (.mv (.tmp 22)),
      .split 23,
      .p (some (23, false)) 24 (.mv (.tmp 1)),
      .p (some (23, false)) 25 (.len (.tmp 24)),
      .p (some (23, false)) 26 (.mv (.tmp 5)),
      .p (some (23, false)) 27 (.bin .neq .i64 (.tmp 25) (.tmp 26)),
      .p none 28 (.pick (.tmp 23) (.const (.bool true)) (.tmp 27))])
  (.cond (.tmp 28)
    (.seq (.reg [.p none 29 (.mv (.tmp 0)),
        .p none 30 (.nilchk (.tmp 29)),
        .p none 31 (.fa 4 (.tmp 30)),
        .l none none (.st 1 (.tmp 31) (.const (.bool true)))])
    (.seq (.reg [.p none 4 (.mv (.const (.int .i64 80)))])
    .ret))
    .skip))
  (.seq (.reg [.p none 33 (.mv (.tmp 1)),
      .l none (some 34) (.call 49 [(.tmp 33)]),
      .p none 32 (.mv (.tmp 34)),
      .p none 35 (.ext 0 (.tmp 32)),
      .p none 36 (.ext 1 (.tmp 32)),
      .p none 6 (.mv (.tmp 35)),
      .p none 7 (.mv (.tmp 36))])
  (.seq (.seq (.reg [.p none 37 (.mv (.tmp 7)),
      .p none 38 (.bin .neq .i64 (.tmp 37) (.const (.int .i64 0)))])
  (.cond (.tmp 38)
    (.seq (.reg [.p none 39 (.mv (.tmp 0)),
        .p none 40 (.nilchk (.tmp 39)),
        .p none 41 (.fa 4 (.tmp 40)),
        .l none none (.st 1 (.tmp 41) (.const (.bool true)))])
    (.seq (.reg [.p none 4 (.mv (.const (.int .i64 80)))])
    .ret))
    .skip))
  (.seq (.reg [.p none 42 (.mv (.tmp 0)),
      .p none 43 (.mv (.tmp 0)),
      .p none 44 (.nilchk (.tmp 43)),
      .p none 45 (.fa 3 (.tmp 44)),
      .l none (some 46) (.ld none (.tmp 45)),
      .p none 47 (.mv (.tmp 6)),
      .l none (some 48) (.app 5 1 1 [(.int .u8 0)] (.tmp 46) (.tmp 47)),
      .p none 49 (.nilchk (.tmp 42)),
      .p none 50 (.fa 3 (.tmp 49)),
      .l none none (.st 1 (.tmp 50) (.tmp 48))])
  (.seq (.reg [.p none 51 (.mv (.tmp 0)),
      .p none 52 (.nilchk (.tmp 51)),
      .p none 53 (.fa 2 (.tmp 52)),
      .l none (some 54) (.ld none (.tmp 53)),
      .p none 55 (.mv (.tmp 5)),
      .p none 56 (.bin .sub .i64 (.tmp 54) (.tmp 55)),
      .p none 57 (.nilchk (.tmp 51)),
      .p none 58 (.fa 2 (.tmp 57)),
      .l none none (.st 1 (.tmp 58) (.tmp 56))])
  (.seq (.reg [.p none 4 (.mv (.const (.int .i64 0)))])
  .ret)))))))))
theorem C33 : compile Try.prog 59 (Try.f33.body.getD .skip) = some M33 := by kernel_rfl

/-- (*foot.Decoder).Foot -/
def M35 : MC :=
  (.seq (.reg [.l none (some 2) (.al 24 [(.int .i64 0), (.slice none 0 0)]),
      .p none 3 (.mv (.const (.int .i64 0)))])
  (.seq (.block 0
    (.seq (.reg [.p none 7 (.mv (.tmp 0)),
        .p none 8 (.isnil false 0 (.tmp 7)),
        .p none 6 (.mv (.tmp 8))])
    (.cond (.tmp 6)
      (.seq (.reg [.p none 9 (.bld [(.int .i64 0), (.slice none 0 0)] []),
          .l none none (.st 2 (.tmp 2) (.tmp 9)),
          .p none 3 (.mv (.const (.int .i64 1)))])
      .ret)
      (.seq (.reg [.p none 11 (.mv (.tmp 0)),
          .p none 12 (.nilchk (.tmp 11)),
          .p none 13 (.fa 4 (.tmp 12)),
          .l none (some 14) (.ld none (.tmp 13)),
          .p none 15 (.mv (.tmp 14)),
          .split 15,
          .p (some (15, false)) 16 (.mv (.tmp 0)),
          .p (some (15, false)) 17 (.nilchk (.tmp 16)),
          .p (some (15, false)) 18 (.fa 2 (.tmp 17)),
          .l (some (15, false)) (some 19) (.ld none (.tmp 18)),
          .p (some (15, false)) 20 (.bin .gtr .i64 (.tmp 19) (.const (.int .i64 0))),
          .p none 21 (.pick (.tmp 15) (.const (.bool true)) (.tmp 20)),
          .p none 10 (.mv (.tmp 21))])
      (.cond (.tmp 10)
        (.seq (.reg [.p none 22 (.bld [(.int .i64 0), (.slice none 0 0)] []),
            .l none none (.st 2 (.tmp 2) (.tmp 22)),
            .p none 3 (.mv (.const (.int .i64 80)))])
        .ret)
        .skip)))))
  (.seq (.reg [.p none 24 (.mv (.tmp 0)),
      .p none 25 (.nilchk (.tmp 24)),
      .p none 26 (.fa 3 (.tmp 25)),
      .l none (some 27) (.ld none (.tmp 26)),
      .l none (some 28) (.call 65 [(.tmp 27)]),
      .p none 23 (.mv (.tmp 28)),
      .p none 29 (.ext 0 (.tmp 23)),
      .p none 30 (.ext 1 (.tmp 23)),
      .l none (some 4) (.al 24 [(.int .i64 0), (.slice none 0 0)]),
      .l none none (.st 2 (.tmp 4) (.tmp 29)),
      .p none 5 (.mv (.tmp 30))])
  (.seq (.seq (.dreg (.line [.qp 0 none 31 (.mv (.tmp 5)),
      .qp 1 none 32 (.not (.tmp 31)),
      .qp 2 none 33 (.mv (.tmp 32)),
      .split 33,
      .qp 5 (some (33, false)) 36 (.mv (.tmp 0)),
      .qp 6 (some (33, false)) 37 (.nilchk (.tmp 36)),
      .qp 7 (some (33, false)) 38 (.fa 0 (.tmp 37)),
      .qp 8 (some (33, false)) 39 (.fa 0 (.tmp 38)),
      .ql 9 (some (33, false)) 40 none (.tmp 39),
      .l 3 (some (33, false)) (some 34) (.ld (some 2) (.tmp 4)),
      .l 4 (some (33, false)) (some 35) (.call 56 [(.tmp 34)]),
      .qp 10 (some (33, false)) 41 (.bin .neq .i64 (.tmp 35) (.tmp 40)),
      .qp 11 none 42 (.pick (.tmp 33) (.const (.bool true)) (.tmp 41))]))
  (.cond (.tmp 42)
    (.seq (.reg [.p none 43 (.bld [(.int .i64 0), (.slice none 0 0)] []),
        .l none none (.st 2 (.tmp 2) (.tmp 43)),
        .p none 3 (.mv (.const (.int .i64 80)))])
    .ret)
    .skip))
  (.seq (.reg [.l none (some 44) (.ld (some 2) (.tmp 4)),
      .l none none (.st 2 (.tmp 2) (.tmp 44)),
      .p none 3 (.mv (.const (.int .i64 0)))])
  .ret)))))
theorem C35 : compile Try.prog 45 (Try.f35.body.getD .skip) = some M35 := by kernel_rfl

/-- winnowlaw8.sameFoot -/
def M37 : MC :=
  (.seq (.reg [.l none (some 2) (.bx 24 (.tmp 0)),
      .l none (some 3) (.bx 24 (.tmp 1)),
      .p none 4 (.mv (.const (.bool false)))])
  (.seq (.seq (.reg [.p none 6 (.fa 0 (.tmp 2)),
      .l none (some 7) (.ld none (.tmp 6)),
      .p none 8 (.fa 0 (.tmp 3)),
      .l none (some 9) (.ld none (.tmp 8)),
      .p none 10 (.bin .neq .i64 (.tmp 7) (.tmp 9)),
      .p none 11 (.mv (.tmp 10)),
      .split 11,
      .p (some (11, false)) 12 (.fa 1 (.tmp 2)),
      .l (some (11, false)) (some 13) (.ld none (.tmp 12)),
      .p (some (11, false)) 14 (.len (.tmp 13)),
      .p (some (11, false)) 15 (.fa 1 (.tmp 3)),
      .l (some (11, false)) (some 16) (.ld none (.tmp 15)),
      .p (some (11, false)) 17 (.len (.tmp 16)),
      .p (some (11, false)) 18 (.bin .neq .i64 (.tmp 14) (.tmp 17)),
      .p none 19 (.pick (.tmp 11) (.const (.bool true)) (.tmp 18))])
  (.cond (.tmp 19)
    (.seq (.reg [.p none 4 (.mv (.const (.bool false)))])
    .ret)
    .skip))
  (.seq (.seq (.reg [.p none 5 (.mv (.const (.int .i64 0)))])
  (.block 0
    (.loop
      (.seq (.seq (.reg [.p none 20 (.mv (.tmp 5)),
          .p none 21 (.fa 1 (.tmp 2)),
          .l none (some 22) (.ld none (.tmp 21)),
          .p none 23 (.len (.tmp 22)),
          .p none 24 (.bin .lss .i64 (.tmp 20) (.tmp 23))])
      (.cond (.tmp 24)
        .skip
        (.exit 0)))
      (.seq (.block 1
        (.seq (.dreg (.line [.qp 0 none 27 (.fa 1 (.tmp 2)),
            .qp 2 none 29 (.mv (.tmp 5)),
            .qp 6 none 33 (.fa 1 (.tmp 3)),
            .qp 8 none 35 (.mv (.tmp 5)),
            .ql 7 none 34 none (.tmp 33),
            .qp 9 none 36 (.idx 5 (.tmp 34) (.tmp 35)),
            .qp 10 none 37 (.fa 0 (.tmp 36)),
            .ql 11 none 38 none (.tmp 37),
            .l 1 none (some 28) (.ld none (.tmp 27)),
            .qp 3 none 30 (.idx 5 (.tmp 28) (.tmp 29)),
            .qp 4 none 31 (.fa 0 (.tmp 30)),
            .l 5 none (some 32) (.ld none (.tmp 31)),
            .qp 12 none 39 (.bin .neq .i64 (.tmp 32) (.tmp 38)),
            .qp 13 none 40 (.mv (.tmp 39)),
            .split 40,
            .qp 14 (some (40, false)) 41 (.fa 1 (.tmp 2)),
            .qp 16 (some (40, false)) 43 (.mv (.tmp 5)),
            .qp 20 (some (40, false)) 47 (.fa 1 (.tmp 3)),
            .qp 22 (some (40, false)) 49 (.mv (.tmp 5)),
            .ql 21 (some (40, false)) 48 none (.tmp 47),
            .qp 23 (some (40, false)) 50 (.idx 5 (.tmp 48) (.tmp 49)),
            .qp 24 (some (40, false)) 51 (.fa 2 (.tmp 50)),
            .ql 25 (some (40, false)) 52 (some 3) (.tmp 51),
            .l 15 (some (40, false)) (some 42) (.ld none (.tmp 41)),
            .qp 17 (some (40, false)) 44 (.idx 5 (.tmp 42) (.tmp 43)),
            .qp 18 (some (40, false)) 45 (.fa 2 (.tmp 44)),
            .l 19 (some (40, false)) (some 46) (.ld (some 3) (.tmp 45)),
            .l 26 (some (40, false)) (some 53) (.call 67 [(.tmp 46), (.tmp 52)]),
            .qp 27 (some (40, false)) 54 (.not (.tmp 53)),
            .qp 28 none 55 (.pick (.tmp 40) (.const (.bool true)) (.tmp 54)),
            .qp 29 none 56 (.mv (.tmp 55)),
            .split 56,
            .qp 30 (some (56, false)) 57 (.fa 1 (.tmp 2)),
            .qp 32 (some (56, false)) 59 (.mv (.tmp 5)),
            .qp 36 (some (56, false)) 63 (.fa 1 (.tmp 3)),
            .qp 38 (some (56, false)) 65 (.mv (.tmp 5)),
            .ql 37 (some (56, false)) 64 none (.tmp 63),
            .qp 39 (some (56, false)) 66 (.idx 5 (.tmp 64) (.tmp 65)),
            .qp 40 (some (56, false)) 67 (.fa 1 (.tmp 66)),
            .ql 41 (some (56, false)) 68 none (.tmp 67),
            .l 31 (some (56, false)) (some 58) (.ld none (.tmp 57)),
            .qp 33 (some (56, false)) 60 (.idx 5 (.tmp 58) (.tmp 59)),
            .qp 34 (some (56, false)) 61 (.fa 1 (.tmp 60)),
            .l 35 (some (56, false)) (some 62) (.ld none (.tmp 61)),
            .l 42 (some (56, false)) (some 69) (.call 68 [(.tmp 62), (.tmp 68)]),
            .qp 43 (some (56, false)) 70 (.not (.tmp 69)),
            .qp 44 none 71 (.pick (.tmp 56) (.const (.bool true)) (.tmp 70))]))
        (.cond (.tmp 71)
          (.seq (.reg [.p none 4 (.mv (.const (.bool false)))])
          .ret)
          .skip)))
      (.reg [.p none 25 (.mv (.tmp 5)),
          .p none 26 (.bin .add .i64 (.tmp 25) (.const (.int .i64 1))),
          .p none 5 (.mv (.tmp 26))]))))))
  (.seq (.reg [.p none 4 (.mv (.const (.bool true)))])
  .ret))))
theorem C37 : compile Try.prog 72 (Try.f37.body.getD .skip) = some M37 := by kernel_rfl

/-- foot.Decode -/
def M39 : MC :=
  (.seq (.reg [.l none (some 3) (.bx 36 (.tmp 1)),
      .l none (some 4) (.al 24 [(.int .i64 0), (.slice none 0 0)]),
      .p none 5 (.mv (.const (.int .i64 0)))])
  (.seq (.reg [.l none (some 11) (.ld (some 2) (.tmp 3)),
      .l none (some 12) (.call 31 [(.tmp 11)]),
      .p none 10 (.mv (.tmp 12)),
      .p none 13 (.ext 0 (.tmp 10)),
      .p none 14 (.ext 1 (.tmp 10)),
      .p none 6 (.mv (.tmp 13)),
      .p none 7 (.mv (.tmp 14))])
  (.seq (.seq (.reg [.p none 15 (.mv (.tmp 7)),
      .p none 16 (.bin .neq .i64 (.tmp 15) (.const (.int .i64 0)))])
  (.cond (.tmp 16)
    (.seq (.reg [.p none 17 (.bld [(.int .i64 0), (.slice none 0 0)] []),
        .p none 18 (.mv (.tmp 7)),
        .l none none (.st 2 (.tmp 4) (.tmp 17)),
        .p none 5 (.mv (.tmp 18))])
    .ret)
    .skip))
  (.seq (.seq (.reg [.p none 19 (.mv (.tmp 0)),
      .p none 20 (.len (.tmp 19)),
      .p none 21 (.fa 1 (.tmp 3)),
      .l none (some 22) (.ld none (.tmp 21)),
      .p none 23 (.bin .neq .i64 (.tmp 20) (.tmp 22))])
  (.cond (.tmp 23)
    (.seq (.reg [.p none 24 (.bld [(.int .i64 0), (.slice none 0 0)] []),
        .l none none (.st 2 (.tmp 4) (.tmp 24)),
        .p none 5 (.mv (.const (.int .i64 80)))])
    .ret)
    .skip))
  (.seq (.block 0
    (.loop
      (.seq (.seq (.reg [.p none 25 (.mv (.tmp 0)),
          .p none 26 (.len (.tmp 25)),
          .p none 27 (.bin .gtr .i64 (.tmp 26) (.const (.int .i64 0)))])
      (.cond (.tmp 27)
        .skip
        (.exit 0)))
      (.block 1
        (.seq (.reg [.p none 28 (.mv (.tmp 0)),
            .p none 29 (.len (.tmp 28)),
            .p none 30 (.mm false .i64 (.tmp 29) [(.const (.int .i64 4100))]),
            .p none 8 (.mv (.tmp 30))])
        (.seq (.seq (.reg [.p none 31 (.mv (.tmp 6)),
            .p none 32 (.mv (.tmp 0)),
            .p none 33 (.mv (.tmp 8)),
            .p none 34 (.slc 1 (.tmp 32) none (some (.tmp 33)) none),
            .l none (some 35) (.call 33 [(.tmp 31), (.tmp 34)]),
            .p none 9 (.mv (.tmp 35))])
        (.seq (.reg [.p none 36 (.mv (.tmp 9)),
            .p none 37 (.bin .neq .i64 (.tmp 36) (.const (.int .i64 0)))])
        (.cond (.tmp 37)
          (.seq (.reg [.p none 38 (.bld [(.int .i64 0), (.slice none 0 0)] []),
              .p none 39 (.mv (.tmp 9)),
              .l none none (.st 2 (.tmp 4) (.tmp 38)),
              .p none 5 (.mv (.tmp 39))])
          .ret)
          .skip)))
        (.reg [.p none 40 (.mv (.tmp 0)),
            .p none 41 (.mv (.tmp 8)),
            .p none 42 (.slc 1 (.tmp 40) (some (.tmp 41)) none none),
            .p none 0 (.mv (.tmp 42))])))))))
  (.seq (.reg [.p none 43 (.mv (.tmp 6)),
      .l none (some 44) (.call 35 [(.tmp 43)]),
      .p none 45 (.ext 0 (.tmp 44)),
      .p none 46 (.ext 1 (.tmp 44)),
      .l none none (.st 2 (.tmp 4) (.tmp 45)),
      .p none 5 (.mv (.tmp 46))])
  .ret))))))
theorem C39 : compile Try.prog 47 (Try.f39.body.getD .skip) = some M39 := by kernel_rfl

/-- winnowlaw8.head -/
def M41 : MC :=
  (.seq (.reg [.p none 0 (.mv (.const (.bool false)))])
  (.seq (.reg [.p none 8 (.bld [(.int .i64 0), (.slice none 0 0)] [(0, 1, (.const (.int .i64 1)))]),
      .l none (some 9) (.call 24 [(.tmp 8)]),
      .p none 7 (.mv (.tmp 9)),
      .p none 10 (.ext 0 (.tmp 7)),
      .p none 11 (.ext 1 (.tmp 7)),
      .p none 1 (.mv (.tmp 10)),
      .p none 2 (.mv (.tmp 11))])
  (.seq (.seq (.reg [.p none 12 (.mv (.tmp 2)),
      .p none 13 (.bin .neq .i64 (.tmp 12) (.const (.int .i64 0))),
      .p none 14 (.mv (.tmp 13)),
      .split 14,
      .p (some (14, false)) 15 (.mv (.tmp 1)),
      .p (some (14, false)) 16 (.len (.tmp 15)),
      .p (some (14, false)) 17 (.bin .neq .i64 (.tmp 16) (.const (.int .i64 30))),
      .p none 18 (.pick (.tmp 14) (.const (.bool true)) (.tmp 17))])
  (.cond (.tmp 18)
    (.seq (.reg [.p none 0 (.mv (.const (.bool false)))])
    .ret)
    .skip))
  (.seq (.reg [.p none 20 (.mv (.tmp 1)),
      .p none 21 (.slc 1 (.tmp 20) (some (.const (.int .i64 6))) none none),
      .l none (some 22) (.call 21 [(.tmp 21), (.const (.int .i64 30))]),
      .p none 19 (.mv (.tmp 22)),
      .p none 23 (.ext 0 (.tmp 19)),
      .p none 24 (.ext 1 (.tmp 19)),
      .l none (some 3) (.al 36 [(.int .i64 0), (.int .i64 0)]),
      .l none none (.st 2 (.tmp 3) (.tmp 23)),
      .p none 4 (.mv (.tmp 24))])
  (.seq (.dreg (.fork [.qp 0 none 26 (.mv (.tmp 1)),
      .qp 1 none 27 (.slc 1 (.tmp 26) none (some (.const (.int .i64 6))) none),
      .ql 2 none 28 (some 2) (.tmp 3)]
    (.line [.l 3 none (some 29) (.call 39 [(.tmp 27), (.tmp 28)]),
        .qp 4 none 25 (.mv (.tmp 29)),
        .qp 5 none 30 (.ext 0 (.tmp 25)),
        .qp 6 none 31 (.ext 1 (.tmp 25)),
        .l 7 none (some 5) (.al 24 [(.int .i64 0), (.slice none 0 0)]),
        .l 8 none none (.st 2 (.tmp 5) (.tmp 30)),
        .qp 9 none 6 (.mv (.tmp 31))])
    (.line [.l 7 none (some 5) (.al 24 [(.int .i64 0), (.slice none 0 0)]),
        .l 3 none (some 29) (.call 39 [(.tmp 27), (.tmp 28)]),
        .qp 4 none 25 (.mv (.tmp 29)),
        .qp 5 none 30 (.ext 0 (.tmp 25)),
        .qp 6 none 31 (.ext 1 (.tmp 25)),
        .l 8 none none (.st 2 (.tmp 5) (.tmp 30)),
        .qp 9 none 6 (.mv (.tmp 31))])))
  (.seq (.reg [.p none 32 (.mv (.tmp 4)),
      .p none 33 (.bin .eql .i64 (.tmp 32) (.const (.int .i64 0))),
      .p none 34 (.mv (.tmp 33)),
      .split 34,
      .p (some (34, true)) 35 (.mv (.tmp 6)),
      .p (some (34, true)) 36 (.bin .eql .i64 (.tmp 35) (.const (.int .i64 0))),
      .p none 37 (.pick (.tmp 34) (.tmp 36) (.const (.bool false))),
      .p none 38 (.mv (.tmp 37)),
      .split 38,
      .l (some (38, true)) (some 39) (.ld (some 2) (.tmp 3)),
      .p (some (38, true)) 40 (.bld [(.int .i64 0), (.int .i64 0)] [(1, 1, (.const (.int .i64 6)))]),
      .p (some (38, true)) 41 (.aeq false [1, 1] (.tmp 39) (.tmp 40)),
      .p none 42 (.pick (.tmp 38) (.tmp 41) (.const (.bool false))),
      .p none 43 (.mv (.tmp 42)),
      .split 43,
      .p (some (43, true)) 44 (.fa 0 (.tmp 5)),
      .l (some (43, true)) (some 45) (.ld none (.tmp 44)),
      .p (some (43, true)) 46 (.bin .eql .i64 (.tmp 45) (.const (.int .i64 1))),
      .p none 47 (.pick (.tmp 43) (.tmp 46) (.const (.bool false))),
      .p none 48 (.mv (.tmp 47)),
      .split 48,
      .p (some (48, true)) 49 (.fa 1 (.tmp 5)),
      .l (some (48, true)) (some 50) (.ld none (.tmp 49)),
      .p (some (48, true)) 51 (.len (.tmp 50)),
      .p (some (48, true)) 52 (.bin .eql .i64 (.tmp 51) (.const (.int .i64 0))),
      .p none 53 (.pick (.tmp 48) (.tmp 52) (.const (.bool false))),
      .p none 0 (.mv (.tmp 53))])
  .ret))))))
theorem C41 : compile Try.prog 54 (Try.f41.body.getD .skip) = some M41 := by kernel_rfl

/-- winnowlaw8.space -/
def M42 : MC :=
  (.seq (.reg [.l none (some 1) (.bx 24 (.tmp 0)),
      .p none 2 (.mv (.const (.int .i64 0)))])
  (.seq (.reg [.p none 3 (.mv (.const (.int .i64 0)))])
  (.seq (.seq (.reg [.p none 4 (.mv (.const (.int .i64 0)))])
  (.block 0
    (.loop
      (.seq (.seq (.reg [.p none 6 (.mv (.tmp 4)),
          .p none 7 (.fa 1 (.tmp 1)),
          .l none (some 8) (.ld none (.tmp 7)),
          .p none 9 (.len (.tmp 8)),
          .p none 10 (.bin .lss .i64 (.tmp 6) (.tmp 9))])
      (.cond (.tmp 10)
        .skip
        (.exit 0)))
      (.seq (.block 1
        (.seq (.reg [.p none 5 (.mv (.const (.int .i64 0)))])
        (.block 2
          (.loop
            (.seq (.seq (.reg [.p none 13 (.mv (.tmp 5)),
                .p none 14 (.fa 1 (.tmp 1)),
                .l none (some 15) (.ld none (.tmp 14)),
                .p none 16 (.mv (.tmp 4)),
                .p none 17 (.idx 5 (.tmp 15) (.tmp 16)),
                .p none 18 (.fa 1 (.tmp 17)),
                .l none (some 19) (.ld none (.tmp 18)),
                .p none 20 (.len (.tmp 19)),
                .p none 21 (.bin .lss .i64 (.tmp 13) (.tmp 20))])
            (.cond (.tmp 21)
              .skip
              (.exit 2)))
            (.seq (.block 3
              (.reg [.p none 24 (.mv (.tmp 3)),
                  .p none 25 (.fa 1 (.tmp 1)),
                  .l none (some 26) (.ld none (.tmp 25)),
                  .p none 27 (.mv (.tmp 4)),
                  .p none 28 (.idx 5 (.tmp 26) (.tmp 27)),
                  .p none 29 (.fa 1 (.tmp 28)),
                  .l none (some 30) (.ld none (.tmp 29)),
                  .p none 31 (.mv (.tmp 5)),
                  .p none 32 (.idx 4 (.tmp 30) (.tmp 31)),
                  .p none 33 (.fa 0 (.tmp 32)),
                  .l none (some 34) (.ld none (.tmp 33)),
                  .p none 35 (.bin .add .i64 (.tmp 24) (.tmp 34)),
                  .p none 36 (.bin .add .i64 (.tmp 35) (.const (.int .i64 5))),
                  .p none 3 (.mv (.tmp 36))]))
            (.reg [.p none 22 (.mv (.tmp 5)),
                .p none 23 (.bin .add .i64 (.tmp 22) (.const (.int .i64 1))),
                .p none 5 (.mv (.tmp 23))])))))))
      (.reg [.p none 11 (.mv (.tmp 4)),
          .p none 12 (.bin .add .i64 (.tmp 11) (.const (.int .i64 1))),
          .p none 4 (.mv (.tmp 12))]))))))
  (.seq (.reg [.p none 37 (.mv (.tmp 3)),
      .p none 2 (.mv (.tmp 37))])
  .ret))))
theorem C42 : compile Try.prog 38 (Try.f42.body.getD .skip) = some M42 := by kernel_rfl

/-- winnowlaw8.turn -/
def M43 : MC :=
  (.seq (.reg [.l none (some 7) (.bx 80 (.tmp 3)),
      .p none 8 (.mv (.const (.bool false)))])
  (.seq (.reg [.p none 14 (.mv (.tmp 2)),
      .p none 15 (.mv (.tmp 1)),
      .p none 16 (.bin .sub .i64 (.tmp 14) (.tmp 15)),
      .p none 17 (.bin .mul .i64 (.const (.int .i64 8)) (.tmp 16)),
      .p none 9 (.mv (.tmp 17))])
  (.seq (.reg [.p none 18 (.fa 1 (.tmp 7)),
      .l none (some 19) (.ld none (.tmp 18)),
      .p none 20 (.mv (.tmp 9)),
      .p none 21 (.div .rem .i64 (.tmp 19) (.tmp 20)),
      .p none 10 (.mv (.tmp 21))])
  (.seq (.seq (.reg [.p none 22 (.mv (.tmp 10)),
      .p none 23 (.bin .lss .i64 (.tmp 22) (.const (.int .i64 0)))])
  (.cond (.tmp 23)
    (.reg [.p none 24 (.mv (.tmp 10)),
        .p none 25 (.mv (.tmp 9)),
        .p none 26 (.bin .add .i64 (.tmp 24) (.tmp 25)),
        .p none 10 (.mv (.tmp 26))])
    .skip))
  (.seq (.reg [.p none 11 (.mv (.const (.bool false)))])
  (.seq (.seq (.reg [.p none 12 (.mv (.const (.int .i64 0)))])
  (.block 0
    (.loop
      (.seq (.seq (.reg [.p none 27 (.mv (.tmp 12)),
          .p none 28 (.bin .lss .i64 (.tmp 27) (.const (.int .i64 32))),
          .p none 29 (.mv (.tmp 28)),
          .split 29,
          .p (some (29, true)) 30 (.mv (.tmp 10)),
          .p (some (29, true)) 31 (.mv (.tmp 12)),
          .p (some (29, true)) 32 (.bin .add .i64 (.tmp 30) (.tmp 31)),
          .p (some (29, true)) 33 (.mv (.tmp 9)),
          .p (some (29, true)) 34 (.bin .lss .i64 (.tmp 32) (.tmp 33)),
          .p none 35 (.pick (.tmp 29) (.tmp 34) (.const (.bool false)))])
      (.cond (.tmp 35)
        .skip
        (.exit 0)))
      (.seq (.block 1
        (.seq (.reg [.p none 38 (.fa 2 (.tmp 7)),
            .l none (some 39) (.ld none (.tmp 38)),
            .p none 40 (.mv (.tmp 12)),
            .p none 41 (.conv .u64 (.tmp 40)),
            .p none 42 (.shf .shr (.tmp 39) (.tmp 41)),
            .p none 43 (.bin .and .u32 (.tmp 42) (.const (.int .u32 1))),
            .p none 44 (.bin .eql .u32 (.tmp 43) (.const (.int .u32 1)))])
        (.cond (.tmp 44)
          (.seq (.reg [.p none 45 (.mv (.tmp 1)),
              .p none 46 (.bin .mul .i64 (.const (.int .i64 8)) (.tmp 45)),
              .p none 47 (.mv (.tmp 10)),
              .p none 48 (.bin .add .i64 (.tmp 46) (.tmp 47)),
              .p none 49 (.mv (.tmp 12)),
              .p none 50 (.bin .add .i64 (.tmp 48) (.tmp 49)),
              .p none 13 (.mv (.tmp 50))])
          (.seq (.reg [.p none 51 (.mv (.tmp 0)),
              .p none 52 (.mv (.tmp 13)),
              .p none 53 (.div .quo .i64 (.tmp 52) (.const (.int .i64 8))),
              .p none 54 (.mv (.tmp 0)),
              .p none 55 (.mv (.tmp 13)),
              .p none 56 (.div .quo .i64 (.tmp 55) (.const (.int .i64 8))),
              .p none 57 (.idx 1 (.tmp 54) (.tmp 56)),
              .l none (some 58) (.ld none (.tmp 57)),
              .p none 59 (.mv (.tmp 13)),
              .p none 60 (.div .rem .i64 (.tmp 59) (.const (.int .i64 8))),
              .p none 61 (.conv .u64 (.tmp 60)),
              .p none 62 (.shf .shl (.const (.int .u8 1)) (.tmp 61)),
              .p none 63 (.bin .xor .u8 (.tmp 58) (.tmp 62)),
              .p none 64 (.idx 1 (.tmp 51) (.tmp 53)),
              .l none none (.st 1 (.tmp 64) (.tmp 63))])
          (.reg [.p none 11 (.mv (.const (.bool true)))])))
          .skip)))
      (.reg [.p none 36 (.mv (.tmp 12)),
          .p none 37 (.bin .add .i64 (.tmp 36) (.const (.int .i64 1))),
          .p none 12 (.mv (.tmp 37))]))))))
  (.seq (.reg [.p none 65 (.mv (.tmp 11)),
      .p none 8 (.mv (.tmp 65))])
  .ret)))))))
theorem C43 : compile Try.prog 66 (Try.f43.body.getD .skip) = some M43 := by kernel_rfl

/-- filter.Check -/
def M46 : MC :=
  (.seq (.reg [.l none (some 1) (.bx 69 (.tmp 0)),
      .p none 2 (.mv (.const (.int .i64 0)))])
  (.seq (.seq (.reg [.l none (some 3) (.ld (some 3) (.tmp 1)),
      .l none (some 4) (.call 69 [(.tmp 3)]),
      .p none 5 (.bin .eql .i64 (.tmp 4) (.const (.int .i64 0)))])
  (.cond (.tmp 5)
    (.seq (.reg [.p none 2 (.mv (.const (.int .i64 70)))])
    .ret)
    .skip))
  (.seq (.reg [.p none 2 (.mv (.const (.int .i64 0)))])
  .ret)))
theorem C46 : compile Try.prog 6 (Try.f46.body.getD .skip) = some M46 := by kernel_rfl

/-- foot.rightBlock -/
def M47 : MC :=
  (.seq (.reg [.l none (some 2) (.bx 74 (.tmp 0)),
      .p none 4 (.mv (.const (.bool false)))])
  (.seq (.reg [.p none 5 (.fa 0 (.tmp 2)),
      .l none (some 6) (.ld none (.tmp 5)),
      .p none 7 (.bin .geq .i64 (.tmp 6) (.const (.int .i64 1))),
      .p none 8 (.mv (.tmp 7)),
      .split 8,
      .p (some (8, true)) 9 (.fa 0 (.tmp 2)),
      .l (some (8, true)) (some 10) (.ld none (.tmp 9)),
      .p (some (8, true)) 11 (.bin .leq .i64 (.tmp 10) (.const (.int .i64 65536))),
      .p none 12 (.pick (.tmp 8) (.tmp 11) (.const (.bool false))),
      .p none 13 (.mv (.tmp 12)),
      .split 13,
      .p (some (13, true)) 14 (.fa 1 (.tmp 2)),
      .l (some (13, true)) (some 15) (.ld none (.tmp 14)),
      .p (some (13, true)) 16 (.bin .geq .i64 (.tmp 15) (.const (.int .i64 1))),
      .p none 17 (.pick (.tmp 13) (.tmp 16) (.const (.bool false))),
      .p none 18 (.mv (.tmp 17)),
      .split 18,
      .p (some (18, true)) 19 (.fa 1 (.tmp 2)),
      .l (some (18, true)) (some 20) (.ld none (.tmp 19)),
      .p (some (18, true)) 21 (.bin .leq .i64 (.tmp 20) (.const (.int .i64 65536))),
      .p none 22 (.pick (.tmp 18) (.tmp 21) (.const (.bool false))),
      .p none 23 (.mv (.tmp 22)),
      .split 23,
      .p (some (23, true)) 24 (.fa 1 (.tmp 2)),
      .l (some (23, true)) (some 25) (.ld none (.tmp 24)),
      .p (some (23, true)) 26 (.fa 0 (.tmp 2)),
      .l (some (23, true)) (some 27) (.ld none (.tmp 26)),
      .p (some (23, true)) 28 (.bin .mul .i64 (.const (.int .i64 64)) (.tmp 27)),
      .p (some (23, true)) 29 (.bin .leq .i64 (.tmp 25) (.tmp 28)),
      .p none 30 (.pick (.tmp 23) (.tmp 29) (.const (.bool false))),
      .p none 31 (.mv (.tmp 30)),
      .split 31,
      .p (some (31, true)) 32 (.fa 2 (.tmp 2)),
      .l (some (31, true)) (some 33) (.ld none (.tmp 32)),
      .p (some (31, true)) 34 (.bin .geq .i64 (.tmp 33) (.const (.int .i64 1))),
      .p none 35 (.pick (.tmp 31) (.tmp 34) (.const (.bool false))),
      .p none 36 (.mv (.tmp 35)),
      .split 36,
      .p (some (36, true)) 37 (.fa 2 (.tmp 2)),
      .l (some (36, true)) (some 38) (.ld none (.tmp 37)),
      .p (some (36, true)) 39 (.fa 1 (.tmp 2)),
      .l (some (36, true)) (some 40) (.ld none (.tmp 39)),
      .p (some (36, true)) 41 (.bin .leq .i64 (.tmp 38) (.tmp 40)),
      .p none 42 (.pick (.tmp 36) (.tmp 41) (.const (.bool false))),
      .p none 43 (.mv (.tmp 42)),
      .split 43,
      .p (some (43, true)) 44 (.fa 3 (.tmp 2)),
      .l (some (43, true)) (some 45) (.ld none (.tmp 44)),
      .p (some (43, true)) 46 (.lens (.tmp 45)),
      .p (some (43, true)) 47 (.bin .leq .i64 (.tmp 46) (.const (.int .i64 64))),
      .p none 48 (.pick (.tmp 43) (.tmp 47) (.const (.bool false))),
      .p none 49 (.mv (.tmp 48)),
      .split 49,
      .p (some (49, true)) 50 (.fa 3 (.tmp 2)),
      .l (some (49, true)) (some 51) (.ld none (.tmp 50)),
      .p (some (49, true)) 52 (.mv (.tmp 1)),
      .l (some (49, true)) (some 53) (.call 48 [(.tmp 51), (.tmp 52)]),
      .p (some (49, true)) 54 (.bin .geq .i64 (.tmp 53) (.const (.int .i64 0))),
      .p none 55 (.pick (.tmp 49) (.tmp 54) (.const (.bool false))),
      .p none 4 (.mv (.tmp 55))])
  .ret))
theorem C47 : compile Try.prog 56 (Try.f47.body.getD .skip) = some M47 := by kernel_rfl

/-- nums.Compare -/
def M48 : MC :=
  (.seq (.reg [.p none 4 (.mv (.const (.int .i64 0)))])
  (.seq (.seq (.reg [.p none 6 (.mv (.tmp 0)),
      .p none 7 (.lens (.tmp 6)),
      .p none 8 (.mv (.tmp 1)),
      .p none 9 (.lens (.tmp 8)),
      .p none 10 (.mm false .i64 (.tmp 7) [(.tmp 9)]),
      .p none 11 (.mv (.const (.int .i64 0)))])
  (.block 0
    (.loop
      (.seq (.reg [.p none 12 (.bin .lss .i64 (.tmp 11) (.tmp 10))])
      (.seq (.cond (.tmp 12)
        .skip
        (.exit 0))
      (.seq (.block 1
        (.seq (.reg [.p none 13 (.mv (.tmp 11)),
            .p none 5 (.mv (.tmp 13))])
        (.block 2
          (.seq (.dreg (.line [.qp 0 none 15 (.mv (.tmp 0)),
              .qp 1 none 16 (.mv (.tmp 5)),
              .qp 2 none 17 (.idxs (.tmp 15) (.tmp 16)),
              .qp 3 none 18 (.mv (.tmp 1)),
              .qp 4 none 19 (.mv (.tmp 5)),
              .qp 5 none 20 (.idxs (.tmp 18) (.tmp 19)),
              .qp 6 none 21 (.bin .lss .u8 (.tmp 17) (.tmp 20)),
              .qp 7 none 14 (.mv (.tmp 21))]))
          (.cond (.tmp 14)
            (.seq (.reg [.p none 4 (.mv (.const (.int .i64 (-1))))])
            .ret)
            (.seq (.dreg (.line [.qp 0 none 23 (.mv (.tmp 0)),
                .qp 1 none 24 (.mv (.tmp 5)),
                .qp 2 none 25 (.idxs (.tmp 23) (.tmp 24)),
                .qp 3 none 26 (.mv (.tmp 1)),
                .qp 4 none 27 (.mv (.tmp 5)),
                .qp 5 none 28 (.idxs (.tmp 26) (.tmp 27)),
                .qp 6 none 29 (.bin .gtr .u8 (.tmp 25) (.tmp 28)),
                .qp 7 none 22 (.mv (.tmp 29))]))
            (.cond (.tmp 22)
              (.seq (.reg [.p none 4 (.mv (.const (.int .i64 1)))])
              .ret)
              .skip)))))))
      (.reg [.p none 30 (.bin .add .i64 (.tmp 11) (.const (.int .i64 1))),
          .p none 11 (.mv (.tmp 30))])))))))
  (.seq (.block 3
    (.seq (.reg [.p none 32 (.mv (.tmp 0)),
        .p none 33 (.lens (.tmp 32)),
        .p none 34 (.mv (.tmp 1)),
        .p none 35 (.lens (.tmp 34)),
        .p none 36 (.bin .lss .i64 (.tmp 33) (.tmp 35)),
        .p none 31 (.mv (.tmp 36))])
    (.cond (.tmp 31)
      (.seq (.reg [.p none 4 (.mv (.const (.int .i64 (-1))))])
      .ret)
      (.seq (.reg [.p none 38 (.mv (.tmp 0)),
          .p none 39 (.lens (.tmp 38)),
          .p none 40 (.mv (.tmp 1)),
          .p none 41 (.lens (.tmp 40)),
          .p none 42 (.bin .gtr .i64 (.tmp 39) (.tmp 41)),
          .p none 37 (.mv (.tmp 42))])
      (.cond (.tmp 37)
        (.seq (.reg [.p none 4 (.mv (.const (.int .i64 1)))])
        .ret)
        .skip)))))
  (.seq (.reg [.p none 4 (.mv (.const (.int .i64 0)))])
  .ret))))
theorem C48 : compile Try.prog 43 (Try.f48.body.getD .skip) = some M48 := by kernel_rfl

/-- crc.Open -/
def M49 : MC :=
  (.seq (.reg [.p none 2 (.mv (.const (.slice none 0 0))),
      .p none 3 (.mv (.const (.int .i64 0)))])
  (.seq (.reg [.p none 5 (.mv (.tmp 0)),
      .p none 6 (.len (.tmp 5)),
      .p none 7 (.bin .sub .i64 (.tmp 6) (.const (.int .i64 4))),
      .p none 4 (.mv (.tmp 7))])
  (.seq (.seq (.reg [.p none 8 (.mv (.tmp 4)),
      .p none 9 (.bin .lss .i64 (.tmp 8) (.const (.int .i64 0)))])
  (.cond (.tmp 9)
    (.seq (.reg [.p none 2 (.mv (.const (.slice none 0 0))),
        .p none 3 (.mv (.const (.int .i64 11)))])
    .ret)
    .skip))
  (.seq (.seq (.dreg (.fork [.qp 0 none 10 (.mv (.tmp 0)),
      .qp 1 none 11 (.mv (.tmp 4)),
      .qp 2 none 12 (.slc 1 (.tmp 10) none (some (.tmp 11)) none),
      .qp 6 none 16 (.mv (.tmp 0)),
      .qp 7 none 17 (.mv (.tmp 4)),
      .qp 8 none 18 (.slc 1 (.tmp 16) (some (.tmp 17)) none none)]
    (.fork [.l 3 none (some 13) (.call 71 [(.tmp 12)])]
      (.fork [.l 4 none (some 14) (.call 70 [(.tmp 13)])]
        (.line [.l 5 none (some 15) (.b2s (.tmp 14)),
            .l 9 none (some 19) (.b2s (.tmp 18)),
            .qp 10 none 20 (.sbin .neq (.tmp 15) (.tmp 19))])
        (.line [.l 9 none (some 19) (.b2s (.tmp 18)),
            .l 5 none (some 15) (.b2s (.tmp 14)),
            .qp 10 none 20 (.sbin .neq (.tmp 15) (.tmp 19))]))
      (.line [.l 9 none (some 19) (.b2s (.tmp 18)),
          .l 4 none (some 14) (.call 70 [(.tmp 13)]),
          .l 5 none (some 15) (.b2s (.tmp 14)),
          .qp 10 none 20 (.sbin .neq (.tmp 15) (.tmp 19))]))
    (.line [.l 9 none (some 19) (.b2s (.tmp 18)),
        .l 3 none (some 13) (.call 71 [(.tmp 12)]),
        .l 4 none (some 14) (.call 70 [(.tmp 13)]),
        .l 5 none (some 15) (.b2s (.tmp 14)),
        .qp 10 none 20 (.sbin .neq (.tmp 15) (.tmp 19))])))
  (.cond (.tmp 20)
    (.seq (.reg [.p none 2 (.mv (.const (.slice none 0 0))),
        .p none 3 (.mv (.const (.int .i64 10)))])
    .ret)
    .skip))
  (.seq (.reg [.l none (some 21) (.bs 5 0 1 [] []),
      .p none 22 (.mv (.tmp 0)),
      .p none 23 (.mv (.tmp 4)),
      .p none 24 (.slc 1 (.tmp 22) none (some (.tmp 23)) none),
      .l none (some 25) (.app 5 1 1 [(.int .u8 0)] (.tmp 21) (.tmp 24)),
      .p none 2 (.mv (.tmp 25)),
      .p none 3 (.mv (.const (.int .i64 0)))])
  .ret)))))
theorem C49 : compile Try.prog 26 (Try.f49.body.getD .skip) = some M49 := by kernel_rfl

/-- nums.Word -/
def M50 : MC :=
  (.seq (.reg [.p none 2 (.mv (.const (.int .u64 0)))])
  (.seq (.reg [.p none 3 (.mv (.const (.int .u64 0)))])
  (.seq (.seq (.reg [.p none 5 (.mv (.tmp 0)),
      .p none 6 (.len (.tmp 5)),
      .p none 7 (.mm false .i64 (.tmp 6) [(.const (.int .i64 8))]),
      .p none 8 (.mv (.const (.int .i64 0)))])
  (.block 0
    (.loop
      (.seq (.reg [.p none 9 (.bin .lss .i64 (.tmp 8) (.tmp 7))])
      (.seq (.cond (.tmp 9)
        .skip
        (.exit 0))
      (.seq (.block 1
        (.seq (.reg [.p none 10 (.mv (.tmp 8)),
            .p none 4 (.mv (.tmp 10))])
        (.reg [.p none 11 (.mv (.tmp 3)),
            .p none 12 (.mv (.tmp 0)),
            .p none 13 (.mv (.tmp 4)),
            .p none 14 (.idx 1 (.tmp 12) (.tmp 13)),
            .l none (some 15) (.ld none (.tmp 14)),
            .p none 16 (.conv .u64 (.tmp 15)),
            .p none 17 (.mv (.tmp 4)),
            .p none 18 (.bin .mul .i64 (.const (.int .i64 8)) (.tmp 17)),
            .p none 19 (.shf .shl (.tmp 16) (.tmp 18)),
            .p none 20 (.bin .or .u64 (.tmp 11) (.tmp 19)),
            .p none 3 (.mv (.tmp 20))])))
      (.reg [.p none 21 (.bin .add .i64 (.tmp 8) (.const (.int .i64 1))),
          .p none 8 (.mv (.tmp 21))])))))))
  (.seq (.reg [.p none 22 (.mv (.tmp 3)),
      .p none 2 (.mv (.tmp 22))])
  .ret))))
theorem C50 : compile Try.prog 23 (Try.f50.body.getD .skip) = some M50 := by kernel_rfl

/-- foot.rightTrail -/
def M51 : MC :=
  (.seq (.reg [.l none (some 1) (.bx 36 (.tmp 0)),
      .p none 2 (.mv (.const (.int .i64 0))),
      .p none 3 (.mv (.const (.bool false)))])
  (.seq (.seq (.dreg (.line [.qp 0 none 6 (.fa 0 (.tmp 1)),
      .l 1 none (some 7) (.ld none (.tmp 6)),
      .qp 2 none 8 (.bin .lss .i64 (.tmp 7) (.const (.int .i64 0))),
      .qp 3 none 9 (.mv (.tmp 8)),
      .split 9,
      .qp 4 (some (9, false)) 10 (.fa 0 (.tmp 1)),
      .l 5 (some (9, false)) (some 11) (.ld none (.tmp 10)),
      .qp 6 (some (9, false)) 12 (.bin .gtr .i64 (.tmp 11) (.const (.int .i64 268435456))),
      .qp 7 none 13 (.pick (.tmp 9) (.const (.bool true)) (.tmp 12)),
      .qp 8 none 14 (.mv (.tmp 13)),
      .split 14,
      .qp 9 (some (14, false)) 15 (.fa 1 (.tmp 1)),
      .l 10 (some (14, false)) (some 16) (.ld none (.tmp 15)),
      .qp 11 (some (14, false)) 17 (.bin .lss .i64 (.tmp 16) (.const (.int .i64 1))),
      .qp 12 none 18 (.pick (.tmp 14) (.const (.bool true)) (.tmp 17)),
      .qp 13 none 19 (.mv (.tmp 18)),
      .split 19,
      .qp 14 (some (19, false)) 20 (.fa 1 (.tmp 1)),
      .ql 15 (some (19, false)) 21 none (.tmp 20),
      .l 16 (some (19, false)) (some 22) (.call 72 [(.const (.int .i64 16777216))]),
      .qp 17 (some (19, false)) 23 (.bin .gtr .i64 (.tmp 21) (.tmp 22)),
      .qp 18 none 24 (.pick (.tmp 19) (.const (.bool true)) (.tmp 23))]))
  (.cond (.tmp 24)
    (.seq (.reg [.p none 2 (.mv (.const (.int .i64 0))),
        .p none 3 (.mv (.const (.bool false)))])
    .ret)
    .skip))
  (.seq (.reg [.p none 25 (.fa 1 (.tmp 1)),
      .l none (some 26) (.ld none (.tmp 25)),
      .p none 27 (.div .quo .i64 (.tmp 26) (.const (.int .i64 4100))),
      .p none 4 (.mv (.tmp 27))])
  (.seq (.reg [.p none 28 (.fa 1 (.tmp 1)),
      .l none (some 29) (.ld none (.tmp 28)),
      .p none 30 (.div .rem .i64 (.tmp 29) (.const (.int .i64 4100))),
      .p none 5 (.mv (.tmp 30))])
  (.seq (.seq (.reg [.p none 31 (.mv (.tmp 5)),
      .p none 32 (.bin .gtr .i64 (.tmp 31) (.const (.int .i64 0)))])
  (.cond (.tmp 32)
    (.seq (.reg [.p none 33 (.mv (.tmp 5)),
        .p none 34 (.bin .sub .i64 (.tmp 33) (.const (.int .i64 4))),
        .p none 5 (.mv (.tmp 34))])
    (.seq (.reg [.p none 35 (.mv (.tmp 5)),
        .p none 36 (.bin .lss .i64 (.tmp 35) (.const (.int .i64 1)))])
    (.cond (.tmp 36)
      (.seq (.reg [.p none 2 (.mv (.const (.int .i64 0))),
          .p none 3 (.mv (.const (.bool false)))])
      .ret)
      .skip)))
    .skip))
  (.seq (.reg [.p none 37 (.mv (.tmp 4)),
      .p none 38 (.bin .mul .i64 (.tmp 37) (.const (.int .i64 4096))),
      .p none 39 (.mv (.tmp 5)),
      .p none 40 (.bin .add .i64 (.tmp 38) (.tmp 39)),
      .p none 2 (.mv (.tmp 40)),
      .p none 3 (.mv (.const (.bool true)))])
  .ret))))))
theorem C51 : compile Try.prog 41 (Try.f51.body.getD .skip) = some M51 := by kernel_rfl

/-- foot.body -/
def M55 : MC :=
  (.seq (.reg [.l none (some 1) (.bx 24 (.tmp 0)),
      .p none 2 (.mv (.const (.slice none 0 0)))])
  (.seq (.reg [.l none (some 3) (.al 34 [(.slice none 0 0)])])
  (.seq (.reg [.p none 14 (.mkf (.func 75) [] [(.tmp 3)]),
      .p none 4 (.mv (.tmp 14))])
  (.seq (.reg [.p none 15 (.mv (.tmp 4)),
      .p none 16 (.fa 0 (.tmp 1)),
      .l none (some 17) (.ld none (.tmp 16)),
      .p none 18 (.fa 1 (.tmp 1)),
      .l none (some 19) (.ld none (.tmp 18)),
      .p none 20 (.len (.tmp 19)),
      .l none (some 21) (.bs 3 2 1 [(.int .i64 0), (.int .i64 0)] [(0, 1, (.tmp 17)), (1, 1, (.tmp 20))]),
      .l none (some 22) (.callv (.tmp 15) [(.tmp 21)])])
  (.seq (.reg [.p none 5 (.mv (.const (.int .i64 (-1))))])
  (.seq (.seq (.reg [.p none 23 (.fa 1 (.tmp 1)),
      .l none (some 24) (.ld none (.tmp 23)),
      .p none 25 (.len (.tmp 24)),
      .p none 26 (.mv (.const (.int .i64 0)))])
  (.block 0
    (.loop
      (.seq (.reg [.p none 27 (.bin .lss .i64 (.tmp 26) (.tmp 25))])
      (.seq (.cond (.tmp 27)
        .skip
        (.exit 0))
      (.seq (.block 1
        (.seq (.reg [.p none 28 (.idx 5 (.tmp 24) (.tmp 26)),
            .l none (some 29) (.ld (some 5) (.tmp 28)),
            .l none (some 7) (.al 71 [(.int .i64 0), (.slice none 0 0), (.bool false), (.int .i64 0), (.slice none 0 0)]),
            .l none none (.st 5 (.tmp 7) (.tmp 29))])
        (.seq (.reg [.p none 31 (.fa 2 (.tmp 7)),
            .l none (some 32) (.ld (some 3) (.tmp 31)),
            .l none (some 33) (.call 77 [(.tmp 32)]),
            .p none 30 (.mv (.tmp 33)),
            .p none 34 (.ext 0 (.tmp 30)),
            .p none 35 (.ext 1 (.tmp 30)),
            .p none 8 (.mv (.tmp 34)),
            .p none 9 (.mv (.tmp 35))])
        (.seq (.reg [.p none 36 (.mv (.tmp 4)),
            .p none 37 (.fa 0 (.tmp 7)),
            .l none (some 38) (.ld none (.tmp 37)),
            .p none 39 (.mv (.tmp 5)),
            .p none 40 (.bin .sub .i64 (.tmp 38) (.tmp 39)),
            .p none 41 (.bin .sub .i64 (.tmp 40) (.const (.int .i64 1))),
            .p none 42 (.mv (.tmp 8)),
            .p none 43 (.len (.tmp 42)),
            .l none (some 44) (.bs 3 2 1 [(.int .i64 0), (.int .i64 0)] [(0, 1, (.tmp 41)), (1, 1, (.tmp 43))]),
            .l none (some 45) (.callv (.tmp 36) [(.tmp 44)])])
        (.seq (.reg [.l none (some 46) (.ld none (.tmp 3)),
            .p none 47 (.mv (.tmp 8)),
            .l none (some 48) (.app 5 1 1 [(.int .u8 0)] (.tmp 46) (.tmp 47)),
            .l none none (.st 1 (.tmp 3) (.tmp 48))])
        (.seq (.reg [.p none 49 (.mv (.tmp 4)),
            .p none 50 (.fa 1 (.tmp 7)),
            .l none (some 51) (.ld none (.tmp 50)),
            .p none 52 (.len (.tmp 51)),
            .l none (some 53) (.bs 3 1 1 [(.int .i64 0)] [(0, 1, (.tmp 52))]),
            .l none (some 54) (.callv (.tmp 49) [(.tmp 53)])])
        (.seq (.reg [.p none 55 (.fa 0 (.tmp 7)),
            .l none (some 56) (.ld none (.tmp 55)),
            .p none 5 (.mv (.tmp 56))])
        (.seq (.reg [.p none 10 (.mv (.const (.string ⟨#[]⟩)))])
        (.seq (.reg [.p none 57 (.fa 1 (.tmp 7)),
            .l none (some 58) (.ld none (.tmp 57)),
            .p none 59 (.len (.tmp 58)),
            .p none 60 (.mv (.const (.int .i64 0)))])
        (.block 2
          (.loop
            (.seq (.reg [.p none 61 (.bin .lss .i64 (.tmp 60) (.tmp 59))])
            (.seq (.cond (.tmp 61)
              .skip
              (.exit 2))
            (.seq (.block 3
              (.seq (.reg [.p none 62 (.idx 4 (.tmp 58) (.tmp 60)),
                  .l none (some 63) (.ld (some 4) (.tmp 62)),
                  .l none (some 12) (.al 74 [(.int .i64 0), (.int .i64 0), (.int .i64 0), (.string ⟨#[]⟩)]),
                  .l none none (.st 4 (.tmp 12) (.tmp 63))])
              (.seq (.reg [.p none 64 (.mv (.tmp 10)),
                  .p none 65 (.fa 3 (.tmp 12)),
                  .l none (some 66) (.ld none (.tmp 65)),
                  .l none (some 67) (.call 78 [(.tmp 64), (.tmp 66)]),
                  .p none 13 (.mv (.tmp 67))])
              (.seq (.reg [.p none 68 (.mv (.tmp 4)),
                  .p none 69 (.fa 0 (.tmp 12)),
                  .l none (some 70) (.ld none (.tmp 69)),
                  .p none 71 (.fa 1 (.tmp 12)),
                  .l none (some 72) (.ld none (.tmp 71)),
                  .p none 73 (.fa 2 (.tmp 12)),
                  .l none (some 74) (.ld none (.tmp 73)),
                  .p none 75 (.mv (.tmp 13)),
                  .p none 76 (.fa 3 (.tmp 12)),
                  .l none (some 77) (.ld none (.tmp 76)),
                  .p none 78 (.lens (.tmp 77)),
                  .p none 79 (.mv (.tmp 13)),
                  .p none 80 (.bin .sub .i64 (.tmp 78) (.tmp 79)),
                  .l none (some 81) (.bs 3 5 1 [(.int .i64 0), (.int .i64 0), (.int .i64 0), (.int .i64 0), (.int .i64 0)] [(0, 1, (.tmp 70)), (1, 1, (.tmp 72)), (2, 1, (.tmp 74)), (3, 1, (.tmp 75)), (4, 1, (.tmp 80))]),
                  .l none (some 82) (.callv (.tmp 68) [(.tmp 81)])])
              (.seq (.dreg (.line [.qp 1 none 84 (.fa 3 (.tmp 12)),
                  .qp 3 none 86 (.mv (.tmp 13)),
                  .ql 2 none 85 none (.tmp 84),
                  .qp 4 none 87 (.slcs (.tmp 85) (some (.tmp 86)) none),
                  .l 0 none (some 83) (.ld none (.tmp 3)),
                  .l 5 none (some 88) (.app 5 1 1 [(.int .u8 0)] (.tmp 83) (.tmp 87)),
                  .l 6 none none (.st 1 (.tmp 3) (.tmp 88))]))
              (.reg [.p none 89 (.fa 3 (.tmp 12)),
                  .l none (some 90) (.ld none (.tmp 89)),
                  .p none 10 (.mv (.tmp 90))]))))))
            (.reg [.p none 91 (.bin .add .i64 (.tmp 60) (.const (.int .i64 1))),
                .p none 60 (.mv (.tmp 91))])))))))))))))))
      (.reg [.p none 92 (.bin .add .i64 (.tmp 26) (.const (.int .i64 1))),
          .p none 26 (.mv (.tmp 92))])))))))
  (.seq (.reg [.l none (some 93) (.ld none (.tmp 3)),
      .p none 2 (.mv (.tmp 93))])
  .ret)))))))
theorem C55 : compile Try.prog 94 (Try.f55.body.getD .skip) = some M55 := by kernel_rfl

/-- foot.blocksOf -/
def M56 : MC :=
  (.seq (.reg [.l none (some 1) (.bx 24 (.tmp 0)),
      .p none 2 (.mv (.const (.int .i64 0)))])
  (.seq (.reg [.p none 3 (.mv (.const (.int .i64 0)))])
  (.seq (.seq (.reg [.p none 8 (.fa 1 (.tmp 1)),
      .l none (some 9) (.ld none (.tmp 8)),
      .p none 10 (.len (.tmp 9)),
      .p none 11 (.mv (.const (.int .i64 0)))])
  (.block 0
    (.loop
      (.seq (.reg [.p none 12 (.bin .lss .i64 (.tmp 11) (.tmp 10))])
      (.seq (.cond (.tmp 12)
        .skip
        (.exit 0))
      (.seq (.block 1
        (.seq (.reg [.p none 13 (.idx 5 (.tmp 9) (.tmp 11)),
            .l none (some 14) (.ld (some 5) (.tmp 13)),
            .l none (some 5) (.al 71 [(.int .i64 0), (.slice none 0 0), (.bool false), (.int .i64 0), (.slice none 0 0)]),
            .l none none (.st 5 (.tmp 5) (.tmp 14))])
        (.seq (.reg [.p none 15 (.fa 1 (.tmp 5)),
            .l none (some 16) (.ld none (.tmp 15)),
            .p none 17 (.len (.tmp 16)),
            .p none 18 (.mv (.const (.int .i64 0)))])
        (.block 2
          (.loop
            (.seq (.reg [.p none 19 (.bin .lss .i64 (.tmp 18) (.tmp 17))])
            (.seq (.cond (.tmp 19)
              .skip
              (.exit 2))
            (.seq (.block 3
              (.seq (.reg [.p none 20 (.idx 4 (.tmp 16) (.tmp 18)),
                  .l none (some 21) (.ld (some 4) (.tmp 20)),
                  .l none (some 7) (.al 74 [(.int .i64 0), (.int .i64 0), (.int .i64 0), (.string ⟨#[]⟩)]),
                  .l none none (.st 4 (.tmp 7) (.tmp 21))])
              (.reg [.p none 22 (.mv (.tmp 3)),
                  .p none 23 (.fa 0 (.tmp 7)),
                  .l none (some 24) (.ld none (.tmp 23)),
                  .p none 25 (.bin .add .i64 (.tmp 24) (.const (.int .i64 5))),
                  .p none 26 (.bin .add .i64 (.tmp 22) (.tmp 25)),
                  .p none 3 (.mv (.tmp 26))])))
            (.reg [.p none 27 (.bin .add .i64 (.tmp 18) (.const (.int .i64 1))),
                .p none 18 (.mv (.tmp 27))])))))))))
      (.reg [.p none 28 (.bin .add .i64 (.tmp 11) (.const (.int .i64 1))),
          .p none 11 (.mv (.tmp 28))])))))))
  (.seq (.reg [.p none 29 (.mv (.tmp 3)),
      .p none 2 (.mv (.tmp 29))])
  .ret))))
theorem C56 : compile Try.prog 30 (Try.f56.body.getD .skip) = some M56 := by kernel_rfl

/-- crc.Seal -/
def M57 : MC :=
  (.seq (.reg [.p none 2 (.mv (.const (.slice none 0 0)))])
  (.seq (.reg [.p none 4 (.mv (.tmp 0)),
      .p none 5 (.len (.tmp 4)),
      .p none 6 (.bin .add .i64 (.tmp 5) (.const (.int .i64 4))),
      .l none (some 7) (.mks 5 1 1 [(.int .u8 0)] (.const (.int .i64 0)) (.tmp 6)),
      .p none 3 (.mv (.tmp 7))])
  (.seq (.reg [.p none 8 (.mv (.tmp 3)),
      .p none 9 (.mv (.tmp 0)),
      .l none (some 10) (.app 5 1 1 [(.int .u8 0)] (.tmp 8) (.tmp 9)),
      .p none 3 (.mv (.tmp 10))])
  (.seq (.reg [.p none 11 (.mv (.tmp 3)),
      .p none 12 (.mv (.tmp 0)),
      .l none (some 13) (.call 71 [(.tmp 12)]),
      .l none (some 14) (.call 70 [(.tmp 13)]),
      .l none (some 15) (.app 5 1 1 [(.int .u8 0)] (.tmp 11) (.tmp 14)),
      .p none 2 (.mv (.tmp 15))])
  .ret))))
theorem C57 : compile Try.prog 16 (Try.f57.body.getD .skip) = some M57 := by kernel_rfl

/-- nums.Fixed -/
def M58 : MC :=
  (.seq (.reg [.p none 4 (.mv (.const (.slice none 0 0)))])
  (.seq (.seq (.reg [.p none 7 (.mv (.tmp 1)),
      .p none 8 (.bin .lss .i64 (.tmp 7) (.const (.int .i64 1))),
      .p none 9 (.mv (.tmp 8)),
      .split 9,
      .p (some (9, false)) 10 (.mv (.tmp 1)),
      .p (some (9, false)) 11 (.bin .gtr .i64 (.tmp 10) (.const (.int .i64 8))),
      .p none 12 (.pick (.tmp 9) (.const (.bool true)) (.tmp 11))])
  (.cond (.tmp 12)
    (.seq (.reg [.p none 4 (.mv (.const (.slice none 0 0)))])
    .ret)
    .skip))
  (.seq (.reg [.p none 13 (.mv (.tmp 1)),
      .l none (some 14) (.mks 5 1 1 [(.int .u8 0)] (.tmp 13) (.tmp 13)),
      .p none 5 (.mv (.tmp 14))])
  (.seq (.seq (.reg [.p none 15 (.mv (.tmp 5)),
      .p none 16 (.len (.tmp 15)),
      .p none 17 (.mv (.const (.int .i64 0)))])
  (.block 0
    (.loop
      (.seq (.reg [.p none 18 (.bin .lss .i64 (.tmp 17) (.tmp 16))])
      (.seq (.cond (.tmp 18)
        .skip
        (.exit 0))
      (.seq (.block 1
        (.seq (.reg [.p none 19 (.mv (.tmp 17)),
            .p none 6 (.mv (.tmp 19))])
        (.reg [.p none 20 (.mv (.tmp 5)),
            .p none 21 (.mv (.tmp 6)),
            .p none 22 (.mv (.tmp 0)),
            .p none 23 (.mv (.tmp 6)),
            .p none 24 (.bin .mul .i64 (.const (.int .i64 8)) (.tmp 23)),
            .p none 25 (.shf .shr (.tmp 22) (.tmp 24)),
            .p none 26 (.conv .u8 (.tmp 25)),
            .p none 27 (.idx 1 (.tmp 20) (.tmp 21)),
            .l none none (.st 1 (.tmp 27) (.tmp 26))])))
      (.reg [.p none 28 (.bin .add .i64 (.tmp 17) (.const (.int .i64 1))),
          .p none 17 (.mv (.tmp 28))])))))))
  (.seq (.reg [.p none 29 (.mv (.tmp 5)),
      .p none 4 (.mv (.tmp 29))])
  .ret)))))
theorem C58 : compile Try.prog 30 (Try.f58.body.getD .skip) = some M58 := by kernel_rfl

/-- foot.Tiles$1 -/
def M63 : MC :=
  (.seq (.reg [.l none (some 6) (.ld none (.tmp 2)),
      .p none 7 (.mv (.tmp 0)),
      .l none (some 8) (.ld none (.tmp 3)),
      .l none (some 9) (.ld none (.tmp 3)),
      .p none 10 (.mv (.tmp 1)),
      .p none 11 (.bin .add .i64 (.tmp 9) (.tmp 10)),
      .p none 12 (.bld [(.int .i64 0), (.int .i64 0), (.int .i64 0)] [(0, 1, (.tmp 7)), (1, 1, (.tmp 8)), (2, 1, (.tmp 11))]),
      .l none (some 13) (.bs 47 1 3 [(.int .i64 0), (.int .i64 0), (.int .i64 0)] [(0, 3, (.tmp 12))]),
      .l none (some 14) (.app 47 24 3 [(.int .i64 0), (.int .i64 0), (.int .i64 0)] (.tmp 6) (.tmp 13)),
      .l none none (.st 1 (.tmp 2) (.tmp 14))])
  (.reg [.l none (some 15) (.ld none (.tmp 3)),
      .p none 16 (.mv (.tmp 1)),
      .p none 17 (.bin .add .i64 (.tmp 15) (.tmp 16)),
      .l none none (.st 1 (.tmp 3) (.tmp 17))]))
theorem C63 : compile Try.prog 18 (Try.f63.body.getD .skip) = some M63 := by kernel_rfl

/-- foot.parse -/
def M65 : MC :=
  (.seq (.reg [.l none (some 2) (.al 24 [(.int .i64 0), (.slice none 0 0)]),
      .p none 3 (.mv (.const (.bool false)))])
  (.seq (.reg [.p none 11 (.mv (.tmp 0)),
      .l none (some 12) (.call 83 [(.tmp 11)]),
      .p none 4 (.mv (.tmp 12))])
  (.seq (.reg [.p none 13 (.mv (.tmp 4)),
      .l none (some 14) (.call 84 [(.tmp 13), (.const (.int .i64 65535))]),
      .p none 15 (.bld [(.int .i64 0), (.slice none 0 0)] [(0, 1, (.tmp 14))]),
      .l none (some 5) (.al 24 [(.int .i64 0), (.slice none 0 0)]),
      .l none none (.st 2 (.tmp 5) (.tmp 15))])
  (.seq (.reg [.p none 6 (.mv (.const (.int .i64 (-1))))])
  (.seq (.seq (.reg [.p none 16 (.mv (.tmp 4)),
      .l none (some 17) (.call 84 [(.tmp 16), (.const (.int .i64 65535))]),
      .p none 7 (.mv (.tmp 17))])
  (.block 0
    (.loop
      (.seq (.seq (.reg [.p none 18 (.mv (.tmp 7)),
          .p none 19 (.bin .gtr .i64 (.tmp 18) (.const (.int .i64 0))),
          .p none 20 (.mv (.tmp 19)),
          .split 20,
          .p (some (20, true)) 21 (.mv (.tmp 4)),
          .l (some (20, true)) (some 22) (.call 85 [(.tmp 21)]),
          .p (some (20, true)) 23 (.bin .gtr .i64 (.tmp 22) (.const (.int .i64 0))),
          .p none 24 (.pick (.tmp 20) (.tmp 23) (.const (.bool false)))])
      (.cond (.tmp 24)
        .skip
        (.exit 0)))
      (.seq (.block 1
        (.seq (.reg [.p none 27 (.mv (.tmp 6)),
            .p none 28 (.bin .add .i64 (.tmp 27) (.const (.int .i64 1))),
            .p none 29 (.mv (.tmp 4)),
            .l none (some 30) (.call 84 [(.tmp 29), (.const (.int .i64 65535))]),
            .p none 31 (.bin .add .i64 (.tmp 28) (.tmp 30)),
            .p none 32 (.bld [(.int .i64 0), (.slice none 0 0), (.bool false), (.int .i64 0), (.slice none 0 0)] [(0, 1, (.tmp 31))]),
            .l none (some 8) (.al 71 [(.int .i64 0), (.slice none 0 0), (.bool false), (.int .i64 0), (.slice none 0 0)]),
            .l none none (.st 5 (.tmp 8) (.tmp 32))])
        (.seq (.reg [.p none 33 (.fa 0 (.tmp 8)),
            .l none (some 34) (.ld none (.tmp 33)),
            .p none 6 (.mv (.tmp 34))])
        (.seq (.reg [.p none 36 (.mv (.tmp 4)),
            .l none (some 37) (.call 87 [(.tmp 36), (.const (.int .i64 4112))]),
            .l none (some 38) (.s2b 5 (.tmp 37)),
            .l none (some 39) (.call 86 [(.tmp 38)]),
            .p none 35 (.mv (.tmp 39)),
            .p none 40 (.ext 0 (.tmp 35)),
            .p none 41 (.ext 1 (.tmp 35)),
            .l none (some 9) (.al 69 [(.bool false), (.int .i64 0), (.slice none 0 0)]),
            .l none none (.st 3 (.tmp 9) (.tmp 40)),
            .p none 10 (.mv (.tmp 41))])
        (.seq (.reg [.p none 42 (.mv (.tmp 4)),
            .p none 43 (.mv (.tmp 10)),
            .l none (some 44) (.call 88 [(.tmp 42), (.tmp 43)])])
        (.seq (.reg [.l none (some 45) (.ld (some 3) (.tmp 9)),
            .p none 46 (.fa 2 (.tmp 8)),
            .l none none (.st 3 (.tmp 46) (.tmp 45))])
        (.seq (.reg [.p none 47 (.mv (.tmp 4)),
            .l none (some 48) (.call 89 [(.tmp 47)]),
            .p none 49 (.fa 1 (.tmp 8)),
            .l none none (.st 1 (.tmp 49) (.tmp 48))])
        (.reg [.p none 50 (.fa 1 (.tmp 5)),
            .l none (some 51) (.ld none (.tmp 50)),
            .l none (some 52) (.ld (some 5) (.tmp 8)),
            .l none (some 53) (.bs 71 1 5 [(.int .i64 0), (.slice none 0 0), (.bool false), (.int .i64 0), (.slice none 0 0)] [(0, 5, (.tmp 52))]),
            .l none (some 54) (.app 71 72 5 [(.int .i64 0), (.slice none 0 0), (.bool false), (.int .i64 0), (.slice none 0 0)] (.tmp 51) (.tmp 53)),
            .p none 55 (.fa 1 (.tmp 5)),
            .l none none (.st 1 (.tmp 55) (.tmp 54))]))))))))
      (.reg [.p none 25 (.mv (.tmp 7)),
          .p none 26 (.bin .sub .i64 (.tmp 25) (.const (.int .i64 1))),
          .p none 7 (.mv (.tmp 26))]))))))
  (.seq (.dreg (.fork [.qp 1 none 57 (.mv (.tmp 4)),
      .ql 0 none 56 (some 2) (.tmp 5),
      .l 2 none (some 58) (.call 90 [(.tmp 57)]),
      .qp 3 none 59 (.fld 0 none (.tmp 58)),
      .qp 4 none 60 (.bin .eql .i64 (.tmp 59) (.const (.int .i64 0))),
      .qp 5 none 61 (.mv (.tmp 60)),
      .split 61,
      .l 6 (some (61, true)) (some 62) (.ld (some 2) (.tmp 5)),
      .l 7 (some (61, true)) (some 63) (.call 14 [(.tmp 62)]),
      .qp 8 (some (61, true)) 64 (.bin .eql .i64 (.tmp 63) (.const (.int .i64 0))),
      .qp 9 none 65 (.pick (.tmp 61) (.tmp 64) (.const (.bool false))),
      .qp 10 none 66 (.mv (.tmp 65)),
      .split 66,
      .qp 14 (some (66, true)) 70 (.mv (.tmp 0)),
      .ql 11 (some (66, true)) 67 (some 2) (.tmp 5)]
    (.fork [.l 12 (some (66, true)) (some 68) (.call 55 [(.tmp 67)])]
      (.fork [.l 13 (some (66, true)) (some 69) (.b2s (.tmp 68))]
        (.line [.l 15 (some (66, true)) (some 71) (.b2s (.tmp 70)),
            .qp 16 (some (66, true)) 72 (.sbin .eql (.tmp 69) (.tmp 71)),
            .qp 17 none 73 (.pick (.tmp 66) (.tmp 72) (.const (.bool false))),
            .l 18 none none (.st 2 (.tmp 2) (.tmp 56)),
            .qp 19 none 3 (.mv (.tmp 73))])
        (.line [.l 18 none none (.st 2 (.tmp 2) (.tmp 56)),
            .l 15 (some (66, true)) (some 71) (.b2s (.tmp 70)),
            .qp 16 (some (66, true)) 72 (.sbin .eql (.tmp 69) (.tmp 71)),
            .qp 17 none 73 (.pick (.tmp 66) (.tmp 72) (.const (.bool false))),
            .qp 19 none 3 (.mv (.tmp 73))]))
      (.fork []
        (.fork [.l 15 (some (66, true)) (some 71) (.b2s (.tmp 70))]
          (.line [.l 13 (some (66, true)) (some 69) (.b2s (.tmp 68)),
              .qp 16 (some (66, true)) 72 (.sbin .eql (.tmp 69) (.tmp 71)),
              .qp 17 none 73 (.pick (.tmp 66) (.tmp 72) (.const (.bool false))),
              .l 18 none none (.st 2 (.tmp 2) (.tmp 56)),
              .qp 19 none 3 (.mv (.tmp 73))])
          (.line [.l 18 none none (.st 2 (.tmp 2) (.tmp 56)),
              .l 13 (some (66, true)) (some 69) (.b2s (.tmp 68)),
              .qp 16 (some (66, true)) 72 (.sbin .eql (.tmp 69) (.tmp 71)),
              .qp 17 none 73 (.pick (.tmp 66) (.tmp 72) (.const (.bool false))),
              .qp 19 none 3 (.mv (.tmp 73))]))
        (.fork [.l 18 none none (.st 2 (.tmp 2) (.tmp 56))]
          (.line [.l 13 (some (66, true)) (some 69) (.b2s (.tmp 68)),
              .l 15 (some (66, true)) (some 71) (.b2s (.tmp 70)),
              .qp 16 (some (66, true)) 72 (.sbin .eql (.tmp 69) (.tmp 71)),
              .qp 17 none 73 (.pick (.tmp 66) (.tmp 72) (.const (.bool false))),
              .qp 19 none 3 (.mv (.tmp 73))])
          (.line [.l 15 (some (66, true)) (some 71) (.b2s (.tmp 70)),
              .l 13 (some (66, true)) (some 69) (.b2s (.tmp 68)),
              .qp 16 (some (66, true)) 72 (.sbin .eql (.tmp 69) (.tmp 71)),
              .qp 17 none 73 (.pick (.tmp 66) (.tmp 72) (.const (.bool false))),
              .qp 19 none 3 (.mv (.tmp 73))]))))
    (.fork [.l 15 (some (66, true)) (some 71) (.b2s (.tmp 70)),
        .l 12 (some (66, true)) (some 68) (.call 55 [(.tmp 67)])]
      (.line [.l 13 (some (66, true)) (some 69) (.b2s (.tmp 68)),
          .qp 16 (some (66, true)) 72 (.sbin .eql (.tmp 69) (.tmp 71)),
          .qp 17 none 73 (.pick (.tmp 66) (.tmp 72) (.const (.bool false))),
          .l 18 none none (.st 2 (.tmp 2) (.tmp 56)),
          .qp 19 none 3 (.mv (.tmp 73))])
      (.line [.l 18 none none (.st 2 (.tmp 2) (.tmp 56)),
          .l 13 (some (66, true)) (some 69) (.b2s (.tmp 68)),
          .qp 16 (some (66, true)) 72 (.sbin .eql (.tmp 69) (.tmp 71)),
          .qp 17 none 73 (.pick (.tmp 66) (.tmp 72) (.const (.bool false))),
          .qp 19 none 3 (.mv (.tmp 73))]))))
  .ret))))))
theorem C65 : compile Try.prog 74 (Try.f65.body.getD .skip) = some M65 := by kernel_rfl

/-- winnowlaw8.sameFilter -/
def M67 : MC :=
  (.seq (.reg [.l none (some 2) (.bx 69 (.tmp 0)),
      .l none (some 3) (.bx 69 (.tmp 1)),
      .p none 4 (.mv (.const (.bool false)))])
  (.seq (.reg [.p none 5 (.fa 0 (.tmp 2)),
      .l none (some 6) (.ld none (.tmp 5)),
      .p none 7 (.fa 0 (.tmp 3)),
      .l none (some 8) (.ld none (.tmp 7)),
      .p none 9 (.beq false (.tmp 6) (.tmp 8)),
      .p none 10 (.mv (.tmp 9)),
      .split 10,
      .p (some (10, true)) 11 (.fa 1 (.tmp 2)),
      .l (some (10, true)) (some 12) (.ld none (.tmp 11)),
      .p (some (10, true)) 13 (.fa 1 (.tmp 3)),
      .l (some (10, true)) (some 14) (.ld none (.tmp 13)),
      .p (some (10, true)) 15 (.bin .eql .i64 (.tmp 12) (.tmp 14)),
      .p none 16 (.pick (.tmp 10) (.tmp 15) (.const (.bool false))),
      .p none 17 (.mv (.tmp 16)),
      .split 17,
      .p (some (17, true)) 18 (.fa 2 (.tmp 2)),
      .l (some (17, true)) (some 19) (.ld none (.tmp 18)),
      .p (some (17, true)) 20 (.fa 2 (.tmp 3)),
      .l (some (17, true)) (some 21) (.ld none (.tmp 20)),
      .l (some (17, true)) (some 22) (.call 23 [(.tmp 19), (.tmp 21)]),
      .p none 23 (.pick (.tmp 17) (.tmp 22) (.const (.bool false))),
      .p none 4 (.mv (.tmp 23))])
  .ret))
theorem C67 : compile Try.prog 24 (Try.f67.body.getD .skip) = some M67 := by kernel_rfl

/-- winnowlaw8.sameBlocks -/
def M68 : MC :=
  (.seq (.reg [.p none 4 (.mv (.const (.bool false)))])
  (.seq (.seq (.reg [.p none 6 (.mv (.tmp 0)),
      .p none 7 (.len (.tmp 6)),
      .p none 8 (.mv (.tmp 1)),
      .p none 9 (.len (.tmp 8)),
      .p none 10 (.bin .neq .i64 (.tmp 7) (.tmp 9))])
  (.cond (.tmp 10)
    (.seq (.reg [.p none 4 (.mv (.const (.bool false)))])
    .ret)
    .skip))
  (.seq (.seq (.reg [.p none 5 (.mv (.const (.int .i64 0)))])
  (.block 0
    (.loop
      (.seq (.seq (.reg [.p none 11 (.mv (.tmp 5)),
          .p none 12 (.mv (.tmp 0)),
          .p none 13 (.len (.tmp 12)),
          .p none 14 (.bin .lss .i64 (.tmp 11) (.tmp 13))])
      (.cond (.tmp 14)
        .skip
        (.exit 0)))
      (.seq (.block 1
        (.seq (.dreg (.line [.qp 0 none 17 (.mv (.tmp 0)),
            .qp 1 none 18 (.mv (.tmp 5)),
            .qp 2 none 19 (.idx 4 (.tmp 17) (.tmp 18)),
            .qp 4 none 21 (.mv (.tmp 1)),
            .qp 5 none 22 (.mv (.tmp 5)),
            .qp 6 none 23 (.idx 4 (.tmp 21) (.tmp 22)),
            .ql 7 none 24 (some 4) (.tmp 23),
            .l 3 none (some 20) (.ld (some 4) (.tmp 19)),
            .qp 8 none 25 (.aeq true [1, 1, 1, 2] (.tmp 20) (.tmp 24))]))
        (.cond (.tmp 25)
          (.seq (.reg [.p none 4 (.mv (.const (.bool false)))])
          .ret)
          .skip)))
      (.reg [.p none 15 (.mv (.tmp 5)),
          .p none 16 (.bin .add .i64 (.tmp 15) (.const (.int .i64 1))),
          .p none 5 (.mv (.tmp 16))]))))))
  (.seq (.reg [.p none 4 (.mv (.const (.bool true)))])
  .ret))))
theorem C68 : compile Try.prog 26 (Try.f68.body.getD .skip) = some M68 := by kernel_rfl

/-- filter.kind -/
def M69 : MC :=
  (.seq (.reg [.l none (some 1) (.bx 69 (.tmp 0)),
      .p none 2 (.mv (.const (.int .i64 0)))])
  (.seq (.block 0
    (.seq (.reg [.p none 4 (.fa 0 (.tmp 1)),
        .l none (some 5) (.ld none (.tmp 4)),
        .p none 6 (.mv (.tmp 5)),
        .split 6,
        .p (some (6, true)) 7 (.fa 1 (.tmp 1)),
        .l (some (6, true)) (some 8) (.ld none (.tmp 7)),
        .p (some (6, true)) 9 (.bin .eql .i64 (.tmp 8) (.const (.int .i64 0))),
        .p none 10 (.pick (.tmp 6) (.tmp 9) (.const (.bool false))),
        .p none 11 (.mv (.tmp 10)),
        .split 11,
        .p (some (11, true)) 12 (.fa 2 (.tmp 1)),
        .l (some (11, true)) (some 13) (.ld none (.tmp 12)),
        .p (some (11, true)) 14 (.len (.tmp 13)),
        .p (some (11, true)) 15 (.bin .eql .i64 (.tmp 14) (.const (.int .i64 0))),
        .p none 16 (.pick (.tmp 11) (.tmp 15) (.const (.bool false))),
        .p none 3 (.mv (.tmp 16))])
    (.cond (.tmp 3)
      (.seq (.reg [.p none 2 (.mv (.const (.int .i64 1)))])
      .ret)
      (.seq (.reg [.p none 18 (.fa 0 (.tmp 1)),
          .l none (some 19) (.ld none (.tmp 18)),
          .p none 20 (.not (.tmp 19)),
          .p none 21 (.mv (.tmp 20)),
          .split 21,
          .p (some (21, true)) 22 (.fa 1 (.tmp 1)),
          .l (some (21, true)) (some 23) (.ld none (.tmp 22)),
          .p (some (21, true)) 24 (.bin .eql .i64 (.tmp 23) (.const (.int .i64 0))),
          .p none 25 (.pick (.tmp 21) (.tmp 24) (.const (.bool false))),
          .p none 26 (.mv (.tmp 25)),
          .split 26,
          .p (some (26, true)) 27 (.fa 2 (.tmp 1)),
          .l (some (26, true)) (some 28) (.ld none (.tmp 27)),
          .p (some (26, true)) 29 (.len (.tmp 28)),
          .p (some (26, true)) 30 (.bin .eql .i64 (.tmp 29) (.const (.int .i64 0))),
          .p none 31 (.pick (.tmp 26) (.tmp 30) (.const (.bool false))),
          .p none 17 (.mv (.tmp 31))])
      (.cond (.tmp 17)
        (.seq (.reg [.p none 2 (.mv (.const (.int .i64 2)))])
        .ret)
        (.seq (.reg [.p none 33 (.fa 0 (.tmp 1)),
            .l none (some 34) (.ld none (.tmp 33)),
            .p none 35 (.not (.tmp 34)),
            .p none 36 (.mv (.tmp 35)),
            .split 36,
            .p (some (36, true)) 37 (.fa 1 (.tmp 1)),
            .l (some (36, true)) (some 38) (.ld none (.tmp 37)),
            .p (some (36, true)) 39 (.bin .geq .i64 (.tmp 38) (.const (.int .i64 1))),
            .p none 40 (.pick (.tmp 36) (.tmp 39) (.const (.bool false))),
            .p none 41 (.mv (.tmp 40)),
            .split 41,
            .p (some (41, true)) 42 (.fa 1 (.tmp 1)),
            .l (some (41, true)) (some 43) (.ld none (.tmp 42)),
            .p (some (41, true)) 44 (.bin .leq .i64 (.tmp 43) (.const (.int .i64 8))),
            .p none 45 (.pick (.tmp 41) (.tmp 44) (.const (.bool false))),
            .p none 46 (.mv (.tmp 45)),
            .split 46,
            .p (some (46, true)) 47 (.fa 2 (.tmp 1)),
            .l (some (46, true)) (some 48) (.ld none (.tmp 47)),
            .p (some (46, true)) 49 (.len (.tmp 48)),
            .p (some (46, true)) 50 (.bin .geq .i64 (.tmp 49) (.const (.int .i64 1))),
            .p none 51 (.pick (.tmp 46) (.tmp 50) (.const (.bool false))),
            .p none 52 (.mv (.tmp 51)),
            .split 52,
            .p (some (52, true)) 53 (.fa 2 (.tmp 1)),
            .l (some (52, true)) (some 54) (.ld none (.tmp 53)),
            .p (some (52, true)) 55 (.len (.tmp 54)),
            .p (some (52, true)) 56 (.bin .leq .i64 (.tmp 55) (.const (.int .i64 4096))),
            .p none 57 (.pick (.tmp 52) (.tmp 56) (.const (.bool false))),
            .p none 32 (.mv (.tmp 57))])
        (.cond (.tmp 32)
          (.seq (.reg [.p none 2 (.mv (.const (.int .i64 3)))])
          .ret)
          .skip)))))))
  (.seq (.reg [.p none 2 (.mv (.const (.int .i64 0)))])
  .ret)))
theorem C69 : compile Try.prog 58 (Try.f69.body.getD .skip) = some M69 := by kernel_rfl

/-- crc.four -/
def M70 : MC :=
  (.seq (.reg [.p none 2 (.mv (.const (.slice none 0 0)))])
  (.seq (.reg [.p none 3 (.mv (.tmp 0)),
      .p none 4 (.conv .u8 (.tmp 3)),
      .p none 5 (.mv (.tmp 0)),
      .p none 6 (.shf .shr (.tmp 5) (.const (.int .u64 8))),
      .p none 7 (.conv .u8 (.tmp 6)),
      .p none 8 (.mv (.tmp 0)),
      .p none 9 (.shf .shr (.tmp 8) (.const (.int .u64 16))),
      .p none 10 (.conv .u8 (.tmp 9)),
      .p none 11 (.mv (.tmp 0)),
      .p none 12 (.shf .shr (.tmp 11) (.const (.int .u64 24))),
      .p none 13 (.conv .u8 (.tmp 12)),
      .l none (some 14) (.bs 5 4 1 [(.int .u8 0), (.int .u8 0), (.int .u8 0), (.int .u8 0)] [(0, 1, (.tmp 4)), (1, 1, (.tmp 7)), (2, 1, (.tmp 10)), (3, 1, (.tmp 13))]),
      .p none 2 (.mv (.tmp 14))])
  .ret))
theorem C70 : compile Try.prog 15 (Try.f70.body.getD .skip) = some M70 := by kernel_rfl

/-- crc.Sum -/
def M71 : MC :=
  (.seq (.reg [.p none 2 (.mv (.const (.int .u32 0)))])
  (.seq (.reg [.p none 3 (.mv (.tmp 0)),
      .l none (some 4) (.call 97 [(.const (.int .u32 0)), (.tmp 3)]),
      .p none 2 (.mv (.tmp 4))])
  .ret))
theorem C71 : compile Try.prog 5 (Try.f71.body.getD .skip) = some M71 := by kernel_rfl

/-- foot.pagesOf -/
def M72 : MC :=
  (.seq (.reg [.p none 2 (.mv (.const (.int .i64 0)))])
  (.seq (.reg [.p none 3 (.mv (.tmp 0)),
      .p none 4 (.mv (.tmp 0)),
      .p none 5 (.bin .add .i64 (.tmp 4) (.const (.int .i64 4096))),
      .p none 6 (.bin .sub .i64 (.tmp 5) (.const (.int .i64 1))),
      .p none 7 (.div .quo .i64 (.tmp 6) (.const (.int .i64 4096))),
      .p none 8 (.bin .mul .i64 (.const (.int .i64 4)) (.tmp 7)),
      .p none 9 (.bin .add .i64 (.tmp 3) (.tmp 8)),
      .p none 2 (.mv (.tmp 9))])
  .ret))
theorem C72 : compile Try.prog 10 (Try.f72.body.getD .skip) = some M72 := by kernel_rfl

/-- foot.body$1 -/
def M75 : MC :=
  (.seq (.reg [.p none 5 (.mv (.tmp 0)),
      .p none 6 (.len (.tmp 5)),
      .p none 7 (.mv (.const (.int .i64 0)))])
  (.block 0
    (.loop
      (.seq (.reg [.p none 8 (.bin .lss .i64 (.tmp 7) (.tmp 6))])
      (.seq (.cond (.tmp 8)
        .skip
        (.exit 0))
      (.seq (.block 1
        (.seq (.reg [.p none 9 (.idx 1 (.tmp 5) (.tmp 7)),
            .l none (some 10) (.ld none (.tmp 9)),
            .p none 4 (.mv (.tmp 10))])
        (.dreg (.fork [.qp 1 none 12 (.mv (.tmp 4))]
          (.line [.l 0 none (some 11) (.ld none (.tmp 1)),
              .l 2 none (some 13) (.call 76 [(.tmp 12)]),
              .l 3 none (some 14) (.app 5 1 1 [(.int .u8 0)] (.tmp 11) (.tmp 13)),
              .l 4 none none (.st 1 (.tmp 1) (.tmp 14))])
          (.line [.l 2 none (some 13) (.call 76 [(.tmp 12)]),
              .l 0 none (some 11) (.ld none (.tmp 1)),
              .l 3 none (some 14) (.app 5 1 1 [(.int .u8 0)] (.tmp 11) (.tmp 13)),
              .l 4 none none (.st 1 (.tmp 1) (.tmp 14))])))))
      (.reg [.p none 15 (.bin .add .i64 (.tmp 7) (.const (.int .i64 1))),
          .p none 7 (.mv (.tmp 15))])))))))
theorem C75 : compile Try.prog 16 (Try.f75.body.getD .skip) = some M75 := by kernel_rfl

/-- nums.Put -/
def M76 : MC :=
  (.seq (.reg [.p none 2 (.mv (.const (.slice none 0 0)))])
  (.seq (.seq (.reg [.p none 4 (.mv (.tmp 0)),
      .p none 5 (.bin .lss .i64 (.tmp 4) (.const (.int .i64 0)))])
  (.cond (.tmp 5)
    (.seq (.reg [.p none 2 (.mv (.const (.slice none 0 0)))])
    .ret)
    .skip))
  (.seq (.reg [.p none 3 (.mv (.const (.slice none 0 0)))])
  (.seq (.block 0
    (.loop
      (.seq (.seq (.reg [.p none 6 (.mv (.tmp 0)),
          .p none 7 (.bin .geq .i64 (.tmp 6) (.const (.int .i64 128)))])
      (.cond (.tmp 7)
        .skip
        (.exit 0)))
      (.block 1
        (.seq (.reg [.p none 8 (.mv (.tmp 3)),
            .p none 9 (.mv (.tmp 0)),
            .p none 10 (.conv .u8 (.tmp 9)),
            .p none 11 (.bin .or .u8 (.tmp 10) (.const (.int .u8 128))),
            .l none (some 12) (.bs 5 1 1 [(.int .u8 0)] [(0, 1, (.tmp 11))]),
            .l none (some 13) (.app 5 1 1 [(.int .u8 0)] (.tmp 8) (.tmp 12)),
            .p none 3 (.mv (.tmp 13))])
        (.reg [.p none 14 (.mv (.tmp 0)),
            .p none 15 (.shf .shr (.tmp 14) (.const (.int .u64 7))),
            .p none 0 (.mv (.tmp 15))]))))))
  (.seq (.reg [.p none 16 (.mv (.tmp 3)),
      .p none 17 (.mv (.tmp 0)),
      .p none 18 (.conv .u8 (.tmp 17)),
      .l none (some 19) (.bs 5 1 1 [(.int .u8 0)] [(0, 1, (.tmp 18))]),
      .l none (some 20) (.app 5 1 1 [(.int .u8 0)] (.tmp 16) (.tmp 19)),
      .p none 2 (.mv (.tmp 20))])
  .ret)))))
theorem C76 : compile Try.prog 21 (Try.f76.body.getD .skip) = some M76 := by kernel_rfl

/-- filter.Encode -/
def M77 : MC :=
  (.seq (.reg [.l none (some 1) (.bx 69 (.tmp 0)),
      .p none 2 (.mv (.const (.slice none 0 0))),
      .p none 3 (.mv (.const (.int .i64 0)))])
  (.seq (.seq (.reg [.l none (some 5) (.ld (some 3) (.tmp 1)),
      .l none (some 6) (.call 69 [(.tmp 5)])])
  (.block 0
    (.seq (.reg [.p none 8 (.bin .eql .i64 (.tmp 6) (.const (.int .i64 1))),
        .p none 7 (.mv (.tmp 8))])
    (.cond (.tmp 7)
      (.seq (.reg [.l none (some 9) (.bs 5 1 1 [(.int .u8 0)] [(0, 1, (.const (.int .u8 255)))]),
          .p none 2 (.mv (.tmp 9)),
          .p none 3 (.mv (.const (.int .i64 0)))])
      .ret)
      (.seq (.reg [.p none 11 (.bin .eql .i64 (.tmp 6) (.const (.int .i64 2))),
          .p none 10 (.mv (.tmp 11))])
      (.cond (.tmp 10)
        (.seq (.reg [.l none (some 12) (.bs 5 1 1 [(.int .u8 0)] [(0, 1, (.const (.int .u8 0)))]),
            .p none 2 (.mv (.tmp 12)),
            .p none 3 (.mv (.const (.int .i64 0)))])
        .ret)
        (.seq (.reg [.p none 14 (.bin .eql .i64 (.tmp 6) (.const (.int .i64 3))),
            .p none 13 (.mv (.tmp 14))])
        (.cond (.tmp 13)
          (.seq (.dreg (.fork [.qp 0 none 15 (.fa 1 (.tmp 1)),
              .qp 4 none 19 (.fa 2 (.tmp 1)),
              .ql 5 none 20 none (.tmp 19),
              .qp 6 none 21 (.len (.tmp 20)),
              .ql 1 none 16 none (.tmp 15),
              .qp 2 none 17 (.conv .u8 (.tmp 16))]
            (.line [.l 3 none (some 18) (.bs 5 1 1 [(.int .u8 0)] [(0, 1, (.tmp 17))]),
                .l 7 none (some 22) (.call 76 [(.tmp 21)]),
                .l 8 none (some 23) (.app 5 1 1 [(.int .u8 0)] (.tmp 18) (.tmp 22)),
                .qp 9 none 4 (.mv (.tmp 23))])
            (.line [.l 7 none (some 22) (.call 76 [(.tmp 21)]),
                .l 3 none (some 18) (.bs 5 1 1 [(.int .u8 0)] [(0, 1, (.tmp 17))]),
                .l 8 none (some 23) (.app 5 1 1 [(.int .u8 0)] (.tmp 18) (.tmp 22)),
                .qp 9 none 4 (.mv (.tmp 23))])))
          (.seq (.reg [.p none 24 (.mv (.tmp 4)),
              .p none 25 (.fa 2 (.tmp 1)),
              .l none (some 26) (.ld none (.tmp 25)),
              .l none (some 27) (.app 5 1 1 [(.int .u8 0)] (.tmp 24) (.tmp 26)),
              .p none 2 (.mv (.tmp 27)),
              .p none 3 (.mv (.const (.int .i64 0)))])
          .ret))
          .skip))))))))
  (.seq (.reg [.p none 2 (.mv (.const (.slice none 0 0))),
      .p none 3 (.mv (.const (.int .i64 70)))])
  .ret)))
theorem C77 : compile Try.prog 28 (Try.f77.body.getD .skip) = some M77 := by kernel_rfl

/-- nums.Common -/
def M78 : MC :=
  (.seq (.reg [.p none 4 (.mv (.const (.int .i64 0)))])
  (.seq (.seq (.reg [.p none 6 (.mv (.tmp 0)),
      .p none 7 (.lens (.tmp 6)),
      .p none 8 (.mv (.tmp 1)),
      .p none 9 (.lens (.tmp 8)),
      .p none 10 (.mm false .i64 (.tmp 7) [(.tmp 9)]),
      .p none 11 (.mv (.const (.int .i64 0)))])
  (.block 0
    (.loop
      (.seq (.reg [.p none 12 (.bin .lss .i64 (.tmp 11) (.tmp 10))])
      (.seq (.cond (.tmp 12)
        .skip
        (.exit 0))
      (.seq (.block 1
        (.seq (.reg [.p none 13 (.mv (.tmp 11)),
            .p none 5 (.mv (.tmp 13))])
        (.seq (.dreg (.line [.qp 0 none 14 (.mv (.tmp 0)),
            .qp 1 none 15 (.mv (.tmp 5)),
            .qp 2 none 16 (.idxs (.tmp 14) (.tmp 15)),
            .qp 3 none 17 (.mv (.tmp 1)),
            .qp 4 none 18 (.mv (.tmp 5)),
            .qp 5 none 19 (.idxs (.tmp 17) (.tmp 18)),
            .qp 6 none 20 (.bin .neq .u8 (.tmp 16) (.tmp 19))]))
        (.cond (.tmp 20)
          (.seq (.reg [.p none 21 (.mv (.tmp 5)),
              .p none 4 (.mv (.tmp 21))])
          .ret)
          .skip))))
      (.reg [.p none 22 (.bin .add .i64 (.tmp 11) (.const (.int .i64 1))),
          .p none 11 (.mv (.tmp 22))])))))))
  (.seq (.reg [.p none 23 (.mv (.tmp 0)),
      .p none 24 (.lens (.tmp 23)),
      .p none 25 (.mv (.tmp 1)),
      .p none 26 (.lens (.tmp 25)),
      .p none 27 (.mm false .i64 (.tmp 24) [(.tmp 26)]),
      .p none 4 (.mv (.tmp 27))])
  .ret)))
theorem C78 : compile Try.prog 28 (Try.f78.body.getD .skip) = some M78 := by kernel_rfl

/-- nums.NewCursor -/
def M83 : MC :=
  (.seq (.reg [.p none 2 (.mv (.const (.pointer none)))])
  (.seq (.reg [.p none 3 (.mv (.tmp 0)),
      .l none (some 4) (.app 5 1 1 [(.int .u8 0)] (.const (.slice none 0 0)) (.tmp 3)),
      .p none 5 (.bld [(.slice none 0 0), (.int .i64 0), (.int .i64 0)] [(0, 1, (.tmp 4))]),
      .l none (some 6) (.bx 133 (.tmp 5)),
      .p none 2 (.mv (.tmp 6))])
  .ret))
theorem C83 : compile Try.prog 7 (Try.f83.body.getD .skip) = some M83 := by kernel_rfl

/-- (*nums.Cursor).Num -/
def M84 : MC :=
  (.seq (.reg [.l none (some 3) (.bx 2 (.tmp 1)),
      .p none 4 (.mv (.const (.int .i64 0)))])
  (.seq (.reg [.l none (some 5) (.al 2 [(.int .i64 0)])])
  (.seq (.reg [.p none 6 (.mv (.tmp 0)),
      .p none 7 (.mkf (.func 102) [] [(.tmp 3), (.tmp 5)]),
      .l none (some 8) (.call 101 [(.tmp 6), (.tmp 7)])])
  (.seq (.reg [.l none (some 9) (.ld none (.tmp 5)),
      .p none 4 (.mv (.tmp 9))])
  .ret))))
theorem C84 : compile Try.prog 10 (Try.f84.body.getD .skip) = some M84 := by kernel_rfl

/-- (*nums.Cursor).Rest -/
def M85 : MC :=
  (.seq (.reg [.p none 2 (.mv (.const (.int .i64 0)))])
  (.seq (.seq (.reg [.p none 3 (.mv (.tmp 0)),
      .p none 4 (.isnil false 0 (.tmp 3)),
      .p none 5 (.mv (.tmp 4)),
      .split 5,
      .p (some (5, false)) 6 (.mv (.tmp 0)),
      .p (some (5, false)) 7 (.nilchk (.tmp 6)),
      .p (some (5, false)) 8 (.fa 2 (.tmp 7)),
      .l (some (5, false)) (some 9) (.ld none (.tmp 8)),
      .p (some (5, false)) 10 (.bin .neq .i64 (.tmp 9) (.const (.int .i64 0))),
      .p none 11 (.pick (.tmp 5) (.const (.bool true)) (.tmp 10))])
  (.cond (.tmp 11)
    (.seq (.reg [.p none 2 (.mv (.const (.int .i64 0)))])
    .ret)
    .skip))
  (.seq (.dreg (.line [.qp 0 none 12 (.mv (.tmp 0)),
      .qp 1 none 13 (.nilchk (.tmp 12)),
      .qp 2 none 14 (.fa 0 (.tmp 13)),
      .qp 5 none 17 (.mv (.tmp 0)),
      .qp 6 none 18 (.nilchk (.tmp 17)),
      .qp 7 none 19 (.fa 1 (.tmp 18)),
      .ql 8 none 20 none (.tmp 19),
      .l 3 none (some 15) (.ld none (.tmp 14)),
      .qp 4 none 16 (.len (.tmp 15)),
      .qp 9 none 21 (.bin .sub .i64 (.tmp 16) (.tmp 20)),
      .qp 10 none 2 (.mv (.tmp 21))]))
  .ret)))
theorem C85 : compile Try.prog 22 (Try.f85.body.getD .skip) = some M85 := by kernel_rfl

/-- filter.Decode -/
def M86 : MC :=
  (.seq (.reg [.l none (some 2) (.al 69 [(.bool false), (.int .i64 0), (.slice none 0 0)]),
      .p none 3 (.mv (.const (.int .i64 0)))])
  (.seq (.reg [.p none 7 (.mv (.tmp 0)),
      .l none (some 8) (.call 83 [(.tmp 7)]),
      .p none 4 (.mv (.tmp 8))])
  (.seq (.reg [.l none (some 5) (.al 69 [(.bool false), (.int .i64 0), (.slice none 0 0)])])
  (.seq (.seq (.reg [.p none 9 (.mv (.tmp 4)),
      .l none (some 10) (.call 104 [(.tmp 9), (.const (.int .i64 1))]),
      .p none 6 (.mv (.tmp 10))])
  (.seq (.reg [.p none 11 (.mv (.tmp 6))])
  (.block 0
    (.seq (.reg [.p none 25 (.bin .eql .u64 (.tmp 11) (.const (.int .u64 0))),
        .p none 24 (.mv (.tmp 25))])
    (.cond (.tmp 24)
      .skip
      (.seq (.reg [.p none 27 (.bin .eql .u64 (.tmp 11) (.const (.int .u64 255))),
          .p none 26 (.mv (.tmp 27))])
      (.cond (.tmp 26)
        (.reg [.p none 28 (.fa 0 (.tmp 5)),
            .l none none (.st 1 (.tmp 28) (.const (.bool true)))])
        (.seq (.reg [.p none 12 (.mv (.tmp 6)),
            .p none 13 (.conv .i64 (.tmp 12)),
            .p none 14 (.fa 1 (.tmp 5)),
            .l none none (.st 1 (.tmp 14) (.tmp 13))])
        (.seq (.reg [.p none 15 (.mv (.tmp 4)),
            .p none 16 (.mv (.tmp 4)),
            .l none (some 17) (.call 84 [(.tmp 16), (.const (.int .i64 4096))]),
            .l none (some 18) (.call 105 [(.tmp 15), (.tmp 17)]),
            .p none 19 (.fa 2 (.tmp 5)),
            .l none none (.st 1 (.tmp 19) (.tmp 18))])
        (.seq (.reg [.l none (some 20) (.ld (some 3) (.tmp 5)),
            .l none (some 21) (.call 69 [(.tmp 20)]),
            .p none 22 (.bin .neq .i64 (.tmp 21) (.const (.int .i64 3)))])
        (.cond (.tmp 22)
          (.seq (.reg [.p none 23 (.bld [(.bool false), (.int .i64 0), (.slice none 0 0)] []),
              .l none none (.st 3 (.tmp 2) (.tmp 23)),
              .p none 3 (.mv (.const (.int .i64 70)))])
          .ret)
          .skip)))))))))))
  (.seq (.seq (.reg [.p none 29 (.mv (.tmp 4)),
      .l none (some 30) (.call 90 [(.tmp 29)]),
      .p none 31 (.fld 0 none (.tmp 30)),
      .p none 32 (.bin .neq .i64 (.tmp 31) (.const (.int .i64 0)))])
  (.cond (.tmp 32)
    (.seq (.reg [.p none 33 (.bld [(.bool false), (.int .i64 0), (.slice none 0 0)] []),
        .l none none (.st 3 (.tmp 2) (.tmp 33)),
        .p none 3 (.mv (.const (.int .i64 70)))])
    .ret)
    .skip))
  (.seq (.reg [.l none (some 34) (.ld (some 3) (.tmp 5)),
      .l none none (.st 3 (.tmp 2) (.tmp 34)),
      .p none 3 (.mv (.const (.int .i64 0)))])
  .ret))))))
theorem C86 : compile Try.prog 35 (Try.f86.body.getD .skip) = some M86 := by kernel_rfl

/-- (*nums.Cursor).Text -/
def M87 : MC :=
  (.seq (.reg [.l none (some 3) (.bx 3 (.tmp 1)),
      .p none 4 (.mv (.const (.string ⟨#[]⟩)))])
  (.seq (.reg [.l none (some 5) (.al 9 [(.string ⟨#[]⟩)])])
  (.seq (.reg [.p none 6 (.mv (.tmp 0)),
      .p none 7 (.mkf (.func 106) [] [(.tmp 3), (.tmp 5)]),
      .l none (some 8) (.call 101 [(.tmp 6), (.tmp 7)])])
  (.seq (.reg [.l none (some 9) (.ld none (.tmp 5)),
      .p none 4 (.mv (.tmp 9))])
  .ret))))
theorem C87 : compile Try.prog 10 (Try.f87.body.getD .skip) = some M87 := by kernel_rfl

/-- (*nums.Cursor).Fail -/
def M88 : MC :=
  (.seq (.reg [.l none (some 3) (.bx 25 (.tmp 1))])
  (.reg [.p none 4 (.mv (.tmp 0)),
      .p none 5 (.mkf (.func 107) [] [(.tmp 3)]),
      .l none (some 6) (.call 101 [(.tmp 4), (.tmp 5)])]))
theorem C88 : compile Try.prog 7 (Try.f88.body.getD .skip) = some M88 := by kernel_rfl

/-- foot.blocks -/
def M89 : MC :=
  (.seq (.reg [.p none 2 (.mv (.const (.slice none 0 0)))])
  (.seq (.reg [.p none 3 (.mv (.const (.slice none 0 0)))])
  (.seq (.reg [.p none 4 (.mv (.const (.string ⟨#[]⟩)))])
  (.seq (.seq (.reg [.p none 9 (.mv (.tmp 0)),
      .l none (some 10) (.call 84 [(.tmp 9), (.const (.int .i64 262144))]),
      .p none 5 (.mv (.tmp 10))])
  (.block 0
    (.loop
      (.seq (.seq (.reg [.p none 11 (.mv (.tmp 5)),
          .p none 12 (.bin .gtr .i64 (.tmp 11) (.const (.int .i64 0))),
          .p none 13 (.mv (.tmp 12)),
          .split 13,
          .p (some (13, true)) 14 (.mv (.tmp 0)),
          .l (some (13, true)) (some 15) (.call 85 [(.tmp 14)]),
          .p (some (13, true)) 16 (.bin .gtr .i64 (.tmp 15) (.const (.int .i64 0))),
          .p none 17 (.pick (.tmp 13) (.tmp 16) (.const (.bool false)))])
      (.cond (.tmp 17)
        .skip
        (.exit 0)))
      (.seq (.block 1
        (.seq (.reg [.p none 20 (.mv (.tmp 0)),
            .l none (some 21) (.call 84 [(.tmp 20), (.const (.int .i64 65536))]),
            .p none 22 (.mv (.tmp 0)),
            .l none (some 23) (.call 84 [(.tmp 22), (.const (.int .i64 65536))]),
            .p none 24 (.mv (.tmp 0)),
            .l none (some 25) (.call 84 [(.tmp 24), (.const (.int .i64 65536))]),
            .p none 26 (.bld [(.int .i64 0), (.int .i64 0), (.int .i64 0), (.string ⟨#[]⟩)] [(0, 1, (.tmp 21)), (1, 1, (.tmp 23)), (2, 1, (.tmp 25))]),
            .l none (some 6) (.al 74 [(.int .i64 0), (.int .i64 0), (.int .i64 0), (.string ⟨#[]⟩)]),
            .l none none (.st 4 (.tmp 6) (.tmp 26))])
        (.seq (.reg [.p none 27 (.mv (.tmp 0)),
            .p none 28 (.mv (.tmp 4)),
            .p none 29 (.lens (.tmp 28)),
            .l none (some 30) (.call 84 [(.tmp 27), (.tmp 29)]),
            .p none 7 (.mv (.tmp 30))])
        (.seq (.reg [.p none 31 (.mv (.tmp 0)),
            .l none (some 32) (.call 87 [(.tmp 31), (.const (.int .i64 64))]),
            .p none 8 (.mv (.tmp 32))])
        (.seq (.reg [.p none 33 (.mv (.tmp 4)),
            .p none 34 (.mv (.tmp 7)),
            .p none 35 (.slcs (.tmp 33) none (some (.tmp 34))),
            .p none 36 (.mv (.tmp 8)),
            .p none 37 (.sbin .add (.tmp 35) (.tmp 36)),
            .p none 38 (.fa 3 (.tmp 6)),
            .l none none (.st 1 (.tmp 38) (.tmp 37))])
        (.seq (.reg [.p none 39 (.fa 3 (.tmp 6)),
            .l none (some 40) (.ld none (.tmp 39)),
            .p none 4 (.mv (.tmp 40))])
        (.reg [.p none 41 (.mv (.tmp 3)),
            .l none (some 42) (.ld (some 4) (.tmp 6)),
            .l none (some 43) (.bs 74 1 4 [(.int .i64 0), (.int .i64 0), (.int .i64 0), (.string ⟨#[]⟩)] [(0, 4, (.tmp 42))]),
            .l none (some 44) (.app 74 40 4 [(.int .i64 0), (.int .i64 0), (.int .i64 0), (.string ⟨#[]⟩)] (.tmp 41) (.tmp 43)),
            .p none 3 (.mv (.tmp 44))])))))))
      (.reg [.p none 18 (.mv (.tmp 5)),
          .p none 19 (.bin .sub .i64 (.tmp 18) (.const (.int .i64 1))),
          .p none 5 (.mv (.tmp 19))]))))))
  (.seq (.reg [.p none 45 (.mv (.tmp 3)),
      .p none 2 (.mv (.tmp 45))])
  .ret)))))
theorem C89 : compile Try.prog 46 (Try.f89.body.getD .skip) = some M89 := by kernel_rfl

/-- (*nums.Cursor).End -/
def M90 : MC :=
  (.seq (.reg [.l none (some 2) (.al 126 [(.int .i64 0), (.int .i64 0)])])
  (.seq (.block 0
    (.seq (.reg [.p none 4 (.mv (.tmp 0)),
        .p none 5 (.isnil false 0 (.tmp 4)),
        .p none 3 (.mv (.tmp 5))])
    (.cond (.tmp 3)
      (.seq (.reg [.p none 6 (.bld [(.int .i64 0), (.int .i64 0)] [(0, 1, (.const (.int .i64 1)))]),
          .l none none (.st 2 (.tmp 2) (.tmp 6))])
      .ret)
      (.seq (.reg [.p none 8 (.mv (.tmp 0)),
          .p none 9 (.nilchk (.tmp 8)),
          .p none 10 (.fa 2 (.tmp 9)),
          .l none (some 11) (.ld none (.tmp 10)),
          .p none 12 (.bin .neq .i64 (.tmp 11) (.const (.int .i64 0))),
          .p none 7 (.mv (.tmp 12))])
      (.cond (.tmp 7)
        (.seq (.dreg (.line [.qp 0 none 13 (.mv (.tmp 0)),
            .qp 1 none 14 (.nilchk (.tmp 13)),
            .qp 2 none 15 (.fa 2 (.tmp 14)),
            .qp 4 none 17 (.mv (.tmp 0)),
            .qp 5 none 18 (.nilchk (.tmp 17)),
            .qp 6 none 19 (.fa 1 (.tmp 18)),
            .ql 7 none 20 none (.tmp 19),
            .l 3 none (some 16) (.ld none (.tmp 15)),
            .qp 8 none 21 (.bld [(.int .i64 0), (.int .i64 0)] [(0, 1, (.tmp 16)), (1, 1, (.tmp 20))]),
            .l 9 none none (.st 2 (.tmp 2) (.tmp 21))]))
        .ret)
        (.seq (.dreg (.line [.qp 0 none 23 (.mv (.tmp 0)),
            .qp 1 none 24 (.nilchk (.tmp 23)),
            .qp 2 none 25 (.fa 1 (.tmp 24)),
            .qp 4 none 27 (.mv (.tmp 0)),
            .qp 5 none 28 (.nilchk (.tmp 27)),
            .qp 6 none 29 (.fa 0 (.tmp 28)),
            .ql 7 none 30 none (.tmp 29),
            .qp 8 none 31 (.len (.tmp 30)),
            .l 3 none (some 26) (.ld none (.tmp 25)),
            .qp 9 none 32 (.bin .lss .i64 (.tmp 26) (.tmp 31)),
            .qp 10 none 22 (.mv (.tmp 32))]))
        (.cond (.tmp 22)
          (.seq (.reg [.p none 33 (.mv (.tmp 0)),
              .p none 34 (.nilchk (.tmp 33)),
              .p none 35 (.fa 1 (.tmp 34)),
              .l none (some 36) (.ld none (.tmp 35)),
              .p none 37 (.bld [(.int .i64 0), (.int .i64 0)] [(0, 1, (.const (.int .i64 22))), (1, 1, (.tmp 36))]),
              .l none none (.st 2 (.tmp 2) (.tmp 37))])
          .ret)
          .skip)))))))
  (.seq (.reg [.p none 38 (.bld [(.int .i64 0), (.int .i64 0)] []),
      .l none none (.st 2 (.tmp 2) (.tmp 38))])
  .ret)))
theorem C90 : compile Try.prog 39 (Try.f90.body.getD .skip) = some M90 := by kernel_rfl

/-- crc.Extend -/
def M97 : MC :=
  (.seq (.reg [.p none 4 (.mv (.const (.int .u32 0)))])
  (.seq (.reg [.p none 9 (.mv (.tmp 0)),
      .p none 10 (.bin .xor .u32 (.const (.int .u32 4294967295)) (.tmp 9)),
      .p none 5 (.mv (.tmp 10))])
  (.seq (.reg [.l none (some 11) (.call 111 []),
      .l none (some 6) (.al 142 (List.replicate 16 (.int .u32 0))),
      .l none none (.st 16 (.tmp 6) (.tmp 11))])
  (.seq (.seq (.reg [.p none 12 (.mv (.tmp 1)),
      .p none 13 (.len (.tmp 12)),
      .p none 14 (.mv (.const (.int .i64 0)))])
  (.block 0
    (.loop
      (.seq (.reg [.p none 15 (.bin .lss .i64 (.tmp 14) (.tmp 13))])
      (.seq (.cond (.tmp 15)
        .skip
        (.exit 0))
      (.seq (.block 1
        (.seq (.reg [.p none 16 (.idx 1 (.tmp 12) (.tmp 14)),
            .l none (some 17) (.ld none (.tmp 16)),
            .p none 8 (.mv (.tmp 17))])
        (.seq (.reg [.p none 18 (.mv (.tmp 5)),
            .p none 19 (.mv (.tmp 8)),
            .p none 20 (.conv .u32 (.tmp 19)),
            .p none 21 (.bin .xor .u32 (.tmp 18) (.tmp 20)),
            .p none 5 (.mv (.tmp 21))])
        (.seq (.reg [.p none 22 (.mv (.tmp 5)),
            .p none 23 (.shf .shr (.tmp 22) (.const (.int .u64 4))),
            .p none 24 (.mv (.tmp 5)),
            .p none 25 (.bin .and .u32 (.tmp 24) (.const (.int .u32 15))),
            .p none 26 (.idxa 16 1 (.tmp 6) (.tmp 25)),
            .l none (some 27) (.ld none (.tmp 26)),
            .p none 28 (.bin .xor .u32 (.tmp 23) (.tmp 27)),
            .p none 5 (.mv (.tmp 28))])
        (.reg [.p none 29 (.mv (.tmp 5)),
            .p none 30 (.shf .shr (.tmp 29) (.const (.int .u64 4))),
            .p none 31 (.mv (.tmp 5)),
            .p none 32 (.bin .and .u32 (.tmp 31) (.const (.int .u32 15))),
            .p none 33 (.idxa 16 1 (.tmp 6) (.tmp 32)),
            .l none (some 34) (.ld none (.tmp 33)),
            .p none 35 (.bin .xor .u32 (.tmp 30) (.tmp 34)),
            .p none 5 (.mv (.tmp 35))])))))
      (.reg [.p none 36 (.bin .add .i64 (.tmp 14) (.const (.int .i64 1))),
          .p none 14 (.mv (.tmp 36))])))))))
  (.seq (.reg [.p none 37 (.mv (.tmp 5)),
      .p none 38 (.bin .xor .u32 (.const (.int .u32 4294967295)) (.tmp 37)),
      .p none 4 (.mv (.tmp 38))])
  .ret)))))
theorem C97 : compile Try.prog 39 (Try.f97.body.getD .skip) = some M97 := by kernel_rfl

/-- (*nums.Cursor).reads -/
def M101 : MC :=
  (.seq (.seq (.reg [.p none 6 (.mv (.tmp 0)),
      .p none 7 (.isnil false 0 (.tmp 6)),
      .p none 8 (.mv (.tmp 7)),
      .split 8,
      .p (some (8, false)) 9 (.mv (.tmp 0)),
      .p (some (8, false)) 10 (.nilchk (.tmp 9)),
      .p (some (8, false)) 11 (.fa 2 (.tmp 10)),
      .l (some (8, false)) (some 12) (.ld none (.tmp 11)),
      .p (some (8, false)) 13 (.bin .neq .i64 (.tmp 12) (.const (.int .i64 0))),
      .p none 14 (.pick (.tmp 8) (.const (.bool true)) (.tmp 13))])
  (.cond (.tmp 14)
    .ret
    .skip))
  (.seq (.dreg (.line [.qp 0 none 16 (.mv (.tmp 1)),
      .qp 1 none 17 (.mv (.tmp 0)),
      .qp 2 none 18 (.nilchk (.tmp 17)),
      .qp 3 none 19 (.fa 0 (.tmp 18)),
      .qp 5 none 21 (.mv (.tmp 0)),
      .qp 6 none 22 (.nilchk (.tmp 21)),
      .qp 7 none 23 (.fa 1 (.tmp 22)),
      .ql 8 none 24 none (.tmp 23),
      .l 4 none (some 20) (.ld none (.tmp 19)),
      .qp 9 none 25 (.slc 1 (.tmp 20) (some (.tmp 24)) none none),
      .l 10 none (some 26) (.callv (.tmp 16) [(.tmp 25)]),
      .qp 11 none 15 (.mv (.tmp 26)),
      .qp 12 none 27 (.ext 0 (.tmp 15)),
      .qp 13 none 28 (.ext 1 (.tmp 15)),
      .qp 14 none 4 (.mv (.tmp 27)),
      .qp 15 none 5 (.mv (.tmp 28))]))
  (.seq (.seq (.reg [.p none 29 (.mv (.tmp 5)),
      .p none 30 (.bin .neq .i64 (.tmp 29) (.const (.int .i64 0)))])
  (.cond (.tmp 30)
    (.seq (.reg [.p none 31 (.mv (.tmp 0)),
        .p none 32 (.mv (.tmp 5)),
        .p none 33 (.nilchk (.tmp 31)),
        .p none 34 (.fa 2 (.tmp 33)),
        .l none none (.st 1 (.tmp 34) (.tmp 32))])
    .ret)
    .skip))
  (.reg [.p none 35 (.mv (.tmp 0)),
      .p none 36 (.nilchk (.tmp 35)),
      .p none 37 (.fa 1 (.tmp 36)),
      .l none (some 38) (.ld none (.tmp 37)),
      .p none 39 (.mv (.tmp 4)),
      .p none 40 (.bin .add .i64 (.tmp 38) (.tmp 39)),
      .p none 41 (.nilchk (.tmp 35)),
      .p none 42 (.fa 1 (.tmp 41)),
      .l none none (.st 1 (.tmp 42) (.tmp 40))]))))
theorem C101 : compile Try.prog 43 (Try.f101.body.getD .skip) = some M101 := by kernel_rfl

/-- (*nums.Cursor).Num$1 -/
def M102 : MC :=
  (.seq (.reg [.p none 4 (.mv (.const (.int .i64 0))),
      .p none 5 (.mv (.const (.int .i64 0)))])
  (.seq (.reg [.p none 10 (.mv (.tmp 0)),
      .l none (some 11) (.call 103 [(.tmp 10)]),
      .p none 9 (.mv (.tmp 11)),
      .p none 12 (.ext 0 (.tmp 9)),
      .p none 13 (.ext 1 (.tmp 9)),
      .p none 14 (.ext 2 (.tmp 9)),
      .p none 6 (.mv (.tmp 12)),
      .p none 7 (.mv (.tmp 13)),
      .p none 8 (.mv (.tmp 14))])
  (.seq (.seq (.reg [.p none 15 (.mv (.tmp 8)),
      .p none 16 (.bin .eql .i64 (.tmp 15) (.const (.int .i64 0))),
      .p none 17 (.mv (.tmp 16)),
      .split 17,
      .p (some (17, true)) 18 (.mv (.tmp 6)),
      .l (some (17, true)) (some 19) (.ld none (.tmp 1)),
      .p (some (17, true)) 20 (.bin .gtr .i64 (.tmp 18) (.tmp 19)),
      .p none 21 (.pick (.tmp 17) (.tmp 20) (.const (.bool false)))])
  (.cond (.tmp 21)
    (.reg [.p none 8 (.mv (.const (.int .i64 23)))])
    .skip))
  (.seq (.seq (.reg [.p none 22 (.mv (.tmp 8)),
      .p none 23 (.bin .eql .i64 (.tmp 22) (.const (.int .i64 0)))])
  (.cond (.tmp 23)
    (.reg [.p none 24 (.mv (.tmp 6)),
        .l none none (.st 1 (.tmp 2) (.tmp 24))])
    .skip))
  (.seq (.reg [.p none 25 (.mv (.tmp 7)),
      .p none 26 (.mv (.tmp 8)),
      .p none 4 (.mv (.tmp 25)),
      .p none 5 (.mv (.tmp 26))])
  .ret)))))
theorem C102 : compile Try.prog 27 (Try.f102.body.getD .skip) = some M102 := by kernel_rfl

/-- nums.Get -/
def M103 : MC :=
  (.seq (.reg [.p none 2 (.mv (.const (.int .i64 0))),
      .p none 3 (.mv (.const (.int .i64 0))),
      .p none 4 (.mv (.const (.int .i64 0)))])
  (.seq (.reg [.p none 5 (.mv (.const (.int .i64 0)))])
  (.seq (.seq (.reg [.p none 8 (.mv (.tmp 0)),
      .p none 9 (.len (.tmp 8)),
      .p none 10 (.mv (.const (.int .i64 0)))])
  (.block 0
    (.loop
      (.seq (.reg [.p none 11 (.bin .lss .i64 (.tmp 10) (.tmp 9))])
      (.seq (.cond (.tmp 11)
        .skip
        (.exit 0))
      (.seq (.block 1
        (.seq (.reg [.p none 12 (.mv (.tmp 10)),
            .p none 13 (.idx 1 (.tmp 8) (.tmp 10)),
            .l none (some 14) (.ld none (.tmp 13)),
            .p none 6 (.mv (.tmp 12)),
            .p none 7 (.mv (.tmp 14))])
        (.seq (.seq (.reg [.p none 15 (.mv (.tmp 6)),
            .p none 16 (.bin .eql .i64 (.tmp 15) (.const (.int .i64 8))),
            .p none 17 (.mv (.tmp 16)),
            .split 17,
            .p (some (17, true)) 18 (.mv (.tmp 7)),
            .p (some (17, true)) 19 (.bin .geq .u8 (.tmp 18) (.const (.int .u8 128))),
            .p none 20 (.pick (.tmp 17) (.tmp 19) (.const (.bool false)))])
        (.cond (.tmp 20)
          (.seq (.reg [.p none 2 (.mv (.const (.int .i64 0))),
              .p none 3 (.mv (.const (.int .i64 0))),
              .p none 4 (.mv (.const (.int .i64 21)))])
          .ret)
          .skip))
        (.seq (.reg [.p none 21 (.mv (.tmp 5)),
            .p none 22 (.mv (.tmp 7)),
            .p none 23 (.bin .and .u8 (.tmp 22) (.const (.int .u8 127))),
            .p none 24 (.conv .i64 (.tmp 23)),
            .p none 25 (.mv (.tmp 6)),
            .p none 26 (.bin .mul .i64 (.const (.int .i64 7)) (.tmp 25)),
            .p none 27 (.shf .shl (.tmp 24) (.tmp 26)),
            .p none 28 (.bin .or .i64 (.tmp 21) (.tmp 27)),
            .p none 5 (.mv (.tmp 28))])
        (.seq (.reg [.p none 29 (.mv (.tmp 7)),
            .p none 30 (.bin .lss .u8 (.tmp 29) (.const (.int .u8 128)))])
        (.cond (.tmp 30)
          (.seq (.seq (.reg [.p none 31 (.mv (.tmp 7)),
              .p none 32 (.bin .eql .u8 (.tmp 31) (.const (.int .u8 0))),
              .p none 33 (.mv (.tmp 32)),
              .split 33,
              .p (some (33, true)) 34 (.mv (.tmp 6)),
              .p (some (33, true)) 35 (.bin .gtr .i64 (.tmp 34) (.const (.int .i64 0))),
              .p none 36 (.pick (.tmp 33) (.tmp 35) (.const (.bool false)))])
          (.cond (.tmp 36)
            (.seq (.reg [.p none 2 (.mv (.const (.int .i64 0))),
                .p none 3 (.mv (.const (.int .i64 0))),
                .p none 4 (.mv (.const (.int .i64 21)))])
            .ret)
            .skip))
          (.seq (.reg [.p none 37 (.mv (.tmp 5)),
              .p none 38 (.mv (.tmp 6)),
              .p none 39 (.bin .add .i64 (.tmp 38) (.const (.int .i64 1))),
              .p none 2 (.mv (.tmp 37)),
              .p none 3 (.mv (.tmp 39)),
              .p none 4 (.mv (.const (.int .i64 0)))])
          .ret))
          .skip))))))
      (.reg [.p none 40 (.bin .add .i64 (.tmp 10) (.const (.int .i64 1))),
          .p none 10 (.mv (.tmp 40))])))))))
  (.seq (.reg [.p none 2 (.mv (.const (.int .i64 0))),
      .p none 3 (.mv (.const (.int .i64 0))),
      .p none 4 (.mv (.const (.int .i64 20)))])
  .ret))))
theorem C103 : compile Try.prog 41 (Try.f103.body.getD .skip) = some M103 := by kernel_rfl

/-- (*nums.Cursor).Fixed -/
def M104 : MC :=
  (.seq (.reg [.l none (some 3) (.bx 3 (.tmp 1)),
      .p none 4 (.mv (.const (.int .u64 0)))])
  (.seq (.reg [.l none (some 5) (.al 88 [(.int .u64 0)])])
  (.seq (.reg [.p none 6 (.mv (.tmp 0)),
      .p none 7 (.mkf (.func 113) [] [(.tmp 3), (.tmp 5)]),
      .l none (some 8) (.call 101 [(.tmp 6), (.tmp 7)])])
  (.seq (.reg [.l none (some 9) (.ld none (.tmp 5)),
      .p none 4 (.mv (.tmp 9))])
  .ret))))
theorem C104 : compile Try.prog 10 (Try.f104.body.getD .skip) = some M104 := by kernel_rfl

/-- (*nums.Cursor).Take -/
def M105 : MC :=
  (.seq (.reg [.l none (some 3) (.bx 3 (.tmp 1)),
      .p none 4 (.mv (.const (.slice none 0 0)))])
  (.seq (.reg [.l none (some 5) (.al 34 [(.slice none 0 0)])])
  (.seq (.reg [.p none 6 (.mv (.tmp 0)),
      .p none 7 (.mkf (.func 114) [] [(.tmp 3), (.tmp 5)]),
      .l none (some 8) (.call 101 [(.tmp 6), (.tmp 7)])])
  (.seq (.reg [.l none (some 9) (.ld none (.tmp 5)),
      .p none 4 (.mv (.tmp 9))])
  .ret))))
theorem C105 : compile Try.prog 10 (Try.f105.body.getD .skip) = some M105 := by kernel_rfl

/-- (*nums.Cursor).Text$1 -/
def M106 : MC :=
  (.seq (.reg [.p none 4 (.mv (.const (.int .i64 0))),
      .p none 5 (.mv (.const (.int .i64 0)))])
  (.seq (.reg [.p none 10 (.mv (.tmp 0)),
      .l none (some 11) (.call 103 [(.tmp 10)]),
      .p none 9 (.mv (.tmp 11)),
      .p none 12 (.ext 0 (.tmp 9)),
      .p none 13 (.ext 1 (.tmp 9)),
      .p none 14 (.ext 2 (.tmp 9)),
      .p none 6 (.mv (.tmp 12)),
      .p none 7 (.mv (.tmp 13)),
      .p none 8 (.mv (.tmp 14))])
  (.seq (.block 0
    (.seq (.reg [.p none 16 (.mv (.tmp 8)),
        .p none 17 (.bin .neq .i64 (.tmp 16) (.const (.int .i64 0))),
        .p none 15 (.mv (.tmp 17))])
    (.cond (.tmp 15)
      (.seq (.reg [.p none 18 (.mv (.tmp 8)),
          .p none 4 (.mv (.const (.int .i64 0))),
          .p none 5 (.mv (.tmp 18))])
      .ret)
      (.seq (.reg [.p none 20 (.mv (.tmp 6)),
          .l none (some 21) (.ld none (.tmp 1)),
          .p none 22 (.bin .gtr .i64 (.tmp 20) (.tmp 21)),
          .p none 19 (.mv (.tmp 22))])
      (.cond (.tmp 19)
        (.seq (.reg [.p none 4 (.mv (.const (.int .i64 0))),
            .p none 5 (.mv (.const (.int .i64 23)))])
        .ret)
        (.seq (.reg [.p none 24 (.mv (.tmp 6)),
            .p none 25 (.mv (.tmp 0)),
            .p none 26 (.len (.tmp 25)),
            .p none 27 (.mv (.tmp 7)),
            .p none 28 (.bin .sub .i64 (.tmp 26) (.tmp 27)),
            .p none 29 (.bin .gtr .i64 (.tmp 24) (.tmp 28)),
            .p none 23 (.mv (.tmp 29))])
        (.cond (.tmp 23)
          (.seq (.reg [.p none 4 (.mv (.const (.int .i64 0))),
              .p none 5 (.mv (.const (.int .i64 20)))])
          .ret)
          .skip)))))))
  (.seq (.reg [.p none 30 (.mv (.tmp 0)),
      .p none 31 (.mv (.tmp 7)),
      .p none 32 (.mv (.tmp 7)),
      .p none 33 (.mv (.tmp 6)),
      .p none 34 (.bin .add .i64 (.tmp 32) (.tmp 33)),
      .p none 35 (.slc 1 (.tmp 30) (some (.tmp 31)) (some (.tmp 34)) none),
      .l none (some 36) (.b2s (.tmp 35)),
      .l none none (.st 1 (.tmp 2) (.tmp 36))])
  (.seq (.reg [.p none 37 (.mv (.tmp 7)),
      .p none 38 (.mv (.tmp 6)),
      .p none 39 (.bin .add .i64 (.tmp 37) (.tmp 38)),
      .p none 4 (.mv (.tmp 39)),
      .p none 5 (.mv (.const (.int .i64 0)))])
  .ret)))))
theorem C106 : compile Try.prog 40 (Try.f106.body.getD .skip) = some M106 := by kernel_rfl

/-- (*nums.Cursor).Fail$1 -/
def M107 : MC :=
  (.seq (.reg [.p none 3 (.mv (.const (.int .i64 0))),
      .p none 4 (.mv (.const (.int .i64 0)))])
  (.seq (.dreg (.line [.qp 1 none 3 (.mv (.const (.int .i64 0))),
      .l 0 none (some 5) (.ld none (.tmp 1)),
      .qp 2 none 4 (.mv (.tmp 5))]))
  .ret))
theorem C107 : compile Try.prog 6 (Try.f107.body.getD .skip) = some M107 := by kernel_rfl

/-- crc.sums -/
def M111 : MC :=
  (.seq (.reg [.l none (some 0) (.al 142 (List.replicate 16 (.int .u32 0)))])
  (.seq (.reg [.l none (some 1) (.al 142 (List.replicate 16 (.int .u32 0)))])
  (.seq (.seq (.reg [.p none 4 (.mv (.const (.int .i64 0)))])
  (.block 0
    (.loop
      (.seq (.reg [.p none 5 (.bin .lss .i64 (.tmp 4) (.const (.int .i64 16)))])
      (.seq (.cond (.tmp 5)
        .skip
        (.exit 0))
      (.seq (.block 1
        (.seq (.reg [.p none 6 (.mv (.tmp 4)),
            .p none 2 (.mv (.tmp 6))])
        (.seq (.reg [.p none 7 (.mv (.tmp 2)),
            .p none 8 (.conv .u32 (.tmp 7)),
            .p none 3 (.mv (.tmp 8))])
        (.seq (.seq (.reg [.p none 9 (.mv (.const (.int .i64 0)))])
        (.block 2
          (.loop
            (.seq (.reg [.p none 10 (.bin .lss .i64 (.tmp 9) (.const (.int .i64 4)))])
            (.seq (.cond (.tmp 10)
              .skip
              (.exit 2))
            (.seq (.block 3
              (.reg [.p none 11 (.mv (.tmp 3)),
                  .l none (some 12) (.call 115 [(.tmp 11)]),
                  .p none 3 (.mv (.tmp 12))]))
            (.reg [.p none 13 (.bin .add .i64 (.tmp 9) (.const (.int .i64 1))),
                .p none 9 (.mv (.tmp 13))])))))))
        (.reg [.p none 14 (.mv (.tmp 2)),
            .p none 15 (.mv (.tmp 3)),
            .p none 16 (.idxa 16 1 (.tmp 1) (.tmp 14)),
            .l none none (.st 1 (.tmp 16) (.tmp 15))])))))
      (.reg [.p none 17 (.bin .add .i64 (.tmp 4) (.const (.int .i64 1))),
          .p none 4 (.mv (.tmp 17))])))))))
  (.seq (.reg [.l none (some 18) (.ld (some 16) (.tmp 1)),
      .l none none (.st 16 (.tmp 0) (.tmp 18))])
  .ret))))
theorem C111 : compile Try.prog 19 (Try.f111.body.getD .skip) = some M111 := by kernel_rfl

/-- (*nums.Cursor).Fixed$1 -/
def M113 : MC :=
  (.seq (.reg [.p none 4 (.mv (.const (.int .i64 0))),
      .p none 5 (.mv (.const (.int .i64 0)))])
  (.seq (.block 0
    (.seq (.reg [.l none (some 7) (.ld none (.tmp 1)),
        .p none 8 (.bin .lss .i64 (.tmp 7) (.const (.int .i64 1))),
        .p none 9 (.mv (.tmp 8)),
        .split 9,
        .l (some (9, false)) (some 10) (.ld none (.tmp 1)),
        .p (some (9, false)) 11 (.bin .gtr .i64 (.tmp 10) (.const (.int .i64 8))),
        .p none 12 (.pick (.tmp 9) (.const (.bool true)) (.tmp 11)),
        .p none 6 (.mv (.tmp 12))])
    (.cond (.tmp 6)
      (.seq (.reg [.p none 4 (.mv (.const (.int .i64 0))),
          .p none 5 (.mv (.const (.int .i64 23)))])
      .ret)
      (.seq (.reg [.l none (some 14) (.ld none (.tmp 1)),
          .p none 15 (.mv (.tmp 0)),
          .p none 16 (.len (.tmp 15)),
          .p none 17 (.bin .gtr .i64 (.tmp 14) (.tmp 16)),
          .p none 13 (.mv (.tmp 17))])
      (.cond (.tmp 13)
        (.seq (.reg [.p none 4 (.mv (.const (.int .i64 0))),
            .p none 5 (.mv (.const (.int .i64 20)))])
        .ret)
        .skip)))))
  (.seq (.reg [.p none 18 (.mv (.tmp 0)),
      .l none (some 19) (.ld none (.tmp 1)),
      .p none 20 (.slc 1 (.tmp 18) none (some (.tmp 19)) none),
      .l none (some 21) (.call 50 [(.tmp 20)]),
      .l none none (.st 1 (.tmp 2) (.tmp 21))])
  (.seq (.reg [.l none (some 22) (.ld none (.tmp 1)),
      .p none 4 (.mv (.tmp 22)),
      .p none 5 (.mv (.const (.int .i64 0)))])
  .ret))))
theorem C113 : compile Try.prog 23 (Try.f113.body.getD .skip) = some M113 := by kernel_rfl

/-- (*nums.Cursor).Take$1 -/
def M114 : MC :=
  (.seq (.reg [.p none 4 (.mv (.const (.int .i64 0))),
      .p none 5 (.mv (.const (.int .i64 0)))])
  (.seq (.block 0
    (.seq (.reg [.l none (some 7) (.ld none (.tmp 1)),
        .p none 8 (.bin .lss .i64 (.tmp 7) (.const (.int .i64 0))),
        .p none 6 (.mv (.tmp 8))])
    (.cond (.tmp 6)
      (.seq (.reg [.p none 4 (.mv (.const (.int .i64 0))),
          .p none 5 (.mv (.const (.int .i64 23)))])
      .ret)
      (.seq (.reg [.l none (some 10) (.ld none (.tmp 1)),
          .p none 11 (.mv (.tmp 0)),
          .p none 12 (.len (.tmp 11)),
          .p none 13 (.bin .gtr .i64 (.tmp 10) (.tmp 12)),
          .p none 9 (.mv (.tmp 13))])
      (.cond (.tmp 9)
        (.seq (.reg [.p none 4 (.mv (.const (.int .i64 0))),
            .p none 5 (.mv (.const (.int .i64 20)))])
        .ret)
        .skip)))))
  (.seq (.dreg (.line [.qp 1 none 15 (.mv (.tmp 0)),
      .ql 2 none 16 none (.tmp 1),
      .qp 3 none 17 (.slc 1 (.tmp 15) none (some (.tmp 16)) none),
      .l 0 none (some 14) (.ld none (.tmp 2)),
      .l 4 none (some 18) (.app 5 1 1 [(.int .u8 0)] (.tmp 14) (.tmp 17)),
      .l 5 none none (.st 1 (.tmp 2) (.tmp 18))]))
  (.seq (.reg [.l none (some 19) (.ld none (.tmp 1)),
      .p none 4 (.mv (.tmp 19)),
      .p none 5 (.mv (.const (.int .i64 0)))])
  .ret))))
theorem C114 : compile Try.prog 20 (Try.f114.body.getD .skip) = some M114 := by kernel_rfl

/-- crc.step -/
def M115 : MC :=
  (.seq (.reg [.p none 2 (.mv (.const (.int .u32 0)))])
  (.seq (.seq (.reg [.p none 3 (.mv (.tmp 0)),
      .p none 4 (.bin .and .u32 (.tmp 3) (.const (.int .u32 1))),
      .p none 5 (.bin .eql .u32 (.tmp 4) (.const (.int .u32 1)))])
  (.cond (.tmp 5)
    (.seq (.reg [.p none 6 (.mv (.tmp 0)),
        .p none 7 (.shf .shr (.tmp 6) (.const (.int .u64 1))),
        .p none 8 (.bin .xor .u32 (.tmp 7) (.const (.int .u32 2197175160))),
        .p none 2 (.mv (.tmp 8))])
    .ret)
    .skip))
  (.seq (.reg [.p none 9 (.mv (.tmp 0)),
      .p none 10 (.shf .shr (.tmp 9) (.const (.int .u64 1))),
      .p none 2 (.mv (.tmp 10))])
  .ret)))
theorem C115 : compile Try.prog 11 (Try.f115.body.getD .skip) = some M115 := by kernel_rfl
end Go.Proofs.Ythhmhmnhbababaa.E
