/- The intermediate code of the functions that are walked here, each with the proof that it is the translation of the model's code. -/
import Derived.Test.YtjockanmmfmidaaDoorE6
import Derived.KernelRfl
namespace Go.Proofs.YtjockanmmfmidaaDoor.E
open Go
theorem mixed : Tryd.prog.follows .mixedOrders = true := by kernel_rfl

/-- winnowlaw7.FilterJoins -/
def M3 : MC :=
  (.seq (.reg [.l none (some 2) (.bx 24 (.tmp 0)),
      .l none (some 3) (.bx 24 (.tmp 1)),
      .p none 4 (.mv (.const (.bool false)))])
  (.seq (.reg [.l none (some 24) (.ld (some 3) (.tmp 2)),
      .l none (some 25) (.call 6 [(.tmp 24)]),
      .l none (some 5) (.al 24 [(.bool false), (.int .i64 0), (.slice none 0 0)]),
      .l none none (.st 3 (.tmp 5) (.tmp 25))])
  (.seq (.reg [.l none (some 26) (.ld (some 3) (.tmp 3)),
      .l none (some 27) (.call 6 [(.tmp 26)]),
      .l none (some 6) (.al 24 [(.bool false), (.int .i64 0), (.slice none 0 0)]),
      .l none none (.st 3 (.tmp 6) (.tmp 27))])
  (.seq (.reg [.l none (some 29) (.ld (some 3) (.tmp 5)),
      .l none (some 30) (.ld (some 3) (.tmp 6)),
      .l none (some 31) (.call 7 [(.tmp 29), (.tmp 30)]),
      .p none 28 (.mv (.tmp 31)),
      .p none 32 (.ext 0 (.tmp 28)),
      .p none 33 (.ext 1 (.tmp 28)),
      .l none (some 7) (.al 24 [(.bool false), (.int .i64 0), (.slice none 0 0)]),
      .l none none (.st 3 (.tmp 7) (.tmp 32)),
      .p none 8 (.mv (.tmp 33))])
  (.seq (.reg [.l none (some 35) (.ld (some 3) (.tmp 5)),
      .l none (some 36) (.ld (some 3) (.tmp 6)),
      .l none (some 37) (.call 7 [(.tmp 35), (.tmp 36)]),
      .p none 34 (.mv (.tmp 37)),
      .p none 38 (.ext 0 (.tmp 34)),
      .p none 39 (.ext 1 (.tmp 34)),
      .l none (some 9) (.al 24 [(.bool false), (.int .i64 0), (.slice none 0 0)]),
      .l none none (.st 3 (.tmp 9) (.tmp 38)),
      .p none 10 (.mv (.tmp 39))])
  (.seq (.reg [.p none 40 (.fa 2 (.tmp 7)),
      .l none (some 41) (.ld none (.tmp 40)),
      .l none (some 42) (.call 8 [(.tmp 41), (.const (.int .u8 7))]),
      .p none 11 (.mv (.tmp 42))])
  (.seq (.reg [.l none (some 44) (.ld (some 3) (.tmp 2)),
      .l none (some 45) (.ld (some 3) (.tmp 3)),
      .l none (some 46) (.call 9 [(.tmp 44), (.tmp 45)]),
      .p none 43 (.mv (.tmp 46)),
      .p none 47 (.ext 0 (.tmp 43)),
      .p none 48 (.ext 1 (.tmp 43)),
      .l none (some 12) (.al 24 [(.bool false), (.int .i64 0), (.slice none 0 0)]),
      .l none none (.st 3 (.tmp 12) (.tmp 47)),
      .p none 13 (.mv (.tmp 48))])
  (.seq (.seq (.reg [.p none 49 (.mv (.tmp 8)),
      .p none 50 (.mv (.tmp 13)),
      .p none 51 (.bin .neq .i64 (.tmp 49) (.tmp 50)),
      .p none 52 (.mv (.tmp 51)),
      .split 52,
      .p (some (52, false)) 53 (.mv (.tmp 10)),
      .p (some (52, false)) 54 (.mv (.tmp 13)),
      .p (some (52, false)) 55 (.bin .neq .i64 (.tmp 53) (.tmp 54)),
      .p none 56 (.pick (.tmp 52) (.const (.bool true)) (.tmp 55)),
      .p none 57 (.mv (.tmp 56)),
      .split 57,
      .l (some (57, false)) (some 58) (.ld (some 3) (.tmp 9)),
      .l (some (57, false)) (some 59) (.ld (some 3) (.tmp 12)),
      .l (some (57, false)) (some 60) (.call 10 [(.tmp 58), (.tmp 59)]),
      .p (some (57, false)) 61 (.not (.tmp 60)),
      .p none 62 (.pick (.tmp 57) (.const (.bool true)) (.tmp 61)),
      .p none 63 (.mv (.tmp 62)),
      .split 63,
      .p (some (63, false)) 64 (.mv (.tmp 11)),
      .p (some (63, false)) 65 (.fa 2 (.tmp 12)),
      .l (some (63, false)) (some 66) (.ld none (.tmp 65)),
      .p (some (63, false)) 67 (.len (.tmp 66)),
      .p (some (63, false)) 68 (.bin .add .i64 (.tmp 67) (.const (.int .i64 64))),
      .p (some (63, false)) 69 (.bin .neq .i64 (.tmp 64) (.tmp 68)),
      .p none 70 (.pick (.tmp 63) (.const (.bool true)) (.tmp 69)),
      .p none 71 (.mv (.tmp 70)),
      .split 71,
      .l (some (71, false)) (some 72) (.ld (some 3) (.tmp 5)),
      .l (some (71, false)) (some 73) (.ld (some 3) (.tmp 2)),
      .l (some (71, false)) (some 74) (.call 11 [(.tmp 72), (.tmp 73)]),
      .p (some (71, false)) 75 (.not (.tmp 74)),
      .p none 76 (.pick (.tmp 71) (.const (.bool true)) (.tmp 75)),
      .p none 77 (.mv (.tmp 76)),
      .split 77,
      .l (some (77, false)) (some 78) (.ld (some 3) (.tmp 6)),
      .l (some (77, false)) (some 79) (.ld (some 3) (.tmp 3)),
      .l (some (77, false)) (some 80) (.call 11 [(.tmp 78), (.tmp 79)]),
      .p (some (77, false)) 81 (.not (.tmp 80)),
      .p none 82 (.pick (.tmp 77) (.const (.bool true)) (.tmp 81))])
  (.cond (.tmp 82)
    (.seq (.reg [.p none 4 (.mv (.const (.bool false)))])
    .ret)
    .skip))
  (.seq (.dreg (.fork [.ql 2 none 85 (some 3) (.tmp 3),
      .ql 0 none 83 (some 3) (.tmp 2)]
    (.fork [.l 1 none (some 84) (.call 6 [(.tmp 83)])]
      (.fork [.l 3 none (some 86) (.call 6 [(.tmp 85)])]
        (.line [.l 4 none (some 14) (.al 24 [(.bool false), (.int .i64 0), (.slice none 0 0)]),
            .l 5 none (some 15) (.al 24 [(.bool false), (.int .i64 0), (.slice none 0 0)]),
            .l 6 none none (.st 3 (.tmp 14) (.tmp 84)),
            .l 7 none none (.st 3 (.tmp 15) (.tmp 86))])
        (.line [.l 5 none (some 15) (.al 24 [(.bool false), (.int .i64 0), (.slice none 0 0)]),
            .l 4 none (some 14) (.al 24 [(.bool false), (.int .i64 0), (.slice none 0 0)]),
            .l 6 none none (.st 3 (.tmp 14) (.tmp 84)),
            .l 7 none none (.st 3 (.tmp 15) (.tmp 86))]))
      (.fork []
        (.fork [.l 4 none (some 14) (.al 24 [(.bool false), (.int .i64 0), (.slice none 0 0)])]
          (.line [.l 3 none (some 86) (.call 6 [(.tmp 85)]),
              .l 5 none (some 15) (.al 24 [(.bool false), (.int .i64 0), (.slice none 0 0)]),
              .l 6 none none (.st 3 (.tmp 14) (.tmp 84)),
              .l 7 none none (.st 3 (.tmp 15) (.tmp 86))])
          (.line [.l 5 none (some 15) (.al 24 [(.bool false), (.int .i64 0), (.slice none 0 0)]),
              .l 3 none (some 86) (.call 6 [(.tmp 85)]),
              .l 6 none none (.st 3 (.tmp 14) (.tmp 84)),
              .l 7 none none (.st 3 (.tmp 15) (.tmp 86))]))
        (.fork [.l 5 none (some 15) (.al 24 [(.bool false), (.int .i64 0), (.slice none 0 0)])]
          (.line [.l 3 none (some 86) (.call 6 [(.tmp 85)]),
              .l 4 none (some 14) (.al 24 [(.bool false), (.int .i64 0), (.slice none 0 0)]),
              .l 6 none none (.st 3 (.tmp 14) (.tmp 84)),
              .l 7 none none (.st 3 (.tmp 15) (.tmp 86))])
          (.line [.l 4 none (some 14) (.al 24 [(.bool false), (.int .i64 0), (.slice none 0 0)]),
              .l 3 none (some 86) (.call 6 [(.tmp 85)]),
              .l 6 none none (.st 3 (.tmp 14) (.tmp 84)),
              .l 7 none none (.st 3 (.tmp 15) (.tmp 86))]))))
    (.fork []
      (.fork [.l 4 none (some 14) (.al 24 [(.bool false), (.int .i64 0), (.slice none 0 0)])]
        (.fork [.l 1 none (some 84) (.call 6 [(.tmp 83)])]
          (.line [.l 3 none (some 86) (.call 6 [(.tmp 85)]),
              .l 5 none (some 15) (.al 24 [(.bool false), (.int .i64 0), (.slice none 0 0)]),
              .l 6 none none (.st 3 (.tmp 14) (.tmp 84)),
              .l 7 none none (.st 3 (.tmp 15) (.tmp 86))])
          (.line [.l 5 none (some 15) (.al 24 [(.bool false), (.int .i64 0), (.slice none 0 0)]),
              .l 3 none (some 86) (.call 6 [(.tmp 85)]),
              .l 6 none none (.st 3 (.tmp 14) (.tmp 84)),
              .l 7 none none (.st 3 (.tmp 15) (.tmp 86))]))
        (.line [.l 5 none (some 15) (.al 24 [(.bool false), (.int .i64 0), (.slice none 0 0)]),
            .l 1 none (some 84) (.call 6 [(.tmp 83)]),
            .l 3 none (some 86) (.call 6 [(.tmp 85)]),
            .l 6 none none (.st 3 (.tmp 14) (.tmp 84)),
            .l 7 none none (.st 3 (.tmp 15) (.tmp 86))]))
      (.fork [.l 5 none (some 15) (.al 24 [(.bool false), (.int .i64 0), (.slice none 0 0)])]
        (.fork [.l 1 none (some 84) (.call 6 [(.tmp 83)])]
          (.line [.l 3 none (some 86) (.call 6 [(.tmp 85)]),
              .l 4 none (some 14) (.al 24 [(.bool false), (.int .i64 0), (.slice none 0 0)]),
              .l 6 none none (.st 3 (.tmp 14) (.tmp 84)),
              .l 7 none none (.st 3 (.tmp 15) (.tmp 86))])
          (.line [.l 4 none (some 14) (.al 24 [(.bool false), (.int .i64 0), (.slice none 0 0)]),
              .l 3 none (some 86) (.call 6 [(.tmp 85)]),
              .l 6 none none (.st 3 (.tmp 14) (.tmp 84)),
              .l 7 none none (.st 3 (.tmp 15) (.tmp 86))]))
        (.line [.l 4 none (some 14) (.al 24 [(.bool false), (.int .i64 0), (.slice none 0 0)]),
            .l 1 none (some 84) (.call 6 [(.tmp 83)]),
            .l 3 none (some 86) (.call 6 [(.tmp 85)]),
            .l 6 none none (.st 3 (.tmp 14) (.tmp 84)),
            .l 7 none none (.st 3 (.tmp 15) (.tmp 86))])))))
  (.seq (.reg [.p none 87 (.fa 2 (.tmp 14)),
      .l none (some 88) (.ld none (.tmp 87)),
      .l none (some 89) (.call 12 [(.tmp 88)])])
  (.seq (.reg [.p none 90 (.fa 2 (.tmp 5)),
      .l none (some 91) (.ld none (.tmp 90)),
      .l none (some 92) (.call 12 [(.tmp 91)])])
  (.seq (.reg [.l none (some 94) (.ld (some 3) (.tmp 5)),
      .l none (some 95) (.ld (some 3) (.tmp 6)),
      .l none (some 96) (.call 7 [(.tmp 94), (.tmp 95)]),
      .p none 93 (.mv (.tmp 96)),
      .p none 97 (.ext 0 (.tmp 93)),
      .p none 98 (.ext 1 (.tmp 93)),
      .l none (some 16) (.al 24 [(.bool false), (.int .i64 0), (.slice none 0 0)]),
      .l none none (.st 3 (.tmp 16) (.tmp 97)),
      .p none 17 (.mv (.tmp 98))])
  (.seq (.reg [.l none (some 100) (.ld (some 3) (.tmp 14)),
      .l none (some 101) (.ld (some 3) (.tmp 15)),
      .l none (some 102) (.call 9 [(.tmp 100), (.tmp 101)]),
      .p none 99 (.mv (.tmp 102)),
      .p none 103 (.ext 0 (.tmp 99)),
      .p none 104 (.ext 1 (.tmp 99)),
      .l none (some 18) (.al 24 [(.bool false), (.int .i64 0), (.slice none 0 0)]),
      .l none none (.st 3 (.tmp 18) (.tmp 103)),
      .p none 19 (.mv (.tmp 104))])
  (.seq (.reg [.p none 105 (.fa 2 (.tmp 15)),
      .l none (some 106) (.ld none (.tmp 105)),
      .l none (some 107) (.call 12 [(.tmp 106)])])
  (.seq (.reg [.p none 108 (.fa 2 (.tmp 6)),
      .l none (some 109) (.ld none (.tmp 108)),
      .l none (some 110) (.call 12 [(.tmp 109)])])
  (.seq (.reg [.l none (some 112) (.ld (some 3) (.tmp 5)),
      .l none (some 113) (.ld (some 3) (.tmp 6)),
      .l none (some 114) (.call 7 [(.tmp 112), (.tmp 113)]),
      .p none 111 (.mv (.tmp 114)),
      .p none 115 (.ext 0 (.tmp 111)),
      .p none 116 (.ext 1 (.tmp 111)),
      .l none (some 20) (.al 24 [(.bool false), (.int .i64 0), (.slice none 0 0)]),
      .l none none (.st 3 (.tmp 20) (.tmp 115)),
      .p none 21 (.mv (.tmp 116))])
  (.seq (.reg [.l none (some 118) (.ld (some 3) (.tmp 14)),
      .l none (some 119) (.ld (some 3) (.tmp 15)),
      .l none (some 120) (.call 9 [(.tmp 118), (.tmp 119)]),
      .p none 117 (.mv (.tmp 120)),
      .p none 121 (.ext 0 (.tmp 117)),
      .p none 122 (.ext 1 (.tmp 117)),
      .l none (some 22) (.al 24 [(.bool false), (.int .i64 0), (.slice none 0 0)]),
      .l none none (.st 3 (.tmp 22) (.tmp 121)),
      .p none 23 (.mv (.tmp 122))])
  (.seq (.reg [.l none (some 123) (.ld (some 3) (.tmp 16)),
      .l none (some 124) (.ld (some 3) (.tmp 18)),
      .l none (some 125) (.call 10 [(.tmp 123), (.tmp 124)]),
      .p none 126 (.mv (.tmp 125)),
      .split 126,
      .p (some (126, true)) 127 (.mv (.tmp 17)),
      .p (some (126, true)) 128 (.mv (.tmp 19)),
      .p (some (126, true)) 129 (.bin .eql .i64 (.tmp 127) (.tmp 128)),
      .p none 130 (.pick (.tmp 126) (.tmp 129) (.const (.bool false))),
      .p none 131 (.mv (.tmp 130)),
      .split 131,
      .l (some (131, true)) (some 132) (.ld (some 3) (.tmp 20)),
      .l (some (131, true)) (some 133) (.ld (some 3) (.tmp 22)),
      .l (some (131, true)) (some 134) (.call 10 [(.tmp 132), (.tmp 133)]),
      .p none 135 (.pick (.tmp 131) (.tmp 134) (.const (.bool false))),
      .p none 136 (.mv (.tmp 135)),
      .split 136,
      .p (some (136, true)) 137 (.mv (.tmp 21)),
      .p (some (136, true)) 138 (.mv (.tmp 23)),
      .p (some (136, true)) 139 (.bin .eql .i64 (.tmp 137) (.tmp 138)),
      .p none 140 (.pick (.tmp 136) (.tmp 139) (.const (.bool false))),
      .p none 141 (.mv (.tmp 140)),
      .split 141,
      .l (some (141, true)) (some 142) (.ld (some 3) (.tmp 9)),
      .l (some (141, true)) (some 143) (.ld (some 3) (.tmp 12)),
      .l (some (141, true)) (some 144) (.call 10 [(.tmp 142), (.tmp 143)]),
      .p none 145 (.pick (.tmp 141) (.tmp 144) (.const (.bool false))),
      .p none 4 (.mv (.tmp 145))])
  .ret))))))))))))))))))
theorem C3 : compile Tryd.prog 146 (Tryd.f3.body.getD .skip) = some M3 := by kernel_rfl

/-- winnowlaw7.given -/
def M6 : MC :=
  (.seq (.reg [.l none (some 1) (.bx 24 (.tmp 0)),
      .l none (some 2) (.al 24 [(.bool false), (.int .i64 0), (.slice none 0 0)])])
  (.seq (.reg [.l none (some 4) (.ld (some 3) (.tmp 1)),
      .l none (some 3) (.al 24 [(.bool false), (.int .i64 0), (.slice none 0 0)]),
      .l none none (.st 3 (.tmp 3) (.tmp 4))])
  (.seq (.dreg (.line [.qp 0 none 5 (.fa 2 (.tmp 1)),
      .qp 3 none 8 (.fa 2 (.tmp 1)),
      .ql 4 none 9 none (.tmp 8),
      .qp 5 none 10 (.len (.tmp 9)),
      .l 1 none (some 6) (.ld none (.tmp 5)),
      .l 2 none (some 7) (.call 22 [(.tmp 6)]),
      .qp 6 none 11 (.slc 1 (.tmp 7) none (some (.tmp 10)) none),
      .qp 7 none 12 (.fa 2 (.tmp 3)),
      .l 8 none none (.st 1 (.tmp 12) (.tmp 11))]))
  (.seq (.reg [.l none (some 13) (.ld (some 3) (.tmp 3)),
      .l none none (.st 3 (.tmp 2) (.tmp 13))])
  .ret))))
theorem C6 : compile Tryd.prog 14 (Tryd.f6.body.getD .skip) = some M6 := by kernel_rfl

/-- filter.Join -/
def M7 : MC :=
  (.seq (.reg [.l none (some 2) (.bx 24 (.tmp 0)),
      .l none (some 3) (.bx 24 (.tmp 1)),
      .l none (some 4) (.al 24 [(.bool false), (.int .i64 0), (.slice none 0 0)]),
      .p none 5 (.mv (.const (.int .i64 0)))])
  (.seq (.dreg (.line [.ql 2 none 13 (some 3) (.tmp 3),
      .l 0 none (some 11) (.ld (some 3) (.tmp 2)),
      .l 1 none (some 12) (.call 23 [(.tmp 11)]),
      .l 3 none (some 14) (.call 23 [(.tmp 13)]),
      .qp 4 none 6 (.mv (.tmp 12)),
      .qp 5 none 7 (.mv (.tmp 14))]))
  (.seq (.seq (.reg [.p none 15 (.mv (.tmp 6)),
      .p none 16 (.bin .eql .i64 (.tmp 15) (.const (.int .i64 0))),
      .p none 17 (.mv (.tmp 16)),
      .split 17,
      .p (some (17, false)) 18 (.mv (.tmp 7)),
      .p (some (17, false)) 19 (.bin .eql .i64 (.tmp 18) (.const (.int .i64 0))),
      .p none 20 (.pick (.tmp 17) (.const (.bool true)) (.tmp 19))])
  (.cond (.tmp 20)
    (.seq (.reg [.p none 21 (.bld [(.bool false), (.int .i64 0), (.slice none 0 0)] []),
        .l none none (.st 3 (.tmp 4) (.tmp 21)),
        .p none 5 (.mv (.const (.int .i64 70)))])
    .ret)
    .skip))
  (.seq (.seq (.reg [.p none 22 (.mv (.tmp 6)),
      .p none 23 (.mv (.tmp 7)),
      .p none 24 (.idxa 4 4 (.global 0) (.tmp 22)),
      .p none 25 (.idxa 4 1 (.tmp 24) (.tmp 23)),
      .l none (some 26) (.ld none (.tmp 25))])
  (.block 0
    (.seq (.reg [.p none 28 (.bin .eql .i64 (.tmp 26) (.const (.int .i64 0))),
        .p none 27 (.mv (.tmp 28))])
    (.cond (.tmp 27)
      (.seq (.reg [.p none 29 (.bld [(.bool false), (.int .i64 0), (.slice none 0 0)] [(0, 1, (.const (.bool true)))]),
          .l none none (.st 3 (.tmp 4) (.tmp 29)),
          .p none 5 (.mv (.const (.int .i64 0)))])
      .ret)
      (.seq (.reg [.p none 31 (.bin .eql .i64 (.tmp 26) (.const (.int .i64 1))),
          .p none 30 (.mv (.tmp 31))])
      (.cond (.tmp 30)
        (.seq (.reg [.l none (some 32) (.ld (some 3) (.tmp 2)),
            .l none (some 33) (.call 24 [(.tmp 32)]),
            .l none none (.st 3 (.tmp 4) (.tmp 33)),
            .p none 5 (.mv (.const (.int .i64 0)))])
        .ret)
        (.seq (.reg [.p none 35 (.bin .eql .i64 (.tmp 26) (.const (.int .i64 2))),
            .p none 34 (.mv (.tmp 35))])
        (.cond (.tmp 34)
          (.seq (.reg [.l none (some 36) (.ld (some 3) (.tmp 3)),
              .l none (some 37) (.call 24 [(.tmp 36)]),
              .l none none (.st 3 (.tmp 4) (.tmp 37)),
              .p none 5 (.mv (.const (.int .i64 0)))])
          .ret)
          .skip))))))))
  (.seq (.seq (.reg [.p none 38 (.fa 1 (.tmp 2)),
      .l none (some 39) (.ld none (.tmp 38)),
      .p none 40 (.fa 1 (.tmp 3)),
      .l none (some 41) (.ld none (.tmp 40)),
      .p none 42 (.bin .neq .i64 (.tmp 39) (.tmp 41)),
      .p none 43 (.mv (.tmp 42)),
      .split 43,
      .p (some (43, false)) 44 (.fa 2 (.tmp 2)),
      .l (some (43, false)) (some 45) (.ld none (.tmp 44)),
      .p (some (43, false)) 46 (.len (.tmp 45)),
      .p (some (43, false)) 47 (.fa 2 (.tmp 3)),
      .l (some (43, false)) (some 48) (.ld none (.tmp 47)),
      .p (some (43, false)) 49 (.len (.tmp 48)),
      .p (some (43, false)) 50 (.bin .neq .i64 (.tmp 46) (.tmp 49)),
      .p none 51 (.pick (.tmp 43) (.const (.bool true)) (.tmp 50))])
  (.cond (.tmp 51)
    (.seq (.reg [.p none 52 (.bld [(.bool false), (.int .i64 0), (.slice none 0 0)] []),
        .l none none (.st 3 (.tmp 4) (.tmp 52)),
        .p none 5 (.mv (.const (.int .i64 3)))])
    .ret)
    .skip))
  (.seq (.reg [.l none (some 53) (.ld (some 3) (.tmp 2)),
      .l none (some 54) (.call 24 [(.tmp 53)]),
      .l none (some 8) (.al 24 [(.bool false), (.int .i64 0), (.slice none 0 0)]),
      .l none none (.st 3 (.tmp 8) (.tmp 54))])
  (.seq (.seq (.reg [.p none 55 (.fa 2 (.tmp 3)),
      .l none (some 56) (.ld none (.tmp 55)),
      .p none 57 (.len (.tmp 56)),
      .p none 58 (.mv (.const (.int .i64 0)))])
  (.block 1
    (.loop
      (.seq (.reg [.p none 59 (.bin .lss .i64 (.tmp 58) (.tmp 57))])
      (.seq (.cond (.tmp 59)
        .skip
        (.exit 1))
      (.seq (.block 2
        (.seq (.reg [.p none 60 (.mv (.tmp 58)),
            .p none 61 (.idx 1 (.tmp 56) (.tmp 58)),
            .l none (some 62) (.ld none (.tmp 61)),
            .p none 9 (.mv (.tmp 60)),
            .p none 10 (.mv (.tmp 62))])
        (.reg [.p none 63 (.fa 2 (.tmp 8)),
            .l none (some 64) (.ld none (.tmp 63)),
            .p none 65 (.mv (.tmp 9)),
            .p none 66 (.idx 1 (.tmp 64) (.tmp 65)),
            .l none (some 67) (.ld none (.tmp 66)),
            .p none 68 (.mv (.tmp 10)),
            .p none 69 (.bin .or .u8 (.tmp 67) (.tmp 68)),
            .p none 70 (.idx 1 (.tmp 64) (.tmp 65)),
            .l none none (.st 1 (.tmp 70) (.tmp 69))])))
      (.reg [.p none 71 (.bin .add .i64 (.tmp 58) (.const (.int .i64 1))),
          .p none 58 (.mv (.tmp 71))])))))))
  (.seq (.reg [.l none (some 72) (.ld (some 3) (.tmp 8)),
      .l none none (.st 3 (.tmp 4) (.tmp 72)),
      .p none 5 (.mv (.const (.int .i64 0)))])
  .ret))))))))
theorem C7 : compile Tryd.prog 73 (Tryd.f7.body.getD .skip) = some M7 := by kernel_rfl

/-- winnowlaw7.fill -/
def M8 : MC :=
  (.seq (.reg [.p none 4 (.mv (.const (.int .i64 0)))])
  (.seq (.seq (.reg [.p none 5 (.mv (.const (.int .i64 0)))])
  (.block 0
    (.loop
      (.seq (.seq (.reg [.p none 7 (.mv (.tmp 5)),
          .p none 8 (.mv (.tmp 0)),
          .p none 9 (.len (.tmp 8)),
          .p none 10 (.bin .lss .i64 (.tmp 7) (.tmp 9))])
      (.cond (.tmp 10)
        .skip
        (.exit 0)))
      (.seq (.block 1
        (.reg [.p none 13 (.mv (.tmp 0)),
            .p none 14 (.mv (.tmp 5)),
            .p none 15 (.mv (.tmp 1)),
            .p none 16 (.idx 1 (.tmp 13) (.tmp 14)),
            .l none none (.st 1 (.tmp 16) (.tmp 15))]))
      (.reg [.p none 11 (.mv (.tmp 5)),
          .p none 12 (.bin .add .i64 (.tmp 11) (.const (.int .i64 1))),
          .p none 5 (.mv (.tmp 12))]))))))
  (.seq (.seq (.reg [.p none 6 (.mv (.const (.int .i64 0)))])
  (.block 2
    (.loop
      (.seq (.seq (.reg [.p none 17 (.mv (.tmp 6)),
          .p none 18 (.bin .lss .i64 (.tmp 17) (.const (.int .i64 64)))])
      (.cond (.tmp 18)
        .skip
        (.exit 2)))
      (.seq (.block 3
        (.reg [.p none 21 (.mv (.tmp 0)),
            .p none 22 (.mv (.tmp 1)),
            .p none 23 (.bin .add .u8 (.tmp 22) (.const (.int .u8 1))),
            .l none (some 24) (.bs 5 1 1 [(.int .u8 0)] [(0, 1, (.tmp 23))]),
            .l none (some 25) (.app 5 1 1 [(.int .u8 0)] (.tmp 21) (.tmp 24)),
            .p none 0 (.mv (.tmp 25))]))
      (.reg [.p none 19 (.mv (.tmp 6)),
          .p none 20 (.bin .add .i64 (.tmp 19) (.const (.int .i64 1))),
          .p none 6 (.mv (.tmp 20))]))))))
  (.seq (.reg [.p none 26 (.mv (.tmp 0)),
      .p none 27 (.len (.tmp 26)),
      .p none 4 (.mv (.tmp 27))])
  .ret))))
theorem C8 : compile Tryd.prog 28 (Tryd.f8.body.getD .skip) = some M8 := by kernel_rfl

/-- winnowref7.Join -/
def M9 : MC :=
  (.seq (.reg [.l none (some 2) (.bx 24 (.tmp 0)),
      .l none (some 3) (.bx 24 (.tmp 1)),
      .l none (some 4) (.al 24 [(.bool false), (.int .i64 0), (.slice none 0 0)]),
      .p none 5 (.mv (.const (.int .i64 0)))])
  (.seq (.seq (.reg [.l none (some 8) (.ld (some 3) (.tmp 2)),
      .l none (some 9) (.call 25 [(.tmp 8)]),
      .p none 10 (.bin .neq .i64 (.tmp 9) (.const (.int .i64 0))),
      .p none 11 (.mv (.tmp 10)),
      .split 11,
      .l (some (11, false)) (some 12) (.ld (some 3) (.tmp 3)),
      .l (some (11, false)) (some 13) (.call 25 [(.tmp 12)]),
      .p (some (11, false)) 14 (.bin .neq .i64 (.tmp 13) (.const (.int .i64 0))),
      .p none 15 (.pick (.tmp 11) (.const (.bool true)) (.tmp 14))])
  (.cond (.tmp 15)
    (.seq (.reg [.p none 16 (.bld [(.bool false), (.int .i64 0), (.slice none 0 0)] []),
        .l none none (.st 3 (.tmp 4) (.tmp 16)),
        .p none 5 (.mv (.const (.int .i64 70)))])
    .ret)
    .skip))
  (.seq (.seq (.reg [.p none 17 (.fa 0 (.tmp 2)),
      .l none (some 18) (.ld none (.tmp 17)),
      .p none 19 (.mv (.tmp 18)),
      .split 19,
      .p (some (19, false)) 20 (.fa 0 (.tmp 3)),
      .l (some (19, false)) (some 21) (.ld none (.tmp 20)),
      .p none 22 (.pick (.tmp 19) (.const (.bool true)) (.tmp 21))])
  (.cond (.tmp 22)
    (.seq (.reg [.p none 23 (.bld [(.bool false), (.int .i64 0), (.slice none 0 0)] [(0, 1, (.const (.bool true)))]),
        .l none none (.st 3 (.tmp 4) (.tmp 23)),
        .p none 5 (.mv (.const (.int .i64 0)))])
    .ret)
    .skip))
  (.seq (.seq (.reg [.p none 24 (.fa 2 (.tmp 2)),
      .l none (some 25) (.ld none (.tmp 24)),
      .p none 26 (.len (.tmp 25)),
      .p none 27 (.bin .eql .i64 (.tmp 26) (.const (.int .i64 0)))])
  (.cond (.tmp 27)
    (.seq (.dreg (.line [.qp 0 none 28 (.fa 1 (.tmp 3)),
        .qp 3 none 31 (.fa 2 (.tmp 3)),
        .ql 4 none 32 none (.tmp 31),
        .ql 1 none 29 none (.tmp 28),
        .l 2 none (some 30) (.bs 5 0 1 [] []),
        .l 5 none (some 33) (.app 5 1 1 [(.int .u8 0)] (.tmp 30) (.tmp 32)),
        .qp 6 none 34 (.bld [(.bool false), (.int .i64 0), (.slice none 0 0)] [(1, 1, (.tmp 29)), (2, 1, (.tmp 33))]),
        .l 7 none none (.st 3 (.tmp 4) (.tmp 34)),
        .qp 8 none 5 (.mv (.const (.int .i64 0)))]))
    .ret)
    .skip))
  (.seq (.seq (.reg [.p none 35 (.fa 2 (.tmp 3)),
      .l none (some 36) (.ld none (.tmp 35)),
      .p none 37 (.len (.tmp 36)),
      .p none 38 (.bin .eql .i64 (.tmp 37) (.const (.int .i64 0)))])
  (.cond (.tmp 38)
    (.seq (.dreg (.line [.qp 0 none 39 (.fa 1 (.tmp 2)),
        .qp 3 none 42 (.fa 2 (.tmp 2)),
        .ql 4 none 43 none (.tmp 42),
        .ql 1 none 40 none (.tmp 39),
        .l 2 none (some 41) (.bs 5 0 1 [] []),
        .l 5 none (some 44) (.app 5 1 1 [(.int .u8 0)] (.tmp 41) (.tmp 43)),
        .qp 6 none 45 (.bld [(.bool false), (.int .i64 0), (.slice none 0 0)] [(1, 1, (.tmp 40)), (2, 1, (.tmp 44))]),
        .l 7 none none (.st 3 (.tmp 4) (.tmp 45)),
        .qp 8 none 5 (.mv (.const (.int .i64 0)))]))
    .ret)
    .skip))
  (.seq (.seq (.reg [.p none 46 (.fa 1 (.tmp 2)),
      .l none (some 47) (.ld none (.tmp 46)),
      .p none 48 (.fa 1 (.tmp 3)),
      .l none (some 49) (.ld none (.tmp 48)),
      .p none 50 (.bin .neq .i64 (.tmp 47) (.tmp 49)),
      .p none 51 (.mv (.tmp 50)),
      .split 51,
      .p (some (51, false)) 52 (.fa 2 (.tmp 2)),
      .l (some (51, false)) (some 53) (.ld none (.tmp 52)),
      .p (some (51, false)) 54 (.len (.tmp 53)),
      .p (some (51, false)) 55 (.fa 2 (.tmp 3)),
      .l (some (51, false)) (some 56) (.ld none (.tmp 55)),
      .p (some (51, false)) 57 (.len (.tmp 56)),
      .p (some (51, false)) 58 (.bin .neq .i64 (.tmp 54) (.tmp 57)),
      .p none 59 (.pick (.tmp 51) (.const (.bool true)) (.tmp 58))])
  (.cond (.tmp 59)
    (.seq (.reg [.p none 60 (.bld [(.bool false), (.int .i64 0), (.slice none 0 0)] []),
        .l none none (.st 3 (.tmp 4) (.tmp 60)),
        .p none 5 (.mv (.const (.int .i64 3)))])
    .ret)
    .skip))
  (.seq (.dreg (.fork [.qp 0 none 61 (.fa 1 (.tmp 2)),
      .qp 3 none 64 (.fa 2 (.tmp 2)),
      .ql 4 none 65 none (.tmp 64),
      .ql 1 none 62 none (.tmp 61)]
    (.fork [.l 2 none (some 63) (.bs 5 0 1 [] [])]
      (.line [.l 5 none (some 66) (.app 5 1 1 [(.int .u8 0)] (.tmp 63) (.tmp 65)),
          .qp 6 none 67 (.bld [(.bool false), (.int .i64 0), (.slice none 0 0)] [(1, 1, (.tmp 62)), (2, 1, (.tmp 66))]),
          .l 7 none (some 6) (.al 24 [(.bool false), (.int .i64 0), (.slice none 0 0)]),
          .l 8 none none (.st 3 (.tmp 6) (.tmp 67))])
      (.line [.l 7 none (some 6) (.al 24 [(.bool false), (.int .i64 0), (.slice none 0 0)]),
          .l 5 none (some 66) (.app 5 1 1 [(.int .u8 0)] (.tmp 63) (.tmp 65)),
          .qp 6 none 67 (.bld [(.bool false), (.int .i64 0), (.slice none 0 0)] [(1, 1, (.tmp 62)), (2, 1, (.tmp 66))]),
          .l 8 none none (.st 3 (.tmp 6) (.tmp 67))]))
    (.line [.l 7 none (some 6) (.al 24 [(.bool false), (.int .i64 0), (.slice none 0 0)]),
        .l 2 none (some 63) (.bs 5 0 1 [] []),
        .l 5 none (some 66) (.app 5 1 1 [(.int .u8 0)] (.tmp 63) (.tmp 65)),
        .qp 6 none 67 (.bld [(.bool false), (.int .i64 0), (.slice none 0 0)] [(1, 1, (.tmp 62)), (2, 1, (.tmp 66))]),
        .l 8 none none (.st 3 (.tmp 6) (.tmp 67))])))
  (.seq (.seq (.reg [.p none 7 (.mv (.const (.int .i64 0)))])
  (.block 0
    (.loop
      (.seq (.seq (.reg [.p none 68 (.mv (.tmp 7)),
          .p none 69 (.fa 2 (.tmp 6)),
          .l none (some 70) (.ld none (.tmp 69)),
          .p none 71 (.len (.tmp 70)),
          .p none 72 (.bin .lss .i64 (.tmp 68) (.tmp 71))])
      (.cond (.tmp 72)
        .skip
        (.exit 0)))
      (.seq (.block 1
        (.dreg (.line [.qp 0 none 75 (.fa 2 (.tmp 6)),
            .qp 2 none 77 (.mv (.tmp 7)),
            .qp 3 none 78 (.fa 2 (.tmp 6)),
            .qp 5 none 80 (.mv (.tmp 7)),
            .qp 8 none 83 (.fa 2 (.tmp 3)),
            .qp 10 none 85 (.mv (.tmp 7)),
            .ql 9 none 84 none (.tmp 83),
            .qp 11 none 86 (.idx 1 (.tmp 84) (.tmp 85)),
            .ql 4 none 79 none (.tmp 78),
            .qp 6 none 81 (.idx 1 (.tmp 79) (.tmp 80)),
            .ql 1 none 76 none (.tmp 75),
            .ql 12 none 87 none (.tmp 86),
            .l 7 none (some 82) (.ld none (.tmp 81)),
            .qp 13 none 88 (.bin .or .u8 (.tmp 82) (.tmp 87)),
            .qp 14 none 89 (.idx 1 (.tmp 76) (.tmp 77)),
            .l 15 none none (.st 1 (.tmp 89) (.tmp 88))])))
      (.reg [.p none 73 (.mv (.tmp 7)),
          .p none 74 (.bin .add .i64 (.tmp 73) (.const (.int .i64 1))),
          .p none 7 (.mv (.tmp 74))]))))))
  (.seq (.reg [.l none (some 90) (.ld (some 3) (.tmp 6)),
      .l none none (.st 3 (.tmp 4) (.tmp 90)),
      .p none 5 (.mv (.const (.int .i64 0)))])
  .ret)))))))))
theorem C9 : compile Tryd.prog 91 (Tryd.f9.body.getD .skip) = some M9 := by kernel_rfl

/-- winnowlaw7.alike -/
def M10 : MC :=
  (.seq (.reg [.l none (some 2) (.bx 24 (.tmp 0)),
      .l none (some 3) (.bx 24 (.tmp 1)),
      .p none 4 (.mv (.const (.bool false)))])
  (.seq (.reg [.p none 5 (.fa 0 (.tmp 2)),
      .l none (some 6) (.ld none (.tmp 5)),
      .p none 7 (.fa 0 (.tmp 3)),
      .l none (some 8) (.ld none (.tmp 7)),
      .p none 9 (.beq false (.tmp 6) (.tmp 8)),
      .p none 10 (.mv (.tmp 9)),
      .split 10,
      .p (some (10, true)) 11 (.fa 1 (.tmp 2)),
      .l (some (10, true)) (some 12) (.ld none (.tmp 11)),
      .p (some (10, true)) 13 (.fa 1 (.tmp 3)),
      .l (some (10, true)) (some 14) (.ld none (.tmp 13)),
      .p (some (10, true)) 15 (.bin .eql .i64 (.tmp 12) (.tmp 14)),
      .p none 16 (.pick (.tmp 10) (.tmp 15) (.const (.bool false))),
      .p none 17 (.mv (.tmp 16)),
      .split 17,
      .p (some (17, true)) 18 (.fa 2 (.tmp 2)),
      .l (some (17, true)) (some 19) (.ld none (.tmp 18)),
      .p (some (17, true)) 20 (.fa 2 (.tmp 3)),
      .l (some (17, true)) (some 21) (.ld none (.tmp 20)),
      .l (some (17, true)) (some 22) (.call 26 [(.tmp 19), (.tmp 21)]),
      .p none 23 (.pick (.tmp 17) (.tmp 22) (.const (.bool false))),
      .p none 4 (.mv (.tmp 23))])
  .ret))
theorem C10 : compile Tryd.prog 24 (Tryd.f10.body.getD .skip) = some M10 := by kernel_rfl

/-- winnowlaw7.kept -/
def M11 : MC :=
  (.seq (.reg [.l none (some 2) (.bx 24 (.tmp 0)),
      .l none (some 3) (.bx 24 (.tmp 1)),
      .p none 4 (.mv (.const (.bool false)))])
  (.seq (.dreg (.line [.ql 1 none 6 (some 3) (.tmp 3),
      .l 0 none (some 5) (.ld (some 3) (.tmp 2)),
      .l 2 none (some 7) (.call 10 [(.tmp 5), (.tmp 6)]),
      .qp 3 none 8 (.mv (.tmp 7)),
      .split 8,
      .qp 4 (some (8, true)) 9 (.fa 2 (.tmp 2)),
      .qp 6 (some (8, true)) 11 (.fa 2 (.tmp 3)),
      .qp 11 (some (8, true)) 16 (.fa 2 (.tmp 3)),
      .ql 12 (some (8, true)) 17 none (.tmp 16),
      .ql 7 (some (8, true)) 12 none (.tmp 11),
      .qp 8 (some (8, true)) 13 (.len (.tmp 12)),
      .qp 9 (some (8, true)) 14 (.bin .add .i64 (.tmp 13) (.const (.int .i64 64))),
      .ql 5 (some (8, true)) 10 none (.tmp 9),
      .qp 10 (some (8, true)) 15 (.slc 1 (.tmp 10) none (some (.tmp 14)) none),
      .l 13 (some (8, true)) (some 18) (.call 22 [(.tmp 17)]),
      .l 14 (some (8, true)) (some 19) (.call 26 [(.tmp 15), (.tmp 18)]),
      .qp 15 none 20 (.pick (.tmp 8) (.tmp 19) (.const (.bool false))),
      .qp 16 none 4 (.mv (.tmp 20))]))
  .ret))
theorem C11 : compile Tryd.prog 21 (Tryd.f11.body.getD .skip) = some M11 := by kernel_rfl

/-- winnowlaw7.turned -/
def M12 : MC :=
  (.seq (.reg [.p none 2 (.mv (.const (.slice none 0 0)))])
  (.seq (.seq (.reg [.p none 3 (.mv (.tmp 0)),
      .p none 4 (.len (.tmp 3)),
      .p none 5 (.bin .gtr .i64 (.tmp 4) (.const (.int .i64 0)))])
  (.cond (.tmp 5)
    (.reg [.p none 6 (.mv (.tmp 0)),
        .p none 7 (.mv (.tmp 0)),
        .p none 8 (.len (.tmp 7)),
        .p none 9 (.bin .sub .i64 (.tmp 8) (.const (.int .i64 1))),
        .p none 10 (.mv (.tmp 0)),
        .p none 11 (.mv (.tmp 0)),
        .p none 12 (.len (.tmp 11)),
        .p none 13 (.bin .sub .i64 (.tmp 12) (.const (.int .i64 1))),
        .p none 14 (.idx 1 (.tmp 10) (.tmp 13)),
        .l none (some 15) (.ld none (.tmp 14)),
        .p none 16 (.bin .xor .u8 (.tmp 15) (.const (.int .u8 85))),
        .p none 17 (.idx 1 (.tmp 6) (.tmp 9)),
        .l none none (.st 1 (.tmp 17) (.tmp 16))])
    .skip))
  (.seq (.reg [.p none 18 (.mv (.tmp 0)),
      .p none 2 (.mv (.tmp 18))])
  .ret)))
theorem C12 : compile Tryd.prog 19 (Tryd.f12.body.getD .skip) = some M12 := by kernel_rfl

/-- winnowlaw7.roomy -/
def M22 : MC :=
  (.seq (.reg [.p none 2 (.mv (.const (.slice none 0 0)))])
  (.seq (.reg [.p none 5 (.mv (.tmp 0)),
      .p none 6 (.len (.tmp 5)),
      .p none 7 (.bin .add .i64 (.tmp 6) (.const (.int .i64 64))),
      .l none (some 8) (.mks 5 1 1 [(.int .u8 0)] (.tmp 7) (.tmp 7)),
      .p none 3 (.mv (.tmp 8))])
  (.seq (.seq (.reg [.p none 4 (.mv (.const (.int .i64 0)))])
  (.block 0
    (.loop
      (.seq (.seq (.reg [.p none 9 (.mv (.tmp 4)),
          .p none 10 (.mv (.tmp 3)),
          .p none 11 (.len (.tmp 10)),
          .p none 12 (.bin .lss .i64 (.tmp 9) (.tmp 11))])
      (.cond (.tmp 12)
        .skip
        (.exit 0)))
      (.seq (.block 1
        (.seq (.reg [.p none 15 (.mv (.tmp 3)),
            .p none 16 (.mv (.tmp 4)),
            .p none 17 (.idx 1 (.tmp 15) (.tmp 16)),
            .l none none (.st 1 (.tmp 17) (.const (.int .u8 165)))])
        (.seq (.reg [.p none 18 (.mv (.tmp 4)),
            .p none 19 (.mv (.tmp 0)),
            .p none 20 (.len (.tmp 19)),
            .p none 21 (.bin .lss .i64 (.tmp 18) (.tmp 20))])
        (.cond (.tmp 21)
          (.reg [.p none 22 (.mv (.tmp 3)),
              .p none 23 (.mv (.tmp 4)),
              .p none 24 (.mv (.tmp 0)),
              .p none 25 (.mv (.tmp 4)),
              .p none 26 (.idx 1 (.tmp 24) (.tmp 25)),
              .l none (some 27) (.ld none (.tmp 26)),
              .p none 28 (.idx 1 (.tmp 22) (.tmp 23)),
              .l none none (.st 1 (.tmp 28) (.tmp 27))])
          .skip))))
      (.reg [.p none 13 (.mv (.tmp 4)),
          .p none 14 (.bin .add .i64 (.tmp 13) (.const (.int .i64 1))),
          .p none 4 (.mv (.tmp 14))]))))))
  (.seq (.reg [.p none 29 (.mv (.tmp 3)),
      .p none 2 (.mv (.tmp 29))])
  .ret))))
theorem C22 : compile Tryd.prog 30 (Tryd.f22.body.getD .skip) = some M22 := by kernel_rfl

/-- filter.kind -/
def M23 : MC :=
  (.seq (.reg [.l none (some 1) (.bx 24 (.tmp 0)),
      .p none 2 (.mv (.const (.int .i64 0)))])
  (.seq (.block 0
    (.seq (.reg [.p none 4 (.fa 0 (.tmp 1)),
        .l none (some 5) (.ld none (.tmp 4)),
        .p none 6 (.mv (.tmp 5)),
        .split 6,
        .p (some (6, true)) 7 (.fa 1 (.tmp 1)),
        .l (some (6, true)) (some 8) (.ld none (.tmp 7)),
        .p (some (6, true)) 9 (.bin .eql .i64 (.tmp 8) (.const (.int .i64 0))),
        .p none 10 (.pick (.tmp 6) (.tmp 9) (.const (.bool false))),
        .p none 11 (.mv (.tmp 10)),
        .split 11,
        .p (some (11, true)) 12 (.fa 2 (.tmp 1)),
        .l (some (11, true)) (some 13) (.ld none (.tmp 12)),
        .p (some (11, true)) 14 (.len (.tmp 13)),
        .p (some (11, true)) 15 (.bin .eql .i64 (.tmp 14) (.const (.int .i64 0))),
        .p none 16 (.pick (.tmp 11) (.tmp 15) (.const (.bool false))),
        .p none 3 (.mv (.tmp 16))])
    (.cond (.tmp 3)
      (.seq (.reg [.p none 2 (.mv (.const (.int .i64 1)))])
      .ret)
      (.seq (.reg [.p none 18 (.fa 0 (.tmp 1)),
          .l none (some 19) (.ld none (.tmp 18)),
          .p none 20 (.not (.tmp 19)),
          .p none 21 (.mv (.tmp 20)),
          .split 21,
          .p (some (21, true)) 22 (.fa 1 (.tmp 1)),
          .l (some (21, true)) (some 23) (.ld none (.tmp 22)),
          .p (some (21, true)) 24 (.bin .eql .i64 (.tmp 23) (.const (.int .i64 0))),
          .p none 25 (.pick (.tmp 21) (.tmp 24) (.const (.bool false))),
          .p none 26 (.mv (.tmp 25)),
          .split 26,
          .p (some (26, true)) 27 (.fa 2 (.tmp 1)),
          .l (some (26, true)) (some 28) (.ld none (.tmp 27)),
          .p (some (26, true)) 29 (.len (.tmp 28)),
          .p (some (26, true)) 30 (.bin .eql .i64 (.tmp 29) (.const (.int .i64 0))),
          .p none 31 (.pick (.tmp 26) (.tmp 30) (.const (.bool false))),
          .p none 17 (.mv (.tmp 31))])
      (.cond (.tmp 17)
        (.seq (.reg [.p none 2 (.mv (.const (.int .i64 2)))])
        .ret)
        (.seq (.reg [.p none 33 (.fa 0 (.tmp 1)),
            .l none (some 34) (.ld none (.tmp 33)),
            .p none 35 (.not (.tmp 34)),
            .p none 36 (.mv (.tmp 35)),
            .split 36,
            .p (some (36, true)) 37 (.fa 1 (.tmp 1)),
            .l (some (36, true)) (some 38) (.ld none (.tmp 37)),
            .p (some (36, true)) 39 (.bin .geq .i64 (.tmp 38) (.const (.int .i64 1))),
            .p none 40 (.pick (.tmp 36) (.tmp 39) (.const (.bool false))),
            .p none 41 (.mv (.tmp 40)),
            .split 41,
            .p (some (41, true)) 42 (.fa 1 (.tmp 1)),
            .l (some (41, true)) (some 43) (.ld none (.tmp 42)),
            .p (some (41, true)) 44 (.bin .leq .i64 (.tmp 43) (.const (.int .i64 8))),
            .p none 45 (.pick (.tmp 41) (.tmp 44) (.const (.bool false))),
            .p none 46 (.mv (.tmp 45)),
            .split 46,
            .p (some (46, true)) 47 (.fa 2 (.tmp 1)),
            .l (some (46, true)) (some 48) (.ld none (.tmp 47)),
            .p (some (46, true)) 49 (.len (.tmp 48)),
            .p (some (46, true)) 50 (.bin .geq .i64 (.tmp 49) (.const (.int .i64 1))),
            .p none 51 (.pick (.tmp 46) (.tmp 50) (.const (.bool false))),
            .p none 52 (.mv (.tmp 51)),
            .split 52,
            .p (some (52, true)) 53 (.fa 2 (.tmp 1)),
            .l (some (52, true)) (some 54) (.ld none (.tmp 53)),
            .p (some (52, true)) 55 (.len (.tmp 54)),
            .p (some (52, true)) 56 (.bin .leq .i64 (.tmp 55) (.const (.int .i64 4096))),
            .p none 57 (.pick (.tmp 52) (.tmp 56) (.const (.bool false))),
            .p none 32 (.mv (.tmp 57))])
        (.cond (.tmp 32)
          (.seq (.reg [.p none 2 (.mv (.const (.int .i64 3)))])
          .ret)
          .skip)))))))
  (.seq (.reg [.p none 2 (.mv (.const (.int .i64 0)))])
  .ret)))
theorem C23 : compile Tryd.prog 58 (Tryd.f23.body.getD .skip) = some M23 := by kernel_rfl

/-- filter.twin -/
def M24 : MC :=
  (.seq (.reg [.l none (some 1) (.bx 24 (.tmp 0)),
      .l none (some 2) (.al 24 [(.bool false), (.int .i64 0), (.slice none 0 0)])])
  (.seq (.reg [.l none (some 3) (.bs 5 0 1 [] []),
      .p none 4 (.fa 2 (.tmp 1)),
      .l none (some 5) (.ld none (.tmp 4)),
      .l none (some 6) (.app 5 1 1 [(.int .u8 0)] (.tmp 3) (.tmp 5)),
      .p none 7 (.fa 2 (.tmp 1)),
      .l none none (.st 1 (.tmp 7) (.tmp 6))])
  (.seq (.reg [.l none (some 8) (.ld (some 3) (.tmp 1)),
      .l none none (.st 3 (.tmp 2) (.tmp 8))])
  .ret)))
theorem C24 : compile Tryd.prog 9 (Tryd.f24.body.getD .skip) = some M24 := by kernel_rfl

/-- winnowref7.Check -/
def M25 : MC :=
  (.seq (.reg [.l none (some 1) (.bx 24 (.tmp 0)),
      .p none 2 (.mv (.const (.int .i64 0)))])
  (.seq (.seq (.reg [.p none 3 (.fa 1 (.tmp 1)),
      .l none (some 4) (.ld none (.tmp 3)),
      .p none 5 (.bin .eql .i64 (.tmp 4) (.const (.int .i64 0))),
      .p none 6 (.mv (.tmp 5)),
      .split 6,
      .p (some (6, true)) 7 (.fa 2 (.tmp 1)),
      .l (some (6, true)) (some 8) (.ld none (.tmp 7)),
      .p (some (6, true)) 9 (.len (.tmp 8)),
      .p (some (6, true)) 10 (.bin .eql .i64 (.tmp 9) (.const (.int .i64 0))),
      .p none 11 (.pick (.tmp 6) (.tmp 10) (.const (.bool false)))])
  (.cond (.tmp 11)
    (.seq (.reg [.p none 2 (.mv (.const (.int .i64 0)))])
    .ret)
    .skip))
  (.seq (.seq (.reg [.p none 12 (.fa 0 (.tmp 1)),
      .l none (some 13) (.ld none (.tmp 12)),
      .p none 14 (.mv (.tmp 13)),
      .split 14,
      .p (some (14, false)) 15 (.fa 1 (.tmp 1)),
      .l (some (14, false)) (some 16) (.ld none (.tmp 15)),
      .p (some (14, false)) 17 (.bin .lss .i64 (.tmp 16) (.const (.int .i64 1))),
      .p none 18 (.pick (.tmp 14) (.const (.bool true)) (.tmp 17)),
      .p none 19 (.mv (.tmp 18)),
      .split 19,
      .p (some (19, false)) 20 (.fa 1 (.tmp 1)),
      .l (some (19, false)) (some 21) (.ld none (.tmp 20)),
      .p (some (19, false)) 22 (.bin .gtr .i64 (.tmp 21) (.const (.int .i64 8))),
      .p none 23 (.pick (.tmp 19) (.const (.bool true)) (.tmp 22)),
      .p none 24 (.mv (.tmp 23)),
      .split 24,
      .p (some (24, false)) 25 (.fa 2 (.tmp 1)),
      .l (some (24, false)) (some 26) (.ld none (.tmp 25)),
      .p (some (24, false)) 27 (.len (.tmp 26)),
      .p (some (24, false)) 28 (.bin .lss .i64 (.tmp 27) (.const (.int .i64 1))),
      .p none 29 (.pick (.tmp 24) (.const (.bool true)) (.tmp 28)),
      .p none 30 (.mv (.tmp 29)),
      .split 30,
      .p (some (30, false)) 31 (.fa 2 (.tmp 1)),
      .l (some (30, false)) (some 32) (.ld none (.tmp 31)),
      .p (some (30, false)) 33 (.len (.tmp 32)),
      .p (some (30, false)) 34 (.bin .gtr .i64 (.tmp 33) (.const (.int .i64 4096))),
      .p none 35 (.pick (.tmp 30) (.const (.bool true)) (.tmp 34))])
  (.cond (.tmp 35)
    (.seq (.reg [.p none 2 (.mv (.const (.int .i64 70)))])
    .ret)
    .skip))
  (.seq (.reg [.p none 2 (.mv (.const (.int .i64 0)))])
  .ret))))
theorem C25 : compile Tryd.prog 36 (Tryd.f25.body.getD .skip) = some M25 := by kernel_rfl

/-- winnowlaw7.same -/
def M26 : MC :=
  (.seq (.reg [.p none 4 (.mv (.const (.bool false)))])
  (.seq (.seq (.reg [.p none 6 (.mv (.tmp 0)),
      .p none 7 (.len (.tmp 6)),
      .p none 8 (.mv (.tmp 1)),
      .p none 9 (.len (.tmp 8)),
      .p none 10 (.bin .neq .i64 (.tmp 7) (.tmp 9))])
  (.cond (.tmp 10)
    (.seq (.reg [.p none 4 (.mv (.const (.bool false)))])
    .ret)
    .skip))
  (.seq (.seq (.reg [.p none 5 (.mv (.const (.int .i64 0)))])
  (.block 0
    (.loop
      (.seq (.seq (.reg [.p none 11 (.mv (.tmp 5)),
          .p none 12 (.mv (.tmp 0)),
          .p none 13 (.len (.tmp 12)),
          .p none 14 (.bin .lss .i64 (.tmp 11) (.tmp 13))])
      (.cond (.tmp 14)
        .skip
        (.exit 0)))
      (.seq (.block 1
        (.seq (.dreg (.line [.qp 0 none 17 (.mv (.tmp 0)),
            .qp 1 none 18 (.mv (.tmp 5)),
            .qp 2 none 19 (.idx 1 (.tmp 17) (.tmp 18)),
            .qp 4 none 21 (.mv (.tmp 1)),
            .qp 5 none 22 (.mv (.tmp 5)),
            .qp 6 none 23 (.idx 1 (.tmp 21) (.tmp 22)),
            .ql 7 none 24 none (.tmp 23),
            .l 3 none (some 20) (.ld none (.tmp 19)),
            .qp 8 none 25 (.bin .neq .u8 (.tmp 20) (.tmp 24))]))
        (.cond (.tmp 25)
          (.seq (.reg [.p none 4 (.mv (.const (.bool false)))])
          .ret)
          .skip)))
      (.reg [.p none 15 (.mv (.tmp 5)),
          .p none 16 (.bin .add .i64 (.tmp 15) (.const (.int .i64 1))),
          .p none 5 (.mv (.tmp 16))]))))))
  (.seq (.reg [.p none 4 (.mv (.const (.bool true)))])
  .ret))))
theorem C26 : compile Tryd.prog 26 (Tryd.f26.body.getD .skip) = some M26 := by kernel_rfl

/-- winnowlaw7.FilterFew -/
def M4 : MC :=
  (.seq (.reg [.p none 6 (.mv (.const (.bool false)))])
  (.seq (.reg [.p none 25 (.mv (.tmp 1)),
      .l none (some 26) (.call 13 [(.tmp 25)]),
      .p none 7 (.mv (.tmp 26))])
  (.seq (.reg [.p none 28 (.mv (.tmp 0)),
      .p none 29 (.mv (.tmp 7)),
      .l none (some 30) (.call 14 [(.tmp 28), (.tmp 29)]),
      .p none 27 (.mv (.tmp 30)),
      .p none 31 (.ext 0 (.tmp 27)),
      .p none 32 (.ext 1 (.tmp 27)),
      .l none (some 8) (.al 24 [(.bool false), (.int .i64 0), (.slice none 0 0)]),
      .l none none (.st 3 (.tmp 8) (.tmp 31)),
      .p none 9 (.mv (.tmp 32))])
  (.seq (.reg [.p none 10 (.mv (.const (.slice none 0 0)))])
  (.seq (.seq (.reg [.p none 33 (.mv (.tmp 0)),
      .p none 34 (.len (.tmp 33)),
      .p none 35 (.bin .sub .i64 (.tmp 34) (.const (.int .i64 1))),
      .p none 11 (.mv (.tmp 35))])
  (.block 0
    (.loop
      (.seq (.seq (.reg [.p none 36 (.mv (.tmp 11)),
          .p none 37 (.bin .geq .i64 (.tmp 36) (.const (.int .i64 0)))])
      (.cond (.tmp 37)
        .skip
        (.exit 0)))
      (.seq (.block 1
        (.reg [.p none 40 (.mv (.tmp 10)),
            .p none 41 (.mv (.tmp 0)),
            .p none 42 (.mv (.tmp 11)),
            .p none 43 (.idx 1 (.tmp 41) (.tmp 42)),
            .l none (some 44) (.ld none (.tmp 43)),
            .l none (some 45) (.bs 9 1 1 [(.string ⟨#[]⟩)] [(0, 1, (.tmp 44))]),
            .l none (some 46) (.app 9 16 1 [(.string ⟨#[]⟩)] (.tmp 40) (.tmp 45)),
            .p none 10 (.mv (.tmp 46))]))
      (.reg [.p none 38 (.mv (.tmp 11)),
          .p none 39 (.bin .sub .i64 (.tmp 38) (.const (.int .i64 1))),
          .p none 11 (.mv (.tmp 39))]))))))
  (.seq (.reg [.p none 48 (.mv (.tmp 10)),
      .p none 49 (.mv (.tmp 7)),
      .l none (some 50) (.call 14 [(.tmp 48), (.tmp 49)]),
      .p none 47 (.mv (.tmp 50)),
      .p none 51 (.ext 0 (.tmp 47)),
      .p none 52 (.ext 1 (.tmp 47)),
      .l none (some 12) (.al 24 [(.bool false), (.int .i64 0), (.slice none 0 0)]),
      .l none none (.st 3 (.tmp 12) (.tmp 51)),
      .p none 13 (.mv (.tmp 52))])
  (.seq (.seq (.dreg (.line [.qp 0 none 53 (.mv (.tmp 9)),
      .qp 1 none 54 (.bin .neq .i64 (.tmp 53) (.const (.int .i64 0))),
      .qp 2 none 55 (.mv (.tmp 54)),
      .split 55,
      .qp 3 (some (55, false)) 56 (.mv (.tmp 13)),
      .qp 4 (some (55, false)) 57 (.bin .neq .i64 (.tmp 56) (.const (.int .i64 0))),
      .qp 5 none 58 (.pick (.tmp 55) (.const (.bool true)) (.tmp 57)),
      .qp 6 none 59 (.mv (.tmp 58)),
      .split 59,
      .ql 8 (some (59, false)) 61 (some 3) (.tmp 12),
      .l 7 (some (59, false)) (some 60) (.ld (some 3) (.tmp 8)),
      .l 9 (some (59, false)) (some 62) (.call 10 [(.tmp 60), (.tmp 61)]),
      .qp 10 (some (59, false)) 63 (.not (.tmp 62)),
      .qp 11 none 64 (.pick (.tmp 59) (.const (.bool true)) (.tmp 63)),
      .qp 12 none 65 (.mv (.tmp 64)),
      .split 65,
      .qp 13 (some (65, false)) 66 (.fa 2 (.tmp 8)),
      .qp 16 (some (65, false)) 69 (.fa 1 (.tmp 8)),
      .qp 18 (some (65, false)) 71 (.mv (.tmp 0)),
      .qp 19 (some (65, false)) 72 (.len (.tmp 71)),
      .ql 17 (some (65, false)) 70 none (.tmp 69),
      .qp 20 (some (65, false)) 73 (.bin .mul .i64 (.tmp 70) (.tmp 72)),
      .l 14 (some (65, false)) (some 67) (.ld none (.tmp 66)),
      .l 15 (some (65, false)) (some 68) (.call 15 [(.tmp 67)]),
      .qp 21 (some (65, false)) 74 (.bin .gtr .i64 (.tmp 68) (.tmp 73)),
      .qp 22 none 75 (.pick (.tmp 65) (.const (.bool true)) (.tmp 74)),
      .qp 23 none 76 (.mv (.tmp 75)),
      .split 76,
      .l 24 (some (76, false)) (some 77) (.ld (some 3) (.tmp 8)),
      .l 25 (some (76, false)) (some 78) (.call 16 [(.tmp 77)]),
      .qp 26 (some (76, false)) 79 (.bin .neq .i64 (.tmp 78) (.const (.int .i64 0))),
      .qp 27 none 80 (.pick (.tmp 76) (.const (.bool true)) (.tmp 79))]))
  (.cond (.tmp 80)
    (.seq (.reg [.p none 6 (.mv (.const (.bool false)))])
    .ret)
    .skip))
  (.seq (.reg [.p none 81 (.mv (.tmp 0)),
      .p none 82 (.len (.tmp 81)),
      .p none 83 (.mv (.tmp 2)),
      .p none 84 (.len (.tmp 83)),
      .p none 85 (.mm false .i64 (.tmp 82) [(.tmp 84)]),
      .p none 14 (.mv (.tmp 85))])
  (.seq (.reg [.p none 87 (.mv (.tmp 0)),
      .p none 88 (.mv (.tmp 14)),
      .p none 89 (.slc 1 (.tmp 87) none (some (.tmp 88)) none),
      .p none 90 (.mv (.tmp 7)),
      .l none (some 91) (.call 14 [(.tmp 89), (.tmp 90)]),
      .p none 86 (.mv (.tmp 91)),
      .p none 92 (.ext 0 (.tmp 86)),
      .p none 93 (.ext 1 (.tmp 86)),
      .l none (some 15) (.al 24 [(.bool false), (.int .i64 0), (.slice none 0 0)]),
      .l none none (.st 3 (.tmp 15) (.tmp 92)),
      .p none 16 (.mv (.tmp 93))])
  (.seq (.reg [.p none 95 (.mv (.tmp 2)),
      .p none 96 (.mv (.tmp 14)),
      .p none 97 (.slc 1 (.tmp 95) none (some (.tmp 96)) none),
      .p none 98 (.mv (.tmp 7)),
      .l none (some 99) (.call 14 [(.tmp 97), (.tmp 98)]),
      .p none 94 (.mv (.tmp 99)),
      .p none 100 (.ext 0 (.tmp 94)),
      .p none 101 (.ext 1 (.tmp 94)),
      .l none (some 17) (.al 24 [(.bool false), (.int .i64 0), (.slice none 0 0)]),
      .l none none (.st 3 (.tmp 17) (.tmp 100)),
      .p none 18 (.mv (.tmp 101))])
  (.seq (.reg [.l none (some 103) (.ld (some 3) (.tmp 15)),
      .l none (some 104) (.ld (some 3) (.tmp 17)),
      .l none (some 105) (.call 7 [(.tmp 103), (.tmp 104)]),
      .p none 102 (.mv (.tmp 105)),
      .p none 106 (.ext 0 (.tmp 102)),
      .p none 107 (.ext 1 (.tmp 102)),
      .l none (some 19) (.al 24 [(.bool false), (.int .i64 0), (.slice none 0 0)]),
      .l none none (.st 3 (.tmp 19) (.tmp 106)),
      .p none 20 (.mv (.tmp 107))])
  (.seq (.seq (.reg [.p none 108 (.mv (.tmp 20)),
      .p none 109 (.bin .neq .i64 (.tmp 108) (.const (.int .i64 0))),
      .p none 110 (.mv (.tmp 109)),
      .split 110,
      .p (some (110, false)) 111 (.fa 2 (.tmp 19)),
      .l (some (110, false)) (some 112) (.ld none (.tmp 111)),
      .p (some (110, false)) 113 (.len (.tmp 112)),
      .p (some (110, false)) 114 (.fa 2 (.tmp 15)),
      .l (some (110, false)) (some 115) (.ld none (.tmp 114)),
      .p (some (110, false)) 116 (.len (.tmp 115)),
      .p (some (110, false)) 117 (.bin .neq .i64 (.tmp 113) (.tmp 116)),
      .p none 118 (.pick (.tmp 110) (.const (.bool true)) (.tmp 117)),
      .p none 119 (.mv (.tmp 118)),
      .split 119,
      .p (some (119, false)) 120 (.fa 2 (.tmp 19)),
      .l (some (119, false)) (some 121) (.ld none (.tmp 120)),
      .p (some (119, false)) 122 (.len (.tmp 121)),
      .p (some (119, false)) 123 (.fa 2 (.tmp 17)),
      .l (some (119, false)) (some 124) (.ld none (.tmp 123)),
      .p (some (119, false)) 125 (.len (.tmp 124)),
      .p (some (119, false)) 126 (.bin .neq .i64 (.tmp 122) (.tmp 125)),
      .p none 127 (.pick (.tmp 119) (.const (.bool true)) (.tmp 126))])
  (.cond (.tmp 127)
    (.seq (.reg [.p none 6 (.mv (.const (.bool false)))])
    .ret)
    .skip))
  (.seq (.seq (.reg [.p none 21 (.mv (.const (.int .i64 0)))])
  (.block 2
    (.loop
      (.seq (.seq (.reg [.p none 128 (.mv (.tmp 21)),
          .p none 129 (.fa 2 (.tmp 19)),
          .l none (some 130) (.ld none (.tmp 129)),
          .p none 131 (.len (.tmp 130)),
          .p none 132 (.bin .lss .i64 (.tmp 128) (.tmp 131))])
      (.cond (.tmp 132)
        .skip
        (.exit 2)))
      (.seq (.block 3
        (.seq (.dreg (.line [.qp 0 none 135 (.fa 2 (.tmp 19)),
            .qp 2 none 137 (.mv (.tmp 21)),
            .qp 5 none 140 (.fa 2 (.tmp 15)),
            .qp 7 none 142 (.mv (.tmp 21)),
            .qp 10 none 145 (.fa 2 (.tmp 17)),
            .qp 12 none 147 (.mv (.tmp 21)),
            .ql 11 none 146 none (.tmp 145),
            .qp 13 none 148 (.idx 1 (.tmp 146) (.tmp 147)),
            .ql 6 none 141 none (.tmp 140),
            .qp 8 none 143 (.idx 1 (.tmp 141) (.tmp 142)),
            .ql 1 none 136 none (.tmp 135),
            .qp 3 none 138 (.idx 1 (.tmp 136) (.tmp 137)),
            .ql 14 none 149 none (.tmp 148),
            .ql 9 none 144 none (.tmp 143),
            .qp 15 none 150 (.bin .or .u8 (.tmp 144) (.tmp 149)),
            .l 4 none (some 139) (.ld none (.tmp 138)),
            .qp 16 none 151 (.bin .neq .u8 (.tmp 139) (.tmp 150))]))
        (.cond (.tmp 151)
          (.seq (.reg [.p none 6 (.mv (.const (.bool false)))])
          .ret)
          .skip)))
      (.reg [.p none 133 (.mv (.tmp 21)),
          .p none 134 (.bin .add .i64 (.tmp 133) (.const (.int .i64 1))),
          .p none 21 (.mv (.tmp 134))]))))))
  (.seq (.reg [.p none 153 (.mv (.tmp 7)),
      .l none (some 154) (.call 14 [(.const (.slice none 0 0)), (.tmp 153)]),
      .p none 152 (.mv (.tmp 154)),
      .p none 155 (.ext 0 (.tmp 152)),
      .p none 156 (.ext 1 (.tmp 152)),
      .l none (some 22) (.al 24 [(.bool false), (.int .i64 0), (.slice none 0 0)]),
      .l none none (.st 3 (.tmp 22) (.tmp 155)),
      .p none 23 (.mv (.tmp 156))])
  (.seq (.seq (.reg [.p none 24 (.mv (.const (.int .i64 0)))])
  (.block 4
    (.loop
      (.seq (.seq (.reg [.p none 157 (.mv (.tmp 24)),
          .p none 158 (.mv (.tmp 2)),
          .p none 159 (.len (.tmp 158)),
          .p none 160 (.bin .lss .i64 (.tmp 157) (.tmp 159))])
      (.cond (.tmp 160)
        .skip
        (.exit 4)))
      (.seq (.block 5
        (.seq (.dreg (.line [.qp 1 none 164 (.mv (.tmp 2)),
            .qp 2 none 165 (.mv (.tmp 24)),
            .qp 3 none 166 (.idx 1 (.tmp 164) (.tmp 165)),
            .ql 0 none 163 (some 3) (.tmp 22),
            .l 4 none (some 167) (.ld none (.tmp 166)),
            .l 5 none (some 168) (.call 17 [(.tmp 163), (.tmp 167)])]))
        (.cond (.tmp 168)
          (.seq (.reg [.p none 6 (.mv (.const (.bool false)))])
          .ret)
          .skip)))
      (.reg [.p none 161 (.mv (.tmp 24)),
          .p none 162 (.bin .add .i64 (.tmp 161) (.const (.int .i64 1))),
          .p none 24 (.mv (.tmp 162))]))))))
  (.seq (.reg [.l none (some 169) (.call 18 []),
      .p none 6 (.mv (.tmp 169))])
  .ret))))))))))))))))
theorem C4 : compile Tryd.prog 170 (Tryd.f4.body.getD .skip) = some M4 := by kernel_rfl

/-- winnowlaw7.bent -/
def M13 : MC :=
  (.seq (.reg [.p none 2 (.mv (.const (.int .i64 0)))])
  (.seq (.reg [.p none 4 (.mv (.tmp 0)),
      .p none 5 (.div .rem .i64 (.tmp 4) (.const (.int .i64 17))),
      .p none 3 (.mv (.tmp 5))])
  (.seq (.seq (.reg [.p none 6 (.mv (.tmp 3)),
      .p none 7 (.bin .lss .i64 (.tmp 6) (.const (.int .i64 0)))])
  (.cond (.tmp 7)
    (.reg [.p none 8 (.mv (.tmp 3)),
        .p none 9 (.bin .add .i64 (.tmp 8) (.const (.int .i64 17))),
        .p none 3 (.mv (.tmp 9))])
    .skip))
  (.seq (.reg [.p none 10 (.mv (.tmp 3)),
      .p none 2 (.mv (.tmp 10))])
  .ret))))
theorem C13 : compile Tryd.prog 11 (Tryd.f13.body.getD .skip) = some M13 := by kernel_rfl

/-- filter.Build -/
def M14 : MC :=
  (.seq (.reg [.l none (some 4) (.al 24 [(.bool false), (.int .i64 0), (.slice none 0 0)]),
      .p none 5 (.mv (.const (.int .i64 0)))])
  (.seq (.block 0
    (.seq (.reg [.p none 10 (.mv (.tmp 1)),
        .p none 11 (.bin .lss .i64 (.tmp 10) (.const (.int .i64 0))),
        .p none 12 (.mv (.tmp 11)),
        .split 12,
        .p (some (12, false)) 13 (.mv (.tmp 1)),
        .p (some (12, false)) 14 (.bin .gtr .i64 (.tmp 13) (.const (.int .i64 16))),
        .p none 15 (.pick (.tmp 12) (.const (.bool true)) (.tmp 14)),
        .p none 9 (.mv (.tmp 15))])
    (.cond (.tmp 9)
      (.seq (.reg [.p none 16 (.bld [(.bool false), (.int .i64 0), (.slice none 0 0)] []),
          .l none none (.st 3 (.tmp 4) (.tmp 16)),
          .p none 5 (.mv (.const (.int .i64 3)))])
      .ret)
      (.seq (.reg [.p none 18 (.mv (.tmp 0)),
          .p none 19 (.len (.tmp 18)),
          .p none 20 (.bin .eql .i64 (.tmp 19) (.const (.int .i64 0))),
          .p none 17 (.mv (.tmp 20))])
      (.cond (.tmp 17)
        (.seq (.reg [.p none 21 (.bld [(.bool false), (.int .i64 0), (.slice none 0 0)] []),
            .l none none (.st 3 (.tmp 4) (.tmp 21)),
            .p none 5 (.mv (.const (.int .i64 0)))])
        .ret)
        (.seq (.reg [.p none 23 (.mv (.tmp 1)),
            .p none 24 (.bin .eql .i64 (.tmp 23) (.const (.int .i64 0))),
            .p none 25 (.mv (.tmp 24)),
            .split 25,
            .p (some (25, false)) 26 (.mv (.tmp 0)),
            .p (some (25, false)) 27 (.len (.tmp 26)),
            .p (some (25, false)) 28 (.bin .gtr .i64 (.tmp 27) (.const (.int .i64 65536))),
            .p none 29 (.pick (.tmp 25) (.const (.bool true)) (.tmp 28)),
            .p none 22 (.mv (.tmp 29))])
        (.cond (.tmp 22)
          (.seq (.reg [.p none 30 (.bld [(.bool false), (.int .i64 0), (.slice none 0 0)] [(0, 1, (.const (.bool true)))]),
              .l none none (.st 3 (.tmp 4) (.tmp 30)),
              .p none 5 (.mv (.const (.int .i64 0)))])
          .ret)
          .skip)))))))
  (.seq (.reg [.p none 31 (.mv (.tmp 1)),
      .p none 32 (.bin .mul .i64 (.const (.int .i64 69)) (.tmp 31)),
      .p none 33 (.bin .add .i64 (.tmp 32) (.const (.int .i64 50))),
      .p none 34 (.div .quo .i64 (.tmp 33) (.const (.int .i64 100))),
      .p none 35 (.mm true .i64 (.tmp 34) [(.const (.int .i64 1))]),
      .p none 36 (.mm false .i64 (.tmp 35) [(.const (.int .i64 8))]),
      .p none 37 (.mv (.tmp 1)),
      .p none 38 (.mv (.tmp 0)),
      .p none 39 (.len (.tmp 38)),
      .p none 40 (.bin .mul .i64 (.tmp 37) (.tmp 39)),
      .p none 41 (.bin .add .i64 (.tmp 40) (.const (.int .i64 7))),
      .p none 42 (.div .quo .i64 (.tmp 41) (.const (.int .i64 8))),
      .p none 43 (.mm false .i64 (.tmp 42) [(.const (.int .i64 4096))]),
      .l none (some 44) (.mks 5 1 1 [(.int .u8 0)] (.tmp 43) (.tmp 43)),
      .p none 45 (.bld [(.bool false), (.int .i64 0), (.slice none 0 0)] [(1, 1, (.tmp 36)), (2, 1, (.tmp 44))]),
      .l none (some 6) (.al 24 [(.bool false), (.int .i64 0), (.slice none 0 0)]),
      .l none none (.st 3 (.tmp 6) (.tmp 45))])
  (.seq (.seq (.reg [.p none 46 (.mv (.tmp 0)),
      .p none 47 (.len (.tmp 46)),
      .p none 48 (.mv (.const (.int .i64 0)))])
  (.block 1
    (.loop
      (.seq (.reg [.p none 49 (.bin .lss .i64 (.tmp 48) (.tmp 47))])
      (.seq (.cond (.tmp 49)
        .skip
        (.exit 1))
      (.seq (.block 2
        (.seq (.reg [.p none 50 (.idx 1 (.tmp 46) (.tmp 48)),
            .l none (some 51) (.ld none (.tmp 50)),
            .p none 8 (.mv (.tmp 51))])
        (.reg [.p none 52 (.mv (.tmp 8)),
            .p none 53 (.fa 1 (.tmp 6)),
            .l none (some 54) (.ld none (.tmp 53)),
            .p none 55 (.fa 2 (.tmp 6)),
            .l none (some 56) (.ld none (.tmp 55)),
            .p none 57 (.len (.tmp 56)),
            .p none 58 (.mkf (.func 28) [] [(.tmp 6)]),
            .l none (some 59) (.call 27 [(.tmp 52), (.tmp 54), (.tmp 57), (.tmp 58)])])))
      (.reg [.p none 60 (.bin .add .i64 (.tmp 48) (.const (.int .i64 1))),
          .p none 48 (.mv (.tmp 60))])))))))
  (.seq (.reg [.l none (some 61) (.ld (some 3) (.tmp 6)),
      .l none none (.st 3 (.tmp 4) (.tmp 61)),
      .p none 5 (.mv (.const (.int .i64 0)))])
  .ret)))))
theorem C14 : compile Tryd.prog 62 (Tryd.f14.body.getD .skip) = some M14 := by kernel_rfl

/-- winnowlaw7.ones -/
def M15 : MC :=
  (.seq (.reg [.p none 2 (.mv (.const (.int .i64 0)))])
  (.seq (.reg [.p none 3 (.mv (.const (.int .i64 0)))])
  (.seq (.seq (.reg [.p none 4 (.mv (.const (.int .i64 0)))])
  (.block 0
    (.loop
      (.seq (.seq (.reg [.p none 6 (.mv (.tmp 4)),
          .p none 7 (.mv (.tmp 0)),
          .p none 8 (.len (.tmp 7)),
          .p none 9 (.bin .lss .i64 (.tmp 6) (.tmp 8))])
      (.cond (.tmp 9)
        .skip
        (.exit 0)))
      (.seq (.block 1
        (.seq (.reg [.p none 5 (.mv (.const (.int .i64 0)))])
        (.block 2
          (.loop
            (.seq (.seq (.reg [.p none 12 (.mv (.tmp 5)),
                .p none 13 (.bin .lss .i64 (.tmp 12) (.const (.int .i64 8)))])
            (.cond (.tmp 13)
              .skip
              (.exit 2)))
            (.seq (.block 3
              (.reg [.p none 16 (.mv (.tmp 3)),
                  .p none 17 (.mv (.tmp 0)),
                  .p none 18 (.mv (.tmp 4)),
                  .p none 19 (.idx 1 (.tmp 17) (.tmp 18)),
                  .l none (some 20) (.ld none (.tmp 19)),
                  .p none 21 (.mv (.tmp 5)),
                  .p none 22 (.shf .shr (.tmp 20) (.tmp 21)),
                  .p none 23 (.div .rem .u8 (.tmp 22) (.const (.int .u8 2))),
                  .p none 24 (.conv .i64 (.tmp 23)),
                  .p none 25 (.bin .add .i64 (.tmp 16) (.tmp 24)),
                  .p none 3 (.mv (.tmp 25))]))
            (.reg [.p none 14 (.mv (.tmp 5)),
                .p none 15 (.bin .add .i64 (.tmp 14) (.const (.int .i64 1))),
                .p none 5 (.mv (.tmp 15))])))))))
      (.reg [.p none 10 (.mv (.tmp 4)),
          .p none 11 (.bin .add .i64 (.tmp 10) (.const (.int .i64 1))),
          .p none 4 (.mv (.tmp 11))]))))))
  (.seq (.reg [.p none 26 (.mv (.tmp 3)),
      .p none 2 (.mv (.tmp 26))])
  .ret))))
theorem C15 : compile Tryd.prog 27 (Tryd.f15.body.getD .skip) = some M15 := by kernel_rfl

/-- filter.Check -/
def M16 : MC :=
  (.seq (.reg [.l none (some 1) (.bx 24 (.tmp 0)),
      .p none 2 (.mv (.const (.int .i64 0)))])
  (.seq (.seq (.reg [.l none (some 3) (.ld (some 3) (.tmp 1)),
      .l none (some 4) (.call 23 [(.tmp 3)]),
      .p none 5 (.bin .eql .i64 (.tmp 4) (.const (.int .i64 0)))])
  (.cond (.tmp 5)
    (.seq (.reg [.p none 2 (.mv (.const (.int .i64 70)))])
    .ret)
    .skip))
  (.seq (.reg [.p none 2 (.mv (.const (.int .i64 0)))])
  .ret)))
theorem C16 : compile Tryd.prog 6 (Tryd.f16.body.getD .skip) = some M16 := by kernel_rfl

/-- filter.Has -/
def M17 : MC :=
  (.seq (.reg [.l none (some 2) (.bx 24 (.tmp 0)),
      .p none 4 (.mv (.const (.bool false)))])
  (.seq (.seq (.reg [.l none (some 5) (.ld (some 3) (.tmp 2)),
      .l none (some 6) (.call 23 [(.tmp 5)])])
  (.block 0
    (.seq (.reg [.p none 8 (.bin .eql .i64 (.tmp 6) (.const (.int .i64 1))),
        .p none 7 (.mv (.tmp 8))])
    (.cond (.tmp 7)
      (.seq (.reg [.p none 4 (.mv (.const (.bool true)))])
      .ret)
      (.seq (.reg [.p none 10 (.bin .eql .i64 (.tmp 6) (.const (.int .i64 3))),
          .p none 9 (.mv (.tmp 10))])
      (.cond (.tmp 9)
        (.seq (.reg [.p none 11 (.mv (.tmp 1)),
            .p none 12 (.fa 1 (.tmp 2)),
            .l none (some 13) (.ld none (.tmp 12)),
            .p none 14 (.fa 2 (.tmp 2)),
            .l none (some 15) (.ld none (.tmp 14)),
            .p none 16 (.len (.tmp 15)),
            .p none 17 (.mkf (.func 29) [] [(.tmp 2)]),
            .l none (some 18) (.call 27 [(.tmp 11), (.tmp 13), (.tmp 16), (.tmp 17)]),
            .p none 4 (.mv (.tmp 18))])
        .ret)
        .skip))))))
  (.seq (.reg [.p none 4 (.mv (.const (.bool false)))])
  .ret)))
theorem C17 : compile Tryd.prog 19 (Tryd.f17.body.getD .skip) = some M17 := by kernel_rfl

/-- winnowlaw7.works -/
def M18 : MC :=
  (.seq (.reg [.p none 0 (.mv (.const (.bool false)))])
  (.seq (.reg [.l none (some 6) (.bs 9 1 1 [(.string ⟨#[]⟩)] [(0, 1, (.const (.string ⟨#[97]⟩)))]),
      .l none (some 7) (.call 14 [(.tmp 6), (.const (.int .i64 8))]),
      .p none 5 (.mv (.tmp 7)),
      .p none 8 (.ext 0 (.tmp 5)),
      .p none 9 (.ext 1 (.tmp 5)),
      .l none (some 1) (.al 24 [(.bool false), (.int .i64 0), (.slice none 0 0)]),
      .l none none (.st 3 (.tmp 1) (.tmp 8)),
      .p none 2 (.mv (.tmp 9))])
  (.seq (.reg [.l none (some 11) (.call 14 [(.const (.slice none 0 0)), (.const (.int .i64 8))]),
      .p none 10 (.mv (.tmp 11)),
      .p none 12 (.ext 0 (.tmp 10)),
      .p none 13 (.ext 1 (.tmp 10)),
      .l none (some 3) (.al 24 [(.bool false), (.int .i64 0), (.slice none 0 0)]),
      .l none none (.st 3 (.tmp 3) (.tmp 12)),
      .p none 4 (.mv (.tmp 13))])
  (.seq (.reg [.p none 14 (.mv (.tmp 2)),
      .p none 15 (.bin .eql .i64 (.tmp 14) (.const (.int .i64 0))),
      .p none 16 (.mv (.tmp 15)),
      .split 16,
      .p (some (16, true)) 17 (.mv (.tmp 4)),
      .p (some (16, true)) 18 (.bin .eql .i64 (.tmp 17) (.const (.int .i64 0))),
      .p none 19 (.pick (.tmp 16) (.tmp 18) (.const (.bool false))),
      .p none 20 (.mv (.tmp 19)),
      .split 20,
      .l (some (20, true)) (some 21) (.ld (some 3) (.tmp 1)),
      .l (some (20, true)) (some 22) (.call 17 [(.tmp 21), (.const (.string ⟨#[97]⟩))]),
      .p none 23 (.pick (.tmp 20) (.tmp 22) (.const (.bool false))),
      .p none 24 (.mv (.tmp 23)),
      .split 24,
      .l (some (24, true)) (some 25) (.ld (some 3) (.tmp 3)),
      .l (some (24, true)) (some 26) (.call 17 [(.tmp 25), (.const (.string ⟨#[97]⟩))]),
      .p (some (24, true)) 27 (.not (.tmp 26)),
      .p none 28 (.pick (.tmp 24) (.tmp 27) (.const (.bool false))),
      .p none 29 (.mv (.tmp 28)),
      .split 29,
      .p (some (29, true)) 30 (.fa 2 (.tmp 1)),
      .l (some (29, true)) (some 31) (.ld none (.tmp 30)),
      .p (some (29, true)) 32 (.len (.tmp 31)),
      .p (some (29, true)) 33 (.bin .eql .i64 (.tmp 32) (.const (.int .i64 1))),
      .p none 34 (.pick (.tmp 29) (.tmp 33) (.const (.bool false))),
      .p none 0 (.mv (.tmp 34))])
  .ret))))
theorem C18 : compile Tryd.prog 35 (Tryd.f18.body.getD .skip) = some M18 := by kernel_rfl

/-- filter.each -/
def M27 : MC :=
  (.seq (.reg [.p none 8 (.mv (.const (.bool false)))])
  (.seq (.reg [.p none 12 (.mv (.tmp 0)),
      .l none (some 13) (.call 36 [(.tmp 12)]),
      .p none 11 (.mv (.tmp 13)),
      .p none 14 (.ext 0 (.tmp 11)),
      .p none 15 (.ext 1 (.tmp 11)),
      .p none 9 (.mv (.tmp 14)),
      .p none 10 (.mv (.tmp 15))])
  (.seq (.seq (.reg [.p none 16 (.mv (.tmp 1)),
      .p none 17 (.mv (.const (.int .i64 0)))])
  (.block 0
    (.loop
      (.seq (.reg [.p none 18 (.bin .lss .i64 (.tmp 17) (.tmp 16))])
      (.seq (.cond (.tmp 18)
        .skip
        (.exit 0))
      (.seq (.block 1
        (.seq (.seq (.reg [.p none 19 (.mv (.tmp 3)),
            .p none 20 (.mv (.tmp 9)),
            .p none 21 (.mv (.tmp 2)),
            .p none 22 (.bin .mul .i64 (.const (.int .i64 8)) (.tmp 21)),
            .p none 23 (.conv .u64 (.tmp 22)),
            .p none 24 (.div .rem .u64 (.tmp 20) (.tmp 23)),
            .l none (some 25) (.callv (.tmp 19) [(.tmp 24)]),
            .p none 26 (.not (.tmp 25))])
        (.cond (.tmp 26)
          (.seq (.reg [.p none 8 (.mv (.const (.bool false)))])
          .ret)
          .skip))
        (.reg [.p none 27 (.mv (.tmp 9)),
            .p none 28 (.mv (.tmp 10)),
            .p none 29 (.bin .add .u64 (.tmp 27) (.tmp 28)),
            .p none 9 (.mv (.tmp 29))])))
      (.reg [.p none 30 (.bin .add .i64 (.tmp 17) (.const (.int .i64 1))),
          .p none 17 (.mv (.tmp 30))])))))))
  (.seq (.reg [.p none 8 (.mv (.const (.bool true)))])
  .ret))))
theorem C27 : compile Tryd.prog 31 (Tryd.f27.body.getD .skip) = some M27 := by kernel_rfl

/-- filter.Build$1 -/
def M28 : MC :=
  (.seq (.reg [.p none 3 (.mv (.const (.bool false)))])
  (.seq (.reg [.p none 4 (.fa 2 (.tmp 1)),
      .l none (some 5) (.ld none (.tmp 4)),
      .p none 6 (.mv (.tmp 0)),
      .p none 7 (.div .quo .u64 (.tmp 6) (.const (.int .u64 8))),
      .p none 8 (.idx 1 (.tmp 5) (.tmp 7)),
      .l none (some 9) (.ld none (.tmp 8)),
      .p none 10 (.mv (.tmp 0)),
      .p none 11 (.div .rem .u64 (.tmp 10) (.const (.int .u64 8))),
      .p none 12 (.shf .shl (.const (.int .u8 1)) (.tmp 11)),
      .p none 13 (.bin .or .u8 (.tmp 9) (.tmp 12)),
      .p none 14 (.idx 1 (.tmp 5) (.tmp 7)),
      .l none none (.st 1 (.tmp 14) (.tmp 13))])
  (.seq (.reg [.p none 3 (.mv (.const (.bool true)))])
  .ret)))
theorem C28 : compile Tryd.prog 15 (Tryd.f28.body.getD .skip) = some M28 := by kernel_rfl

/-- filter.Has$1 -/
def M29 : MC :=
  (.seq (.reg [.p none 3 (.mv (.const (.bool false)))])
  (.seq (.reg [.p none 4 (.fa 2 (.tmp 1)),
      .l none (some 5) (.ld none (.tmp 4)),
      .p none 6 (.mv (.tmp 0)),
      .p none 7 (.div .quo .u64 (.tmp 6) (.const (.int .u64 8))),
      .p none 8 (.idx 1 (.tmp 5) (.tmp 7)),
      .l none (some 9) (.ld none (.tmp 8)),
      .p none 10 (.mv (.tmp 0)),
      .p none 11 (.div .rem .u64 (.tmp 10) (.const (.int .u64 8))),
      .p none 12 (.shf .shr (.tmp 9) (.tmp 11)),
      .p none 13 (.bin .and .u8 (.tmp 12) (.const (.int .u8 1))),
      .p none 14 (.bin .eql .u8 (.tmp 13) (.const (.int .u8 1))),
      .p none 3 (.mv (.tmp 14))])
  .ret))
theorem C29 : compile Tryd.prog 15 (Tryd.f29.body.getD .skip) = some M29 := by kernel_rfl

/-- filter.Hash -/
def M36 : MC :=
  (.seq (.reg [.p none 2 (.mv (.const (.int .u64 0))),
      .p none 3 (.mv (.const (.int .u64 0)))])
  (.seq (.reg [.p none 4 (.mv (.const (.int .u64 14695981039346656037)))])
  (.seq (.seq (.reg [.p none 7 (.mv (.tmp 0)),
      .p none 8 (.lens (.tmp 7)),
      .p none 9 (.mv (.const (.int .i64 0)))])
  (.block 0
    (.loop
      (.seq (.reg [.p none 10 (.bin .lss .i64 (.tmp 9) (.tmp 8))])
      (.seq (.cond (.tmp 10)
        .skip
        (.exit 0))
      (.seq (.block 1
        (.seq (.reg [.p none 11 (.mv (.tmp 9)),
            .p none 5 (.mv (.tmp 11))])
        (.reg [.p none 12 (.mv (.tmp 4)),
            .p none 13 (.mv (.tmp 0)),
            .p none 14 (.mv (.tmp 5)),
            .p none 15 (.idxs (.tmp 13) (.tmp 14)),
            .p none 16 (.conv .u64 (.tmp 15)),
            .p none 17 (.bin .xor .u64 (.tmp 12) (.tmp 16)),
            .p none 18 (.bin .mul .u64 (.tmp 17) (.const (.int .u64 1099511628211))),
            .p none 4 (.mv (.tmp 18))])))
      (.reg [.p none 19 (.bin .add .i64 (.tmp 9) (.const (.int .i64 1))),
          .p none 9 (.mv (.tmp 19))])))))))
  (.seq (.reg [.p none 20 (.mv (.tmp 4)),
      .p none 21 (.bin .add .u64 (.tmp 20) (.const (.int .u64 11400714819323198485))),
      .p none 6 (.mv (.tmp 21))])
  (.seq (.reg [.p none 22 (.mv (.tmp 6)),
      .p none 23 (.mv (.tmp 6)),
      .p none 24 (.shf .shr (.tmp 23) (.const (.int .u64 30))),
      .p none 25 (.bin .xor .u64 (.tmp 22) (.tmp 24)),
      .p none 26 (.bin .mul .u64 (.tmp 25) (.const (.int .u64 13787848793156543929))),
      .p none 6 (.mv (.tmp 26))])
  (.seq (.reg [.p none 27 (.mv (.tmp 6)),
      .p none 28 (.mv (.tmp 6)),
      .p none 29 (.shf .shr (.tmp 28) (.const (.int .u64 27))),
      .p none 30 (.bin .xor .u64 (.tmp 27) (.tmp 29)),
      .p none 31 (.bin .mul .u64 (.tmp 30) (.const (.int .u64 10723151780598845931))),
      .p none 6 (.mv (.tmp 31))])
  (.seq (.reg [.p none 32 (.mv (.tmp 4)),
      .p none 33 (.mv (.tmp 6)),
      .p none 34 (.mv (.tmp 6)),
      .p none 35 (.shf .shr (.tmp 34) (.const (.int .u64 31))),
      .p none 36 (.bin .xor .u64 (.tmp 33) (.tmp 35)),
      .p none 37 (.bin .or .u64 (.tmp 36) (.const (.int .u64 1))),
      .p none 2 (.mv (.tmp 32)),
      .p none 3 (.mv (.tmp 37))])
  .ret)))))))
theorem C36 : compile Tryd.prog 38 (Tryd.f36.body.getD .skip) = some M36 := by kernel_rfl

/-- winnowlaw7.FilterNever -/
def M5 : MC :=
  (.seq (.reg [.p none 8 (.mv (.const (.bool false)))])
  (.seq (.reg [.p none 24 (.mv (.tmp 0)),
      .p none 25 (.mv (.tmp 1)),
      .l none (some 26) (.call 13 [(.tmp 25)]),
      .l none (some 27) (.call 14 [(.tmp 24), (.tmp 26)]),
      .p none 23 (.mv (.tmp 27)),
      .p none 28 (.ext 0 (.tmp 23)),
      .p none 29 (.ext 1 (.tmp 23)),
      .l none (some 9) (.al 24 [(.bool false), (.int .i64 0), (.slice none 0 0)]),
      .l none none (.st 3 (.tmp 9) (.tmp 28)),
      .p none 10 (.mv (.tmp 29))])
  (.seq (.seq (.reg [.p none 30 (.mv (.tmp 10)),
      .p none 31 (.bin .neq .i64 (.tmp 30) (.const (.int .i64 0))),
      .p none 32 (.mv (.tmp 31)),
      .split 32,
      .l (some (32, false)) (some 33) (.ld (some 3) (.tmp 9)),
      .p (some (32, false)) 34 (.mv (.tmp 0)),
      .l (some (32, false)) (some 35) (.call 19 [(.tmp 33), (.tmp 34)]),
      .p (some (32, false)) 36 (.not (.tmp 35)),
      .p none 37 (.pick (.tmp 32) (.const (.bool true)) (.tmp 36))])
  (.cond (.tmp 37)
    (.seq (.reg [.p none 8 (.mv (.const (.bool false)))])
    .ret)
    .skip))
  (.seq (.reg [.l none (some 39) (.ld (some 3) (.tmp 9)),
      .l none (some 40) (.call 20 [(.tmp 39)]),
      .p none 38 (.mv (.tmp 40)),
      .p none 41 (.ext 0 (.tmp 38)),
      .p none 42 (.ext 1 (.tmp 38)),
      .p none 11 (.mv (.tmp 41)),
      .p none 12 (.mv (.tmp 42))])
  (.seq (.reg [.p none 44 (.mv (.tmp 11)),
      .l none (some 45) (.call 21 [(.tmp 44)]),
      .p none 43 (.mv (.tmp 45)),
      .p none 46 (.ext 0 (.tmp 43)),
      .p none 47 (.ext 1 (.tmp 43)),
      .l none (some 13) (.al 24 [(.bool false), (.int .i64 0), (.slice none 0 0)]),
      .l none none (.st 3 (.tmp 13) (.tmp 46)),
      .p none 14 (.mv (.tmp 47))])
  (.seq (.seq (.reg [.p none 48 (.mv (.tmp 12)),
      .p none 49 (.bin .neq .i64 (.tmp 48) (.const (.int .i64 0))),
      .p none 50 (.mv (.tmp 49)),
      .split 50,
      .p (some (50, false)) 51 (.mv (.tmp 14)),
      .p (some (50, false)) 52 (.bin .neq .i64 (.tmp 51) (.const (.int .i64 0))),
      .p none 53 (.pick (.tmp 50) (.const (.bool true)) (.tmp 52)),
      .p none 54 (.mv (.tmp 53)),
      .split 54,
      .l (some (54, false)) (some 55) (.ld (some 3) (.tmp 13)),
      .l (some (54, false)) (some 56) (.ld (some 3) (.tmp 9)),
      .l (some (54, false)) (some 57) (.call 10 [(.tmp 55), (.tmp 56)]),
      .p (some (54, false)) 58 (.not (.tmp 57)),
      .p none 59 (.pick (.tmp 54) (.const (.bool true)) (.tmp 58)),
      .p none 60 (.mv (.tmp 59)),
      .split 60,
      .l (some (60, false)) (some 61) (.ld (some 3) (.tmp 13)),
      .p (some (60, false)) 62 (.mv (.tmp 0)),
      .l (some (60, false)) (some 63) (.call 19 [(.tmp 61), (.tmp 62)]),
      .p (some (60, false)) 64 (.not (.tmp 63)),
      .p none 65 (.pick (.tmp 60) (.const (.bool true)) (.tmp 64))])
  (.cond (.tmp 65)
    (.seq (.reg [.p none 8 (.mv (.const (.bool false)))])
    .ret)
    .skip))
  (.seq (.reg [.p none 67 (.mv (.tmp 2)),
      .p none 68 (.mv (.tmp 3)),
      .l none (some 69) (.call 13 [(.tmp 68)]),
      .l none (some 70) (.call 14 [(.tmp 67), (.tmp 69)]),
      .p none 66 (.mv (.tmp 70)),
      .p none 71 (.ext 0 (.tmp 66)),
      .p none 72 (.ext 1 (.tmp 66)),
      .l none (some 15) (.al 24 [(.bool false), (.int .i64 0), (.slice none 0 0)]),
      .l none none (.st 3 (.tmp 15) (.tmp 71)),
      .p none 16 (.mv (.tmp 72))])
  (.seq (.seq (.reg [.p none 73 (.mv (.tmp 16)),
      .p none 74 (.bin .neq .i64 (.tmp 73) (.const (.int .i64 0)))])
  (.cond (.tmp 74)
    (.seq (.reg [.p none 8 (.mv (.const (.bool false)))])
    .ret)
    .skip))
  (.seq (.reg [.l none (some 76) (.ld (some 3) (.tmp 9)),
      .l none (some 77) (.ld (some 3) (.tmp 15)),
      .l none (some 78) (.call 7 [(.tmp 76), (.tmp 77)]),
      .p none 75 (.mv (.tmp 78)),
      .p none 79 (.ext 0 (.tmp 75)),
      .p none 80 (.ext 1 (.tmp 75)),
      .l none (some 17) (.al 24 [(.bool false), (.int .i64 0), (.slice none 0 0)]),
      .l none none (.st 3 (.tmp 17) (.tmp 79)),
      .p none 18 (.mv (.tmp 80))])
  (.seq (.reg [.l none (some 82) (.ld (some 3) (.tmp 15)),
      .l none (some 83) (.ld (some 3) (.tmp 9)),
      .l none (some 84) (.call 7 [(.tmp 82), (.tmp 83)]),
      .p none 81 (.mv (.tmp 84)),
      .p none 85 (.ext 0 (.tmp 81)),
      .p none 86 (.ext 1 (.tmp 81)),
      .l none (some 19) (.al 24 [(.bool false), (.int .i64 0), (.slice none 0 0)]),
      .l none none (.st 3 (.tmp 19) (.tmp 85)),
      .p none 20 (.mv (.tmp 86))])
  (.seq (.seq (.reg [.p none 87 (.mv (.tmp 18)),
      .p none 88 (.mv (.tmp 20)),
      .p none 89 (.bin .neq .i64 (.tmp 87) (.tmp 88)),
      .p none 90 (.mv (.tmp 89)),
      .split 90,
      .p (some (90, false)) 91 (.mv (.tmp 18)),
      .p (some (90, false)) 92 (.bin .neq .i64 (.tmp 91) (.const (.int .i64 0))),
      .p (some (90, false)) 93 (.mv (.tmp 92)),
      .split 93,
      .p (some (93, true)) 94 (.mv (.tmp 18)),
      .p (some (93, true)) 95 (.bin .neq .i64 (.tmp 94) (.const (.int .i64 3))),
      .p (some (90, false)) 96 (.pick (.tmp 93) (.tmp 95) (.const (.bool false))),
      .p none 97 (.pick (.tmp 90) (.const (.bool true)) (.tmp 96)),
      .p none 98 (.mv (.tmp 97)),
      .split 98,
      .l (some (98, false)) (some 99) (.ld (some 3) (.tmp 17)),
      .l (some (98, false)) (some 100) (.ld (some 3) (.tmp 19)),
      .l (some (98, false)) (some 101) (.call 10 [(.tmp 99), (.tmp 100)]),
      .p (some (98, false)) 102 (.not (.tmp 101)),
      .p none 103 (.pick (.tmp 98) (.const (.bool true)) (.tmp 102))])
  (.cond (.tmp 103)
    (.seq (.reg [.p none 8 (.mv (.const (.bool false)))])
    .ret)
    .skip))
  (.seq (.seq (.reg [.p none 104 (.mv (.tmp 18)),
      .p none 105 (.bin .eql .i64 (.tmp 104) (.const (.int .i64 0))),
      .p none 106 (.mv (.tmp 105)),
      .split 106,
      .l (some (106, true)) (some 107) (.ld (some 3) (.tmp 17)),
      .p (some (106, true)) 108 (.mv (.tmp 0)),
      .l (some (106, true)) (some 109) (.call 19 [(.tmp 107), (.tmp 108)]),
      .p (some (106, true)) 110 (.not (.tmp 109)),
      .p (some (106, true)) 111 (.mv (.tmp 110)),
      .split 111,
      .l (some (111, false)) (some 112) (.ld (some 3) (.tmp 17)),
      .p (some (111, false)) 113 (.mv (.tmp 2)),
      .l (some (111, false)) (some 114) (.call 19 [(.tmp 112), (.tmp 113)]),
      .p (some (111, false)) 115 (.not (.tmp 114)),
      .p (some (106, true)) 116 (.pick (.tmp 111) (.const (.bool true)) (.tmp 115)),
      .p none 117 (.pick (.tmp 106) (.tmp 116) (.const (.bool false)))])
  (.cond (.tmp 117)
    (.seq (.reg [.p none 8 (.mv (.const (.bool false)))])
    .ret)
    .skip))
  (.seq (.reg [.l none (some 119) (.ld (some 3) (.tmp 9)),
      .l none (some 120) (.ld (some 3) (.tmp 9)),
      .l none (some 121) (.call 7 [(.tmp 119), (.tmp 120)]),
      .p none 118 (.mv (.tmp 121)),
      .p none 122 (.ext 0 (.tmp 118)),
      .p none 123 (.ext 1 (.tmp 118)),
      .l none (some 21) (.al 24 [(.bool false), (.int .i64 0), (.slice none 0 0)]),
      .l none none (.st 3 (.tmp 21) (.tmp 122)),
      .p none 22 (.mv (.tmp 123))])
  (.seq (.reg [.p none 124 (.mv (.tmp 22)),
      .p none 125 (.bin .eql .i64 (.tmp 124) (.const (.int .i64 0))),
      .p none 126 (.mv (.tmp 125)),
      .split 126,
      .l (some (126, true)) (some 127) (.ld (some 3) (.tmp 21)),
      .l (some (126, true)) (some 128) (.ld (some 3) (.tmp 9)),
      .l (some (126, true)) (some 129) (.call 10 [(.tmp 127), (.tmp 128)]),
      .p none 130 (.pick (.tmp 126) (.tmp 129) (.const (.bool false))),
      .p none 131 (.mv (.tmp 130)),
      .split 131,
      .l (some (131, true)) (some 132) (.call 18 []),
      .p none 133 (.pick (.tmp 131) (.tmp 132) (.const (.bool false))),
      .p none 8 (.mv (.tmp 133))])
  .ret))))))))))))))
theorem C5 : compile Tryd.prog 134 (Tryd.f5.body.getD .skip) = some M5 := by kernel_rfl

/-- winnowlaw7.all -/
def M19 : MC :=
  (.seq (.reg [.l none (some 2) (.bx 24 (.tmp 0)),
      .p none 4 (.mv (.const (.bool false)))])
  (.seq (.seq (.reg [.p none 5 (.mv (.const (.int .i64 0)))])
  (.block 0
    (.loop
      (.seq (.seq (.reg [.p none 6 (.mv (.tmp 5)),
          .p none 7 (.mv (.tmp 1)),
          .p none 8 (.len (.tmp 7)),
          .p none 9 (.bin .lss .i64 (.tmp 6) (.tmp 8))])
      (.cond (.tmp 9)
        .skip
        (.exit 0)))
      (.seq (.block 1
        (.seq (.dreg (.line [.qp 1 none 13 (.mv (.tmp 1)),
            .qp 2 none 14 (.mv (.tmp 5)),
            .qp 3 none 15 (.idx 1 (.tmp 13) (.tmp 14)),
            .ql 0 none 12 (some 3) (.tmp 2),
            .l 4 none (some 16) (.ld none (.tmp 15)),
            .l 5 none (some 17) (.call 17 [(.tmp 12), (.tmp 16)]),
            .qp 6 none 18 (.not (.tmp 17))]))
        (.cond (.tmp 18)
          (.seq (.reg [.p none 4 (.mv (.const (.bool false)))])
          .ret)
          .skip)))
      (.reg [.p none 10 (.mv (.tmp 5)),
          .p none 11 (.bin .add .i64 (.tmp 10) (.const (.int .i64 1))),
          .p none 5 (.mv (.tmp 11))]))))))
  (.seq (.reg [.p none 4 (.mv (.const (.bool true)))])
  .ret)))
theorem C19 : compile Tryd.prog 19 (Tryd.f19.body.getD .skip) = some M19 := by kernel_rfl

/-- filter.Encode -/
def M20 : MC :=
  (.seq (.reg [.l none (some 1) (.bx 24 (.tmp 0)),
      .p none 2 (.mv (.const (.slice none 0 0))),
      .p none 3 (.mv (.const (.int .i64 0)))])
  (.seq (.seq (.reg [.l none (some 5) (.ld (some 3) (.tmp 1)),
      .l none (some 6) (.call 23 [(.tmp 5)])])
  (.block 0
    (.seq (.reg [.p none 8 (.bin .eql .i64 (.tmp 6) (.const (.int .i64 1))),
        .p none 7 (.mv (.tmp 8))])
    (.cond (.tmp 7)
      (.seq (.reg [.l none (some 9) (.bs 5 1 1 [(.int .u8 0)] [(0, 1, (.const (.int .u8 255)))]),
          .p none 2 (.mv (.tmp 9)),
          .p none 3 (.mv (.const (.int .i64 0)))])
      .ret)
      (.seq (.reg [.p none 11 (.bin .eql .i64 (.tmp 6) (.const (.int .i64 2))),
          .p none 10 (.mv (.tmp 11))])
      (.cond (.tmp 10)
        (.seq (.reg [.l none (some 12) (.bs 5 1 1 [(.int .u8 0)] [(0, 1, (.const (.int .u8 0)))]),
            .p none 2 (.mv (.tmp 12)),
            .p none 3 (.mv (.const (.int .i64 0)))])
        .ret)
        (.seq (.reg [.p none 14 (.bin .eql .i64 (.tmp 6) (.const (.int .i64 3))),
            .p none 13 (.mv (.tmp 14))])
        (.cond (.tmp 13)
          (.seq (.dreg (.fork [.qp 0 none 15 (.fa 1 (.tmp 1)),
              .qp 4 none 19 (.fa 2 (.tmp 1)),
              .ql 5 none 20 none (.tmp 19),
              .qp 6 none 21 (.len (.tmp 20)),
              .ql 1 none 16 none (.tmp 15),
              .qp 2 none 17 (.conv .u8 (.tmp 16))]
            (.line [.l 3 none (some 18) (.bs 5 1 1 [(.int .u8 0)] [(0, 1, (.tmp 17))]),
                .l 7 none (some 22) (.call 30 [(.tmp 21)]),
                .l 8 none (some 23) (.app 5 1 1 [(.int .u8 0)] (.tmp 18) (.tmp 22)),
                .qp 9 none 4 (.mv (.tmp 23))])
            (.line [.l 7 none (some 22) (.call 30 [(.tmp 21)]),
                .l 3 none (some 18) (.bs 5 1 1 [(.int .u8 0)] [(0, 1, (.tmp 17))]),
                .l 8 none (some 23) (.app 5 1 1 [(.int .u8 0)] (.tmp 18) (.tmp 22)),
                .qp 9 none 4 (.mv (.tmp 23))])))
          (.seq (.reg [.p none 24 (.mv (.tmp 4)),
              .p none 25 (.fa 2 (.tmp 1)),
              .l none (some 26) (.ld none (.tmp 25)),
              .l none (some 27) (.app 5 1 1 [(.int .u8 0)] (.tmp 24) (.tmp 26)),
              .p none 2 (.mv (.tmp 27)),
              .p none 3 (.mv (.const (.int .i64 0)))])
          .ret))
          .skip))))))))
  (.seq (.reg [.p none 2 (.mv (.const (.slice none 0 0))),
      .p none 3 (.mv (.const (.int .i64 70)))])
  .ret)))
theorem C20 : compile Tryd.prog 28 (Tryd.f20.body.getD .skip) = some M20 := by kernel_rfl

/-- filter.Decode -/
def M21 : MC :=
  (.seq (.reg [.l none (some 2) (.al 24 [(.bool false), (.int .i64 0), (.slice none 0 0)]),
      .p none 3 (.mv (.const (.int .i64 0)))])
  (.seq (.reg [.p none 7 (.mv (.tmp 0)),
      .l none (some 8) (.call 31 [(.tmp 7)]),
      .p none 4 (.mv (.tmp 8))])
  (.seq (.reg [.l none (some 5) (.al 24 [(.bool false), (.int .i64 0), (.slice none 0 0)])])
  (.seq (.seq (.reg [.p none 9 (.mv (.tmp 4)),
      .l none (some 10) (.call 32 [(.tmp 9), (.const (.int .i64 1))]),
      .p none 6 (.mv (.tmp 10))])
  (.seq (.reg [.p none 11 (.mv (.tmp 6))])
  (.block 0
    (.seq (.reg [.p none 25 (.bin .eql .u64 (.tmp 11) (.const (.int .u64 0))),
        .p none 24 (.mv (.tmp 25))])
    (.cond (.tmp 24)
      .skip
      (.seq (.reg [.p none 27 (.bin .eql .u64 (.tmp 11) (.const (.int .u64 255))),
          .p none 26 (.mv (.tmp 27))])
      (.cond (.tmp 26)
        (.reg [.p none 28 (.fa 0 (.tmp 5)),
            .l none none (.st 1 (.tmp 28) (.const (.bool true)))])
        (.seq (.reg [.p none 12 (.mv (.tmp 6)),
            .p none 13 (.conv .i64 (.tmp 12)),
            .p none 14 (.fa 1 (.tmp 5)),
            .l none none (.st 1 (.tmp 14) (.tmp 13))])
        (.seq (.reg [.p none 15 (.mv (.tmp 4)),
            .p none 16 (.mv (.tmp 4)),
            .l none (some 17) (.call 34 [(.tmp 16), (.const (.int .i64 4096))]),
            .l none (some 18) (.call 33 [(.tmp 15), (.tmp 17)]),
            .p none 19 (.fa 2 (.tmp 5)),
            .l none none (.st 1 (.tmp 19) (.tmp 18))])
        (.seq (.reg [.l none (some 20) (.ld (some 3) (.tmp 5)),
            .l none (some 21) (.call 23 [(.tmp 20)]),
            .p none 22 (.bin .neq .i64 (.tmp 21) (.const (.int .i64 3)))])
        (.cond (.tmp 22)
          (.seq (.reg [.p none 23 (.bld [(.bool false), (.int .i64 0), (.slice none 0 0)] []),
              .l none none (.st 3 (.tmp 2) (.tmp 23)),
              .p none 3 (.mv (.const (.int .i64 70)))])
          .ret)
          .skip)))))))))))
  (.seq (.seq (.reg [.p none 29 (.mv (.tmp 4)),
      .l none (some 30) (.call 35 [(.tmp 29)]),
      .p none 31 (.fld 0 none (.tmp 30)),
      .p none 32 (.bin .neq .i64 (.tmp 31) (.const (.int .i64 0)))])
  (.cond (.tmp 32)
    (.seq (.reg [.p none 33 (.bld [(.bool false), (.int .i64 0), (.slice none 0 0)] []),
        .l none none (.st 3 (.tmp 2) (.tmp 33)),
        .p none 3 (.mv (.const (.int .i64 70)))])
    .ret)
    .skip))
  (.seq (.reg [.l none (some 34) (.ld (some 3) (.tmp 5)),
      .l none none (.st 3 (.tmp 2) (.tmp 34)),
      .p none 3 (.mv (.const (.int .i64 0)))])
  .ret))))))
theorem C21 : compile Tryd.prog 35 (Tryd.f21.body.getD .skip) = some M21 := by kernel_rfl

/-- nums.Put -/
def M30 : MC :=
  (.seq (.reg [.p none 2 (.mv (.const (.slice none 0 0)))])
  (.seq (.seq (.reg [.p none 4 (.mv (.tmp 0)),
      .p none 5 (.bin .lss .i64 (.tmp 4) (.const (.int .i64 0)))])
  (.cond (.tmp 5)
    (.seq (.reg [.p none 2 (.mv (.const (.slice none 0 0)))])
    .ret)
    .skip))
  (.seq (.reg [.p none 3 (.mv (.const (.slice none 0 0)))])
  (.seq (.block 0
    (.loop
      (.seq (.seq (.reg [.p none 6 (.mv (.tmp 0)),
          .p none 7 (.bin .geq .i64 (.tmp 6) (.const (.int .i64 128)))])
      (.cond (.tmp 7)
        .skip
        (.exit 0)))
      (.block 1
        (.seq (.reg [.p none 8 (.mv (.tmp 3)),
            .p none 9 (.mv (.tmp 0)),
            .p none 10 (.conv .u8 (.tmp 9)),
            .p none 11 (.bin .or .u8 (.tmp 10) (.const (.int .u8 128))),
            .l none (some 12) (.bs 5 1 1 [(.int .u8 0)] [(0, 1, (.tmp 11))]),
            .l none (some 13) (.app 5 1 1 [(.int .u8 0)] (.tmp 8) (.tmp 12)),
            .p none 3 (.mv (.tmp 13))])
        (.reg [.p none 14 (.mv (.tmp 0)),
            .p none 15 (.shf .shr (.tmp 14) (.const (.int .u64 7))),
            .p none 0 (.mv (.tmp 15))]))))))
  (.seq (.reg [.p none 16 (.mv (.tmp 3)),
      .p none 17 (.mv (.tmp 0)),
      .p none 18 (.conv .u8 (.tmp 17)),
      .l none (some 19) (.bs 5 1 1 [(.int .u8 0)] [(0, 1, (.tmp 18))]),
      .l none (some 20) (.app 5 1 1 [(.int .u8 0)] (.tmp 16) (.tmp 19)),
      .p none 2 (.mv (.tmp 20))])
  .ret)))))
theorem C30 : compile Tryd.prog 21 (Tryd.f30.body.getD .skip) = some M30 := by kernel_rfl

/-- nums.NewCursor -/
def M31 : MC :=
  (.seq (.reg [.p none 2 (.mv (.const (.pointer none)))])
  (.seq (.reg [.p none 3 (.mv (.tmp 0)),
      .l none (some 4) (.app 5 1 1 [(.int .u8 0)] (.const (.slice none 0 0)) (.tmp 3)),
      .p none 5 (.bld [(.slice none 0 0), (.int .i64 0), (.int .i64 0)] [(0, 1, (.tmp 4))]),
      .l none (some 6) (.bx 65 (.tmp 5)),
      .p none 2 (.mv (.tmp 6))])
  .ret))
theorem C31 : compile Tryd.prog 7 (Tryd.f31.body.getD .skip) = some M31 := by kernel_rfl

/-- (*nums.Cursor).Fixed -/
def M32 : MC :=
  (.seq (.reg [.l none (some 3) (.bx 3 (.tmp 1)),
      .p none 4 (.mv (.const (.int .u64 0)))])
  (.seq (.reg [.l none (some 5) (.al 50 [(.int .u64 0)])])
  (.seq (.reg [.p none 6 (.mv (.tmp 0)),
      .p none 7 (.mkf (.func 38) [] [(.tmp 3), (.tmp 5)]),
      .l none (some 8) (.call 37 [(.tmp 6), (.tmp 7)])])
  (.seq (.reg [.l none (some 9) (.ld none (.tmp 5)),
      .p none 4 (.mv (.tmp 9))])
  .ret))))
theorem C32 : compile Tryd.prog 10 (Tryd.f32.body.getD .skip) = some M32 := by kernel_rfl

/-- (*nums.Cursor).Take -/
def M33 : MC :=
  (.seq (.reg [.l none (some 3) (.bx 3 (.tmp 1)),
      .p none 4 (.mv (.const (.slice none 0 0)))])
  (.seq (.reg [.l none (some 5) (.al 22 [(.slice none 0 0)])])
  (.seq (.reg [.p none 6 (.mv (.tmp 0)),
      .p none 7 (.mkf (.func 40) [] [(.tmp 3), (.tmp 5)]),
      .l none (some 8) (.call 37 [(.tmp 6), (.tmp 7)])])
  (.seq (.reg [.l none (some 9) (.ld none (.tmp 5)),
      .p none 4 (.mv (.tmp 9))])
  .ret))))
theorem C33 : compile Tryd.prog 10 (Tryd.f33.body.getD .skip) = some M33 := by kernel_rfl

/-- (*nums.Cursor).Num -/
def M34 : MC :=
  (.seq (.reg [.l none (some 3) (.bx 2 (.tmp 1)),
      .p none 4 (.mv (.const (.int .i64 0)))])
  (.seq (.reg [.l none (some 5) (.al 2 [(.int .i64 0)])])
  (.seq (.reg [.p none 6 (.mv (.tmp 0)),
      .p none 7 (.mkf (.func 41) [] [(.tmp 3), (.tmp 5)]),
      .l none (some 8) (.call 37 [(.tmp 6), (.tmp 7)])])
  (.seq (.reg [.l none (some 9) (.ld none (.tmp 5)),
      .p none 4 (.mv (.tmp 9))])
  .ret))))
theorem C34 : compile Tryd.prog 10 (Tryd.f34.body.getD .skip) = some M34 := by kernel_rfl

/-- (*nums.Cursor).End -/
def M35 : MC :=
  (.seq (.reg [.l none (some 2) (.al 59 [(.int .i64 0), (.int .i64 0)])])
  (.seq (.block 0
    (.seq (.reg [.p none 4 (.mv (.tmp 0)),
        .p none 5 (.isnil false 0 (.tmp 4)),
        .p none 3 (.mv (.tmp 5))])
    (.cond (.tmp 3)
      (.seq (.reg [.p none 6 (.bld [(.int .i64 0), (.int .i64 0)] [(0, 1, (.const (.int .i64 1)))]),
          .l none none (.st 2 (.tmp 2) (.tmp 6))])
      .ret)
      (.seq (.reg [.p none 8 (.mv (.tmp 0)),
          .p none 9 (.nilchk (.tmp 8)),
          .p none 10 (.fa 2 (.tmp 9)),
          .l none (some 11) (.ld none (.tmp 10)),
          .p none 12 (.bin .neq .i64 (.tmp 11) (.const (.int .i64 0))),
          .p none 7 (.mv (.tmp 12))])
      (.cond (.tmp 7)
        (.seq (.dreg (.line [.qp 0 none 13 (.mv (.tmp 0)),
            .qp 1 none 14 (.nilchk (.tmp 13)),
            .qp 2 none 15 (.fa 2 (.tmp 14)),
            .qp 4 none 17 (.mv (.tmp 0)),
            .qp 5 none 18 (.nilchk (.tmp 17)),
            .qp 6 none 19 (.fa 1 (.tmp 18)),
            .ql 7 none 20 none (.tmp 19),
            .l 3 none (some 16) (.ld none (.tmp 15)),
            .qp 8 none 21 (.bld [(.int .i64 0), (.int .i64 0)] [(0, 1, (.tmp 16)), (1, 1, (.tmp 20))]),
            .l 9 none none (.st 2 (.tmp 2) (.tmp 21))]))
        .ret)
        (.seq (.dreg (.line [.qp 0 none 23 (.mv (.tmp 0)),
            .qp 1 none 24 (.nilchk (.tmp 23)),
            .qp 2 none 25 (.fa 1 (.tmp 24)),
            .qp 4 none 27 (.mv (.tmp 0)),
            .qp 5 none 28 (.nilchk (.tmp 27)),
            .qp 6 none 29 (.fa 0 (.tmp 28)),
            .ql 7 none 30 none (.tmp 29),
            .qp 8 none 31 (.len (.tmp 30)),
            .l 3 none (some 26) (.ld none (.tmp 25)),
            .qp 9 none 32 (.bin .lss .i64 (.tmp 26) (.tmp 31)),
            .qp 10 none 22 (.mv (.tmp 32))]))
        (.cond (.tmp 22)
          (.seq (.reg [.p none 33 (.mv (.tmp 0)),
              .p none 34 (.nilchk (.tmp 33)),
              .p none 35 (.fa 1 (.tmp 34)),
              .l none (some 36) (.ld none (.tmp 35)),
              .p none 37 (.bld [(.int .i64 0), (.int .i64 0)] [(0, 1, (.const (.int .i64 22))), (1, 1, (.tmp 36))]),
              .l none none (.st 2 (.tmp 2) (.tmp 37))])
          .ret)
          .skip)))))))
  (.seq (.reg [.p none 38 (.bld [(.int .i64 0), (.int .i64 0)] []),
      .l none none (.st 2 (.tmp 2) (.tmp 38))])
  .ret)))
theorem C35 : compile Tryd.prog 39 (Tryd.f35.body.getD .skip) = some M35 := by kernel_rfl

/-- (*nums.Cursor).reads -/
def M37 : MC :=
  (.seq (.seq (.reg [.p none 6 (.mv (.tmp 0)),
      .p none 7 (.isnil false 0 (.tmp 6)),
      .p none 8 (.mv (.tmp 7)),
      .split 8,
      .p (some (8, false)) 9 (.mv (.tmp 0)),
      .p (some (8, false)) 10 (.nilchk (.tmp 9)),
      .p (some (8, false)) 11 (.fa 2 (.tmp 10)),
      .l (some (8, false)) (some 12) (.ld none (.tmp 11)),
      .p (some (8, false)) 13 (.bin .neq .i64 (.tmp 12) (.const (.int .i64 0))),
      .p none 14 (.pick (.tmp 8) (.const (.bool true)) (.tmp 13))])
  (.cond (.tmp 14)
    .ret
    .skip))
  (.seq (.dreg (.line [.qp 0 none 16 (.mv (.tmp 1)),
      .qp 1 none 17 (.mv (.tmp 0)),
      .qp 2 none 18 (.nilchk (.tmp 17)),
      .qp 3 none 19 (.fa 0 (.tmp 18)),
      .qp 5 none 21 (.mv (.tmp 0)),
      .qp 6 none 22 (.nilchk (.tmp 21)),
      .qp 7 none 23 (.fa 1 (.tmp 22)),
      .ql 8 none 24 none (.tmp 23),
      .l 4 none (some 20) (.ld none (.tmp 19)),
      .qp 9 none 25 (.slc 1 (.tmp 20) (some (.tmp 24)) none none),
      .l 10 none (some 26) (.callv (.tmp 16) [(.tmp 25)]),
      .qp 11 none 15 (.mv (.tmp 26)),
      .qp 12 none 27 (.ext 0 (.tmp 15)),
      .qp 13 none 28 (.ext 1 (.tmp 15)),
      .qp 14 none 4 (.mv (.tmp 27)),
      .qp 15 none 5 (.mv (.tmp 28))]))
  (.seq (.seq (.reg [.p none 29 (.mv (.tmp 5)),
      .p none 30 (.bin .neq .i64 (.tmp 29) (.const (.int .i64 0)))])
  (.cond (.tmp 30)
    (.seq (.reg [.p none 31 (.mv (.tmp 0)),
        .p none 32 (.mv (.tmp 5)),
        .p none 33 (.nilchk (.tmp 31)),
        .p none 34 (.fa 2 (.tmp 33)),
        .l none none (.st 1 (.tmp 34) (.tmp 32))])
    .ret)
    .skip))
  (.reg [.p none 35 (.mv (.tmp 0)),
      .p none 36 (.nilchk (.tmp 35)),
      .p none 37 (.fa 1 (.tmp 36)),
      .l none (some 38) (.ld none (.tmp 37)),
      .p none 39 (.mv (.tmp 4)),
      .p none 40 (.bin .add .i64 (.tmp 38) (.tmp 39)),
      .p none 41 (.nilchk (.tmp 35)),
      .p none 42 (.fa 1 (.tmp 41)),
      .l none none (.st 1 (.tmp 42) (.tmp 40))]))))
theorem C37 : compile Tryd.prog 43 (Tryd.f37.body.getD .skip) = some M37 := by kernel_rfl

/-- (*nums.Cursor).Fixed$1 -/
def M38 : MC :=
  (.seq (.reg [.p none 4 (.mv (.const (.int .i64 0))),
      .p none 5 (.mv (.const (.int .i64 0)))])
  (.seq (.block 0
    (.seq (.reg [.l none (some 7) (.ld none (.tmp 1)),
        .p none 8 (.bin .lss .i64 (.tmp 7) (.const (.int .i64 1))),
        .p none 9 (.mv (.tmp 8)),
        .split 9,
        .l (some (9, false)) (some 10) (.ld none (.tmp 1)),
        .p (some (9, false)) 11 (.bin .gtr .i64 (.tmp 10) (.const (.int .i64 8))),
        .p none 12 (.pick (.tmp 9) (.const (.bool true)) (.tmp 11)),
        .p none 6 (.mv (.tmp 12))])
    (.cond (.tmp 6)
      (.seq (.reg [.p none 4 (.mv (.const (.int .i64 0))),
          .p none 5 (.mv (.const (.int .i64 23)))])
      .ret)
      (.seq (.reg [.l none (some 14) (.ld none (.tmp 1)),
          .p none 15 (.mv (.tmp 0)),
          .p none 16 (.len (.tmp 15)),
          .p none 17 (.bin .gtr .i64 (.tmp 14) (.tmp 16)),
          .p none 13 (.mv (.tmp 17))])
      (.cond (.tmp 13)
        (.seq (.reg [.p none 4 (.mv (.const (.int .i64 0))),
            .p none 5 (.mv (.const (.int .i64 20)))])
        .ret)
        .skip)))))
  (.seq (.reg [.p none 18 (.mv (.tmp 0)),
      .l none (some 19) (.ld none (.tmp 1)),
      .p none 20 (.slc 1 (.tmp 18) none (some (.tmp 19)) none),
      .l none (some 21) (.call 39 [(.tmp 20)]),
      .l none none (.st 1 (.tmp 2) (.tmp 21))])
  (.seq (.reg [.l none (some 22) (.ld none (.tmp 1)),
      .p none 4 (.mv (.tmp 22)),
      .p none 5 (.mv (.const (.int .i64 0)))])
  .ret))))
theorem C38 : compile Tryd.prog 23 (Tryd.f38.body.getD .skip) = some M38 := by kernel_rfl

/-- nums.Word -/
def M39 : MC :=
  (.seq (.reg [.p none 2 (.mv (.const (.int .u64 0)))])
  (.seq (.reg [.p none 3 (.mv (.const (.int .u64 0)))])
  (.seq (.seq (.reg [.p none 5 (.mv (.tmp 0)),
      .p none 6 (.len (.tmp 5)),
      .p none 7 (.mm false .i64 (.tmp 6) [(.const (.int .i64 8))]),
      .p none 8 (.mv (.const (.int .i64 0)))])
  (.block 0
    (.loop
      (.seq (.reg [.p none 9 (.bin .lss .i64 (.tmp 8) (.tmp 7))])
      (.seq (.cond (.tmp 9)
        .skip
        (.exit 0))
      (.seq (.block 1
        (.seq (.reg [.p none 10 (.mv (.tmp 8)),
            .p none 4 (.mv (.tmp 10))])
        (.reg [.p none 11 (.mv (.tmp 3)),
            .p none 12 (.mv (.tmp 0)),
            .p none 13 (.mv (.tmp 4)),
            .p none 14 (.idx 1 (.tmp 12) (.tmp 13)),
            .l none (some 15) (.ld none (.tmp 14)),
            .p none 16 (.conv .u64 (.tmp 15)),
            .p none 17 (.mv (.tmp 4)),
            .p none 18 (.bin .mul .i64 (.const (.int .i64 8)) (.tmp 17)),
            .p none 19 (.shf .shl (.tmp 16) (.tmp 18)),
            .p none 20 (.bin .or .u64 (.tmp 11) (.tmp 19)),
            .p none 3 (.mv (.tmp 20))])))
      (.reg [.p none 21 (.bin .add .i64 (.tmp 8) (.const (.int .i64 1))),
          .p none 8 (.mv (.tmp 21))])))))))
  (.seq (.reg [.p none 22 (.mv (.tmp 3)),
      .p none 2 (.mv (.tmp 22))])
  .ret))))
theorem C39 : compile Tryd.prog 23 (Tryd.f39.body.getD .skip) = some M39 := by kernel_rfl

/-- (*nums.Cursor).Take$1 -/
def M40 : MC :=
  (.seq (.reg [.p none 4 (.mv (.const (.int .i64 0))),
      .p none 5 (.mv (.const (.int .i64 0)))])
  (.seq (.block 0
    (.seq (.reg [.l none (some 7) (.ld none (.tmp 1)),
        .p none 8 (.bin .lss .i64 (.tmp 7) (.const (.int .i64 0))),
        .p none 6 (.mv (.tmp 8))])
    (.cond (.tmp 6)
      (.seq (.reg [.p none 4 (.mv (.const (.int .i64 0))),
          .p none 5 (.mv (.const (.int .i64 23)))])
      .ret)
      (.seq (.reg [.l none (some 10) (.ld none (.tmp 1)),
          .p none 11 (.mv (.tmp 0)),
          .p none 12 (.len (.tmp 11)),
          .p none 13 (.bin .gtr .i64 (.tmp 10) (.tmp 12)),
          .p none 9 (.mv (.tmp 13))])
      (.cond (.tmp 9)
        (.seq (.reg [.p none 4 (.mv (.const (.int .i64 0))),
            .p none 5 (.mv (.const (.int .i64 20)))])
        .ret)
        .skip)))))
  (.seq (.dreg (.line [.qp 1 none 15 (.mv (.tmp 0)),
      .ql 2 none 16 none (.tmp 1),
      .qp 3 none 17 (.slc 1 (.tmp 15) none (some (.tmp 16)) none),
      .l 0 none (some 14) (.ld none (.tmp 2)),
      .l 4 none (some 18) (.app 5 1 1 [(.int .u8 0)] (.tmp 14) (.tmp 17)),
      .l 5 none none (.st 1 (.tmp 2) (.tmp 18))]))
  (.seq (.reg [.l none (some 19) (.ld none (.tmp 1)),
      .p none 4 (.mv (.tmp 19)),
      .p none 5 (.mv (.const (.int .i64 0)))])
  .ret))))
theorem C40 : compile Tryd.prog 20 (Tryd.f40.body.getD .skip) = some M40 := by kernel_rfl

/-- (*nums.Cursor).Num$1 -/
def M41 : MC :=
  (.seq (.reg [.p none 4 (.mv (.const (.int .i64 0))),
      .p none 5 (.mv (.const (.int .i64 0)))])
  (.seq (.reg [.p none 10 (.mv (.tmp 0)),
      .l none (some 11) (.call 42 [(.tmp 10)]),
      .p none 9 (.mv (.tmp 11)),
      .p none 12 (.ext 0 (.tmp 9)),
      .p none 13 (.ext 1 (.tmp 9)),
      .p none 14 (.ext 2 (.tmp 9)),
      .p none 6 (.mv (.tmp 12)),
      .p none 7 (.mv (.tmp 13)),
      .p none 8 (.mv (.tmp 14))])
  (.seq (.seq (.reg [.p none 15 (.mv (.tmp 8)),
      .p none 16 (.bin .eql .i64 (.tmp 15) (.const (.int .i64 0))),
      .p none 17 (.mv (.tmp 16)),
      .split 17,
      .p (some (17, true)) 18 (.mv (.tmp 6)),
      .l (some (17, true)) (some 19) (.ld none (.tmp 1)),
      .p (some (17, true)) 20 (.bin .gtr .i64 (.tmp 18) (.tmp 19)),
      .p none 21 (.pick (.tmp 17) (.tmp 20) (.const (.bool false)))])
  (.cond (.tmp 21)
    (.reg [.p none 8 (.mv (.const (.int .i64 23)))])
    .skip))
  (.seq (.seq (.reg [.p none 22 (.mv (.tmp 8)),
      .p none 23 (.bin .eql .i64 (.tmp 22) (.const (.int .i64 0)))])
  (.cond (.tmp 23)
    (.reg [.p none 24 (.mv (.tmp 6)),
        .l none none (.st 1 (.tmp 2) (.tmp 24))])
    .skip))
  (.seq (.reg [.p none 25 (.mv (.tmp 7)),
      .p none 26 (.mv (.tmp 8)),
      .p none 4 (.mv (.tmp 25)),
      .p none 5 (.mv (.tmp 26))])
  .ret)))))
theorem C41 : compile Tryd.prog 27 (Tryd.f41.body.getD .skip) = some M41 := by kernel_rfl

/-- nums.Get -/
def M42 : MC :=
  (.seq (.reg [.p none 2 (.mv (.const (.int .i64 0))),
      .p none 3 (.mv (.const (.int .i64 0))),
      .p none 4 (.mv (.const (.int .i64 0)))])
  (.seq (.reg [.p none 5 (.mv (.const (.int .i64 0)))])
  (.seq (.seq (.reg [.p none 8 (.mv (.tmp 0)),
      .p none 9 (.len (.tmp 8)),
      .p none 10 (.mv (.const (.int .i64 0)))])
  (.block 0
    (.loop
      (.seq (.reg [.p none 11 (.bin .lss .i64 (.tmp 10) (.tmp 9))])
      (.seq (.cond (.tmp 11)
        .skip
        (.exit 0))
      (.seq (.block 1
        (.seq (.reg [.p none 12 (.mv (.tmp 10)),
            .p none 13 (.idx 1 (.tmp 8) (.tmp 10)),
            .l none (some 14) (.ld none (.tmp 13)),
            .p none 6 (.mv (.tmp 12)),
            .p none 7 (.mv (.tmp 14))])
        (.seq (.seq (.reg [.p none 15 (.mv (.tmp 6)),
            .p none 16 (.bin .eql .i64 (.tmp 15) (.const (.int .i64 8))),
            .p none 17 (.mv (.tmp 16)),
            .split 17,
            .p (some (17, true)) 18 (.mv (.tmp 7)),
            .p (some (17, true)) 19 (.bin .geq .u8 (.tmp 18) (.const (.int .u8 128))),
            .p none 20 (.pick (.tmp 17) (.tmp 19) (.const (.bool false)))])
        (.cond (.tmp 20)
          (.seq (.reg [.p none 2 (.mv (.const (.int .i64 0))),
              .p none 3 (.mv (.const (.int .i64 0))),
              .p none 4 (.mv (.const (.int .i64 21)))])
          .ret)
          .skip))
        (.seq (.reg [.p none 21 (.mv (.tmp 5)),
            .p none 22 (.mv (.tmp 7)),
            .p none 23 (.bin .and .u8 (.tmp 22) (.const (.int .u8 127))),
            .p none 24 (.conv .i64 (.tmp 23)),
            .p none 25 (.mv (.tmp 6)),
            .p none 26 (.bin .mul .i64 (.const (.int .i64 7)) (.tmp 25)),
            .p none 27 (.shf .shl (.tmp 24) (.tmp 26)),
            .p none 28 (.bin .or .i64 (.tmp 21) (.tmp 27)),
            .p none 5 (.mv (.tmp 28))])
        (.seq (.reg [.p none 29 (.mv (.tmp 7)),
            .p none 30 (.bin .lss .u8 (.tmp 29) (.const (.int .u8 128)))])
        (.cond (.tmp 30)
          (.seq (.seq (.reg [.p none 31 (.mv (.tmp 7)),
              .p none 32 (.bin .eql .u8 (.tmp 31) (.const (.int .u8 0))),
              .p none 33 (.mv (.tmp 32)),
              .split 33,
              .p (some (33, true)) 34 (.mv (.tmp 6)),
              .p (some (33, true)) 35 (.bin .gtr .i64 (.tmp 34) (.const (.int .i64 0))),
              .p none 36 (.pick (.tmp 33) (.tmp 35) (.const (.bool false)))])
          (.cond (.tmp 36)
            (.seq (.reg [.p none 2 (.mv (.const (.int .i64 0))),
                .p none 3 (.mv (.const (.int .i64 0))),
                .p none 4 (.mv (.const (.int .i64 21)))])
            .ret)
            .skip))
          (.seq (.reg [.p none 37 (.mv (.tmp 5)),
              .p none 38 (.mv (.tmp 6)),
              .p none 39 (.bin .add .i64 (.tmp 38) (.const (.int .i64 1))),
              .p none 2 (.mv (.tmp 37)),
              .p none 3 (.mv (.tmp 39)),
              .p none 4 (.mv (.const (.int .i64 0)))])
          .ret))
          .skip))))))
      (.reg [.p none 40 (.bin .add .i64 (.tmp 10) (.const (.int .i64 1))),
          .p none 10 (.mv (.tmp 40))])))))))
  (.seq (.reg [.p none 2 (.mv (.const (.int .i64 0))),
      .p none 3 (.mv (.const (.int .i64 0))),
      .p none 4 (.mv (.const (.int .i64 20)))])
  .ret))))
theorem C42 : compile Tryd.prog 41 (Tryd.f42.body.getD .skip) = some M42 := by kernel_rfl
end Go.Proofs.YtjockanmmfmidaaDoor.E
