/- The intermediate code of the functions that are walked here, each with the proof that it is the translation of the model's code. -/
import Derived.Test.YtojnkjnebejodaaE6
import Derived.KernelRfl
namespace Go.Proofs.Ytojnkjnebejodaa.E
open Go
theorem mixed : Try.prog.follows .mixedOrders = true := by kernel_rfl

/-- winnowlaw4.HuffCosts -/
def M3 : MC :=
  (.seq (.reg [.p none 4 (.mv (.const (.bool false)))])
  (.seq (.reg [.p none 11 (.mv (.tmp 0)),
      .l none (some 12) (.call 12 [(.tmp 11)]),
      .p none 5 (.mv (.tmp 12))])
  (.seq (.reg [.p none 13 (.mv (.tmp 1)),
      .l none (some 14) (.call 13 [(.tmp 13)]),
      .p none 6 (.mv (.tmp 14))])
  (.seq (.dreg (.line [.qp 0 none 16 (.mv (.tmp 5)),
      .qp 1 none 17 (.mv (.tmp 0)),
      .qp 2 none 18 (.len (.tmp 17)),
      .qp 3 none 19 (.slc 1 (.tmp 16) none (some (.tmp 18)) none),
      .qp 4 none 20 (.mv (.tmp 6)),
      .qp 5 none 21 (.mv (.tmp 1)),
      .qp 6 none 22 (.len (.tmp 21)),
      .qp 7 none 23 (.slc 1 (.tmp 20) none (some (.tmp 22)) none),
      .l 8 none (some 24) (.call 14 [(.tmp 19), (.tmp 23)]),
      .qp 9 none 15 (.mv (.tmp 24)),
      .qp 10 none 25 (.ext 0 (.tmp 15)),
      .qp 11 none 26 (.ext 1 (.tmp 15)),
      .qp 12 none 7 (.mv (.tmp 25)),
      .qp 13 none 8 (.mv (.tmp 26))]))
  (.seq (.reg [.p none 28 (.mv (.tmp 0)),
      .p none 29 (.mv (.tmp 1)),
      .l none (some 30) (.call 15 [(.tmp 28), (.tmp 29)]),
      .p none 27 (.mv (.tmp 30)),
      .p none 31 (.ext 0 (.tmp 27)),
      .p none 32 (.ext 1 (.tmp 27)),
      .p none 9 (.mv (.tmp 31)),
      .p none 10 (.mv (.tmp 32))])
  (.seq (.seq (.reg [.p none 33 (.mv (.tmp 7)),
      .p none 34 (.mv (.tmp 9)),
      .p none 35 (.bin .neq .i64 (.tmp 33) (.tmp 34)),
      .p none 36 (.mv (.tmp 35)),
      .split 36,
      .p (some (36, false)) 37 (.mv (.tmp 8)),
      .p (some (36, false)) 38 (.mv (.tmp 10)),
      .p (some (36, false)) 39 (.bin .neq .i64 (.tmp 37) (.tmp 38)),
      .p none 40 (.pick (.tmp 36) (.const (.bool true)) (.tmp 39)),
      .p none 41 (.mv (.tmp 40)),
      .split 41,
      .p (some (41, false)) 42 (.mv (.tmp 5)),
      .p (some (41, false)) 43 (.mv (.tmp 0)),
      .l (some (41, false)) (some 44) (.call 16 [(.tmp 42), (.tmp 43)]),
      .p (some (41, false)) 45 (.not (.tmp 44)),
      .p none 46 (.pick (.tmp 41) (.const (.bool true)) (.tmp 45)),
      .p none 47 (.mv (.tmp 46)),
      .split 47,
      .p (some (47, false)) 48 (.mv (.tmp 6)),
      .p (some (47, false)) 49 (.mv (.tmp 1)),
      .l (some (47, false)) (some 50) (.call 17 [(.tmp 48), (.tmp 49)]),
      .p (some (47, false)) 51 (.not (.tmp 50)),
      .p none 52 (.pick (.tmp 47) (.const (.bool true)) (.tmp 51))])
  (.cond (.tmp 52)
    (.seq (.reg [.p none 4 (.mv (.const (.bool false)))])
    .ret)
    .skip))
  (.seq (.dreg (.line [.qp 0 none 54 (.mv (.tmp 5)),
      .qp 1 none 55 (.mv (.tmp 0)),
      .qp 2 none 56 (.len (.tmp 55)),
      .qp 3 none 57 (.slc 1 (.tmp 54) none (some (.tmp 56)) none),
      .qp 5 none 59 (.mv (.tmp 6)),
      .qp 6 none 60 (.mv (.tmp 1)),
      .qp 7 none 61 (.len (.tmp 60)),
      .qp 8 none 62 (.slc 1 (.tmp 59) none (some (.tmp 61)) none),
      .l 4 none (some 58) (.call 18 [(.tmp 57)]),
      .l 9 none (some 63) (.call 14 [(.tmp 58), (.tmp 62)]),
      .qp 10 none 53 (.mv (.tmp 63)),
      .qp 11 none 64 (.ext 0 (.tmp 53)),
      .qp 12 none 65 (.ext 1 (.tmp 53)),
      .qp 13 none 7 (.mv (.tmp 64)),
      .qp 14 none 8 (.mv (.tmp 65))]))
  (.seq (.reg [.p none 67 (.mv (.tmp 0)),
      .l none (some 68) (.call 12 [(.tmp 67)]),
      .p none 69 (.mv (.tmp 0)),
      .p none 70 (.len (.tmp 69)),
      .p none 71 (.slc 1 (.tmp 68) none (some (.tmp 70)) none),
      .l none (some 72) (.call 18 [(.tmp 71)]),
      .p none 73 (.mv (.tmp 1)),
      .l none (some 74) (.call 15 [(.tmp 72), (.tmp 73)]),
      .p none 66 (.mv (.tmp 74)),
      .p none 75 (.ext 0 (.tmp 66)),
      .p none 76 (.ext 1 (.tmp 66)),
      .p none 9 (.mv (.tmp 75)),
      .p none 10 (.mv (.tmp 76))])
  (.seq (.seq (.reg [.p none 77 (.mv (.tmp 7)),
      .p none 78 (.mv (.tmp 9)),
      .p none 79 (.bin .neq .i64 (.tmp 77) (.tmp 78)),
      .p none 80 (.mv (.tmp 79)),
      .split 80,
      .p (some (80, false)) 81 (.mv (.tmp 8)),
      .p (some (80, false)) 82 (.mv (.tmp 10)),
      .p (some (80, false)) 83 (.bin .neq .i64 (.tmp 81) (.tmp 82)),
      .p none 84 (.pick (.tmp 80) (.const (.bool true)) (.tmp 83))])
  (.cond (.tmp 84)
    (.seq (.reg [.p none 4 (.mv (.const (.bool false)))])
    .ret)
    .skip))
  (.seq (.dreg (.line [.qp 0 none 86 (.mv (.tmp 5)),
      .qp 1 none 87 (.mv (.tmp 0)),
      .qp 2 none 88 (.len (.tmp 87)),
      .qp 3 none 89 (.slc 1 (.tmp 86) none (some (.tmp 88)) none),
      .qp 4 none 90 (.mv (.tmp 6)),
      .qp 5 none 91 (.mv (.tmp 1)),
      .qp 6 none 92 (.len (.tmp 91)),
      .qp 7 none 93 (.slc 1 (.tmp 90) none (some (.tmp 92)) none),
      .l 8 none (some 94) (.call 19 [(.tmp 93)]),
      .l 9 none (some 95) (.call 14 [(.tmp 89), (.tmp 94)]),
      .qp 10 none 85 (.mv (.tmp 95)),
      .qp 11 none 96 (.ext 0 (.tmp 85)),
      .qp 12 none 97 (.ext 1 (.tmp 85)),
      .qp 13 none 7 (.mv (.tmp 96)),
      .qp 14 none 8 (.mv (.tmp 97))]))
  (.seq (.reg [.p none 99 (.mv (.tmp 0)),
      .l none (some 100) (.call 12 [(.tmp 99)]),
      .p none 101 (.mv (.tmp 0)),
      .p none 102 (.len (.tmp 101)),
      .p none 103 (.slc 1 (.tmp 100) none (some (.tmp 102)) none),
      .l none (some 104) (.call 18 [(.tmp 103)]),
      .p none 105 (.mv (.tmp 1)),
      .l none (some 106) (.call 13 [(.tmp 105)]),
      .p none 107 (.mv (.tmp 1)),
      .p none 108 (.len (.tmp 107)),
      .p none 109 (.slc 1 (.tmp 106) none (some (.tmp 108)) none),
      .l none (some 110) (.call 19 [(.tmp 109)]),
      .l none (some 111) (.call 15 [(.tmp 104), (.tmp 110)]),
      .p none 98 (.mv (.tmp 111)),
      .p none 112 (.ext 0 (.tmp 98)),
      .p none 113 (.ext 1 (.tmp 98)),
      .p none 9 (.mv (.tmp 112)),
      .p none 10 (.mv (.tmp 113))])
  (.seq (.reg [.p none 114 (.mv (.tmp 7)),
      .p none 115 (.mv (.tmp 9)),
      .p none 116 (.bin .eql .i64 (.tmp 114) (.tmp 115)),
      .p none 117 (.mv (.tmp 116)),
      .split 117,
      .p (some (117, true)) 118 (.mv (.tmp 8)),
      .p (some (117, true)) 119 (.mv (.tmp 10)),
      .p (some (117, true)) 120 (.bin .eql .i64 (.tmp 118) (.tmp 119)),
      .p none 121 (.pick (.tmp 117) (.tmp 120) (.const (.bool false))),
      .p none 4 (.mv (.tmp 121))])
  .ret))))))))))))
theorem C3 : compile Try.prog 122 (Try.f3.body.getD .skip) = some M3 := by kernel_rfl

/-- winnowlaw4.roomyCounts -/
def M12 : MC :=
  (.seq (.reg [.p none 2 (.mv (.const (.slice none 0 0)))])
  (.seq (.reg [.p none 5 (.mv (.tmp 0)),
      .p none 6 (.len (.tmp 5)),
      .p none 7 (.bin .add .i64 (.tmp 6) (.const (.int .i64 64))),
      .l none (some 8) (.mks 2 8 1 [(.int .i64 0)] (.tmp 7) (.tmp 7)),
      .p none 3 (.mv (.tmp 8))])
  (.seq (.seq (.reg [.p none 4 (.mv (.const (.int .i64 0)))])
  (.block 0
    (.loop
      (.seq (.seq (.reg [.p none 9 (.mv (.tmp 4)),
          .p none 10 (.mv (.tmp 3)),
          .p none 11 (.len (.tmp 10)),
          .p none 12 (.bin .lss .i64 (.tmp 9) (.tmp 11))])
      (.cond (.tmp 12)
        .skip
        (.exit 0)))
      (.seq (.block 1
        (.seq (.reg [.p none 15 (.mv (.tmp 3)),
            .p none 16 (.mv (.tmp 4)),
            .p none 17 (.idx 1 (.tmp 15) (.tmp 16)),
            .l none none (.st 1 (.tmp 17) (.const (.int .i64 (-77))))])
        (.seq (.reg [.p none 18 (.mv (.tmp 4)),
            .p none 19 (.mv (.tmp 0)),
            .p none 20 (.len (.tmp 19)),
            .p none 21 (.bin .lss .i64 (.tmp 18) (.tmp 20))])
        (.cond (.tmp 21)
          (.reg [.p none 22 (.mv (.tmp 3)),
              .p none 23 (.mv (.tmp 4)),
              .p none 24 (.mv (.tmp 0)),
              .p none 25 (.mv (.tmp 4)),
              .p none 26 (.idx 1 (.tmp 24) (.tmp 25)),
              .l none (some 27) (.ld none (.tmp 26)),
              .p none 28 (.idx 1 (.tmp 22) (.tmp 23)),
              .l none none (.st 1 (.tmp 28) (.tmp 27))])
          .skip))))
      (.reg [.p none 13 (.mv (.tmp 4)),
          .p none 14 (.bin .add .i64 (.tmp 13) (.const (.int .i64 1))),
          .p none 4 (.mv (.tmp 14))]))))))
  (.seq (.reg [.p none 29 (.mv (.tmp 3)),
      .p none 2 (.mv (.tmp 29))])
  .ret))))
theorem C12 : compile Try.prog 30 (Try.f12.body.getD .skip) = some M12 := by kernel_rfl

/-- winnowlaw4.roomyInts -/
def M13 : MC :=
  (.seq (.reg [.p none 2 (.mv (.const (.slice none 0 0)))])
  (.seq (.reg [.p none 5 (.mv (.tmp 0)),
      .p none 6 (.len (.tmp 5)),
      .p none 7 (.bin .add .i64 (.tmp 6) (.const (.int .i64 64))),
      .l none (some 8) (.mks 3 8 1 [(.int .i64 0)] (.tmp 7) (.tmp 7)),
      .p none 3 (.mv (.tmp 8))])
  (.seq (.seq (.reg [.p none 4 (.mv (.const (.int .i64 0)))])
  (.block 0
    (.loop
      (.seq (.seq (.reg [.p none 9 (.mv (.tmp 4)),
          .p none 10 (.mv (.tmp 3)),
          .p none 11 (.len (.tmp 10)),
          .p none 12 (.bin .lss .i64 (.tmp 9) (.tmp 11))])
      (.cond (.tmp 12)
        .skip
        (.exit 0)))
      (.seq (.block 1
        (.seq (.reg [.p none 15 (.mv (.tmp 3)),
            .p none 16 (.mv (.tmp 4)),
            .p none 17 (.idx 1 (.tmp 15) (.tmp 16)),
            .l none none (.st 1 (.tmp 17) (.const (.int .i64 (-77))))])
        (.seq (.reg [.p none 18 (.mv (.tmp 4)),
            .p none 19 (.mv (.tmp 0)),
            .p none 20 (.len (.tmp 19)),
            .p none 21 (.bin .lss .i64 (.tmp 18) (.tmp 20))])
        (.cond (.tmp 21)
          (.reg [.p none 22 (.mv (.tmp 3)),
              .p none 23 (.mv (.tmp 4)),
              .p none 24 (.mv (.tmp 0)),
              .p none 25 (.mv (.tmp 4)),
              .p none 26 (.idx 1 (.tmp 24) (.tmp 25)),
              .l none (some 27) (.ld none (.tmp 26)),
              .p none 28 (.idx 1 (.tmp 22) (.tmp 23)),
              .l none none (.st 1 (.tmp 28) (.tmp 27))])
          .skip))))
      (.reg [.p none 13 (.mv (.tmp 4)),
          .p none 14 (.bin .add .i64 (.tmp 13) (.const (.int .i64 1))),
          .p none 4 (.mv (.tmp 14))]))))))
  (.seq (.reg [.p none 29 (.mv (.tmp 3)),
      .p none 2 (.mv (.tmp 29))])
  .ret))))
theorem C13 : compile Try.prog 30 (Try.f13.body.getD .skip) = some M13 := by kernel_rfl

/-- huff.Cost -/
def M14 : MC :=
  (.seq (.reg [.p none 4 (.mv (.const (.int .i64 0))),
      .p none 5 (.mv (.const (.int .i64 0)))])
  (.seq (.seq (.reg [.p none 8 (.mv (.tmp 0)),
      .p none 9 (.len (.tmp 8)),
      .p none 10 (.bin .gtr .i64 (.tmp 9) (.const (.int .i64 256))),
      .p none 11 (.mv (.tmp 10)),
      .split 11,
      .p (some (11, false)) 12 (.mv (.tmp 1)),
      .p (some (11, false)) 13 (.len (.tmp 12)),
      .p (some (11, false)) 14 (.bin .gtr .i64 (.tmp 13) (.const (.int .i64 256))),
      .p none 15 (.pick (.tmp 11) (.const (.bool true)) (.tmp 14))])
  (.cond (.tmp 15)
    (.seq (.reg [.p none 4 (.mv (.const (.int .i64 0))),
        .p none 5 (.mv (.const (.int .i64 2)))])
    .ret)
    .skip))
  (.seq (.seq (.reg [.p none 16 (.mv (.tmp 0)),
      .l none (some 17) (.call 39 [(.tmp 16)]),
      .p none 18 (.bin .neq .i64 (.tmp 17) (.const (.int .i64 0))),
      .p none 19 (.mv (.tmp 18)),
      .split 19,
      .p (some (19, false)) 20 (.mv (.tmp 1)),
      .l (some (19, false)) (some 21) (.call 40 [(.tmp 20)]),
      .p (some (19, false)) 22 (.not (.tmp 21)),
      .p none 23 (.pick (.tmp 19) (.const (.bool true)) (.tmp 22))])
  (.cond (.tmp 23)
    (.seq (.reg [.p none 4 (.mv (.const (.int .i64 0))),
        .p none 5 (.mv (.const (.int .i64 3)))])
    .ret)
    .skip))
  (.seq (.reg [.p none 6 (.mv (.const (.int .i64 0)))])
  (.seq (.seq (.reg [.p none 24 (.mv (.tmp 0)),
      .p none 25 (.len (.tmp 24)),
      .p none 26 (.mv (.tmp 1)),
      .p none 27 (.len (.tmp 26)),
      .p none 28 (.mm false .i64 (.tmp 25) [(.tmp 27)]),
      .p none 29 (.mv (.const (.int .i64 0)))])
  (.block 0
    (.loop
      (.seq (.reg [.p none 30 (.bin .lss .i64 (.tmp 29) (.tmp 28))])
      (.seq (.cond (.tmp 30)
        .skip
        (.exit 0))
      (.seq (.block 1
        (.seq (.reg [.p none 31 (.mv (.tmp 29)),
            .p none 7 (.mv (.tmp 31))])
        (.dreg (.line [.qp 0 none 32 (.mv (.tmp 6)),
            .qp 1 none 33 (.mv (.tmp 0)),
            .qp 2 none 34 (.mv (.tmp 7)),
            .qp 3 none 35 (.idx 1 (.tmp 33) (.tmp 34)),
            .qp 5 none 37 (.mv (.tmp 1)),
            .qp 6 none 38 (.mv (.tmp 7)),
            .qp 7 none 39 (.idx 1 (.tmp 37) (.tmp 38)),
            .ql 8 none 40 none (.tmp 39),
            .l 4 none (some 36) (.ld none (.tmp 35)),
            .qp 9 none 41 (.bin .mul .i64 (.tmp 36) (.tmp 40)),
            .qp 10 none 42 (.bin .add .i64 (.tmp 32) (.tmp 41)),
            .qp 11 none 6 (.mv (.tmp 42))]))))
      (.reg [.p none 43 (.bin .add .i64 (.tmp 29) (.const (.int .i64 1))),
          .p none 29 (.mv (.tmp 43))])))))))
  (.seq (.reg [.p none 44 (.mv (.tmp 6)),
      .p none 4 (.mv (.tmp 44)),
      .p none 5 (.mv (.const (.int .i64 0)))])
  .ret))))))
theorem C14 : compile Try.prog 45 (Try.f14.body.getD .skip) = some M14 := by kernel_rfl

/-- winnowref4.Cost -/
def M15 : MC :=
  (.seq (.reg [.p none 4 (.mv (.const (.int .i64 0))),
      .p none 5 (.mv (.const (.int .i64 0)))])
  (.seq (.seq (.reg [.p none 9 (.mv (.tmp 0)),
      .p none 10 (.len (.tmp 9)),
      .p none 11 (.bin .gtr .i64 (.tmp 10) (.const (.int .i64 256))),
      .p none 12 (.mv (.tmp 11)),
      .split 12,
      .p (some (12, false)) 13 (.mv (.tmp 1)),
      .p (some (12, false)) 14 (.len (.tmp 13)),
      .p (some (12, false)) 15 (.bin .gtr .i64 (.tmp 14) (.const (.int .i64 256))),
      .p none 16 (.pick (.tmp 12) (.const (.bool true)) (.tmp 15))])
  (.cond (.tmp 16)
    (.seq (.reg [.p none 4 (.mv (.const (.int .i64 0))),
        .p none 5 (.mv (.const (.int .i64 2)))])
    .ret)
    .skip))
  (.seq (.seq (.reg [.p none 17 (.mv (.tmp 0)),
      .l none (some 18) (.call 41 [(.tmp 17)]),
      .p none 19 (.not (.tmp 18))])
  (.cond (.tmp 19)
    (.seq (.reg [.p none 4 (.mv (.const (.int .i64 0))),
        .p none 5 (.mv (.const (.int .i64 3)))])
    .ret)
    .skip))
  (.seq (.seq (.reg [.p none 6 (.mv (.const (.int .i64 0)))])
  (.block 0
    (.loop
      (.seq (.seq (.reg [.p none 20 (.mv (.tmp 6)),
          .p none 21 (.mv (.tmp 1)),
          .p none 22 (.len (.tmp 21)),
          .p none 23 (.bin .lss .i64 (.tmp 20) (.tmp 22))])
      (.cond (.tmp 23)
        .skip
        (.exit 0)))
      (.seq (.block 1
        (.seq (.reg [.p none 26 (.mv (.tmp 1)),
            .p none 27 (.mv (.tmp 6)),
            .p none 28 (.idx 1 (.tmp 26) (.tmp 27)),
            .l none (some 29) (.ld none (.tmp 28)),
            .p none 30 (.bin .lss .i64 (.tmp 29) (.const (.int .i64 0))),
            .p none 31 (.mv (.tmp 30)),
            .split 31,
            .p (some (31, false)) 32 (.mv (.tmp 1)),
            .p (some (31, false)) 33 (.mv (.tmp 6)),
            .p (some (31, false)) 34 (.idx 1 (.tmp 32) (.tmp 33)),
            .l (some (31, false)) (some 35) (.ld none (.tmp 34)),
            .p (some (31, false)) 36 (.bin .gtr .i64 (.tmp 35) (.const (.int .i64 15))),
            .p none 37 (.pick (.tmp 31) (.const (.bool true)) (.tmp 36))])
        (.cond (.tmp 37)
          (.seq (.reg [.p none 4 (.mv (.const (.int .i64 0))),
              .p none 5 (.mv (.const (.int .i64 3)))])
          .ret)
          .skip)))
      (.reg [.p none 24 (.mv (.tmp 6)),
          .p none 25 (.bin .add .i64 (.tmp 24) (.const (.int .i64 1))),
          .p none 6 (.mv (.tmp 25))]))))))
  (.seq (.reg [.p none 7 (.mv (.const (.int .i64 0)))])
  (.seq (.seq (.reg [.p none 8 (.mv (.const (.int .i64 0)))])
  (.block 2
    (.loop
      (.seq (.seq (.reg [.p none 38 (.mv (.tmp 8)),
          .p none 39 (.mv (.tmp 0)),
          .p none 40 (.len (.tmp 39)),
          .p none 41 (.bin .lss .i64 (.tmp 38) (.tmp 40)),
          .p none 42 (.mv (.tmp 41)),
          .split 42,
          .p (some (42, true)) 43 (.mv (.tmp 8)),
          .p (some (42, true)) 44 (.mv (.tmp 1)),
          .p (some (42, true)) 45 (.len (.tmp 44)),
          .p (some (42, true)) 46 (.bin .lss .i64 (.tmp 43) (.tmp 45)),
          .p none 47 (.pick (.tmp 42) (.tmp 46) (.const (.bool false)))])
      (.cond (.tmp 47)
        .skip
        (.exit 2)))
      (.seq (.block 3
        (.dreg (.line [.qp 0 none 50 (.mv (.tmp 7)),
            .qp 1 none 51 (.mv (.tmp 0)),
            .qp 2 none 52 (.mv (.tmp 8)),
            .qp 3 none 53 (.idx 1 (.tmp 51) (.tmp 52)),
            .qp 5 none 55 (.mv (.tmp 1)),
            .qp 6 none 56 (.mv (.tmp 8)),
            .qp 7 none 57 (.idx 1 (.tmp 55) (.tmp 56)),
            .ql 8 none 58 none (.tmp 57),
            .l 4 none (some 54) (.ld none (.tmp 53)),
            .qp 9 none 59 (.bin .mul .i64 (.tmp 54) (.tmp 58)),
            .qp 10 none 60 (.bin .add .i64 (.tmp 50) (.tmp 59)),
            .qp 11 none 7 (.mv (.tmp 60))])))
      (.reg [.p none 48 (.mv (.tmp 8)),
          .p none 49 (.bin .add .i64 (.tmp 48) (.const (.int .i64 1))),
          .p none 8 (.mv (.tmp 49))]))))))
  (.seq (.reg [.p none 61 (.mv (.tmp 7)),
      .p none 4 (.mv (.tmp 61)),
      .p none 5 (.mv (.const (.int .i64 0)))])
  .ret)))))))
theorem C15 : compile Try.prog 62 (Try.f15.body.getD .skip) = some M15 := by kernel_rfl

/-- winnowlaw4.keptCounts -/
def M16 : MC :=
  (.seq (.reg [.p none 4 (.mv (.const (.bool false)))])
  (.seq (.reg [.p none 7 (.mv (.tmp 1)),
      .l none (some 8) (.call 12 [(.tmp 7)]),
      .p none 5 (.mv (.tmp 8))])
  (.seq (.seq (.reg [.p none 6 (.mv (.const (.int .i64 0)))])
  (.block 0
    (.loop
      (.seq (.seq (.reg [.p none 9 (.mv (.tmp 6)),
          .p none 10 (.mv (.tmp 5)),
          .p none 11 (.len (.tmp 10)),
          .p none 12 (.bin .lss .i64 (.tmp 9) (.tmp 11))])
      (.cond (.tmp 12)
        .skip
        (.exit 0)))
      (.seq (.block 1
        (.seq (.dreg (.line [.qp 0 none 15 (.mv (.tmp 0)),
            .qp 1 none 16 (.mv (.tmp 6)),
            .qp 2 none 17 (.idx 1 (.tmp 15) (.tmp 16)),
            .qp 4 none 19 (.mv (.tmp 5)),
            .qp 5 none 20 (.mv (.tmp 6)),
            .qp 6 none 21 (.idx 1 (.tmp 19) (.tmp 20)),
            .ql 7 none 22 none (.tmp 21),
            .l 3 none (some 18) (.ld none (.tmp 17)),
            .qp 8 none 23 (.bin .neq .i64 (.tmp 18) (.tmp 22))]))
        (.cond (.tmp 23)
          (.seq (.reg [.p none 4 (.mv (.const (.bool false)))])
          .ret)
          .skip)))
      (.reg [.p none 13 (.mv (.tmp 6)),
          .p none 14 (.bin .add .i64 (.tmp 13) (.const (.int .i64 1))),
          .p none 6 (.mv (.tmp 14))]))))))
  (.seq (.reg [.p none 24 (.mv (.tmp 0)),
      .p none 25 (.len (.tmp 24)),
      .p none 26 (.mv (.tmp 5)),
      .p none 27 (.len (.tmp 26)),
      .p none 28 (.bin .eql .i64 (.tmp 25) (.tmp 27)),
      .p none 4 (.mv (.tmp 28))])
  .ret))))
theorem C16 : compile Try.prog 29 (Try.f16.body.getD .skip) = some M16 := by kernel_rfl

/-- winnowlaw4.keptInts -/
def M17 : MC :=
  (.seq (.reg [.p none 4 (.mv (.const (.bool false)))])
  (.seq (.reg [.p none 5 (.mv (.tmp 0)),
      .p none 6 (.mv (.tmp 1)),
      .l none (some 7) (.call 13 [(.tmp 6)]),
      .l none (some 8) (.call 30 [(.tmp 5), (.tmp 7)]),
      .p none 4 (.mv (.tmp 8))])
  .ret))
theorem C17 : compile Try.prog 9 (Try.f17.body.getD .skip) = some M17 := by kernel_rfl

/-- winnowlaw4.backCounts -/
def M18 : MC :=
  (.seq (.reg [.p none 2 (.mv (.const (.slice none 0 0)))])
  (.seq (.seq (.reg [.p none 6 (.mv (.tmp 0)),
      .p none 7 (.len (.tmp 6)),
      .p none 8 (.bin .sub .i64 (.tmp 7) (.const (.int .i64 1))),
      .p none 3 (.mv (.const (.int .i64 0))),
      .p none 4 (.mv (.tmp 8))])
  (.block 0
    (.loop
      (.seq (.seq (.reg [.p none 9 (.mv (.tmp 3)),
          .p none 10 (.mv (.tmp 4)),
          .p none 11 (.bin .lss .i64 (.tmp 9) (.tmp 10))])
      (.cond (.tmp 11)
        .skip
        (.exit 0)))
      (.seq (.block 1
        (.seq (.reg [.p none 16 (.mv (.tmp 0)),
            .p none 17 (.mv (.tmp 3)),
            .p none 18 (.idx 1 (.tmp 16) (.tmp 17)),
            .l none (some 19) (.ld none (.tmp 18)),
            .p none 5 (.mv (.tmp 19))])
        (.seq (.reg [.p none 20 (.mv (.tmp 0)),
            .p none 21 (.mv (.tmp 3)),
            .p none 22 (.mv (.tmp 0)),
            .p none 23 (.mv (.tmp 4)),
            .p none 24 (.idx 1 (.tmp 22) (.tmp 23)),
            .l none (some 25) (.ld none (.tmp 24)),
            .p none 26 (.idx 1 (.tmp 20) (.tmp 21)),
            .l none none (.st 1 (.tmp 26) (.tmp 25))])
        (.reg [.p none 27 (.mv (.tmp 0)),
            .p none 28 (.mv (.tmp 4)),
            .p none 29 (.mv (.tmp 5)),
            .p none 30 (.idx 1 (.tmp 27) (.tmp 28)),
            .l none none (.st 1 (.tmp 30) (.tmp 29))]))))
      (.reg [.p none 12 (.mv (.tmp 3)),
          .p none 13 (.bin .add .i64 (.tmp 12) (.const (.int .i64 1))),
          .p none 14 (.mv (.tmp 4)),
          .p none 15 (.bin .sub .i64 (.tmp 14) (.const (.int .i64 1))),
          .p none 3 (.mv (.tmp 13)),
          .p none 4 (.mv (.tmp 15))]))))))
  (.seq (.reg [.p none 31 (.mv (.tmp 0)),
      .p none 2 (.mv (.tmp 31))])
  .ret)))
theorem C18 : compile Try.prog 32 (Try.f18.body.getD .skip) = some M18 := by kernel_rfl

/-- winnowlaw4.backInts -/
def M19 : MC :=
  (.seq (.reg [.p none 2 (.mv (.const (.slice none 0 0)))])
  (.seq (.seq (.reg [.p none 6 (.mv (.tmp 0)),
      .p none 7 (.len (.tmp 6)),
      .p none 8 (.bin .sub .i64 (.tmp 7) (.const (.int .i64 1))),
      .p none 3 (.mv (.const (.int .i64 0))),
      .p none 4 (.mv (.tmp 8))])
  (.block 0
    (.loop
      (.seq (.seq (.reg [.p none 9 (.mv (.tmp 3)),
          .p none 10 (.mv (.tmp 4)),
          .p none 11 (.bin .lss .i64 (.tmp 9) (.tmp 10))])
      (.cond (.tmp 11)
        .skip
        (.exit 0)))
      (.seq (.block 1
        (.seq (.reg [.p none 16 (.mv (.tmp 0)),
            .p none 17 (.mv (.tmp 3)),
            .p none 18 (.idx 1 (.tmp 16) (.tmp 17)),
            .l none (some 19) (.ld none (.tmp 18)),
            .p none 5 (.mv (.tmp 19))])
        (.seq (.reg [.p none 20 (.mv (.tmp 0)),
            .p none 21 (.mv (.tmp 3)),
            .p none 22 (.mv (.tmp 0)),
            .p none 23 (.mv (.tmp 4)),
            .p none 24 (.idx 1 (.tmp 22) (.tmp 23)),
            .l none (some 25) (.ld none (.tmp 24)),
            .p none 26 (.idx 1 (.tmp 20) (.tmp 21)),
            .l none none (.st 1 (.tmp 26) (.tmp 25))])
        (.reg [.p none 27 (.mv (.tmp 0)),
            .p none 28 (.mv (.tmp 4)),
            .p none 29 (.mv (.tmp 5)),
            .p none 30 (.idx 1 (.tmp 27) (.tmp 28)),
            .l none none (.st 1 (.tmp 30) (.tmp 29))]))))
      (.reg [.p none 12 (.mv (.tmp 3)),
          .p none 13 (.bin .add .i64 (.tmp 12) (.const (.int .i64 1))),
          .p none 14 (.mv (.tmp 4)),
          .p none 15 (.bin .sub .i64 (.tmp 14) (.const (.int .i64 1))),
          .p none 3 (.mv (.tmp 13)),
          .p none 4 (.mv (.tmp 15))]))))))
  (.seq (.reg [.p none 31 (.mv (.tmp 0)),
      .p none 2 (.mv (.tmp 31))])
  .ret)))
theorem C19 : compile Try.prog 32 (Try.f19.body.getD .skip) = some M19 := by kernel_rfl

/-- winnowlaw4.sameInts -/
def M30 : MC :=
  (.seq (.reg [.p none 4 (.mv (.const (.bool false)))])
  (.seq (.seq (.reg [.p none 6 (.mv (.tmp 0)),
      .p none 7 (.len (.tmp 6)),
      .p none 8 (.mv (.tmp 1)),
      .p none 9 (.len (.tmp 8)),
      .p none 10 (.bin .neq .i64 (.tmp 7) (.tmp 9))])
  (.cond (.tmp 10)
    (.seq (.reg [.p none 4 (.mv (.const (.bool false)))])
    .ret)
    .skip))
  (.seq (.seq (.reg [.p none 5 (.mv (.const (.int .i64 0)))])
  (.block 0
    (.loop
      (.seq (.seq (.reg [.p none 11 (.mv (.tmp 5)),
          .p none 12 (.mv (.tmp 0)),
          .p none 13 (.len (.tmp 12)),
          .p none 14 (.bin .lss .i64 (.tmp 11) (.tmp 13))])
      (.cond (.tmp 14)
        .skip
        (.exit 0)))
      (.seq (.block 1
        (.seq (.dreg (.line [.qp 0 none 17 (.mv (.tmp 0)),
            .qp 1 none 18 (.mv (.tmp 5)),
            .qp 2 none 19 (.idx 1 (.tmp 17) (.tmp 18)),
            .qp 4 none 21 (.mv (.tmp 1)),
            .qp 5 none 22 (.mv (.tmp 5)),
            .qp 6 none 23 (.idx 1 (.tmp 21) (.tmp 22)),
            .ql 7 none 24 none (.tmp 23),
            .l 3 none (some 20) (.ld none (.tmp 19)),
            .qp 8 none 25 (.bin .neq .i64 (.tmp 20) (.tmp 24))]))
        (.cond (.tmp 25)
          (.seq (.reg [.p none 4 (.mv (.const (.bool false)))])
          .ret)
          .skip)))
      (.reg [.p none 15 (.mv (.tmp 5)),
          .p none 16 (.bin .add .i64 (.tmp 15) (.const (.int .i64 1))),
          .p none 5 (.mv (.tmp 16))]))))))
  (.seq (.reg [.p none 4 (.mv (.const (.bool true)))])
  .ret))))
theorem C30 : compile Try.prog 26 (Try.f30.body.getD .skip) = some M30 := by kernel_rfl

/-- huff.wrong -/
def M39 : MC :=
  (.seq (.reg [.p none 2 (.mv (.const (.int .i64 0)))])
  (.seq (.seq (.reg [.p none 5 (.mv (.tmp 0)),
      .p none 6 (.len (.tmp 5)),
      .p none 7 (.mv (.const (.int .i64 0)))])
  (.block 0
    (.loop
      (.seq (.reg [.p none 8 (.bin .lss .i64 (.tmp 7) (.tmp 6))])
      (.seq (.cond (.tmp 8)
        .skip
        (.exit 0))
      (.seq (.block 1
        (.seq (.reg [.p none 9 (.idx 1 (.tmp 5) (.tmp 7)),
            .l none (some 10) (.ld none (.tmp 9)),
            .p none 4 (.mv (.tmp 10))])
        (.seq (.reg [.p none 11 (.mv (.tmp 4)),
            .p none 12 (.bin .lss .i64 (.tmp 11) (.const (.int .i64 0))),
            .p none 13 (.mv (.tmp 12)),
            .split 13,
            .p (some (13, false)) 14 (.mv (.tmp 4)),
            .p (some (13, false)) 15 (.bin .gtr .i64 (.tmp 14) (.const (.int .i64 1099511627776))),
            .p none 16 (.pick (.tmp 13) (.const (.bool true)) (.tmp 15))])
        (.cond (.tmp 16)
          (.seq (.reg [.p none 2 (.mv (.const (.int .i64 3)))])
          .ret)
          .skip))))
      (.reg [.p none 17 (.bin .add .i64 (.tmp 7) (.const (.int .i64 1))),
          .p none 7 (.mv (.tmp 17))])))))))
  (.seq (.reg [.p none 2 (.mv (.const (.int .i64 0)))])
  .ret)))
theorem C39 : compile Try.prog 18 (Try.f39.body.getD .skip) = some M39 := by kernel_rfl

/-- huff.inside -/
def M40 : MC :=
  (.seq (.reg [.p none 2 (.mv (.const (.bool false)))])
  (.seq (.seq (.reg [.p none 5 (.mv (.tmp 0)),
      .p none 6 (.len (.tmp 5)),
      .p none 7 (.mv (.const (.int .i64 0)))])
  (.block 0
    (.loop
      (.seq (.reg [.p none 8 (.bin .lss .i64 (.tmp 7) (.tmp 6))])
      (.seq (.cond (.tmp 8)
        .skip
        (.exit 0))
      (.seq (.block 1
        (.seq (.reg [.p none 9 (.idx 1 (.tmp 5) (.tmp 7)),
            .l none (some 10) (.ld none (.tmp 9)),
            .p none 4 (.mv (.tmp 10))])
        (.seq (.reg [.p none 11 (.mv (.tmp 4)),
            .p none 12 (.bin .lss .i64 (.tmp 11) (.const (.int .i64 0))),
            .p none 13 (.mv (.tmp 12)),
            .split 13,
            .p (some (13, false)) 14 (.mv (.tmp 4)),
            .p (some (13, false)) 15 (.bin .gtr .i64 (.tmp 14) (.const (.int .i64 15))),
            .p none 16 (.pick (.tmp 13) (.const (.bool true)) (.tmp 15))])
        (.cond (.tmp 16)
          (.seq (.reg [.p none 2 (.mv (.const (.bool false)))])
          .ret)
          .skip))))
      (.reg [.p none 17 (.bin .add .i64 (.tmp 7) (.const (.int .i64 1))),
          .p none 7 (.mv (.tmp 17))])))))))
  (.seq (.reg [.p none 2 (.mv (.const (.bool true)))])
  .ret)))
theorem C40 : compile Try.prog 18 (Try.f40.body.getD .skip) = some M40 := by kernel_rfl

/-- winnowref4.allCounts -/
def M41 : MC :=
  (.seq (.reg [.p none 2 (.mv (.const (.bool false)))])
  (.seq (.seq (.reg [.p none 3 (.mv (.const (.int .i64 0)))])
  (.block 0
    (.loop
      (.seq (.seq (.reg [.p none 4 (.mv (.tmp 3)),
          .p none 5 (.mv (.tmp 0)),
          .p none 6 (.len (.tmp 5)),
          .p none 7 (.bin .lss .i64 (.tmp 4) (.tmp 6))])
      (.cond (.tmp 7)
        .skip
        (.exit 0)))
      (.seq (.block 1
        (.seq (.reg [.p none 10 (.mv (.tmp 0)),
            .p none 11 (.mv (.tmp 3)),
            .p none 12 (.idx 1 (.tmp 10) (.tmp 11)),
            .l none (some 13) (.ld none (.tmp 12)),
            .p none 14 (.bin .lss .i64 (.tmp 13) (.const (.int .i64 0))),
            .p none 15 (.mv (.tmp 14)),
            .split 15,
            .p (some (15, false)) 16 (.mv (.tmp 0)),
            .p (some (15, false)) 17 (.mv (.tmp 3)),
            .p (some (15, false)) 18 (.idx 1 (.tmp 16) (.tmp 17)),
            .l (some (15, false)) (some 19) (.ld none (.tmp 18)),
            .p (some (15, false)) 20 (.bin .gtr .i64 (.tmp 19) (.const (.int .i64 1099511627776))),
            .p none 21 (.pick (.tmp 15) (.const (.bool true)) (.tmp 20))])
        (.cond (.tmp 21)
          (.seq (.reg [.p none 2 (.mv (.const (.bool false)))])
          .ret)
          .skip)))
      (.reg [.p none 8 (.mv (.tmp 3)),
          .p none 9 (.bin .add .i64 (.tmp 8) (.const (.int .i64 1))),
          .p none 3 (.mv (.tmp 9))]))))))
  (.seq (.reg [.p none 2 (.mv (.const (.bool true)))])
  .ret)))
theorem C41 : compile Try.prog 22 (Try.f41.body.getD .skip) = some M41 := by kernel_rfl
end Go.Proofs.Ytojnkjnebejodaa.E
