/- The intermediate code of the functions that are walked here, each with the proof that it is the translation of the model's code. -/
import Derived.Test.YtojnkjnebejodaaE6
import Derived.KernelRfl
namespace Go.Proofs.Ytojnkjnebejodaa.E
open Go


/-- winnowlaw4.HuffCodes -/
def M4 : MC :=
  (.seq (.reg [.p none 2 (.mv (.const (.bool false)))])
  (.seq (.reg [.p none 16 (.mv (.tmp 0)),
      .l none (some 17) (.call 13 [(.tmp 16)]),
      .p none 3 (.mv (.tmp 17))])
  (.seq (.reg [.p none 19 (.mv (.tmp 3)),
      .p none 20 (.mv (.tmp 0)),
      .p none 21 (.len (.tmp 20)),
      .p none 22 (.slc 1 (.tmp 19) none (some (.tmp 21)) none),
      .l none (some 23) (.call 20 [(.tmp 22)]),
      .p none 18 (.mv (.tmp 23)),
      .p none 24 (.ext 0 (.tmp 18)),
      .p none 25 (.ext 1 (.tmp 18)),
      .p none 4 (.mv (.tmp 24)),
      .p none 5 (.mv (.tmp 25))])
  (.seq (.reg [.p none 27 (.mv (.tmp 3)),
      .p none 28 (.mv (.tmp 0)),
      .p none 29 (.len (.tmp 28)),
      .p none 30 (.slc 1 (.tmp 27) none (some (.tmp 29)) none),
      .l none (some 31) (.call 20 [(.tmp 30)]),
      .p none 26 (.mv (.tmp 31)),
      .p none 32 (.ext 0 (.tmp 26)),
      .p none 33 (.ext 1 (.tmp 26)),
      .p none 6 (.mv (.tmp 32)),
      .p none 7 (.mv (.tmp 33))])
  (.seq (.seq (.reg [.p none 8 (.mv (.const (.int .i64 0)))])
  (.block 0
    (.loop
      (.seq (.seq (.reg [.p none 34 (.mv (.tmp 8)),
          .p none 35 (.mv (.tmp 4)),
          .p none 36 (.len (.tmp 35)),
          .p none 37 (.bin .lss .i64 (.tmp 34) (.tmp 36))])
      (.cond (.tmp 37)
        .skip
        (.exit 0)))
      (.seq (.block 1
        (.reg [.p none 40 (.mv (.tmp 4)),
            .p none 41 (.mv (.tmp 8)),
            .p none 42 (.bld [(.int .i64 0), (.int .u32 0)] [(0, 1, (.const (.int .i64 (-1))))]),
            .p none 43 (.idx 2 (.tmp 40) (.tmp 41)),
            .l none none (.st 2 (.tmp 43) (.tmp 42))]))
      (.reg [.p none 38 (.mv (.tmp 8)),
          .p none 39 (.bin .add .i64 (.tmp 38) (.const (.int .i64 1))),
          .p none 8 (.mv (.tmp 39))]))))))
  (.seq (.seq (.reg [.p none 9 (.mv (.const (.int .i64 0)))])
  (.block 2
    (.loop
      (.seq (.seq (.reg [.p none 44 (.mv (.tmp 9)),
          .p none 45 (.bin .lss .i64 (.tmp 44) (.const (.int .i64 64)))])
      (.cond (.tmp 45)
        .skip
        (.exit 2)))
      (.seq (.block 3
        (.reg [.p none 48 (.mv (.tmp 4)),
            .p none 49 (.bld [(.int .i64 0), (.int .u32 0)] [(0, 1, (.const (.int .i64 (-2))))]),
            .l none (some 50) (.bs 37 1 2 [(.int .i64 0), (.int .u32 0)] [(0, 2, (.tmp 49))]),
            .l none (some 51) (.app 37 16 2 [(.int .i64 0), (.int .u32 0)] (.tmp 48) (.tmp 50)),
            .p none 4 (.mv (.tmp 51))]))
      (.reg [.p none 46 (.mv (.tmp 9)),
          .p none 47 (.bin .add .i64 (.tmp 46) (.const (.int .i64 1))),
          .p none 9 (.mv (.tmp 47))]))))))
  (.seq (.reg [.p none 53 (.mv (.tmp 0)),
      .l none (some 54) (.call 21 [(.tmp 53)]),
      .p none 52 (.mv (.tmp 54)),
      .p none 55 (.ext 0 (.tmp 52)),
      .p none 56 (.ext 1 (.tmp 52)),
      .p none 10 (.mv (.tmp 55)),
      .p none 11 (.mv (.tmp 56))])
  (.seq (.seq (.reg [.p none 57 (.mv (.tmp 5)),
      .p none 58 (.mv (.tmp 11)),
      .p none 59 (.bin .neq .i64 (.tmp 57) (.tmp 58)),
      .p none 60 (.mv (.tmp 59)),
      .split 60,
      .p (some (60, false)) 61 (.mv (.tmp 7)),
      .p (some (60, false)) 62 (.mv (.tmp 11)),
      .p (some (60, false)) 63 (.bin .neq .i64 (.tmp 61) (.tmp 62)),
      .p none 64 (.pick (.tmp 60) (.const (.bool true)) (.tmp 63)),
      .p none 65 (.mv (.tmp 64)),
      .split 65,
      .p (some (65, false)) 66 (.mv (.tmp 6)),
      .p (some (65, false)) 67 (.mv (.tmp 10)),
      .l (some (65, false)) (some 68) (.call 22 [(.tmp 66), (.tmp 67)]),
      .p (some (65, false)) 69 (.not (.tmp 68)),
      .p none 70 (.pick (.tmp 65) (.const (.bool true)) (.tmp 69)),
      .p none 71 (.mv (.tmp 70)),
      .split 71,
      .p (some (71, false)) 72 (.mv (.tmp 4)),
      .p (some (71, false)) 73 (.len (.tmp 72)),
      .p (some (71, false)) 74 (.mv (.tmp 6)),
      .p (some (71, false)) 75 (.len (.tmp 74)),
      .p (some (71, false)) 76 (.bin .add .i64 (.tmp 75) (.const (.int .i64 64))),
      .p (some (71, false)) 77 (.bin .neq .i64 (.tmp 73) (.tmp 76)),
      .p none 78 (.pick (.tmp 71) (.const (.bool true)) (.tmp 77)),
      .p none 79 (.mv (.tmp 78)),
      .split 79,
      .p (some (79, false)) 80 (.mv (.tmp 3)),
      .p (some (79, false)) 81 (.mv (.tmp 0)),
      .l (some (79, false)) (some 82) (.call 17 [(.tmp 80), (.tmp 81)]),
      .p (some (79, false)) 83 (.not (.tmp 82)),
      .p none 84 (.pick (.tmp 79) (.const (.bool true)) (.tmp 83))])
  (.cond (.tmp 84)
    (.seq (.reg [.p none 2 (.mv (.const (.bool false)))])
    .ret)
    .skip))
  (.seq (.reg [.p none 86 (.mv (.tmp 3)),
      .p none 87 (.mv (.tmp 0)),
      .p none 88 (.len (.tmp 87)),
      .p none 89 (.slc 1 (.tmp 86) none (some (.tmp 88)) none),
      .l none (some 90) (.call 19 [(.tmp 89)]),
      .l none (some 91) (.call 20 [(.tmp 90)]),
      .p none 85 (.mv (.tmp 91)),
      .p none 92 (.ext 0 (.tmp 85)),
      .p none 93 (.ext 1 (.tmp 85)),
      .p none 12 (.mv (.tmp 92)),
      .p none 13 (.mv (.tmp 93))])
  (.seq (.reg [.p none 95 (.mv (.tmp 0)),
      .l none (some 96) (.call 13 [(.tmp 95)]),
      .p none 97 (.mv (.tmp 0)),
      .p none 98 (.len (.tmp 97)),
      .p none 99 (.slc 1 (.tmp 96) none (some (.tmp 98)) none),
      .l none (some 100) (.call 19 [(.tmp 99)]),
      .l none (some 101) (.call 21 [(.tmp 100)]),
      .p none 94 (.mv (.tmp 101)),
      .p none 102 (.ext 0 (.tmp 94)),
      .p none 103 (.ext 1 (.tmp 94)),
      .p none 14 (.mv (.tmp 102)),
      .p none 15 (.mv (.tmp 103))])
  (.seq (.reg [.p none 104 (.mv (.tmp 12)),
      .p none 105 (.mv (.tmp 14)),
      .l none (some 106) (.call 22 [(.tmp 104), (.tmp 105)]),
      .p none 107 (.mv (.tmp 106)),
      .split 107,
      .p (some (107, true)) 108 (.mv (.tmp 13)),
      .p (some (107, true)) 109 (.mv (.tmp 15)),
      .p (some (107, true)) 110 (.bin .eql .i64 (.tmp 108) (.tmp 109)),
      .p none 111 (.pick (.tmp 107) (.tmp 110) (.const (.bool false))),
      .p none 2 (.mv (.tmp 111))])
  .ret)))))))))))
theorem C4 : compile Try.prog 112 (Try.f4.body.getD .skip) = some M4 := by kernel_rfl

/-- huff.Codes -/
def M20 : MC :=
  (.seq (.reg [.p none 2 (.mv (.const (.slice none 0 0))),
      .p none 3 (.mv (.const (.int .i64 0)))])
  (.seq (.seq (.reg [.p none 12 (.mv (.tmp 0)),
      .p none 13 (.len (.tmp 12)),
      .p none 14 (.bin .gtr .i64 (.tmp 13) (.const (.int .i64 256)))])
  (.cond (.tmp 14)
    (.seq (.reg [.p none 2 (.mv (.const (.slice none 0 0))),
        .p none 3 (.mv (.const (.int .i64 2)))])
    .ret)
    .skip))
  (.seq (.seq (.reg [.p none 15 (.mv (.tmp 0)),
      .l none (some 16) (.call 40 [(.tmp 15)]),
      .p none 17 (.not (.tmp 16))])
  (.cond (.tmp 17)
    (.seq (.reg [.p none 2 (.mv (.const (.slice none 0 0))),
        .p none 3 (.mv (.const (.int .i64 3)))])
    .ret)
    .skip))
  (.seq (.reg [.p none 19 (.mv (.tmp 0)),
      .l none (some 20) (.call 42 [(.tmp 19)]),
      .p none 18 (.mv (.tmp 20)),
      .p none 21 (.ext 0 (.tmp 18)),
      .p none 22 (.ext 1 (.tmp 18)),
      .p none 23 (.ext 2 (.tmp 18)),
      .l none (some 5) (.al 61 (List.replicate 16 (.int .i64 0))),
      .p none 4 (.mv (.tmp 21)),
      .l none none (.st 16 (.tmp 5) (.tmp 22)),
      .p none 6 (.mv (.tmp 23))])
  (.seq (.seq (.reg [.p none 24 (.mv (.tmp 6)),
      .p none 25 (.not (.tmp 24))])
  (.cond (.tmp 25)
    (.seq (.reg [.p none 2 (.mv (.const (.slice none 0 0))),
        .p none 3 (.mv (.const (.int .i64 41)))])
    .ret)
    .skip))
  (.seq (.reg [.p none 26 (.mv (.tmp 0)),
      .p none 27 (.len (.tmp 26)),
      .l none (some 28) (.mks 37 16 2 [(.int .i64 0), (.int .u32 0)] (.tmp 27) (.tmp 27)),
      .p none 7 (.mv (.tmp 28))])
  (.seq (.reg [.p none 8 (.mv (.const (.int .u32 0))),
      .p none 9 (.mv (.const (.int .i64 0)))])
  (.seq (.seq (.reg [.p none 29 (.mv (.tmp 4)),
      .p none 30 (.len (.tmp 29)),
      .p none 31 (.mv (.const (.int .i64 0)))])
  (.block 0
    (.loop
      (.seq (.reg [.p none 32 (.bin .lss .i64 (.tmp 31) (.tmp 30))])
      (.seq (.cond (.tmp 32)
        .skip
        (.exit 0))
      (.seq (.block 1
        (.seq (.reg [.p none 33 (.mv (.tmp 31)),
            .p none 34 (.idx 1 (.tmp 29) (.tmp 31)),
            .l none (some 35) (.ld none (.tmp 34)),
            .p none 10 (.mv (.tmp 33)),
            .p none 11 (.mv (.tmp 35))])
        (.seq (.seq (.reg [.p none 36 (.mv (.tmp 10)),
            .p none 37 (.bin .gtr .i64 (.tmp 36) (.const (.int .i64 0)))])
        (.cond (.tmp 37)
          (.reg [.p none 38 (.mv (.tmp 8)),
              .p none 39 (.bin .add .u32 (.tmp 38) (.const (.int .u32 1))),
              .p none 8 (.mv (.tmp 39))])
          .skip))
        (.seq (.reg [.p none 40 (.mv (.tmp 8)),
            .p none 41 (.mv (.tmp 0)),
            .p none 42 (.mv (.tmp 11)),
            .p none 43 (.idx 1 (.tmp 41) (.tmp 42)),
            .l none (some 44) (.ld none (.tmp 43)),
            .p none 45 (.mv (.tmp 9)),
            .p none 46 (.bin .sub .i64 (.tmp 44) (.tmp 45)),
            .p none 47 (.shf .shl (.tmp 40) (.tmp 46)),
            .p none 8 (.mv (.tmp 47))])
        (.seq (.reg [.p none 48 (.mv (.tmp 0)),
            .p none 49 (.mv (.tmp 11)),
            .p none 50 (.idx 1 (.tmp 48) (.tmp 49)),
            .l none (some 51) (.ld none (.tmp 50)),
            .p none 9 (.mv (.tmp 51))])
        (.reg [.p none 52 (.mv (.tmp 7)),
            .p none 53 (.mv (.tmp 11)),
            .p none 54 (.mv (.tmp 9)),
            .p none 55 (.mv (.tmp 8)),
            .p none 56 (.bld [(.int .i64 0), (.int .u32 0)] [(0, 1, (.tmp 54)), (1, 1, (.tmp 55))]),
            .p none 57 (.idx 2 (.tmp 52) (.tmp 53)),
            .l none none (.st 2 (.tmp 57) (.tmp 56))]))))))
      (.reg [.p none 58 (.bin .add .i64 (.tmp 31) (.const (.int .i64 1))),
          .p none 31 (.mv (.tmp 58))])))))))
  (.seq (.reg [.p none 59 (.mv (.tmp 7)),
      .p none 2 (.mv (.tmp 59)),
      .p none 3 (.mv (.const (.int .i64 0)))])
  .ret)))))))))
theorem C20 : compile Try.prog 60 (Try.f20.body.getD .skip) = some M20 := by kernel_rfl

/-- winnowref4.Codes -/
def M21 : MC :=
  (.seq (.reg [.p none 2 (.mv (.const (.slice none 0 0))),
      .p none 3 (.mv (.const (.int .i64 0)))])
  (.seq (.seq (.reg [.p none 9 (.mv (.tmp 0)),
      .p none 10 (.len (.tmp 9)),
      .p none 11 (.bin .gtr .i64 (.tmp 10) (.const (.int .i64 256)))])
  (.cond (.tmp 11)
    (.seq (.reg [.p none 2 (.mv (.const (.slice none 0 0))),
        .p none 3 (.mv (.const (.int .i64 2)))])
    .ret)
    .skip))
  (.seq (.seq (.reg [.p none 4 (.mv (.const (.int .i64 0)))])
  (.block 0
    (.loop
      (.seq (.seq (.reg [.p none 12 (.mv (.tmp 4)),
          .p none 13 (.mv (.tmp 0)),
          .p none 14 (.len (.tmp 13)),
          .p none 15 (.bin .lss .i64 (.tmp 12) (.tmp 14))])
      (.cond (.tmp 15)
        .skip
        (.exit 0)))
      (.seq (.block 1
        (.seq (.reg [.p none 18 (.mv (.tmp 0)),
            .p none 19 (.mv (.tmp 4)),
            .p none 20 (.idx 1 (.tmp 18) (.tmp 19)),
            .l none (some 21) (.ld none (.tmp 20)),
            .p none 22 (.bin .lss .i64 (.tmp 21) (.const (.int .i64 0))),
            .p none 23 (.mv (.tmp 22)),
            .split 23,
            .p (some (23, false)) 24 (.mv (.tmp 0)),
            .p (some (23, false)) 25 (.mv (.tmp 4)),
            .p (some (23, false)) 26 (.idx 1 (.tmp 24) (.tmp 25)),
            .l (some (23, false)) (some 27) (.ld none (.tmp 26)),
            .p (some (23, false)) 28 (.bin .gtr .i64 (.tmp 27) (.const (.int .i64 15))),
            .p none 29 (.pick (.tmp 23) (.const (.bool true)) (.tmp 28))])
        (.cond (.tmp 29)
          (.seq (.reg [.p none 2 (.mv (.const (.slice none 0 0))),
              .p none 3 (.mv (.const (.int .i64 3)))])
          .ret)
          .skip)))
      (.reg [.p none 16 (.mv (.tmp 4)),
          .p none 17 (.bin .add .i64 (.tmp 16) (.const (.int .i64 1))),
          .p none 4 (.mv (.tmp 17))]))))))
  (.seq (.seq (.reg [.p none 30 (.mv (.tmp 0)),
      .l none (some 31) (.call 43 [(.tmp 30)]),
      .p none 32 (.bin .gtr .i64 (.tmp 31) (.const (.int .i64 32768)))])
  (.cond (.tmp 32)
    (.seq (.reg [.p none 2 (.mv (.const (.slice none 0 0))),
        .p none 3 (.mv (.const (.int .i64 41)))])
    .ret)
    .skip))
  (.seq (.reg [.p none 33 (.mv (.tmp 0)),
      .p none 34 (.len (.tmp 33)),
      .l none (some 35) (.mks 37 16 2 [(.int .i64 0), (.int .u32 0)] (.tmp 34) (.tmp 34)),
      .p none 5 (.mv (.tmp 35))])
  (.seq (.reg [.p none 6 (.mv (.const (.int .u32 0)))])
  (.seq (.seq (.reg [.p none 7 (.mv (.const (.int .i64 1)))])
  (.block 2
    (.loop
      (.seq (.seq (.reg [.p none 36 (.mv (.tmp 7)),
          .p none 37 (.bin .leq .i64 (.tmp 36) (.const (.int .i64 15)))])
      (.cond (.tmp 37)
        .skip
        (.exit 2)))
      (.seq (.block 3
        (.seq (.reg [.p none 40 (.mv (.tmp 6)),
            .p none 41 (.bin .mul .u32 (.tmp 40) (.const (.int .u32 2))),
            .p none 6 (.mv (.tmp 41))])
        (.seq (.reg [.p none 8 (.mv (.const (.int .i64 0)))])
        (.block 4
          (.loop
            (.seq (.seq (.reg [.p none 42 (.mv (.tmp 8)),
                .p none 43 (.mv (.tmp 0)),
                .p none 44 (.len (.tmp 43)),
                .p none 45 (.bin .lss .i64 (.tmp 42) (.tmp 44))])
            (.cond (.tmp 45)
              .skip
              (.exit 4)))
            (.seq (.block 5
              (.seq (.reg [.p none 48 (.mv (.tmp 0)),
                  .p none 49 (.mv (.tmp 8)),
                  .p none 50 (.idx 1 (.tmp 48) (.tmp 49)),
                  .l none (some 51) (.ld none (.tmp 50)),
                  .p none 52 (.mv (.tmp 7)),
                  .p none 53 (.bin .eql .i64 (.tmp 51) (.tmp 52))])
              (.cond (.tmp 53)
                (.seq (.reg [.p none 54 (.mv (.tmp 5)),
                    .p none 55 (.mv (.tmp 8)),
                    .p none 56 (.mv (.tmp 7)),
                    .p none 57 (.mv (.tmp 6)),
                    .p none 58 (.bld [(.int .i64 0), (.int .u32 0)] [(0, 1, (.tmp 56)), (1, 1, (.tmp 57))]),
                    .p none 59 (.idx 2 (.tmp 54) (.tmp 55)),
                    .l none none (.st 2 (.tmp 59) (.tmp 58))])
                (.reg [.p none 60 (.mv (.tmp 6)),
                    .p none 61 (.bin .add .u32 (.tmp 60) (.const (.int .u32 1))),
                    .p none 6 (.mv (.tmp 61))]))
                .skip)))
            (.reg [.p none 46 (.mv (.tmp 8)),
                .p none 47 (.bin .add .i64 (.tmp 46) (.const (.int .i64 1))),
                .p none 8 (.mv (.tmp 47))]))))))))
      (.reg [.p none 38 (.mv (.tmp 7)),
          .p none 39 (.bin .add .i64 (.tmp 38) (.const (.int .i64 1))),
          .p none 7 (.mv (.tmp 39))]))))))
  (.seq (.reg [.p none 62 (.mv (.tmp 5)),
      .p none 2 (.mv (.tmp 62)),
      .p none 3 (.mv (.const (.int .i64 0)))])
  .ret))))))))
theorem C21 : compile Try.prog 63 (Try.f21.body.getD .skip) = some M21 := by kernel_rfl

/-- winnowlaw4.sameCodes -/
def M22 : MC :=
  (.seq (.reg [.p none 4 (.mv (.const (.bool false)))])
  (.seq (.seq (.reg [.p none 6 (.mv (.tmp 0)),
      .p none 7 (.len (.tmp 6)),
      .p none 8 (.mv (.tmp 1)),
      .p none 9 (.len (.tmp 8)),
      .p none 10 (.bin .neq .i64 (.tmp 7) (.tmp 9))])
  (.cond (.tmp 10)
    (.seq (.reg [.p none 4 (.mv (.const (.bool false)))])
    .ret)
    .skip))
  (.seq (.seq (.reg [.p none 5 (.mv (.const (.int .i64 0)))])
  (.block 0
    (.loop
      (.seq (.seq (.reg [.p none 11 (.mv (.tmp 5)),
          .p none 12 (.mv (.tmp 0)),
          .p none 13 (.len (.tmp 12)),
          .p none 14 (.bin .lss .i64 (.tmp 11) (.tmp 13))])
      (.cond (.tmp 14)
        .skip
        (.exit 0)))
      (.seq (.block 1
        (.seq (.dreg (.line [.qp 0 none 17 (.mv (.tmp 0)),
            .qp 1 none 18 (.mv (.tmp 5)),
            .qp 2 none 19 (.idx 2 (.tmp 17) (.tmp 18)),
            .qp 4 none 21 (.mv (.tmp 1)),
            .qp 5 none 22 (.mv (.tmp 5)),
            .qp 6 none 23 (.idx 2 (.tmp 21) (.tmp 22)),
            .ql 7 none 24 (some 2) (.tmp 23),
            .l 3 none (some 20) (.ld (some 2) (.tmp 19)),
            .qp 8 none 25 (.aeq true [1, 1] (.tmp 20) (.tmp 24))]))
        (.cond (.tmp 25)
          (.seq (.reg [.p none 4 (.mv (.const (.bool false)))])
          .ret)
          .skip)))
      (.reg [.p none 15 (.mv (.tmp 5)),
          .p none 16 (.bin .add .i64 (.tmp 15) (.const (.int .i64 1))),
          .p none 5 (.mv (.tmp 16))]))))))
  (.seq (.reg [.p none 4 (.mv (.const (.bool true)))])
  .ret))))
theorem C22 : compile Try.prog 26 (Try.f22.body.getD .skip) = some M22 := by kernel_rfl

/-- huff.order -/
def M42 : MC :=
  (.seq (.reg [.p none 2 (.mv (.const (.slice none 0 0))),
      .l none (some 3) (.al 61 (List.replicate 16 (.int .i64 0))),
      .p none 4 (.mv (.const (.bool false)))])
  (.seq (.reg [.p none 5 (.mv (.const (.slice none 0 0)))])
  (.seq (.reg [.l none (some 6) (.al 61 (List.replicate 16 (.int .i64 0)))])
  (.seq (.reg [.p none 7 (.mv (.const (.int .i64 32768)))])
  (.seq (.seq (.reg [.p none 8 (.mv (.const (.int .i64 1)))])
  (.block 0
    (.loop
      (.seq (.seq (.reg [.p none 11 (.mv (.tmp 8)),
          .p none 12 (.bin .leq .i64 (.tmp 11) (.const (.int .i64 15)))])
      (.cond (.tmp 12)
        .skip
        (.exit 0)))
      (.seq (.block 1
        (.seq (.reg [.p none 15 (.mv (.tmp 0)),
            .p none 16 (.len (.tmp 15)),
            .p none 17 (.mv (.const (.int .i64 0)))])
        (.block 2
          (.loop
            (.seq (.reg [.p none 18 (.bin .lss .i64 (.tmp 17) (.tmp 16))])
            (.seq (.cond (.tmp 18)
              .skip
              (.exit 2))
            (.seq (.block 3
              (.seq (.reg [.p none 19 (.mv (.tmp 17)),
                  .p none 20 (.idx 1 (.tmp 15) (.tmp 17)),
                  .l none (some 21) (.ld none (.tmp 20)),
                  .p none 9 (.mv (.tmp 19)),
                  .p none 10 (.mv (.tmp 21))])
              (.seq (.reg [.p none 22 (.mv (.tmp 10)),
                  .p none 23 (.mv (.tmp 8)),
                  .p none 24 (.bin .eql .i64 (.tmp 22) (.tmp 23))])
              (.cond (.tmp 24)
                (.seq (.reg [.p none 25 (.mv (.tmp 5)),
                    .p none 26 (.mv (.tmp 9)),
                    .l none (some 27) (.bs 3 1 1 [(.int .i64 0)] [(0, 1, (.tmp 26))]),
                    .l none (some 28) (.app 3 8 1 [(.int .i64 0)] (.tmp 25) (.tmp 27)),
                    .p none 5 (.mv (.tmp 28))])
                (.seq (.reg [.p none 29 (.mv (.tmp 8)),
                    .p none 30 (.idxa 16 1 (.tmp 6) (.tmp 29)),
                    .l none (some 31) (.ld none (.tmp 30)),
                    .p none 32 (.bin .add .i64 (.tmp 31) (.const (.int .i64 1))),
                    .p none 33 (.idxa 16 1 (.tmp 6) (.tmp 29)),
                    .l none none (.st 1 (.tmp 33) (.tmp 32))])
                (.reg [.p none 34 (.mv (.tmp 7)),
                    .p none 35 (.mv (.tmp 8)),
                    .p none 36 (.bin .sub .i64 (.const (.int .i64 15)) (.tmp 35)),
                    .p none 37 (.shf .shl (.const (.int .i64 1)) (.tmp 36)),
                    .p none 38 (.bin .sub .i64 (.tmp 34) (.tmp 37)),
                    .p none 7 (.mv (.tmp 38))])))
                .skip))))
            (.reg [.p none 39 (.bin .add .i64 (.tmp 17) (.const (.int .i64 1))),
                .p none 17 (.mv (.tmp 39))]))))))))
      (.reg [.p none 13 (.mv (.tmp 8)),
          .p none 14 (.bin .add .i64 (.tmp 13) (.const (.int .i64 1))),
          .p none 8 (.mv (.tmp 14))]))))))
  (.seq (.dreg (.line [.qp 0 none 40 (.mv (.tmp 5)),
      .qp 2 none 42 (.mv (.tmp 7)),
      .qp 3 none 43 (.bin .geq .i64 (.tmp 42) (.const (.int .i64 0))),
      .qp 4 none 2 (.mv (.tmp 40)),
      .l 1 none (some 41) (.ld (some 16) (.tmp 6)),
      .l 5 none none (.st 16 (.tmp 3) (.tmp 41)),
      .qp 6 none 4 (.mv (.tmp 43))]))
  .ret))))))
theorem C42 : compile Try.prog 44 (Try.f42.body.getD .skip) = some M42 := by kernel_rfl

/-- winnowref4.Kraft -/
def M43 : MC :=
  (.seq (.reg [.p none 2 (.mv (.const (.int .i64 0)))])
  (.seq (.reg [.p none 3 (.mv (.const (.int .i64 0)))])
  (.seq (.seq (.reg [.p none 4 (.mv (.const (.int .i64 0)))])
  (.block 0
    (.loop
      (.seq (.seq (.reg [.p none 5 (.mv (.tmp 4)),
          .p none 6 (.mv (.tmp 0)),
          .p none 7 (.len (.tmp 6)),
          .p none 8 (.bin .lss .i64 (.tmp 5) (.tmp 7))])
      (.cond (.tmp 8)
        .skip
        (.exit 0)))
      (.seq (.block 1
        (.seq (.reg [.p none 11 (.mv (.tmp 0)),
            .p none 12 (.mv (.tmp 4)),
            .p none 13 (.idx 1 (.tmp 11) (.tmp 12)),
            .l none (some 14) (.ld none (.tmp 13)),
            .p none 15 (.bin .gtr .i64 (.tmp 14) (.const (.int .i64 0)))])
        (.cond (.tmp 15)
          (.reg [.p none 16 (.mv (.tmp 3)),
              .p none 17 (.mv (.tmp 0)),
              .p none 18 (.mv (.tmp 4)),
              .p none 19 (.idx 1 (.tmp 17) (.tmp 18)),
              .l none (some 20) (.ld none (.tmp 19)),
              .p none 21 (.bin .sub .i64 (.const (.int .i64 15)) (.tmp 20)),
              .p none 22 (.shf .shl (.const (.int .i64 1)) (.tmp 21)),
              .p none 23 (.bin .add .i64 (.tmp 16) (.tmp 22)),
              .p none 3 (.mv (.tmp 23))])
          .skip)))
      (.reg [.p none 9 (.mv (.tmp 4)),
          .p none 10 (.bin .add .i64 (.tmp 9) (.const (.int .i64 1))),
          .p none 4 (.mv (.tmp 10))]))))))
  (.seq (.reg [.p none 24 (.mv (.tmp 3)),
      .p none 2 (.mv (.tmp 24))])
  .ret))))
theorem C43 : compile Try.prog 25 (Try.f43.body.getD .skip) = some M43 := by kernel_rfl
end Go.Proofs.Ytojnkjnebejodaa.E
