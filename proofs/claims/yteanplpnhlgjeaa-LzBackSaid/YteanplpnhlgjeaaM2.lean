/- The intermediate code of the functions that are walked here, each with the proof that it is the translation of the model's code. -/
import Derived.Test.YteanplpnhlgjeaaE6
import Derived.KernelRfl
namespace Go.Proofs.Yteanplpnhlgjeaa.E
open Go


/-- winnowlaw3.LzEncodes -/
noncomputable def M5 : MC :=
  (.seq (.reg [.p none 2 (.mv (.const (.bool false)))])
  (.seq (.reg [.p none 19 (.mv (.tmp 0)),
      .l none (some 20) (.call 22 [(.tmp 19)]),
      .p none 18 (.mv (.tmp 20)),
      .p none 21 (.ext 0 (.tmp 18)),
      .p none 22 (.ext 1 (.tmp 18)),
      .p none 3 (.mv (.tmp 21)),
      .p none 4 (.mv (.tmp 22))])
  (.seq (.reg [.p none 23 (.mv (.tmp 0)),
      .l none (some 24) (.call 23 [(.tmp 23)]),
      .p none 5 (.mv (.tmp 24))])
  (.seq (.reg [.p none 26 (.mv (.tmp 5)),
      .l none (some 27) (.call 24 [(.tmp 26)]),
      .p none 25 (.mv (.tmp 27)),
      .p none 28 (.ext 0 (.tmp 25)),
      .p none 29 (.ext 1 (.tmp 25)),
      .p none 6 (.mv (.tmp 28)),
      .p none 7 (.mv (.tmp 29))])
  (.seq (.reg [.p none 31 (.mv (.tmp 5)),
      .l none (some 32) (.call 24 [(.tmp 31)]),
      .p none 30 (.mv (.tmp 32)),
      .p none 33 (.ext 0 (.tmp 30)),
      .p none 34 (.ext 1 (.tmp 30)),
      .p none 8 (.mv (.tmp 33)),
      .p none 9 (.mv (.tmp 34))])
  (.seq (.reg [.l none (some 35) (.bs 5 50 1 (List.replicate 50 (.int .u8 0)) [(0, 1, (.const (.int .u8 97))), (1, 1, (.const (.int .u8 110))), (2, 1, (.const (.int .u8 111))), (3, 1, (.const (.int .u8 116))), (4, 1, (.const (.int .u8 104))), (5, 1, (.const (.int .u8 101))), (6, 1, (.const (.int .u8 114))), (7, 1, (.const (.int .u8 32))), (8, 1, (.const (.int .u8 113))), (9, 1, (.const (.int .u8 117))), (10, 1, (.const (.int .u8 101))), (11, 1, (.const (.int .u8 115))), (12, 1, (.const (.int .u8 116))), (13, 1, (.const (.int .u8 105))), (14, 1, (.const (.int .u8 111))), (15, 1, (.const (.int .u8 110))), (16, 1, (.const (.int .u8 44))), (17, 1, (.const (.int .u8 32))), (18, 1, (.const (.int .u8 97))), (19, 1, (.const (.int .u8 110))), (20, 1, (.const (.int .u8 111))), (21, 1, (.const (.int .u8 116))), (22, 1, (.const (.int .u8 104))), (23, 1, (.const (.int .u8 101))), (24, 1, (.const (.int .u8 114))), (25, 1, (.const (.int .u8 32))), (26, 1, (.const (.int .u8 97))), (27, 1, (.const (.int .u8 110))), (28, 1, (.const (.int .u8 115))), (29, 1, (.const (.int .u8 119))), (30, 1, (.const (.int .u8 101))), (31, 1, (.const (.int .u8 114))), (32, 1, (.const (.int .u8 44))), (33, 1, (.const (.int .u8 32))), (34, 1, (.const (.int .u8 97))), (35, 1, (.const (.int .u8 110))), (36, 1, (.const (.int .u8 111))), (37, 1, (.const (.int .u8 116))), (38, 1, (.const (.int .u8 104))), (39, 1, (.const (.int .u8 101))), (40, 1, (.const (.int .u8 114))), (41, 1, (.const (.int .u8 32))), (42, 1, (.const (.int .u8 113))), (43, 1, (.const (.int .u8 117))), (44, 1, (.const (.int .u8 101))), (45, 1, (.const (.int .u8 115))), (46, 1, (.const (.int .u8 116))), (47, 1, (.const (.int .u8 105))), (48, 1, (.const (.int .u8 111))), (49, 1, (.const (.int .u8 110)))]),
      .l none (some 36) (.raw (.convert 25 25 (.tmp 35))),
      .l none (some 37) (.call 24 [(.tmp 36)])])
  (.seq (.reg [.p none 38 (.mv (.tmp 7)),
      .p none 39 (.mv (.tmp 4)),
      .p none 40 (.bin .eql .i64 (.tmp 38) (.tmp 39)),
      .p none 41 (.mv (.tmp 40)),
      .split 41,
      .p (some (41, true)) 42 (.mv (.tmp 9)),
      .p (some (41, true)) 43 (.mv (.tmp 4)),
      .p (some (41, true)) 44 (.bin .eql .i64 (.tmp 42) (.tmp 43)),
      .p none 45 (.pick (.tmp 41) (.tmp 44) (.const (.bool false))),
      .p none 46 (.mv (.tmp 45)),
      .split 46,
      .p (some (46, true)) 47 (.mv (.tmp 6)),
      .p (some (46, true)) 48 (.mv (.tmp 3)),
      .l (some (46, true)) (some 49) (.call 18 [(.tmp 47), (.tmp 48)]),
      .p none 50 (.pick (.tmp 46) (.tmp 49) (.const (.bool false))),
      .p none 51 (.mv (.tmp 50)),
      .split 51,
      .p (some (51, true)) 52 (.mv (.tmp 8)),
      .p (some (51, true)) 53 (.mv (.tmp 3)),
      .l (some (51, true)) (some 54) (.call 18 [(.tmp 52), (.tmp 53)]),
      .p none 55 (.pick (.tmp 51) (.tmp 54) (.const (.bool false))),
      .p none 56 (.mv (.tmp 55)),
      .split 56,
      .p (some (56, true)) 57 (.mv (.tmp 5)),
      .p (some (56, true)) 58 (.mv (.tmp 0)),
      .l (some (56, true)) (some 59) (.call 21 [(.tmp 57), (.tmp 58)]),
      .p none 60 (.pick (.tmp 56) (.tmp 59) (.const (.bool false))),
      .p none 10 (.mv (.tmp 60))])
  (.seq (.seq (.reg [.p none 11 (.mv (.const (.int .i64 0)))])
  (.block 0
    (.loop
      (.seq (.seq (.reg [.p none 61 (.mv (.tmp 11)),
          .p none 62 (.mv (.tmp 6)),
          .p none 63 (.len (.tmp 62)),
          .p none 64 (.bin .lss .i64 (.tmp 61) (.tmp 63))])
      (.cond (.tmp 64)
        .skip
        (.exit 0)))
      (.seq (.block 1
        (.reg [.p none 67 (.mv (.tmp 6)),
            .p none 68 (.mv (.tmp 11)),
            .p none 69 (.idx 1 (.tmp 67) (.tmp 68)),
            .l none none (.st 1 (.tmp 69) (.const (.int .u8 7)))]))
      (.reg [.p none 65 (.mv (.tmp 11)),
          .p none 66 (.bin .add .i64 (.tmp 65) (.const (.int .i64 1))),
          .p none 11 (.mv (.tmp 66))]))))))
  (.seq (.seq (.reg [.p none 12 (.mv (.const (.int .i64 0)))])
  (.block 2
    (.loop
      (.seq (.seq (.reg [.p none 70 (.mv (.tmp 12)),
          .p none 71 (.bin .lss .i64 (.tmp 70) (.const (.int .i64 64)))])
      (.cond (.tmp 71)
        .skip
        (.exit 2)))
      (.seq (.block 3
        (.reg [.p none 74 (.mv (.tmp 6)),
            .l none (some 75) (.bs 5 1 1 [(.int .u8 0)] [(0, 1, (.const (.int .u8 8)))]),
            .l none (some 76) (.app 5 1 1 [(.int .u8 0)] (.tmp 74) (.tmp 75)),
            .p none 6 (.mv (.tmp 76))]))
      (.reg [.p none 72 (.mv (.tmp 12)),
          .p none 73 (.bin .add .i64 (.tmp 72) (.const (.int .i64 1))),
          .p none 12 (.mv (.tmp 73))]))))))
  (.seq (.reg [.p none 77 (.mv (.tmp 10)),
      .p none 78 (.mv (.tmp 77)),
      .split 78,
      .p (some (78, true)) 79 (.mv (.tmp 8)),
      .p (some (78, true)) 80 (.mv (.tmp 3)),
      .l (some (78, true)) (some 81) (.call 18 [(.tmp 79), (.tmp 80)]),
      .p none 82 (.pick (.tmp 78) (.tmp 81) (.const (.bool false))),
      .p none 83 (.mv (.tmp 82)),
      .split 83,
      .p (some (83, true)) 84 (.mv (.tmp 6)),
      .p (some (83, true)) 85 (.len (.tmp 84)),
      .p (some (83, true)) 86 (.mv (.tmp 3)),
      .p (some (83, true)) 87 (.len (.tmp 86)),
      .p (some (83, true)) 88 (.bin .add .i64 (.tmp 87) (.const (.int .i64 64))),
      .p (some (83, true)) 89 (.bin .eql .i64 (.tmp 85) (.tmp 88)),
      .p none 90 (.pick (.tmp 83) (.tmp 89) (.const (.bool false))),
      .p none 91 (.mv (.tmp 90)),
      .split 91,
      .p (some (91, true)) 92 (.mv (.tmp 5)),
      .p (some (91, true)) 93 (.mv (.tmp 0)),
      .l (some (91, true)) (some 94) (.call 21 [(.tmp 92), (.tmp 93)]),
      .p none 95 (.pick (.tmp 91) (.tmp 94) (.const (.bool false))),
      .p none 10 (.mv (.tmp 95))])
  (.seq (.reg [.p none 96 (.mv (.tmp 5)),
      .l none (some 97) (.call 24 [(.tmp 96)])])
  (.seq (.reg [.p none 98 (.mv (.tmp 5)),
      .l none (some 99) (.call 25 [(.tmp 98)]),
      .p none 13 (.mv (.tmp 99))])
  (.seq (.reg [.p none 101 (.mv (.tmp 13)),
      .l none (some 102) (.call 22 [(.tmp 101)]),
      .p none 100 (.mv (.tmp 102)),
      .p none 103 (.ext 0 (.tmp 100)),
      .p none 104 (.ext 1 (.tmp 100)),
      .p none 14 (.mv (.tmp 103)),
      .p none 15 (.mv (.tmp 104))])
  (.seq (.reg [.p none 106 (.mv (.tmp 5)),
      .l none (some 107) (.call 24 [(.tmp 106)]),
      .p none 105 (.mv (.tmp 107)),
      .p none 108 (.ext 0 (.tmp 105)),
      .p none 109 (.ext 1 (.tmp 105)),
      .p none 16 (.mv (.tmp 108)),
      .p none 17 (.mv (.tmp 109))])
  (.seq (.reg [.p none 110 (.mv (.tmp 10)),
      .p none 111 (.mv (.tmp 110)),
      .split 111,
      .p (some (111, true)) 112 (.mv (.tmp 17)),
      .p (some (111, true)) 113 (.mv (.tmp 15)),
      .p (some (111, true)) 114 (.bin .eql .i64 (.tmp 112) (.tmp 113)),
      .p none 115 (.pick (.tmp 111) (.tmp 114) (.const (.bool false))),
      .p none 116 (.mv (.tmp 115)),
      .split 116,
      .p (some (116, true)) 117 (.mv (.tmp 16)),
      .p (some (116, true)) 118 (.mv (.tmp 14)),
      .l (some (116, true)) (some 119) (.call 18 [(.tmp 117), (.tmp 118)]),
      .p none 120 (.pick (.tmp 116) (.tmp 119) (.const (.bool false))),
      .p none 2 (.mv (.tmp 120))])
  .ret)))))))))))))))
theorem C5 : compile Try.prog 121 (Try.f5.body.getD .skip) = some M5 := by kernel_rfl

/-- winnowref3.Encode -/
noncomputable def M22 : MC :=
  (.seq (.reg [.p none 2 (.mv (.const (.slice none 0 0))),
      .p none 3 (.mv (.const (.int .i64 0)))])
  (.seq (.seq (.reg [.p none 4 (.mv (.tmp 0)),
      .p none 5 (.len (.tmp 4)),
      .p none 6 (.bin .gtr .i64 (.tmp 5) (.const (.int .i64 65536)))])
  (.cond (.tmp 6)
    (.seq (.reg [.p none 2 (.mv (.const (.slice none 0 0))),
        .p none 3 (.mv (.const (.int .i64 2)))])
    .ret)
    .skip))
  (.seq (.reg [.p none 7 (.mv (.tmp 0)),
      .l none (some 8) (.call 37 [(.tmp 7)]),
      .l none (some 9) (.call 14 [(.tmp 8)]),
      .p none 10 (.ext 0 (.tmp 9)),
      .p none 11 (.ext 1 (.tmp 9)),
      .p none 2 (.mv (.tmp 10)),
      .p none 3 (.mv (.tmp 11))])
  .ret)))
theorem C22 : compile Try.prog 12 (Try.f22.body.getD .skip) = some M22 := by kernel_rfl

/-- lz.Encode -/
noncomputable def M24 : MC :=
  (.seq (.reg [.p none 2 (.mv (.const (.slice none 0 0))),
      .p none 3 (.mv (.const (.int .i64 0)))])
  (.seq (.seq (.reg [.p none 10 (.mv (.tmp 0)),
      .p none 11 (.len (.tmp 10)),
      .p none 12 (.bin .gtr .i64 (.tmp 11) (.const (.int .i64 65536)))])
  (.cond (.tmp 12)
    (.seq (.reg [.p none 2 (.mv (.const (.slice none 0 0))),
        .p none 3 (.mv (.const (.int .i64 2)))])
    .ret)
    .skip))
  (.seq (.reg [.p none 13 (.mv (.tmp 0)),
      .p none 14 (.mv (.tmp 0)),
      .p none 15 (.len (.tmp 14)),
      .l none (some 16) (.mks 3 8 1 [(.int .i64 0)] (.tmp 15) (.tmp 15)),
      .p none 17 (.bld (zcOf Try.t56) [(0, 1, (.tmp 13)), (32769, 1, (.tmp 16))]),
      .l none (some 18) (.bx 56 (.tmp 17)),
      .p none 4 (.mv (.tmp 18))])
  (.seq (.reg [.p none 5 (.mv (.const (.slice none 0 0)))])
  (.seq (.reg [.p none 6 (.mv (.const (.int .i64 0)))])
  (.seq (.seq (.reg [.p none 7 (.mv (.const (.int .i64 0)))])
  (.block 0
    (.loop
      (.seq (.seq (.reg [.p none 19 (.mv (.tmp 7)),
          .p none 20 (.mv (.tmp 0)),
          .p none 21 (.len (.tmp 20)),
          .p none 22 (.bin .lss .i64 (.tmp 19) (.tmp 21))])
      (.cond (.tmp 22)
        .skip
        (.exit 0)))
      (.block 1
        (.seq (.reg [.p none 24 (.mv (.tmp 4)),
            .p none 25 (.mv (.tmp 7)),
            .l none (some 26) (.call 38 [(.tmp 24), (.tmp 25)]),
            .p none 23 (.mv (.tmp 26)),
            .p none 27 (.ext 0 (.tmp 23)),
            .p none 28 (.ext 1 (.tmp 23)),
            .p none 8 (.mv (.tmp 27)),
            .p none 9 (.mv (.tmp 28))])
        (.seq (.seq (.reg [.p none 29 (.mv (.tmp 9)),
            .p none 30 (.bin .eql .i64 (.tmp 29) (.const (.int .i64 0)))])
        (.cond (.tmp 30)
          (.seq (.reg [.p none 31 (.mv (.tmp 4)),
              .p none 32 (.mv (.tmp 7)),
              .l none (some 33) (.call 39 [(.tmp 31), (.tmp 32)])])
          (.seq (.reg [.p none 34 (.mv (.tmp 7)),
              .p none 35 (.bin .add .i64 (.tmp 34) (.const (.int .i64 1))),
              .p none 7 (.mv (.tmp 35))])
          (.exit 1)))
          .skip))
        (.seq (.reg [.p none 36 (.mv (.tmp 5)),
            .p none 37 (.mv (.tmp 0)),
            .p none 38 (.mv (.tmp 6)),
            .p none 39 (.mv (.tmp 7)),
            .p none 40 (.mv (.tmp 7)),
            .p none 41 (.slc 1 (.tmp 37) (some (.tmp 38)) (some (.tmp 39)) (some (.tmp 40))),
            .l none (some 42) (.call 40 [(.tmp 41)]),
            .p none 43 (.mv (.tmp 8)),
            .p none 44 (.mv (.tmp 9)),
            .p none 45 (.bld [(.slice none 0 0), (.int .i64 0), (.int .i64 0)] [(0, 1, (.tmp 42)), (1, 1, (.tmp 43)), (2, 1, (.tmp 44))]),
            .l none (some 46) (.call 36 [(.tmp 45)]),
            .l none (some 47) (.app 5 1 1 [(.int .u8 0)] (.tmp 36) (.tmp 46)),
            .p none 5 (.mv (.tmp 47))])
        (.seq (.seq (.reg [.p none 48 (.mv (.tmp 9)),
            .p none 49 (.mv (.const (.int .i64 0)))])
        (.block 2
          (.loop
            (.seq (.reg [.p none 50 (.bin .lss .i64 (.tmp 49) (.tmp 48))])
            (.seq (.cond (.tmp 50)
              .skip
              (.exit 2))
            (.seq (.block 3
              (.seq (.reg [.p none 51 (.mv (.tmp 4)),
                  .p none 52 (.mv (.tmp 7)),
                  .l none (some 53) (.call 39 [(.tmp 51), (.tmp 52)])])
              (.reg [.p none 54 (.mv (.tmp 7)),
                  .p none 55 (.bin .add .i64 (.tmp 54) (.const (.int .i64 1))),
                  .p none 7 (.mv (.tmp 55))])))
            (.reg [.p none 56 (.bin .add .i64 (.tmp 49) (.const (.int .i64 1))),
                .p none 49 (.mv (.tmp 56))])))))))
        (.reg [.p none 57 (.mv (.tmp 7)),
            .p none 6 (.mv (.tmp 57))]))))))))))
  (.seq (.seq (.reg [.p none 58 (.mv (.tmp 6)),
      .p none 59 (.mv (.tmp 0)),
      .p none 60 (.len (.tmp 59)),
      .p none 61 (.bin .lss .i64 (.tmp 58) (.tmp 60))])
  (.cond (.tmp 61)
    (.reg [.p none 62 (.mv (.tmp 5)),
        .p none 63 (.mv (.tmp 0)),
        .p none 64 (.mv (.tmp 6)),
        .p none 65 (.mv (.tmp 0)),
        .p none 66 (.len (.tmp 65)),
        .p none 67 (.mv (.tmp 0)),
        .p none 68 (.len (.tmp 67)),
        .p none 69 (.slc 1 (.tmp 63) (some (.tmp 64)) (some (.tmp 66)) (some (.tmp 68))),
        .l none (some 70) (.call 40 [(.tmp 69)]),
        .p none 71 (.bld [(.slice none 0 0), (.int .i64 0), (.int .i64 0)] [(0, 1, (.tmp 70))]),
        .l none (some 72) (.call 36 [(.tmp 71)]),
        .l none (some 73) (.app 5 1 1 [(.int .u8 0)] (.tmp 62) (.tmp 72)),
        .p none 5 (.mv (.tmp 73))])
    .skip))
  (.seq (.reg [.p none 74 (.mv (.tmp 5)),
      .p none 2 (.mv (.tmp 74)),
      .p none 3 (.mv (.const (.int .i64 0)))])
  .ret))))))))
theorem C24 : compile Try.prog 75 (Try.f24.body.getD .skip) = some M24 := by kernel_rfl

/-- winnowref3.own -/
noncomputable def M37 : MC :=
  (.seq (.reg [.p none 2 (.mv (.const (.slice none 0 0)))])
  (.seq (.reg [.p none 3 (.mv (.const (.slice none 0 0)))])
  (.seq (.reg [.l none (some 15) (.mks 3 8 1 [(.int .i64 0)] (.const (.int .i64 4096)) (.const (.int .i64 4096))),
      .p none 4 (.mv (.tmp 15))])
  (.seq (.reg [.p none 16 (.mv (.tmp 0)),
      .p none 17 (.len (.tmp 16)),
      .p none 18 (.bin .add .i64 (.tmp 17) (.const (.int .i64 1))),
      .l none (some 19) (.mks 3 8 1 [(.int .i64 0)] (.tmp 18) (.tmp 18)),
      .p none 5 (.mv (.tmp 19))])
  (.seq (.reg [.p none 6 (.mv (.const (.int .i64 0)))])
  (.seq (.reg [.p none 7 (.mv (.const (.int .i64 0)))])
  (.seq (.seq (.reg [.p none 8 (.mv (.const (.int .i64 0)))])
  (.block 0
    (.loop
      (.seq (.seq (.reg [.p none 20 (.mv (.tmp 8)),
          .p none 21 (.bin .add .i64 (.tmp 20) (.const (.int .i64 4))),
          .p none 22 (.mv (.tmp 0)),
          .p none 23 (.len (.tmp 22)),
          .p none 24 (.bin .leq .i64 (.tmp 21) (.tmp 23))])
      (.cond (.tmp 24)
        .skip
        (.exit 0)))
      (.block 1
        (.seq (.block 2
          (.loop
            (.seq (.seq (.reg [.p none 25 (.mv (.tmp 7)),
                .p none 26 (.mv (.tmp 8)),
                .p none 27 (.bin .lss .i64 (.tmp 25) (.tmp 26))])
            (.cond (.tmp 27)
              .skip
              (.exit 2)))
            (.block 3
              (.seq (.reg [.p none 28 (.mv (.tmp 0)),
                  .p none 29 (.mv (.tmp 7)),
                  .l none (some 30) (.call 47 [(.tmp 28), (.tmp 29)]),
                  .p none 9 (.mv (.tmp 30))])
              (.seq (.reg [.p none 31 (.mv (.tmp 5)),
                  .p none 32 (.mv (.tmp 7)),
                  .p none 33 (.mv (.tmp 4)),
                  .p none 34 (.mv (.tmp 9)),
                  .p none 35 (.idx 1 (.tmp 33) (.tmp 34)),
                  .l none (some 36) (.ld none (.tmp 35)),
                  .p none 37 (.idx 1 (.tmp 31) (.tmp 32)),
                  .l none none (.st 1 (.tmp 37) (.tmp 36))])
              (.seq (.reg [.p none 38 (.mv (.tmp 4)),
                  .p none 39 (.mv (.tmp 9)),
                  .p none 40 (.mv (.tmp 7)),
                  .p none 41 (.bin .add .i64 (.tmp 40) (.const (.int .i64 1))),
                  .p none 42 (.idx 1 (.tmp 38) (.tmp 39)),
                  .l none none (.st 1 (.tmp 42) (.tmp 41))])
              (.reg [.p none 43 (.mv (.tmp 7)),
                  .p none 44 (.bin .add .i64 (.tmp 43) (.const (.int .i64 1))),
                  .p none 7 (.mv (.tmp 44))]))))))))
        (.seq (.reg [.p none 10 (.mv (.const (.int .i64 0)))])
        (.seq (.reg [.p none 11 (.mv (.const (.int .i64 0)))])
        (.seq (.reg [.p none 12 (.mv (.const (.int .i64 0)))])
        (.seq (.reg [.p none 45 (.mv (.tmp 4)),
            .p none 46 (.mv (.tmp 0)),
            .p none 47 (.mv (.tmp 8)),
            .l none (some 48) (.call 47 [(.tmp 46), (.tmp 47)]),
            .p none 49 (.idx 1 (.tmp 45) (.tmp 48)),
            .l none (some 50) (.ld none (.tmp 49)),
            .p none 51 (.bin .sub .i64 (.tmp 50) (.const (.int .i64 1))),
            .p none 13 (.mv (.tmp 51))])
        (.seq (.block 4
          (.loop
            (.seq (.seq (.reg [.p none 52 (.mv (.tmp 13)),
                .p none 53 (.bin .geq .i64 (.tmp 52) (.const (.int .i64 0))),
                .p none 54 (.mv (.tmp 53)),
                .split 54,
                .p (some (54, true)) 55 (.mv (.tmp 8)),
                .p (some (54, true)) 56 (.mv (.tmp 13)),
                .p (some (54, true)) 57 (.bin .sub .i64 (.tmp 55) (.tmp 56)),
                .p (some (54, true)) 58 (.bin .leq .i64 (.tmp 57) (.const (.int .i64 32768))),
                .p none 59 (.pick (.tmp 54) (.tmp 58) (.const (.bool false))),
                .p none 60 (.mv (.tmp 59)),
                .split 60,
                .p (some (60, true)) 61 (.mv (.tmp 12)),
                .p (some (60, true)) 62 (.bin .lss .i64 (.tmp 61) (.const (.int .i64 16))),
                .p none 63 (.pick (.tmp 60) (.tmp 62) (.const (.bool false)))])
            (.cond (.tmp 63)
              .skip
              (.exit 4)))
            (.block 5
              (.seq (.seq (.reg [.p none 64 (.mv (.tmp 0)),
                  .p none 65 (.mv (.tmp 8)),
                  .p none 66 (.mv (.tmp 13)),
                  .l none (some 67) (.call 48 [(.tmp 64), (.tmp 65), (.tmp 66)])])
              (.cond (.tmp 67)
                (.seq (.reg [.p none 68 (.mv (.tmp 12)),
                    .p none 69 (.bin .add .i64 (.tmp 68) (.const (.int .i64 1))),
                    .p none 12 (.mv (.tmp 69))])
                (.seq (.reg [.p none 70 (.mv (.tmp 0)),
                    .p none 71 (.mv (.tmp 8)),
                    .p none 72 (.mv (.tmp 13)),
                    .l none (some 73) (.call 49 [(.tmp 70), (.tmp 71), (.tmp 72)]),
                    .p none 14 (.mv (.tmp 73))])
                (.seq (.reg [.p none 74 (.mv (.tmp 14)),
                    .p none 75 (.mv (.tmp 10)),
                    .p none 76 (.bin .gtr .i64 (.tmp 74) (.tmp 75)),
                    .p none 77 (.mv (.tmp 76)),
                    .split 77,
                    .p (some (77, true)) 78 (.mv (.tmp 14)),
                    .p (some (77, true)) 79 (.mv (.tmp 8)),
                    .p (some (77, true)) 80 (.mv (.tmp 13)),
                    .p (some (77, true)) 81 (.bin .sub .i64 (.tmp 79) (.tmp 80)),
                    .l (some (77, true)) (some 82) (.call 33 [(.tmp 81)]),
                    .p (some (77, true)) 83 (.len (.tmp 82)),
                    .p (some (77, true)) 84 (.bin .add .i64 (.const (.int .i64 3)) (.tmp 83)),
                    .p (some (77, true)) 85 (.bin .geq .i64 (.tmp 78) (.tmp 84)),
                    .p none 86 (.pick (.tmp 77) (.tmp 85) (.const (.bool false)))])
                (.cond (.tmp 86)
                  (.seq (.reg [.p none 87 (.mv (.tmp 14)),
                      .p none 10 (.mv (.tmp 87))])
                  (.reg [.p none 88 (.mv (.tmp 8)),
                      .p none 89 (.mv (.tmp 13)),
                      .p none 90 (.bin .sub .i64 (.tmp 88) (.tmp 89)),
                      .p none 11 (.mv (.tmp 90))]))
                  .skip))))
                .skip))
              (.reg [.p none 91 (.mv (.tmp 5)),
                  .p none 92 (.mv (.tmp 13)),
                  .p none 93 (.idx 1 (.tmp 91) (.tmp 92)),
                  .l none (some 94) (.ld none (.tmp 93)),
                  .p none 95 (.bin .sub .i64 (.tmp 94) (.const (.int .i64 1))),
                  .p none 13 (.mv (.tmp 95))]))))))
        (.seq (.seq (.reg [.p none 96 (.mv (.tmp 10)),
            .p none 97 (.bin .eql .i64 (.tmp 96) (.const (.int .i64 0)))])
        (.cond (.tmp 97)
          (.seq (.reg [.p none 98 (.mv (.tmp 8)),
              .p none 99 (.bin .add .i64 (.tmp 98) (.const (.int .i64 1))),
              .p none 8 (.mv (.tmp 99))])
          (.exit 1))
          .skip))
        (.seq (.reg [.p none 100 (.mv (.tmp 3)),
            .l none (some 101) (.bs 5 0 1 [] []),
            .p none 102 (.mv (.tmp 0)),
            .p none 103 (.mv (.tmp 6)),
            .p none 104 (.mv (.tmp 8)),
            .p none 105 (.slc 1 (.tmp 102) (some (.tmp 103)) (some (.tmp 104)) none),
            .l none (some 106) (.app 5 1 1 [(.int .u8 0)] (.tmp 101) (.tmp 105)),
            .p none 107 (.mv (.tmp 11)),
            .p none 108 (.mv (.tmp 10)),
            .p none 109 (.bld [(.slice none 0 0), (.int .i64 0), (.int .i64 0)] [(0, 1, (.tmp 106)), (1, 1, (.tmp 107)), (2, 1, (.tmp 108))]),
            .l none (some 110) (.bs 31 1 3 [(.slice none 0 0), (.int .i64 0), (.int .i64 0)] [(0, 3, (.tmp 109))]),
            .l none (some 111) (.app 31 40 3 [(.slice none 0 0), (.int .i64 0), (.int .i64 0)] (.tmp 100) (.tmp 110)),
            .p none 3 (.mv (.tmp 111))])
        (.seq (.reg [.p none 112 (.mv (.tmp 8)),
            .p none 113 (.mv (.tmp 10)),
            .p none 114 (.bin .add .i64 (.tmp 112) (.tmp 113)),
            .p none 8 (.mv (.tmp 114))])
        (.reg [.p none 115 (.mv (.tmp 8)),
            .p none 6 (.mv (.tmp 115))])))))))))))))))
  (.seq (.seq (.reg [.p none 116 (.mv (.tmp 6)),
      .p none 117 (.mv (.tmp 0)),
      .p none 118 (.len (.tmp 117)),
      .p none 119 (.bin .lss .i64 (.tmp 116) (.tmp 118))])
  (.cond (.tmp 119)
    (.reg [.p none 120 (.mv (.tmp 3)),
        .l none (some 121) (.bs 5 0 1 [] []),
        .p none 122 (.mv (.tmp 0)),
        .p none 123 (.mv (.tmp 6)),
        .p none 124 (.slc 1 (.tmp 122) (some (.tmp 123)) none none),
        .l none (some 125) (.app 5 1 1 [(.int .u8 0)] (.tmp 121) (.tmp 124)),
        .p none 126 (.bld [(.slice none 0 0), (.int .i64 0), (.int .i64 0)] [(0, 1, (.tmp 125))]),
        .l none (some 127) (.bs 31 1 3 [(.slice none 0 0), (.int .i64 0), (.int .i64 0)] [(0, 3, (.tmp 126))]),
        .l none (some 128) (.app 31 40 3 [(.slice none 0 0), (.int .i64 0), (.int .i64 0)] (.tmp 120) (.tmp 127)),
        .p none 3 (.mv (.tmp 128))])
    .skip))
  (.seq (.reg [.p none 129 (.mv (.tmp 3)),
      .p none 2 (.mv (.tmp 129))])
  .ret)))))))))
theorem C37 : compile Try.prog 130 (Try.f37.body.getD .skip) = some M37 := by kernel_rfl

/-- (*lz.finder).match -/
noncomputable def M38 : MC :=
  (.seq (.reg [.p none 4 (.mv (.const (.int .i64 0))),
      .p none 5 (.mv (.const (.int .i64 0)))])
  (.seq (.seq (.reg [.p none 10 (.mv (.tmp 1)),
      .p none 11 (.bin .add .i64 (.tmp 10) (.const (.int .i64 4))),
      .p none 12 (.mv (.tmp 0)),
      .p none 13 (.nilchk (.tmp 12)),
      .p none 14 (.fa 0 (.tmp 13)),
      .l none (some 15) (.ld none (.tmp 14)),
      .p none 16 (.len (.tmp 15)),
      .p none 17 (.bin .gtr .i64 (.tmp 11) (.tmp 16))])
  (.cond (.tmp 17)
    (.seq (.reg [.p none 4 (.mv (.const (.int .i64 0))),
        .p none 5 (.mv (.const (.int .i64 0)))])
    .ret)
    .skip))
  (.seq (.reg [.p none 6 (.mv (.const (.int .i64 0)))])
  (.seq (.reg [.p none 18 (.mv (.tmp 0)),
      .p none 19 (.nilchk (.tmp 18)),
      .p none 20 (.fa 0 (.tmp 19)),
      .l none (some 21) (.ld none (.tmp 20)),
      .p none 22 (.len (.tmp 21)),
      .p none 23 (.mv (.tmp 1)),
      .p none 24 (.bin .sub .i64 (.tmp 22) (.tmp 23)),
      .p none 25 (.mm false .i64 (.const (.int .i64 259)) [(.tmp 24)]),
      .p none 7 (.mv (.tmp 25))])
  (.seq .skip
  (.seq (.seq (.dreg (.line [.qp 0 none 26 (.mv (.tmp 0)),
      .qp 1 none 27 (.mv (.tmp 0)),
      .qp 2 none 28 (.mv (.tmp 1)),
      .qp 4 none 30 (.nilchk (.tmp 26)),
      .qp 5 none 31 (.fa 1 (.tmp 30)),
      .l 3 none (some 29) (.call 50 [(.tmp 27), (.tmp 28)]),
      .qp 6 none 32 (.idxa 32768 1 (.tmp 31) (.tmp 29)),
      .l 7 none (some 33) (.ld none (.tmp 32)),
      .qp 8 none 34 (.bin .sub .i64 (.tmp 33) (.const (.int .i64 1))),
      .qp 9 none 8 (.mv (.tmp 34))]))
  (.block 0
    (.loop
      (.seq (.seq (.reg [.p none 35 (.mv (.tmp 8)),
          .p none 36 (.bin .geq .i64 (.tmp 35) (.const (.int .i64 0))),
          .p none 37 (.mv (.tmp 36)),
          .split 37,
          .p (some (37, true)) 38 (.mv (.tmp 1)),
          .p (some (37, true)) 39 (.mv (.tmp 8)),
          .p (some (37, true)) 40 (.bin .sub .i64 (.tmp 38) (.tmp 39)),
          .p (some (37, true)) 41 (.bin .leq .i64 (.tmp 40) (.const (.int .i64 32768))),
          .p none 42 (.pick (.tmp 37) (.tmp 41) (.const (.bool false))),
          .p none 43 (.mv (.tmp 42)),
          .split 43,
          .p (some (43, true)) 44 (.mv (.tmp 6)),
          .p (some (43, true)) 45 (.bin .lss .i64 (.tmp 44) (.const (.int .i64 16))),
          .p none 46 (.pick (.tmp 43) (.tmp 45) (.const (.bool false)))])
      (.cond (.tmp 46)
        .skip
        (.exit 0)))
      (.seq (.block 1
        (.seq (.reg [.p none 9 (.mv (.const (.int .i64 0)))])
        (.seq (.block 2
          (.loop
            (.seq (.seq (.dreg (.line [.qp 0 none 54 (.mv (.tmp 9)),
                .qp 1 none 55 (.mv (.tmp 7)),
                .qp 2 none 56 (.bin .lss .i64 (.tmp 54) (.tmp 55)),
                .qp 3 none 57 (.mv (.tmp 56)),
                .split 57,
                .qp 4 (some (57, true)) 58 (.mv (.tmp 0)),
                .qp 5 (some (57, true)) 59 (.nilchk (.tmp 58)),
                .qp 6 (some (57, true)) 60 (.fa 0 (.tmp 59)),
                .qp 8 (some (57, true)) 62 (.mv (.tmp 1)),
                .qp 9 (some (57, true)) 63 (.mv (.tmp 9)),
                .qp 10 (some (57, true)) 64 (.bin .add .i64 (.tmp 62) (.tmp 63)),
                .qp 13 (some (57, true)) 67 (.mv (.tmp 0)),
                .qp 14 (some (57, true)) 68 (.nilchk (.tmp 67)),
                .qp 15 (some (57, true)) 69 (.fa 0 (.tmp 68)),
                .qp 17 (some (57, true)) 71 (.mv (.tmp 8)),
                .qp 18 (some (57, true)) 72 (.mv (.tmp 9)),
                .qp 19 (some (57, true)) 73 (.bin .add .i64 (.tmp 71) (.tmp 72)),
                .ql 16 (some (57, true)) 70 none (.tmp 69),
                .qp 20 (some (57, true)) 74 (.idx 1 (.tmp 70) (.tmp 73)),
                .ql 7 (some (57, true)) 61 none (.tmp 60),
                .qp 11 (some (57, true)) 65 (.idx 1 (.tmp 61) (.tmp 64)),
                .ql 21 (some (57, true)) 75 none (.tmp 74),
                .l 12 (some (57, true)) (some 66) (.ld none (.tmp 65)),
                .qp 22 (some (57, true)) 76 (.bin .eql .u8 (.tmp 66) (.tmp 75)),
                .qp 23 none 77 (.pick (.tmp 57) (.tmp 76) (.const (.bool false)))]))
            (.cond (.tmp 77)
              .skip
              (.exit 2)))
            (.block 3
              (.reg [.p none 78 (.mv (.tmp 9)),
                  .p none 79 (.bin .add .i64 (.tmp 78) (.const (.int .i64 1))),
                  .p none 9 (.mv (.tmp 79))])))))
        (.seq (.seq (.reg [.p none 80 (.mv (.tmp 9)),
            .p none 81 (.bin .lss .i64 (.tmp 80) (.const (.int .i64 4)))])
        (.cond (.tmp 81)
          (.exit 1)
          .skip))
        (.seq (.reg [.p none 82 (.mv (.tmp 6)),
            .p none 83 (.bin .add .i64 (.tmp 82) (.const (.int .i64 1))),
            .p none 6 (.mv (.tmp 83))])
        (.seq (.seq (.reg [.p none 84 (.mv (.tmp 9)),
            .p none 85 (.mv (.tmp 5)),
            .p none 86 (.bin .leq .i64 (.tmp 84) (.tmp 85)),
            .p none 87 (.mv (.tmp 86)),
            .split 87,
            .p (some (87, false)) 88 (.mv (.tmp 9)),
            .p (some (87, false)) 89 (.mv (.tmp 1)),
            .p (some (87, false)) 90 (.mv (.tmp 8)),
            .p (some (87, false)) 91 (.bin .sub .i64 (.tmp 89) (.tmp 90)),
            .l (some (87, false)) (some 92) (.call 46 [(.tmp 91)]),
            .p (some (87, false)) 93 (.len (.tmp 92)),
            .p (some (87, false)) 94 (.bin .add .i64 (.const (.int .i64 3)) (.tmp 93)),
            .p (some (87, false)) 95 (.bin .lss .i64 (.tmp 88) (.tmp 94)),
            .p none 96 (.pick (.tmp 87) (.const (.bool true)) (.tmp 95))])
        (.cond (.tmp 96)
          (.exit 1)
          .skip))
        (.seq (.reg [.p none 97 (.mv (.tmp 1)),
            .p none 98 (.mv (.tmp 8)),
            .p none 99 (.bin .sub .i64 (.tmp 97) (.tmp 98)),
            .p none 100 (.mv (.tmp 9)),
            .p none 4 (.mv (.tmp 99)),
            .p none 5 (.mv (.tmp 100))])
        (.seq (.reg [.p none 101 (.mv (.tmp 9)),
            .p none 102 (.mv (.tmp 7)),
            .p none 103 (.bin .eql .i64 (.tmp 101) (.tmp 102))])
        (.cond (.tmp 103)
          (.exit 0)
          .skip)))))))))
      (.reg [.p none 47 (.mv (.tmp 0)),
          .p none 48 (.nilchk (.tmp 47)),
          .p none 49 (.fa 32769 (.tmp 48)),
          .l none (some 50) (.ld none (.tmp 49)),
          .p none 51 (.mv (.tmp 8)),
          .p none 52 (.idx 1 (.tmp 50) (.tmp 51)),
          .l none (some 53) (.ld none (.tmp 52)),
          .p none 8 (.mv (.tmp 53))]))))))
  (.seq (.reg [.p none 104 (.mv (.tmp 4)),
      .p none 105 (.mv (.tmp 5)),
      .p none 4 (.mv (.tmp 104)),
      .p none 5 (.mv (.tmp 105))])
  .ret)))))))
theorem C38 : compile Try.prog 106 (Try.f38.body.getD .skip) = some M38 := by kernel_rfl

/-- (*lz.finder).add -/
noncomputable def M39 : MC :=
  (.seq (.seq (.reg [.p none 5 (.mv (.tmp 1)),
      .p none 6 (.bin .add .i64 (.tmp 5) (.const (.int .i64 4))),
      .p none 7 (.mv (.tmp 0)),
      .p none 8 (.nilchk (.tmp 7)),
      .p none 9 (.fa 0 (.tmp 8)),
      .l none (some 10) (.ld none (.tmp 9)),
      .p none 11 (.len (.tmp 10)),
      .p none 12 (.bin .gtr .i64 (.tmp 6) (.tmp 11))])
  (.cond (.tmp 12)
    .ret
    .skip))
  (.seq (.reg [.p none 13 (.mv (.tmp 0)),
      .p none 14 (.mv (.tmp 1)),
      .l none (some 15) (.call 50 [(.tmp 13), (.tmp 14)]),
      .p none 4 (.mv (.tmp 15))])
  (.seq (.dreg (.line [.qp 0 none 16 (.mv (.tmp 0)),
      .qp 1 none 17 (.nilchk (.tmp 16)),
      .qp 2 none 18 (.fa 32769 (.tmp 17)),
      .qp 4 none 20 (.mv (.tmp 1)),
      .qp 5 none 21 (.mv (.tmp 0)),
      .qp 6 none 22 (.mv (.tmp 4)),
      .qp 7 none 23 (.nilchk (.tmp 21)),
      .qp 8 none 24 (.fa 1 (.tmp 23)),
      .qp 9 none 25 (.idxa 32768 1 (.tmp 24) (.tmp 22)),
      .ql 3 none 19 none (.tmp 18),
      .l 10 none (some 26) (.ld none (.tmp 25)),
      .qp 11 none 27 (.bin .sub .i64 (.tmp 26) (.const (.int .i64 1))),
      .qp 12 none 28 (.idx 1 (.tmp 19) (.tmp 20)),
      .l 13 none none (.st 1 (.tmp 28) (.tmp 27))]))
  (.reg [.p none 29 (.mv (.tmp 0)),
      .p none 30 (.mv (.tmp 4)),
      .p none 31 (.mv (.tmp 1)),
      .p none 32 (.bin .add .i64 (.tmp 31) (.const (.int .i64 1))),
      .p none 33 (.nilchk (.tmp 29)),
      .p none 34 (.fa 1 (.tmp 33)),
      .p none 35 (.idxa 32768 1 (.tmp 34) (.tmp 30)),
      .l none none (.st 1 (.tmp 35) (.tmp 32))]))))
theorem C39 : compile Try.prog 36 (Try.f39.body.getD .skip) = some M39 := by kernel_rfl

/-- lz.taken -/
noncomputable def M40 : MC :=
  (.seq (.reg [.p none 2 (.mv (.const (.slice none 0 0)))])
  (.seq (.reg [.p none 4 (.mv (.tmp 0)),
      .p none 5 (.len (.tmp 4)),
      .l none (some 6) (.mks 5 1 1 [(.int .u8 0)] (.tmp 5) (.tmp 5)),
      .p none 3 (.mv (.tmp 6))])
  (.seq (.reg [.p none 7 (.mv (.tmp 3)),
      .p none 8 (.mv (.tmp 0)),
      .l none (some 9) (.cpy 1 (.tmp 7) (.tmp 8))])
  (.seq (.reg [.p none 10 (.mv (.tmp 3)),
      .p none 2 (.mv (.tmp 10))])
  .ret))))
theorem C40 : compile Try.prog 11 (Try.f40.body.getD .skip) = some M40 := by kernel_rfl

/-- winnowref3.slot -/
noncomputable def M47 : MC :=
  (.seq (.reg [.p none 4 (.mv (.const (.int .i64 0)))])
  (.seq (.dreg (.line [.qp 0 none 6 (.mv (.tmp 0)),
      .qp 1 none 7 (.mv (.tmp 1)),
      .qp 2 none 8 (.idx 1 (.tmp 6) (.tmp 7)),
      .qp 5 none 11 (.mv (.tmp 0)),
      .qp 6 none 12 (.mv (.tmp 1)),
      .qp 7 none 13 (.bin .add .i64 (.tmp 12) (.const (.int .i64 1))),
      .qp 8 none 14 (.idx 1 (.tmp 11) (.tmp 13)),
      .qp 13 none 19 (.mv (.tmp 0)),
      .qp 14 none 20 (.mv (.tmp 1)),
      .qp 15 none 21 (.bin .add .i64 (.tmp 20) (.const (.int .i64 2))),
      .qp 16 none 22 (.idx 1 (.tmp 19) (.tmp 21)),
      .qp 21 none 27 (.mv (.tmp 0)),
      .qp 22 none 28 (.mv (.tmp 1)),
      .qp 23 none 29 (.bin .add .i64 (.tmp 28) (.const (.int .i64 3))),
      .qp 24 none 30 (.idx 1 (.tmp 27) (.tmp 29)),
      .ql 25 none 31 none (.tmp 30),
      .qp 26 none 32 (.conv .i64 (.tmp 31)),
      .qp 27 none 33 (.bin .mul .i64 (.const (.int .i64 509)) (.tmp 32)),
      .ql 17 none 23 none (.tmp 22),
      .qp 18 none 24 (.conv .i64 (.tmp 23)),
      .qp 19 none 25 (.bin .mul .i64 (.const (.int .i64 61)) (.tmp 24)),
      .ql 9 none 15 none (.tmp 14),
      .qp 10 none 16 (.conv .i64 (.tmp 15)),
      .qp 11 none 17 (.bin .mul .i64 (.const (.int .i64 7)) (.tmp 16)),
      .l 3 none (some 9) (.ld none (.tmp 8)),
      .qp 4 none 10 (.conv .i64 (.tmp 9)),
      .qp 12 none 18 (.bin .add .i64 (.tmp 10) (.tmp 17)),
      .qp 20 none 26 (.bin .add .i64 (.tmp 18) (.tmp 25)),
      .qp 28 none 34 (.bin .add .i64 (.tmp 26) (.tmp 33)),
      .qp 29 none 5 (.mv (.tmp 34))]))
  (.seq (.reg [.p none 35 (.mv (.tmp 5)),
      .p none 36 (.div .rem .i64 (.tmp 35) (.const (.int .i64 4096))),
      .p none 4 (.mv (.tmp 36))])
  .ret)))
theorem C47 : compile Try.prog 37 (Try.f47.body.getD .skip) = some M47 := by kernel_rfl

/-- winnowref3.alike -/
noncomputable def M48 : MC :=
  (.seq (.reg [.p none 6 (.mv (.const (.bool false)))])
  (.seq (.dreg (.line [.qp 0 none 7 (.mv (.tmp 0)),
      .qp 1 none 8 (.mv (.tmp 1)),
      .qp 2 none 9 (.idx 1 (.tmp 7) (.tmp 8)),
      .qp 4 none 11 (.mv (.tmp 0)),
      .qp 5 none 12 (.mv (.tmp 2)),
      .qp 6 none 13 (.idx 1 (.tmp 11) (.tmp 12)),
      .ql 7 none 14 none (.tmp 13),
      .l 3 none (some 10) (.ld none (.tmp 9)),
      .qp 8 none 15 (.bin .eql .u8 (.tmp 10) (.tmp 14)),
      .qp 9 none 16 (.mv (.tmp 15)),
      .split 16,
      .qp 10 (some (16, true)) 17 (.mv (.tmp 0)),
      .qp 11 (some (16, true)) 18 (.mv (.tmp 1)),
      .qp 12 (some (16, true)) 19 (.bin .add .i64 (.tmp 18) (.const (.int .i64 1))),
      .qp 13 (some (16, true)) 20 (.idx 1 (.tmp 17) (.tmp 19)),
      .qp 15 (some (16, true)) 22 (.mv (.tmp 0)),
      .qp 16 (some (16, true)) 23 (.mv (.tmp 2)),
      .qp 17 (some (16, true)) 24 (.bin .add .i64 (.tmp 23) (.const (.int .i64 1))),
      .qp 18 (some (16, true)) 25 (.idx 1 (.tmp 22) (.tmp 24)),
      .ql 19 (some (16, true)) 26 none (.tmp 25),
      .l 14 (some (16, true)) (some 21) (.ld none (.tmp 20)),
      .qp 20 (some (16, true)) 27 (.bin .eql .u8 (.tmp 21) (.tmp 26)),
      .qp 21 none 28 (.pick (.tmp 16) (.tmp 27) (.const (.bool false))),
      .qp 22 none 29 (.mv (.tmp 28)),
      .split 29,
      .qp 23 (some (29, true)) 30 (.mv (.tmp 0)),
      .qp 24 (some (29, true)) 31 (.mv (.tmp 1)),
      .qp 25 (some (29, true)) 32 (.bin .add .i64 (.tmp 31) (.const (.int .i64 2))),
      .qp 26 (some (29, true)) 33 (.idx 1 (.tmp 30) (.tmp 32)),
      .qp 28 (some (29, true)) 35 (.mv (.tmp 0)),
      .qp 29 (some (29, true)) 36 (.mv (.tmp 2)),
      .qp 30 (some (29, true)) 37 (.bin .add .i64 (.tmp 36) (.const (.int .i64 2))),
      .qp 31 (some (29, true)) 38 (.idx 1 (.tmp 35) (.tmp 37)),
      .ql 32 (some (29, true)) 39 none (.tmp 38),
      .l 27 (some (29, true)) (some 34) (.ld none (.tmp 33)),
      .qp 33 (some (29, true)) 40 (.bin .eql .u8 (.tmp 34) (.tmp 39)),
      .qp 34 none 41 (.pick (.tmp 29) (.tmp 40) (.const (.bool false))),
      .qp 35 none 42 (.mv (.tmp 41)),
      .split 42,
      .qp 36 (some (42, true)) 43 (.mv (.tmp 0)),
      .qp 37 (some (42, true)) 44 (.mv (.tmp 1)),
      .qp 38 (some (42, true)) 45 (.bin .add .i64 (.tmp 44) (.const (.int .i64 3))),
      .qp 39 (some (42, true)) 46 (.idx 1 (.tmp 43) (.tmp 45)),
      .qp 41 (some (42, true)) 48 (.mv (.tmp 0)),
      .qp 42 (some (42, true)) 49 (.mv (.tmp 2)),
      .qp 43 (some (42, true)) 50 (.bin .add .i64 (.tmp 49) (.const (.int .i64 3))),
      .qp 44 (some (42, true)) 51 (.idx 1 (.tmp 48) (.tmp 50)),
      .ql 45 (some (42, true)) 52 none (.tmp 51),
      .l 40 (some (42, true)) (some 47) (.ld none (.tmp 46)),
      .qp 46 (some (42, true)) 53 (.bin .eql .u8 (.tmp 47) (.tmp 52)),
      .qp 47 none 54 (.pick (.tmp 42) (.tmp 53) (.const (.bool false))),
      .qp 48 none 6 (.mv (.tmp 54))]))
  .ret))
theorem C48 : compile Try.prog 55 (Try.f48.body.getD .skip) = some M48 := by kernel_rfl

/-- winnowref3.same -/
noncomputable def M49 : MC :=
  (.seq (.reg [.p none 6 (.mv (.const (.int .i64 0)))])
  (.seq (.reg [.p none 7 (.mv (.const (.int .i64 0)))])
  (.seq (.block 0
    (.loop
      (.seq (.seq (.dreg (.line [.qp 0 none 8 (.mv (.tmp 7)),
          .qp 1 none 9 (.bin .lss .i64 (.tmp 8) (.const (.int .i64 259))),
          .qp 2 none 10 (.mv (.tmp 9)),
          .split 10,
          .qp 3 (some (10, true)) 11 (.mv (.tmp 1)),
          .qp 4 (some (10, true)) 12 (.mv (.tmp 7)),
          .qp 5 (some (10, true)) 13 (.bin .add .i64 (.tmp 11) (.tmp 12)),
          .qp 6 (some (10, true)) 14 (.mv (.tmp 0)),
          .qp 7 (some (10, true)) 15 (.len (.tmp 14)),
          .qp 8 (some (10, true)) 16 (.bin .lss .i64 (.tmp 13) (.tmp 15)),
          .qp 9 none 17 (.pick (.tmp 10) (.tmp 16) (.const (.bool false))),
          .qp 10 none 18 (.mv (.tmp 17)),
          .split 18,
          .qp 11 (some (18, true)) 19 (.mv (.tmp 0)),
          .qp 12 (some (18, true)) 20 (.mv (.tmp 1)),
          .qp 13 (some (18, true)) 21 (.mv (.tmp 7)),
          .qp 14 (some (18, true)) 22 (.bin .add .i64 (.tmp 20) (.tmp 21)),
          .qp 15 (some (18, true)) 23 (.idx 1 (.tmp 19) (.tmp 22)),
          .qp 17 (some (18, true)) 25 (.mv (.tmp 0)),
          .qp 18 (some (18, true)) 26 (.mv (.tmp 2)),
          .qp 19 (some (18, true)) 27 (.mv (.tmp 7)),
          .qp 20 (some (18, true)) 28 (.bin .add .i64 (.tmp 26) (.tmp 27)),
          .qp 21 (some (18, true)) 29 (.idx 1 (.tmp 25) (.tmp 28)),
          .ql 22 (some (18, true)) 30 none (.tmp 29),
          .l 16 (some (18, true)) (some 24) (.ld none (.tmp 23)),
          .qp 23 (some (18, true)) 31 (.bin .eql .u8 (.tmp 24) (.tmp 30)),
          .qp 24 none 32 (.pick (.tmp 18) (.tmp 31) (.const (.bool false)))]))
      (.cond (.tmp 32)
        .skip
        (.exit 0)))
      (.block 1
        (.reg [.p none 33 (.mv (.tmp 7)),
            .p none 34 (.bin .add .i64 (.tmp 33) (.const (.int .i64 1))),
            .p none 7 (.mv (.tmp 34))])))))
  (.seq (.reg [.p none 35 (.mv (.tmp 7)),
      .p none 6 (.mv (.tmp 35))])
  .ret))))
theorem C49 : compile Try.prog 36 (Try.f49.body.getD .skip) = some M49 := by kernel_rfl

/-- (*lz.finder).hash -/
noncomputable def M50 : MC :=
  (.seq (.reg [.p none 4 (.mv (.const (.int .i64 0)))])
  (.seq (.dreg (.line [.qp 0 none 6 (.mv (.tmp 0)),
      .qp 1 none 7 (.nilchk (.tmp 6)),
      .qp 2 none 8 (.fa 0 (.tmp 7)),
      .qp 4 none 10 (.mv (.tmp 1)),
      .qp 8 none 14 (.mv (.tmp 0)),
      .qp 9 none 15 (.nilchk (.tmp 14)),
      .qp 10 none 16 (.fa 0 (.tmp 15)),
      .qp 12 none 18 (.mv (.tmp 1)),
      .qp 13 none 19 (.bin .add .i64 (.tmp 18) (.const (.int .i64 1))),
      .qp 19 none 25 (.mv (.tmp 0)),
      .qp 20 none 26 (.nilchk (.tmp 25)),
      .qp 21 none 27 (.fa 0 (.tmp 26)),
      .qp 23 none 29 (.mv (.tmp 1)),
      .qp 24 none 30 (.bin .add .i64 (.tmp 29) (.const (.int .i64 2))),
      .qp 30 none 36 (.mv (.tmp 0)),
      .qp 31 none 37 (.nilchk (.tmp 36)),
      .qp 32 none 38 (.fa 0 (.tmp 37)),
      .qp 34 none 40 (.mv (.tmp 1)),
      .qp 35 none 41 (.bin .add .i64 (.tmp 40) (.const (.int .i64 3))),
      .ql 33 none 39 none (.tmp 38),
      .qp 36 none 42 (.idx 1 (.tmp 39) (.tmp 41)),
      .ql 22 none 28 none (.tmp 27),
      .qp 25 none 31 (.idx 1 (.tmp 28) (.tmp 30)),
      .ql 11 none 17 none (.tmp 16),
      .qp 14 none 20 (.idx 1 (.tmp 17) (.tmp 19)),
      .ql 3 none 9 none (.tmp 8),
      .qp 5 none 11 (.idx 1 (.tmp 9) (.tmp 10)),
      .ql 37 none 43 none (.tmp 42),
      .qp 38 none 44 (.conv .u32 (.tmp 43)),
      .qp 39 none 45 (.shf .shl (.tmp 44) (.const (.int .u64 24))),
      .ql 26 none 32 none (.tmp 31),
      .qp 27 none 33 (.conv .u32 (.tmp 32)),
      .qp 28 none 34 (.shf .shl (.tmp 33) (.const (.int .u64 16))),
      .ql 15 none 21 none (.tmp 20),
      .qp 16 none 22 (.conv .u32 (.tmp 21)),
      .qp 17 none 23 (.shf .shl (.tmp 22) (.const (.int .u64 8))),
      .l 6 none (some 12) (.ld none (.tmp 11)),
      .qp 7 none 13 (.conv .u32 (.tmp 12)),
      .qp 18 none 24 (.bin .or .u32 (.tmp 13) (.tmp 23)),
      .qp 29 none 35 (.bin .or .u32 (.tmp 24) (.tmp 34)),
      .qp 40 none 46 (.bin .or .u32 (.tmp 35) (.tmp 45)),
      .qp 41 none 5 (.mv (.tmp 46))]))
  (.seq (.reg [.p none 47 (.mv (.tmp 5)),
      .p none 48 (.bin .mul .u32 (.tmp 47) (.const (.int .u32 2654435761))),
      .p none 49 (.shf .shr (.tmp 48) (.const (.int .u64 17))),
      .p none 50 (.conv .i64 (.tmp 49)),
      .p none 4 (.mv (.tmp 50))])
  .ret)))
theorem C50 : compile Try.prog 51 (Try.f50.body.getD .skip) = some M50 := by kernel_rfl

/-- winnowlaw3.LzRuns -/
noncomputable def M7 : MC :=
  (.seq (.reg [.p none 4 (.mv (.const (.bool false)))])
  (.seq (.seq (.reg [.p none 11 (.mv (.tmp 1)),
      .p none 12 (.bin .lss .i64 (.tmp 11) (.const (.int .i64 0))),
      .p none 13 (.mv (.tmp 12)),
      .split 13,
      .p (some (13, false)) 14 (.mv (.tmp 1)),
      .p (some (13, false)) 15 (.bin .gtr .i64 (.tmp 14) (.const (.int .i64 65536))),
      .p none 16 (.pick (.tmp 13) (.const (.bool true)) (.tmp 15))])
  (.cond (.tmp 16)
    (.seq (.reg [.l none (some 17) (.call 31 []),
        .p none 4 (.mv (.tmp 17))])
    .ret)
    .skip))
  (.seq (.reg [.p none 18 (.mv (.tmp 1)),
      .l none (some 19) (.mks 5 1 1 [(.int .u8 0)] (.tmp 18) (.tmp 18)),
      .p none 5 (.mv (.tmp 19))])
  (.seq (.seq (.reg [.p none 6 (.mv (.const (.int .i64 0)))])
  (.block 0
    (.loop
      (.seq (.seq (.reg [.p none 20 (.mv (.tmp 6)),
          .p none 21 (.mv (.tmp 1)),
          .p none 22 (.bin .lss .i64 (.tmp 20) (.tmp 21))])
      (.cond (.tmp 22)
        .skip
        (.exit 0)))
      (.seq (.block 1
        (.reg [.p none 25 (.mv (.tmp 5)),
            .p none 26 (.mv (.tmp 6)),
            .p none 27 (.mv (.tmp 0)),
            .p none 28 (.idx 1 (.tmp 25) (.tmp 26)),
            .l none none (.st 1 (.tmp 28) (.tmp 27))]))
      (.reg [.p none 23 (.mv (.tmp 6)),
          .p none 24 (.bin .add .i64 (.tmp 23) (.const (.int .i64 1))),
          .p none 6 (.mv (.tmp 24))]))))))
  (.seq (.reg [.p none 30 (.mv (.tmp 5)),
      .l none (some 31) (.call 24 [(.tmp 30)]),
      .p none 29 (.mv (.tmp 31)),
      .p none 32 (.ext 0 (.tmp 29)),
      .p none 33 (.ext 1 (.tmp 29)),
      .p none 7 (.mv (.tmp 32)),
      .p none 8 (.mv (.tmp 33))])
  (.seq (.reg [.p none 35 (.mv (.tmp 7)),
      .p none 36 (.mv (.tmp 1)),
      .l none (some 37) (.call 28 [(.tmp 35), (.tmp 36)]),
      .p none 34 (.mv (.tmp 37)),
      .p none 38 (.ext 0 (.tmp 34)),
      .p none 39 (.ext 1 (.tmp 34)),
      .p none 9 (.mv (.tmp 38)),
      .p none 10 (.mv (.tmp 39))])
  (.seq (.reg [.p none 40 (.mv (.tmp 8)),
      .p none 41 (.bin .eql .i64 (.tmp 40) (.const (.int .i64 0))),
      .p none 42 (.mv (.tmp 41)),
      .split 42,
      .p (some (42, true)) 43 (.mv (.tmp 10)),
      .p (some (42, true)) 44 (.bin .eql .i64 (.tmp 43) (.const (.int .i64 0))),
      .p none 45 (.pick (.tmp 42) (.tmp 44) (.const (.bool false))),
      .p none 46 (.mv (.tmp 45)),
      .split 46,
      .p (some (46, true)) 47 (.mv (.tmp 7)),
      .p (some (46, true)) 48 (.len (.tmp 47)),
      .p (some (46, true)) 49 (.mv (.tmp 1)),
      .p (some (46, true)) 50 (.div .quo .i64 (.tmp 49) (.const (.int .i64 32))),
      .p (some (46, true)) 51 (.bin .add .i64 (.const (.int .i64 12)) (.tmp 50)),
      .p (some (46, true)) 52 (.bin .leq .i64 (.tmp 48) (.tmp 51)),
      .p none 53 (.pick (.tmp 46) (.tmp 52) (.const (.bool false))),
      .p none 54 (.mv (.tmp 53)),
      .split 54,
      .p (some (54, true)) 55 (.mv (.tmp 9)),
      .p (some (54, true)) 56 (.mv (.tmp 5)),
      .l (some (54, true)) (some 57) (.call 18 [(.tmp 55), (.tmp 56)]),
      .p none 58 (.pick (.tmp 54) (.tmp 57) (.const (.bool false))),
      .p none 4 (.mv (.tmp 58))])
  .ret)))))))
theorem C7 : compile Try.prog 59 (Try.f7.body.getD .skip) = some M7 := by kernel_rfl

/-- winnowlaw3.works -/
noncomputable def M31 : MC :=
  (.seq (.reg [.p none 0 (.mv (.const (.bool false)))])
  (.seq (.reg [.l none (some 6) (.bs 5 16 1 (List.replicate 16 (.int .u8 0)) [(0, 1, (.const (.int .u8 97))), (1, 1, (.const (.int .u8 98))), (2, 1, (.const (.int .u8 99))), (3, 1, (.const (.int .u8 100))), (4, 1, (.const (.int .u8 97))), (5, 1, (.const (.int .u8 98))), (6, 1, (.const (.int .u8 99))), (7, 1, (.const (.int .u8 100))), (8, 1, (.const (.int .u8 97))), (9, 1, (.const (.int .u8 98))), (10, 1, (.const (.int .u8 99))), (11, 1, (.const (.int .u8 100))), (12, 1, (.const (.int .u8 97))), (13, 1, (.const (.int .u8 98))), (14, 1, (.const (.int .u8 99))), (15, 1, (.const (.int .u8 100)))]),
      .l none (some 7) (.raw (.convert 25 25 (.tmp 6))),
      .l none (some 8) (.call 24 [(.tmp 7)]),
      .p none 5 (.mv (.tmp 8)),
      .p none 9 (.ext 0 (.tmp 5)),
      .p none 10 (.ext 1 (.tmp 5)),
      .p none 1 (.mv (.tmp 9)),
      .p none 2 (.mv (.tmp 10))])
  (.seq (.reg [.p none 12 (.mv (.tmp 1)),
      .l none (some 13) (.call 28 [(.tmp 12), (.const (.int .i64 16))]),
      .p none 11 (.mv (.tmp 13)),
      .p none 14 (.ext 0 (.tmp 11)),
      .p none 15 (.ext 1 (.tmp 11)),
      .p none 3 (.mv (.tmp 14)),
      .p none 4 (.mv (.tmp 15))])
  (.seq (.reg [.p none 16 (.mv (.tmp 2)),
      .p none 17 (.bin .eql .i64 (.tmp 16) (.const (.int .i64 0))),
      .p none 18 (.mv (.tmp 17)),
      .split 18,
      .p (some (18, true)) 19 (.mv (.tmp 4)),
      .p (some (18, true)) 20 (.bin .eql .i64 (.tmp 19) (.const (.int .i64 0))),
      .p none 21 (.pick (.tmp 18) (.tmp 20) (.const (.bool false))),
      .p none 22 (.mv (.tmp 21)),
      .split 22,
      .p (some (22, true)) 23 (.mv (.tmp 3)),
      .l (some (22, true)) (some 24) (.b2s (.tmp 23)),
      .p (some (22, true)) 25 (.sbin .eql (.tmp 24) (.const (.string ⟨#[97, 98, 99, 100, 97, 98, 99, 100, 97, 98, 99, 100, 97, 98, 99, 100]⟩))),
      .p none 26 (.pick (.tmp 22) (.tmp 25) (.const (.bool false))),
      .p none 27 (.mv (.tmp 26)),
      .split 27,
      .p (some (27, true)) 28 (.mv (.tmp 1)),
      .p (some (27, true)) 29 (.len (.tmp 28)),
      .p (some (27, true)) 30 (.bin .lss .i64 (.tmp 29) (.const (.int .i64 16))),
      .p none 31 (.pick (.tmp 27) (.tmp 30) (.const (.bool false))),
      .p none 0 (.mv (.tmp 31))])
  .ret))))
theorem C31 : compile Try.prog 32 (Try.f31.body.getD .skip) = some M31 := by kernel_rfl

/-- winnowlaw3.LzLiterals -/
noncomputable def M8 : MC :=
  (.seq (.reg [.p none 2 (.mv (.const (.bool false)))])
  (.seq (.seq (.reg [.p none 7 (.mv (.tmp 0)),
      .p none 8 (.len (.tmp 7)),
      .p none 9 (.bin .lss .i64 (.tmp 8) (.const (.int .i64 1))),
      .p none 10 (.mv (.tmp 9)),
      .split 10,
      .p (some (10, false)) 11 (.mv (.tmp 0)),
      .p (some (10, false)) 12 (.len (.tmp 11)),
      .p (some (10, false)) 13 (.bin .gtr .i64 (.tmp 12) (.const (.int .i64 65536))),
      .p none 14 (.pick (.tmp 10) (.const (.bool true)) (.tmp 13))])
  (.cond (.tmp 14)
    (.seq (.reg [.l none (some 15) (.call 31 []),
        .p none 2 (.mv (.tmp 15))])
    .ret)
    .skip))
  (.seq (.reg [.p none 17 (.mv (.tmp 0)),
      .p none 18 (.bld [(.slice none 0 0), (.int .i64 0), (.int .i64 0)] [(0, 1, (.tmp 17))]),
      .l none (some 19) (.bs 31 1 3 [(.slice none 0 0), (.int .i64 0), (.int .i64 0)] [(0, 3, (.tmp 18))]),
      .l none (some 20) (.call 17 [(.tmp 19)]),
      .p none 16 (.mv (.tmp 20)),
      .p none 21 (.ext 0 (.tmp 16)),
      .p none 22 (.ext 1 (.tmp 16)),
      .p none 3 (.mv (.tmp 21)),
      .p none 4 (.mv (.tmp 22))])
  (.seq (.reg [.p none 24 (.mv (.tmp 3)),
      .p none 25 (.mv (.tmp 0)),
      .p none 26 (.len (.tmp 25)),
      .l none (some 27) (.call 28 [(.tmp 24), (.tmp 26)]),
      .p none 23 (.mv (.tmp 27)),
      .p none 28 (.ext 0 (.tmp 23)),
      .p none 29 (.ext 1 (.tmp 23)),
      .p none 5 (.mv (.tmp 28)),
      .p none 6 (.mv (.tmp 29))])
  (.seq (.reg [.p none 30 (.mv (.tmp 4)),
      .p none 31 (.bin .eql .i64 (.tmp 30) (.const (.int .i64 0))),
      .p none 32 (.mv (.tmp 31)),
      .split 32,
      .p (some (32, true)) 33 (.mv (.tmp 6)),
      .p (some (32, true)) 34 (.bin .eql .i64 (.tmp 33) (.const (.int .i64 0))),
      .p none 35 (.pick (.tmp 32) (.tmp 34) (.const (.bool false))),
      .p none 36 (.mv (.tmp 35)),
      .split 36,
      .p (some (36, true)) 37 (.mv (.tmp 3)),
      .p (some (36, true)) 38 (.len (.tmp 37)),
      .p (some (36, true)) 39 (.mv (.tmp 0)),
      .p (some (36, true)) 40 (.len (.tmp 39)),
      .p (some (36, true)) 41 (.bin .gtr .i64 (.tmp 38) (.tmp 40)),
      .p none 42 (.pick (.tmp 36) (.tmp 41) (.const (.bool false))),
      .p none 43 (.mv (.tmp 42)),
      .split 43,
      .p (some (43, true)) 44 (.mv (.tmp 5)),
      .p (some (43, true)) 45 (.mv (.tmp 0)),
      .l (some (43, true)) (some 46) (.call 18 [(.tmp 44), (.tmp 45)]),
      .p none 47 (.pick (.tmp 43) (.tmp 46) (.const (.bool false))),
      .p none 2 (.mv (.tmp 47))])
  .ret)))))
theorem C8 : compile Try.prog 48 (Try.f8.body.getD .skip) = some M8 := by kernel_rfl

/-- winnowlaw3.LzTotal -/
noncomputable def M9 : MC :=
  (.seq (.reg [.p none 6 (.mv (.const (.bool false)))])
  (.seq (.reg [.l none (some 19) (.call 31 []),
      .p none 7 (.mv (.tmp 19))])
  (.seq (.reg [.p none 21 (.mv (.tmp 0)),
      .p none 22 (.mv (.tmp 1)),
      .l none (some 23) (.call 28 [(.tmp 21), (.tmp 22)]),
      .p none 20 (.mv (.tmp 23)),
      .p none 24 (.ext 0 (.tmp 20)),
      .p none 25 (.ext 1 (.tmp 20)),
      .p none 8 (.mv (.tmp 24)),
      .p none 9 (.mv (.tmp 25))])
  (.seq (.reg [.p none 27 (.mv (.tmp 0)),
      .p none 28 (.mv (.tmp 1)),
      .l none (some 29) (.call 29 [(.tmp 27), (.tmp 28)]),
      .p none 26 (.mv (.tmp 29)),
      .p none 30 (.ext 0 (.tmp 26)),
      .p none 31 (.ext 1 (.tmp 26)),
      .p none 10 (.mv (.tmp 30)),
      .p none 11 (.mv (.tmp 31))])
  (.seq (.seq (.reg [.p none 32 (.mv (.tmp 7)),
      .p none 33 (.not (.tmp 32)),
      .p none 34 (.mv (.tmp 33)),
      .split 34,
      .p (some (34, false)) 35 (.mv (.tmp 9)),
      .p (some (34, false)) 36 (.mv (.tmp 11)),
      .p (some (34, false)) 37 (.bin .neq .i64 (.tmp 35) (.tmp 36)),
      .p none 38 (.pick (.tmp 34) (.const (.bool true)) (.tmp 37))])
  (.cond (.tmp 38)
    (.seq (.reg [.p none 6 (.mv (.const (.bool false)))])
    .ret)
    .skip))
  (.seq (.seq (.reg [.p none 39 (.mv (.tmp 1)),
      .p none 40 (.bin .lss .i64 (.tmp 39) (.const (.int .i64 0))),
      .p none 41 (.mv (.tmp 40)),
      .split 41,
      .p (some (41, false)) 42 (.mv (.tmp 1)),
      .p (some (41, false)) 43 (.bin .gtr .i64 (.tmp 42) (.const (.int .i64 65536))),
      .p none 44 (.pick (.tmp 41) (.const (.bool true)) (.tmp 43))])
  (.cond (.tmp 44)
    (.seq (.reg [.p none 45 (.mv (.tmp 9)),
        .p none 46 (.bin .eql .i64 (.tmp 45) (.const (.int .i64 3))),
        .p none 47 (.mv (.tmp 46)),
        .split 47,
        .p (some (47, true)) 48 (.mv (.tmp 8)),
        .p (some (47, true)) 49 (.len (.tmp 48)),
        .p (some (47, true)) 50 (.bin .eql .i64 (.tmp 49) (.const (.int .i64 0))),
        .p none 51 (.pick (.tmp 47) (.tmp 50) (.const (.bool false))),
        .p none 6 (.mv (.tmp 51))])
    .ret)
    .skip))
  (.seq (.seq (.reg [.p none 52 (.mv (.tmp 9)),
      .p none 53 (.bin .neq .i64 (.tmp 52) (.const (.int .i64 0)))])
  (.cond (.tmp 53)
    (.seq (.reg [.p none 54 (.mv (.tmp 9)),
        .p none 55 (.bin .eql .i64 (.tmp 54) (.const (.int .i64 30))),
        .p none 56 (.mv (.tmp 55)),
        .split 56,
        .p (some (56, true)) 57 (.mv (.tmp 8)),
        .p (some (56, true)) 58 (.len (.tmp 57)),
        .p (some (56, true)) 59 (.bin .eql .i64 (.tmp 58) (.const (.int .i64 0))),
        .p none 60 (.pick (.tmp 56) (.tmp 59) (.const (.bool false))),
        .p none 61 (.mv (.tmp 60)),
        .split 61,
        .p (some (61, true)) 62 (.mv (.tmp 10)),
        .p (some (61, true)) 63 (.len (.tmp 62)),
        .p (some (61, true)) 64 (.bin .eql .i64 (.tmp 63) (.const (.int .i64 0))),
        .p none 65 (.pick (.tmp 61) (.tmp 64) (.const (.bool false))),
        .p none 6 (.mv (.tmp 65))])
    .ret)
    .skip))
  (.seq (.reg [.p none 67 (.mv (.tmp 10)),
      .l none (some 68) (.call 17 [(.tmp 67)]),
      .p none 66 (.mv (.tmp 68)),
      .p none 69 (.ext 0 (.tmp 66)),
      .p none 70 (.ext 1 (.tmp 66)),
      .p none 12 (.mv (.tmp 69)),
      .p none 13 (.mv (.tmp 70))])
  (.seq (.reg [.l none (some 71) (.bs 5 0 1 [] []),
      .p none 72 (.mv (.tmp 0)),
      .l none (some 73) (.app 5 1 1 [(.int .u8 0)] (.tmp 71) (.tmp 72)),
      .p none 74 (.mv (.tmp 2)),
      .l none (some 75) (.bs 5 1 1 [(.int .u8 0)] [(0, 1, (.tmp 74))]),
      .l none (some 76) (.app 5 1 1 [(.int .u8 0)] (.tmp 73) (.tmp 75)),
      .p none 14 (.mv (.tmp 76))])
  (.seq (.reg [.p none 78 (.mv (.tmp 14)),
      .p none 79 (.mv (.tmp 1)),
      .l none (some 80) (.call 28 [(.tmp 78), (.tmp 79)]),
      .p none 77 (.mv (.tmp 80)),
      .p none 81 (.ext 0 (.tmp 77)),
      .p none 82 (.ext 1 (.tmp 77)),
      .p none 15 (.mv (.tmp 81)),
      .p none 16 (.mv (.tmp 82))])
  (.seq (.seq (.reg [.p none 83 (.mv (.tmp 0)),
      .p none 84 (.len (.tmp 83)),
      .p none 85 (.bin .gtr .i64 (.tmp 84) (.const (.int .i64 0)))])
  (.cond (.tmp 85)
    (.seq (.reg [.p none 87 (.mv (.tmp 0)),
        .p none 88 (.mv (.tmp 0)),
        .p none 89 (.len (.tmp 88)),
        .p none 90 (.bin .sub .i64 (.tmp 89) (.const (.int .i64 1))),
        .p none 91 (.slc 1 (.tmp 87) none (some (.tmp 90)) none),
        .p none 92 (.mv (.tmp 1)),
        .l none (some 93) (.call 28 [(.tmp 91), (.tmp 92)]),
        .p none 86 (.mv (.tmp 93)),
        .p none 94 (.ext 0 (.tmp 86)),
        .p none 95 (.ext 1 (.tmp 86)),
        .p none 17 (.mv (.tmp 94)),
        .p none 18 (.mv (.tmp 95))])
    (.seq (.reg [.p none 96 (.mv (.tmp 18)),
        .p none 97 (.bin .neq .i64 (.tmp 96) (.const (.int .i64 30)))])
    (.cond (.tmp 97)
      (.seq (.reg [.p none 6 (.mv (.const (.bool false)))])
      .ret)
      .skip)))
    .skip))
  (.seq (.reg [.p none 98 (.mv (.tmp 8)),
      .p none 99 (.len (.tmp 98)),
      .p none 100 (.mv (.tmp 1)),
      .p none 101 (.bin .eql .i64 (.tmp 99) (.tmp 100)),
      .p none 102 (.mv (.tmp 101)),
      .split 102,
      .p (some (102, true)) 103 (.mv (.tmp 1)),
      .p (some (102, true)) 104 (.mv (.tmp 0)),
      .p (some (102, true)) 105 (.len (.tmp 104)),
      .p (some (102, true)) 106 (.bin .mul .i64 (.const (.int .i64 65)) (.tmp 105)),
      .p (some (102, true)) 107 (.bin .leq .i64 (.tmp 103) (.tmp 106)),
      .p none 108 (.pick (.tmp 102) (.tmp 107) (.const (.bool false))),
      .p none 109 (.mv (.tmp 108)),
      .split 109,
      .p (some (109, true)) 110 (.mv (.tmp 13)),
      .p (some (109, true)) 111 (.bin .eql .i64 (.tmp 110) (.const (.int .i64 0))),
      .p none 112 (.pick (.tmp 109) (.tmp 111) (.const (.bool false))),
      .p none 113 (.mv (.tmp 112)),
      .split 113,
      .p (some (113, true)) 114 (.mv (.tmp 12)),
      .p (some (113, true)) 115 (.mv (.tmp 0)),
      .l (some (113, true)) (some 116) (.call 18 [(.tmp 114), (.tmp 115)]),
      .p none 117 (.pick (.tmp 113) (.tmp 116) (.const (.bool false))),
      .p none 118 (.mv (.tmp 117)),
      .split 118,
      .p (some (118, true)) 119 (.mv (.tmp 16)),
      .p (some (118, true)) 120 (.bin .eql .i64 (.tmp 119) (.const (.int .i64 30))),
      .p none 121 (.pick (.tmp 118) (.tmp 120) (.const (.bool false))),
      .p none 6 (.mv (.tmp 121))])
  .ret))))))))))))
theorem C9 : compile Try.prog 122 (Try.f9.body.getD .skip) = some M9 := by kernel_rfl

/-- winnowlaw3.LzBack -/
noncomputable def M10 : MC :=
  (.seq (.reg [.p none 4 (.mv (.const (.bool false)))])
  (.seq (.reg [.l none (some 18) (.call 31 []),
      .p none 5 (.mv (.tmp 18))])
  (.seq (.reg [.p none 20 (.mv (.tmp 0)),
      .l none (some 21) (.call 24 [(.tmp 20)]),
      .p none 19 (.mv (.tmp 21)),
      .p none 22 (.ext 0 (.tmp 19)),
      .p none 23 (.ext 1 (.tmp 19)),
      .p none 6 (.mv (.tmp 22)),
      .p none 7 (.mv (.tmp 23))])
  (.seq (.seq (.reg [.p none 24 (.mv (.tmp 0)),
      .p none 25 (.len (.tmp 24)),
      .p none 26 (.bin .gtr .i64 (.tmp 25) (.const (.int .i64 65536)))])
  (.cond (.tmp 26)
    (.seq (.reg [.p none 27 (.mv (.tmp 5)),
        .p none 28 (.mv (.tmp 27)),
        .split 28,
        .p (some (28, true)) 29 (.mv (.tmp 7)),
        .p (some (28, true)) 30 (.bin .eql .i64 (.tmp 29) (.const (.int .i64 2))),
        .p none 31 (.pick (.tmp 28) (.tmp 30) (.const (.bool false))),
        .p none 32 (.mv (.tmp 31)),
        .split 32,
        .p (some (32, true)) 33 (.mv (.tmp 6)),
        .p (some (32, true)) 34 (.len (.tmp 33)),
        .p (some (32, true)) 35 (.bin .eql .i64 (.tmp 34) (.const (.int .i64 0))),
        .p none 36 (.pick (.tmp 32) (.tmp 35) (.const (.bool false))),
        .p none 4 (.mv (.tmp 36))])
    .ret)
    .skip))
  (.seq (.reg [.p none 38 (.mv (.tmp 6)),
      .p none 39 (.mv (.tmp 0)),
      .p none 40 (.len (.tmp 39)),
      .l none (some 41) (.call 28 [(.tmp 38), (.tmp 40)]),
      .p none 37 (.mv (.tmp 41)),
      .p none 42 (.ext 0 (.tmp 37)),
      .p none 43 (.ext 1 (.tmp 37)),
      .p none 8 (.mv (.tmp 42)),
      .p none 9 (.mv (.tmp 43))])
  (.seq (.reg [.p none 45 (.mv (.tmp 6)),
      .p none 46 (.mv (.tmp 0)),
      .p none 47 (.len (.tmp 46)),
      .l none (some 48) (.call 29 [(.tmp 45), (.tmp 47)]),
      .p none 44 (.mv (.tmp 48)),
      .p none 49 (.ext 0 (.tmp 44)),
      .p none 50 (.ext 1 (.tmp 44)),
      .p none 10 (.mv (.tmp 49)),
      .p none 11 (.mv (.tmp 50))])
  (.seq (.reg [.p none 52 (.mv (.tmp 10)),
      .l none (some 53) (.call 16 [(.tmp 52)]),
      .p none 51 (.mv (.tmp 53)),
      .p none 54 (.ext 0 (.tmp 51)),
      .p none 55 (.ext 1 (.tmp 51)),
      .p none 12 (.mv (.tmp 54)),
      .p none 13 (.mv (.tmp 55))])
  (.seq (.reg [.p none 57 (.mv (.tmp 10)),
      .l none (some 58) (.call 17 [(.tmp 57)]),
      .p none 56 (.mv (.tmp 58)),
      .p none 59 (.ext 0 (.tmp 56)),
      .p none 60 (.ext 1 (.tmp 56)),
      .p none 14 (.mv (.tmp 59)),
      .p none 15 (.mv (.tmp 60))])
  (.seq (.reg [.p none 62 (.mv (.tmp 6)),
      .p none 63 (.mv (.tmp 1)),
      .l none (some 64) (.call 28 [(.tmp 62), (.tmp 63)]),
      .p none 61 (.mv (.tmp 64)),
      .p none 65 (.ext 0 (.tmp 61)),
      .p none 66 (.ext 1 (.tmp 61)),
      .p none 16 (.mv (.tmp 65)),
      .p none 17 (.mv (.tmp 66))])
  (.seq (.seq (.reg [.p none 67 (.mv (.tmp 5)),
      .p none 68 (.not (.tmp 67)),
      .p none 69 (.mv (.tmp 68)),
      .split 69,
      .p (some (69, false)) 70 (.mv (.tmp 7)),
      .p (some (69, false)) 71 (.bin .neq .i64 (.tmp 70) (.const (.int .i64 0))),
      .p none 72 (.pick (.tmp 69) (.const (.bool true)) (.tmp 71)),
      .p none 73 (.mv (.tmp 72)),
      .split 73,
      .p (some (73, false)) 74 (.mv (.tmp 9)),
      .p (some (73, false)) 75 (.bin .neq .i64 (.tmp 74) (.const (.int .i64 0))),
      .p none 76 (.pick (.tmp 73) (.const (.bool true)) (.tmp 75)),
      .p none 77 (.mv (.tmp 76)),
      .split 77,
      .p (some (77, false)) 78 (.mv (.tmp 11)),
      .p (some (77, false)) 79 (.bin .neq .i64 (.tmp 78) (.const (.int .i64 0))),
      .p none 80 (.pick (.tmp 77) (.const (.bool true)) (.tmp 79)),
      .p none 81 (.mv (.tmp 80)),
      .split 81,
      .p (some (81, false)) 82 (.mv (.tmp 13)),
      .p (some (81, false)) 83 (.bin .neq .i64 (.tmp 82) (.const (.int .i64 0))),
      .p none 84 (.pick (.tmp 81) (.const (.bool true)) (.tmp 83)),
      .p none 85 (.mv (.tmp 84)),
      .split 85,
      .p (some (85, false)) 86 (.mv (.tmp 15)),
      .p (some (85, false)) 87 (.bin .neq .i64 (.tmp 86) (.const (.int .i64 0))),
      .p none 88 (.pick (.tmp 85) (.const (.bool true)) (.tmp 87)),
      .p none 89 (.mv (.tmp 88)),
      .split 89,
      .p (some (89, false)) 90 (.mv (.tmp 6)),
      .p (some (89, false)) 91 (.len (.tmp 90)),
      .p (some (89, false)) 92 (.mv (.tmp 0)),
      .p (some (89, false)) 93 (.len (.tmp 92)),
      .l (some (89, false)) (some 94) (.call 11 [(.tmp 93)]),
      .p (some (89, false)) 95 (.bin .gtr .i64 (.tmp 91) (.tmp 94)),
      .p none 96 (.pick (.tmp 89) (.const (.bool true)) (.tmp 95))])
  (.cond (.tmp 96)
    (.seq (.reg [.p none 4 (.mv (.const (.bool false)))])
    .ret)
    .skip))
  (.seq (.seq (.reg [.p none 97 (.mv (.tmp 1)),
      .p none 98 (.mv (.tmp 0)),
      .p none 99 (.len (.tmp 98)),
      .p none 100 (.bin .neq .i64 (.tmp 97) (.tmp 99)),
      .p none 101 (.mv (.tmp 100)),
      .split 101,
      .p (some (101, true)) 102 (.mv (.tmp 17)),
      .p (some (101, true)) 103 (.bin .neq .i64 (.tmp 102) (.const (.int .i64 30))),
      .p none 104 (.pick (.tmp 101) (.tmp 103) (.const (.bool false))),
      .p none 105 (.mv (.tmp 104)),
      .split 105,
      .p (some (105, true)) 106 (.mv (.tmp 17)),
      .p (some (105, true)) 107 (.bin .neq .i64 (.tmp 106) (.const (.int .i64 3))),
      .p none 108 (.pick (.tmp 105) (.tmp 107) (.const (.bool false)))])
  (.cond (.tmp 108)
    (.seq (.reg [.p none 4 (.mv (.const (.bool false)))])
    .ret)
    .skip))
  (.seq (.reg [.p none 109 (.mv (.tmp 8)),
      .p none 110 (.mv (.tmp 0)),
      .l none (some 111) (.call 18 [(.tmp 109), (.tmp 110)]),
      .p none 112 (.mv (.tmp 111)),
      .split 112,
      .p (some (112, true)) 113 (.mv (.tmp 12)),
      .p (some (112, true)) 114 (.mv (.tmp 0)),
      .l (some (112, true)) (some 115) (.call 18 [(.tmp 113), (.tmp 114)]),
      .p none 116 (.pick (.tmp 112) (.tmp 115) (.const (.bool false))),
      .p none 117 (.mv (.tmp 116)),
      .split 117,
      .p (some (117, true)) 118 (.mv (.tmp 14)),
      .p (some (117, true)) 119 (.mv (.tmp 6)),
      .l (some (117, true)) (some 120) (.call 18 [(.tmp 118), (.tmp 119)]),
      .p none 121 (.pick (.tmp 117) (.tmp 120) (.const (.bool false))),
      .p none 4 (.mv (.tmp 121))])
  .ret))))))))))))
theorem C10 : compile Try.prog 122 (Try.f10.body.getD .skip) = some M10 := by kernel_rfl

/-- lz.Bound -/
noncomputable def M11 : MC :=
  (.seq (.reg [.p none 2 (.mv (.const (.int .i64 0)))])
  (.seq (.block 0
    (.seq (.reg [.p none 4 (.mv (.tmp 0)),
        .p none 5 (.bin .lss .i64 (.tmp 4) (.const (.int .i64 1))),
        .p none 6 (.mv (.tmp 5)),
        .split 6,
        .p (some (6, false)) 7 (.mv (.tmp 0)),
        .p (some (6, false)) 8 (.bin .gtr .i64 (.tmp 7) (.const (.int .i64 65536))),
        .p none 9 (.pick (.tmp 6) (.const (.bool true)) (.tmp 8)),
        .p none 3 (.mv (.tmp 9))])
    (.cond (.tmp 3)
      (.seq (.reg [.p none 2 (.mv (.const (.int .i64 0)))])
      .ret)
      (.seq (.reg [.p none 11 (.mv (.tmp 0)),
          .p none 12 (.bin .lss .i64 (.tmp 11) (.const (.int .i64 128))),
          .p none 10 (.mv (.tmp 12))])
      (.cond (.tmp 10)
        (.seq (.reg [.p none 13 (.mv (.tmp 0)),
            .p none 14 (.bin .add .i64 (.tmp 13) (.const (.int .i64 1))),
            .p none 2 (.mv (.tmp 14))])
        .ret)
        (.seq (.reg [.p none 16 (.mv (.tmp 0)),
            .p none 17 (.bin .lss .i64 (.tmp 16) (.const (.int .i64 16384))),
            .p none 15 (.mv (.tmp 17))])
        (.cond (.tmp 15)
          (.seq (.reg [.p none 18 (.mv (.tmp 0)),
              .p none 19 (.bin .add .i64 (.tmp 18) (.const (.int .i64 2))),
              .p none 2 (.mv (.tmp 19))])
          .ret)
          .skip)))))))
  (.seq (.reg [.p none 20 (.mv (.tmp 0)),
      .p none 21 (.bin .add .i64 (.tmp 20) (.const (.int .i64 5))),
      .p none 2 (.mv (.tmp 21))])
  .ret)))
theorem C11 : compile Try.prog 22 (Try.f11.body.getD .skip) = some M11 := by kernel_rfl
end Go.Proofs.Yteanplpnhlgjeaa.E
