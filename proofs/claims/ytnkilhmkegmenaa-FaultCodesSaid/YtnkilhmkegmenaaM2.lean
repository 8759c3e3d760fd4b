/- The intermediate code of the functions that are walked here, each with the proof that it is the translation of the model's code. -/
import Derived.Test.YtnkilhmkegmenaaE6
import Derived.KernelRfl
namespace Go.Proofs.Ytnkilhmkegmenaa.E
open Go


/-- fault.placeOf -/
def M41 : MC :=
  (.seq (.reg [.l none (some 1) (.bx 25 (.tmp 0)),
      .l none (some 2) (.al 68 [(.int .i64 0), (.int .i64 0), (.int .i64 0), (.int .i64 0)])])
  (.seq (.reg [.p none 3 (.fa 0 (.tmp 1)),
      .l none (some 4) (.ld none (.tmp 3)),
      .p none 5 (.fa 1 (.tmp 1)),
      .l none (some 6) (.ld none (.tmp 5)),
      .p none 7 (.fa 2 (.tmp 1)),
      .l none (some 8) (.ld none (.tmp 7)),
      .p none 9 (.fa 3 (.tmp 1)),
      .l none (some 10) (.ld none (.tmp 9)),
      .p none 11 (.bld [(.int .i64 0), (.int .i64 0), (.int .i64 0), (.int .i64 0)] [(0, 1, (.tmp 4)), (1, 1, (.tmp 6)), (2, 1, (.tmp 8)), (3, 1, (.tmp 10))]),
      .l none none (.st 4 (.tmp 2) (.tmp 11))])
  .ret))
theorem C41 : compile Try.prog 12 (Try.f41.body.getD .skip) = some M41 := by kernel_rfl

/-- winnowref16.Check -/
def M28 : MC :=
  (.seq (.reg [.p none 2 (.mv (.const (.int .i64 0)))])
  (.seq (.seq (.reg [.p none 7 (.mv (.tmp 0)),
      .p none 8 (.len (.tmp 7)),
      .p none 9 (.bin .gtr .i64 (.tmp 8) (.const (.int .i64 256)))])
  (.cond (.tmp 9)
    (.seq (.reg [.p none 2 (.mv (.const (.int .i64 2)))])
    .ret)
    .skip))
  (.seq (.seq (.reg [.p none 3 (.mv (.const (.int .i64 0)))])
  (.block 0
    (.loop
      (.seq (.seq (.reg [.p none 10 (.mv (.tmp 3)),
          .p none 11 (.mv (.tmp 0)),
          .p none 12 (.len (.tmp 11)),
          .p none 13 (.bin .lss .i64 (.tmp 10) (.tmp 12))])
      (.cond (.tmp 13)
        .skip
        (.exit 0)))
      (.seq (.block 1
        (.seq (.seq (.reg [.p none 16 (.mv (.tmp 0)),
            .p none 17 (.mv (.tmp 3)),
            .p none 18 (.idx 8 (.tmp 16) (.tmp 17)),
            .l none (some 19) (.ld (some 8) (.tmp 18)),
            .l none (some 20) (.call 38 [(.tmp 19)]),
            .p none 21 (.not (.tmp 20))])
        (.cond (.tmp 21)
          (.seq (.reg [.p none 2 (.mv (.const (.int .i64 160)))])
          .ret)
          .skip))
        (.seq (.reg [.p none 4 (.mv (.const (.int .i64 0)))])
        (.block 2
          (.loop
            (.seq (.seq (.reg [.p none 22 (.mv (.tmp 4)),
                .p none 23 (.mv (.tmp 3)),
                .p none 24 (.bin .lss .i64 (.tmp 22) (.tmp 23))])
            (.cond (.tmp 24)
              .skip
              (.exit 2)))
            (.seq (.block 3
              (.seq (.reg [.p none 27 (.mv (.tmp 0)),
                  .p none 28 (.mv (.tmp 3)),
                  .p none 29 (.idx 8 (.tmp 27) (.tmp 28)),
                  .l none (some 30) (.ld (some 8) (.tmp 29)),
                  .l none (some 5) (.al 25 [(.int .i64 0), (.int .i64 0), (.int .i64 0), (.int .i64 0), (.int .i64 0), (.int .i64 0), (.int .i64 0), (.int .u32 0)]),
                  .l none none (.st 8 (.tmp 5) (.tmp 30))])
              (.seq (.reg [.p none 31 (.mv (.tmp 0)),
                  .p none 32 (.mv (.tmp 4)),
                  .p none 33 (.idx 8 (.tmp 31) (.tmp 32)),
                  .l none (some 34) (.ld (some 8) (.tmp 33)),
                  .l none (some 6) (.al 25 [(.int .i64 0), (.int .i64 0), (.int .i64 0), (.int .i64 0), (.int .i64 0), (.int .i64 0), (.int .i64 0), (.int .u32 0)]),
                  .l none none (.st 8 (.tmp 6) (.tmp 34))])
              (.seq (.reg [.p none 35 (.fa 0 (.tmp 5)),
                  .l none (some 36) (.ld none (.tmp 35)),
                  .p none 37 (.fa 0 (.tmp 6)),
                  .l none (some 38) (.ld none (.tmp 37)),
                  .p none 39 (.bin .eql .i64 (.tmp 36) (.tmp 38)),
                  .p none 40 (.mv (.tmp 39)),
                  .split 40,
                  .p (some (40, true)) 41 (.fa 1 (.tmp 5)),
                  .l (some (40, true)) (some 42) (.ld none (.tmp 41)),
                  .p (some (40, true)) 43 (.fa 1 (.tmp 6)),
                  .l (some (40, true)) (some 44) (.ld none (.tmp 43)),
                  .p (some (40, true)) 45 (.bin .eql .i64 (.tmp 42) (.tmp 44)),
                  .p none 46 (.pick (.tmp 40) (.tmp 45) (.const (.bool false))),
                  .p none 47 (.mv (.tmp 46)),
                  .split 47,
                  .p (some (47, true)) 48 (.fa 2 (.tmp 5)),
                  .l (some (47, true)) (some 49) (.ld none (.tmp 48)),
                  .p (some (47, true)) 50 (.fa 2 (.tmp 6)),
                  .l (some (47, true)) (some 51) (.ld none (.tmp 50)),
                  .p (some (47, true)) 52 (.bin .eql .i64 (.tmp 49) (.tmp 51)),
                  .p none 53 (.pick (.tmp 47) (.tmp 52) (.const (.bool false))),
                  .p none 54 (.mv (.tmp 53)),
                  .split 54,
                  .p (some (54, true)) 55 (.fa 3 (.tmp 5)),
                  .l (some (54, true)) (some 56) (.ld none (.tmp 55)),
                  .p (some (54, true)) 57 (.fa 3 (.tmp 6)),
                  .l (some (54, true)) (some 58) (.ld none (.tmp 57)),
                  .p (some (54, true)) 59 (.bin .eql .i64 (.tmp 56) (.tmp 58)),
                  .p none 60 (.pick (.tmp 54) (.tmp 59) (.const (.bool false)))])
              (.cond (.tmp 60)
                (.seq (.reg [.p none 2 (.mv (.const (.int .i64 160)))])
                .ret)
                .skip)))))
            (.reg [.p none 25 (.mv (.tmp 4)),
                .p none 26 (.bin .add .i64 (.tmp 25) (.const (.int .i64 1))),
                .p none 4 (.mv (.tmp 26))]))))))))
      (.reg [.p none 14 (.mv (.tmp 3)),
          .p none 15 (.bin .add .i64 (.tmp 14) (.const (.int .i64 1))),
          .p none 3 (.mv (.tmp 15))]))))))
  (.seq (.reg [.p none 2 (.mv (.const (.int .i64 0)))])
  .ret))))
theorem C28 : compile Try.prog 61 (Try.f28.body.getD .skip) = some M28 := by kernel_rfl

/-- fault.Check -/
def M35 : MC :=
  (.seq (.reg [.p none 2 (.mv (.const (.int .i64 0)))])
  (.seq (.seq (.reg [.p none 7 (.mv (.tmp 0)),
      .p none 8 (.len (.tmp 7)),
      .p none 9 (.bin .gtr .i64 (.tmp 8) (.const (.int .i64 256)))])
  (.cond (.tmp 9)
    (.seq (.reg [.p none 2 (.mv (.const (.int .i64 2)))])
    .ret)
    .skip))
  (.seq (.reg [.l none (some 10) (.mkmap),
      .p none 3 (.mv (.tmp 10))])
  (.seq (.seq (.reg [.p none 11 (.mv (.tmp 0)),
      .p none 12 (.len (.tmp 11)),
      .p none 13 (.mv (.const (.int .i64 0)))])
  (.block 0
    (.loop
      (.seq (.reg [.p none 14 (.bin .lss .i64 (.tmp 13) (.tmp 12))])
      (.seq (.cond (.tmp 14)
        .skip
        (.exit 0))
      (.seq (.block 1
        (.seq (.reg [.p none 15 (.idx 8 (.tmp 11) (.tmp 13)),
            .l none (some 16) (.ld (some 8) (.tmp 15)),
            .l none (some 5) (.al 25 [(.int .i64 0), (.int .i64 0), (.int .i64 0), (.int .i64 0), (.int .i64 0), (.int .i64 0), (.int .i64 0), (.int .u32 0)]),
            .l none none (.st 8 (.tmp 5) (.tmp 16))])
        (.seq (.reg [.l none (some 17) (.ld (some 8) (.tmp 5)),
            .l none (some 18) (.call 41 [(.tmp 17)]),
            .l none (some 6) (.al 68 [(.int .i64 0), (.int .i64 0), (.int .i64 0), (.int .i64 0)]),
            .l none none (.st 4 (.tmp 6) (.tmp 18))])
        (.seq (.dreg (.fork [.qp 0 none 19 (.mv (.tmp 3)),
            .l 1 none (some 20) (.ld (some 4) (.tmp 6))]
          (.line [.l 2 none (some 21) (.raw (.lookup 89 (.tmp 19) (.tmp 20) false)),
              .qp 3 none 22 (.bin .add .i64 (.tmp 21) (.const (.int .i64 1))),
              .l 4 none (some 23) (.raw (.mapEntry 89 (.tmp 19) (.tmp 20))),
              .qp 5 none 24 (.ext 1 (.tmp 23)),
              .l 6 none none (.raw (.entryStore 89 (.tmp 19) (.tmp 24) (.tmp 22)))])
          (.line [.l 4 none (some 23) (.raw (.mapEntry 89 (.tmp 19) (.tmp 20))),
              .qp 5 none 24 (.ext 1 (.tmp 23)),
              .l 2 none (some 21) (.raw (.lookup 89 (.tmp 19) (.tmp 20) false)),
              .qp 3 none 22 (.bin .add .i64 (.tmp 21) (.const (.int .i64 1))),
              .l 6 none none (.raw (.entryStore 89 (.tmp 19) (.tmp 24) (.tmp 22)))])))
        (.seq (.reg [.l none (some 25) (.ld (some 8) (.tmp 5)),
            .l none (some 26) (.call 37 [(.tmp 25)]),
            .p none 27 (.not (.tmp 26)),
            .p none 28 (.mv (.tmp 27)),
            .split 28,
            .p (some (28, false)) 29 (.mv (.tmp 3)),
            .l (some (28, false)) (some 30) (.ld (some 4) (.tmp 6)),
            .l (some (28, false)) (some 31) (.raw (.lookup 89 (.tmp 29) (.tmp 30) false)),
            .p (some (28, false)) 32 (.bin .gtr .i64 (.tmp 31) (.const (.int .i64 1))),
            .p none 33 (.pick (.tmp 28) (.const (.bool true)) (.tmp 32))])
        (.cond (.tmp 33)
          (.seq (.reg [.p none 2 (.mv (.const (.int .i64 160)))])
          .ret)
          .skip))))))
      (.reg [.p none 34 (.bin .add .i64 (.tmp 13) (.const (.int .i64 1))),
          .p none 13 (.mv (.tmp 34))])))))))
  (.seq (.reg [.p none 2 (.mv (.const (.int .i64 0)))])
  .ret)))))
theorem C35 : compile Try.prog 35 (Try.f35.body.getD .skip) = some M35 := by kernel_rfl
end Go.Proofs.Ytnkilhmkegmenaa.E
