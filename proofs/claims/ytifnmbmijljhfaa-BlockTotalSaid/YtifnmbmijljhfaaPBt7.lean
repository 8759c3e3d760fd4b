/- Part 7 of the proof of what the last of these files says. -/
import Derived.Test.YtifnmbmijljhfaaPBt6
import Derived.KernelRfl
namespace Go.Proofs.Ytifnmbmijljhfaa.E
open Go
theorem mixed : Try.prog.follows .mixedOrders = true := by kernel_rfl
noncomputable def M7 : MC := (.seq (.reg [.p none 6 (.mv (.const (.slice none 0 0))),.p none 7 (.mv (.const (.slice none 0 0))),.p none 8 (.mv (.const (.int .i64 0))),.p none 9 (.mv (.const (.bool false)))]) (.seq (.reg [.p none 21 (.mv (.tmp 0)),.p none 22 (.mv (.tmp 1)),.l none (some 23) (.call 18 [(.tmp 21),(.tmp 22)]),.p none 20 (.mv (.tmp 23)),.p none 24 (.ext 0 (.tmp 20)),.p none 25 (.ext 1 (.tmp 20)),.p none 10 (.mv (.tmp 24)),.p none 11 (.mv (.tmp 25))]) (.seq (.seq (.reg [.p none 26 (.mv (.tmp 11)),.p none 27 (.bin .neq .i64 (.tmp 26) (.const (.int .i64 0))),.p none 28 (.mv (.tmp 27)),.split 28,.p (some (28,false)) 29 (.mv (.tmp 10)),.p (some (28,false)) 30 (.isnil false 0 (.tmp 29)),.p none 31 (.pick (.tmp 28) (.const (.bool true)) (.tmp 30))]) (.cond (.tmp 31) (.seq (.reg [.p none 6 (.mv (.const (.slice none 0 0))),.p none 7 (.mv (.const (.slice none 0 0))),.p none 8 (.mv (.const (.int .i64 0))),.p none 9 (.mv (.const (.bool false)))]) .ret) .skip)) (.seq (.reg [.p none 12 (.mv (.const (.slice none 0 0)))]) (.seq (.reg [.p none 13 (.mv (.const (.bool false)))]) (.seq (.seq (.reg [.p none 14 (.mv (.const (.int .i64 0)))]) (.block 0 (.loop (.seq (.seq (.reg [.p none 32 (.mv (.tmp 14)),.p none 33 (.mv (.tmp 2)),.p none 34 (.len (.tmp 33)),.p none 35 (.bin .lss .i64 (.tmp 32) (.tmp 34)),.p none 36 (.mv (.tmp 35)),.split 36,.p (some (36,true)) 37 (.mv (.tmp 13)),.p (some (36,true)) 38 (.not (.tmp 37)),.p none 39 (.pick (.tmp 36) (.tmp 38) (.const (.bool false)))]) (.cond (.tmp 39) .skip (.exit 0))) (.seq (.block 1 (.seq (.dreg (.line [.qp 0 none 42 (.mv (.tmp 10)),.qp 1 none 43 (.mv (.tmp 2)),.qp 2 none 44 (.mv (.tmp 14)),.qp 3 none 45 (.idx 2 (.tmp 43) (.tmp 44)),.qp 4 none 46 (.fa 0 (.tmp 45)),.qp 6 none 48 (.mv (.tmp 2)),.qp 7 none 49 (.mv (.tmp 14)),.qp 8 none 50 (.idx 2 (.tmp 48) (.tmp 49)),.qp 9 none 51 (.fa 1 (.tmp 50)),.ql 10 none 52 none (.tmp 51),.l 5 none (some 47) (.ld none (.tmp 46)),.l 11 none (some 53) (.call 20 [(.tmp 42),(.tmp 47),(.tmp
 52)]),.qp 12 none 15 (.mv (.tmp 53))])) (.seq (.reg [.p none 54 (.mv (.tmp 15)),.p none 55 (.bin .eql .i64 (.tmp 54) (.const (.int .i64 62))),.p none 13 (.mv (.tmp 55))]) (.seq (.reg [.p none 56 (.mv (.tmp 15)),.p none 57 (.bin .eql .i64 (.tmp 56) (.const (.int .i64 0)))]) (.cond (.tmp 57) (.reg [.p none 58 (.mv (.tmp 12)),.p none 59 (.mv (.tmp 2)),.p none 60 (.mv (.tmp 14)),.p none 61 (.idx 2 (.tmp 59) (.tmp 60)),.l none (some 62) (.ld (some 2) (.tmp 61)),.l none (some 63) (.bs 50 1 2 [(.string ⟨#[]⟩),(.string ⟨#[]⟩)] [(0,2,(.tmp 62))]),.l none (some 64) (.app 50 32 2 [(.string ⟨#[]⟩),(.string ⟨#[]⟩)] (.tmp 58) (.tmp 63)),.p none 12 (.mv (.tmp 64))]) .skip))))) (.reg [.p none 40 (.mv (.tmp 14)),.p none 41 (.bin .add .i64 (.tmp 40) (.const (.int .i64 1))),.p none 14 (.mv (.tmp 41))])))))) (.seq (.seq (.reg [.p none 65 (.mv (.tmp 12)),.p none 66 (.len (.tmp 65)),.p none 67 (.bin .eql .i64 (.tmp 66) (.const (.int .i64 0)))]) (.cond (.tmp 67) (.seq (.reg [.p none 68 (.mv (.tmp 10)),.l none (some 69) (.call 20 [(.tmp 68),(.const (.string ⟨#[107]⟩)),(.const (.string ⟨#[118]⟩))])]) (.reg [.p none 70 (.mv (.tmp 12)),.p none 71 (.bld [(.string ⟨#[]⟩),(.string ⟨#[]⟩)] [(0,1,(.const (.string ⟨#[107]⟩))),(1,1,(.const (.string ⟨#[118]⟩)))]),.l none (some 72) (.bs 50 1 2 [(.string ⟨#[]⟩),(.string ⟨#[]⟩)] [(0,2,(.tmp 71))]),.l none (some 73) (.app 50 32 2 [(.string ⟨#[]⟩),(.string ⟨#[]⟩)] (.tmp 70) (.tmp 72)),.p none 12 (.mv (.tmp 73))])) .skip)) (.seq (.reg [.p none 74 (.mv (.tmp 10)),.l none (some 75) (.call 21 [(.tmp 74)]),.p none 16 (.mv (.tmp 75))]) (.seq (.reg [.p none 77 (.mv (.tmp 10)),.l none (some 78) (.call 24 [(.tmp 77)]),.p none 76 (.mv (.tmp 78)),.p none 79 (.ext 0 (.tmp 76)),.p none 80 (.ext 1 (.tmp 76)),.p none 81 (.ext 2 (.tmp 76)),.p none 17 (.mv (.tmp 79)),.p none 18 (.mv (.tmp 80)),.p none 19 (.mv (.tmp 81))]) (.seq (.reg [.p none 82 (.mv (.tmp 12)),.p none 83 (.mv (.tmp 17)),.p none 84 (.mv (.tmp 18)),.p none 85 (.mv (.tmp 19)),.p none 86 (.bin .eql .i64
 (.tmp 85) (.const (.int .i64 0))),.p none 87 (.mv (.tmp 86)),.split 87,.p (some (87,true)) 88 (.mv (.tmp 18)),.p (some (87,true)) 89 (.mv (.tmp 16)),.p (some (87,true)) 90 (.bin .eql .i64 (.tmp 88) (.tmp 89)),.p none 91 (.pick (.tmp 87) (.tmp 90) (.const (.bool false))),.p none 92 (.mv (.tmp 91)),.split 92,.p (some (92,true)) 93 (.mv (.tmp 10)),.l (some (92,true)) (some 94) (.call 25 [(.tmp 93)]),.p (some (92,true)) 95 (.bin .eql .i64 (.tmp 94) (.const (.int .i64 0))),.p none 96 (.pick (.tmp 92) (.tmp 95) (.const (.bool false))),.p none 6 (.mv (.tmp 82)),.p none 7 (.mv (.tmp 83)),.p none 8 (.mv (.tmp 84)),.p none 9 (.mv (.tmp 96))]) .ret))))))))))
theorem C7 : compile Try.prog 97 (Try.f7.body.getD .skip) = some M7 := by kernel_rfl
noncomputable def M9 : MC := (.seq (.reg [.p none 4 (.mv (.const (.pointer none))),.p none 5 (.mv (.const (.int .i64 0)))]) (.seq (.seq (.reg [.p none 12 (.mv (.tmp 1)),.p none 13 (.bin .lss .i64 (.tmp 12) (.const (.int .i64 1))),.p none 14 (.mv (.tmp 13)),.split 14,.p (some (14,false)) 15 (.mv (.tmp 1)),.p (some (14,false)) 16 (.bin .gtr .i64 (.tmp 15) (.const (.int .i64 65536))),.p none 17 (.pick (.tmp 14) (.const (.bool true)) (.tmp 16))]) (.cond (.tmp 17) (.seq (.reg [.p none 4 (.mv (.const (.pointer none))),.p none 5 (.mv (.const (.int .i64 3)))]) .ret) .skip)) (.seq (.reg [.p none 19 (.mv (.tmp 0)),.l none (some 20) (.call 10 [(.tmp 19)]),.p none 18 (.mv (.tmp 20)),.p none 21 (.ext 0 (.tmp 18)),.p none 22 (.ext 1 (.tmp 18)),.p none 6 (.mv (.tmp 21)),.p none 7 (.mv (.tmp 22))]) (.seq (.seq (.reg [.p none 23 (.mv (.tmp 7)),.p none 24 (.bin .neq .i64 (.tmp 23) (.const (.int .i64 0)))]) (.cond (.tmp 24) (.seq (.reg [.p none 25 (.mv (.tmp 7)),.p none 4 (.mv (.const (.pointer none))),.p none 5 (.mv (.tmp 25))]) .ret) .skip)) (.seq (.seq (.reg [.p none 26 (.mv (.tmp 6)),.p none 27 (.len (.tmp 26)),.p none 28 (.bin .eql .i64 (.tmp 27) (.const (.int .i64 0)))]) (.cond (.tmp 28) (.seq (.reg [.p none 4 (.mv (.const (.pointer none))),.p none 5 (.mv (.const (.int .i64 60)))]) .ret) .skip)) (.seq (.dreg (.line [.qp 0 none 29 (.mv (.tmp 6)),.qp 1 none 30 (.mv (.tmp 6)),.qp 2 none 31 (.len (.tmp 30)),.qp 3 none 32 (.bin .sub .i64 (.tmp 31) (.const (.int .i64 1))),.qp 4 none 33 (.slc 1 (.tmp 29) none (some (.tmp 32)) none),.qp 5 none 34 (.mv (.tmp 6)),.qp 6 none 35 (.mv (.tmp 6)),.qp 7 none 36 (.len (.tmp 35)),.qp 8 none 37 (.bin .sub .i64 (.tmp 36) (.const (.int .i64 1))),.qp 9 none 38 (.idx 1 (.tmp 34) (.tmp 37)),.qp 12 none 8 (.mv (.tmp 33)),.l 10 none (some 39) (.ld none (.tmp 38)),.qp 11 none 40 (.conv .i64 (.tmp 39)),.qp 13 none 9 (.mv (.tmp 40))])) (.seq (.seq (.reg [.p none 41 (.mv (.tmp 9)),.l none (some 42) (.call 26 []),.p none 43 (.mv (.const (.int .i64 3))),.p
 none 44 (.bin .geq .i64 (.tmp 41) (.tmp 43)),.p none 45 (.mv (.tmp 44)),.split 45,.p (some (45,false)) 46 (.mv (.tmp 8)),.p (some (45,false)) 47 (.len (.tmp 46)),.p (some (45,false)) 48 (.bin .mul .i64 (.const (.int .i64 64)) (.tmp 47)),.p (some (45,false)) 49 (.mv (.tmp 1)),.p (some (45,false)) 50 (.bin .lss .i64 (.tmp 48) (.tmp 49)),.p none 51 (.pick (.tmp 45) (.const (.bool true)) (.tmp 50))]) (.cond (.tmp 51) (.seq (.reg [.p none 4 (.mv (.const (.pointer none))),.p none 5 (.mv (.const (.int .i64 60)))]) .ret) .skip)) (.seq (.reg [.l none (some 53) (.call 26 []),.p none 54 (.mv (.tmp 9)),.p none 55 (.idxv 3 2 true (.tmp 53) (.tmp 54)),.p none 56 (.fld 1 none (.tmp 55)),.p none 57 (.mv (.tmp 8)),.p none 58 (.mv (.tmp 1)),.l none (some 59) (.callv (.tmp 56) [(.tmp 57),(.tmp 58)]),.p none 52 (.mv (.tmp 59)),.p none 60 (.ext 0 (.tmp 52)),.p none 61 (.ext 1 (.tmp 52)),.p none 10 (.mv (.tmp 60)),.p none 7 (.mv (.tmp 61))]) (.seq (.seq (.reg [.p none 62 (.mv (.tmp 7)),.p none 63 (.bin .neq .i64 (.tmp 62) (.const (.int .i64 0)))]) (.cond (.tmp 63) (.seq (.reg [.p none 4 (.mv (.const (.pointer none))),.p none 5 (.mv (.const (.int .i64 60)))]) .ret) .skip)) (.seq (.seq (.reg [.p none 64 (.mv (.tmp 10)),.l none (some 65) (.call 27 [(.tmp 64)]),.p none 11 (.mv (.tmp 65))]) (.seq (.reg [.p none 66 (.mv (.tmp 11)),.p none 67 (.isnil true 0 (.tmp 66))]) (.cond (.tmp 67) (.seq (.reg [.p none 68 (.mv (.tmp 11)),.p none 4 (.mv (.tmp 68)),.p none 5 (.mv (.const (.int .i64 0)))]) .ret) .skip))) (.seq (.reg [.p none 4 (.mv (.const (.pointer none))),.p none 5 (.mv (.const (.int .i64 60)))]) .ret)))))))))))
theorem C9 : compile Try.prog 69 (Try.f9.body.getD .skip) = some M9 := by kernel_rfl
noncomputable def M10 : MC := (.seq (.reg [.p none 2 (.mv (.const (.slice none 0 0))),.p none 3 (.mv (.const (.int .i64 0)))]) (.seq (.reg [.p none 5 (.mv (.tmp 0)),.p none 6 (.len (.tmp 5)),.p none 7 (.bin .sub .i64 (.tmp 6) (.const (.int .i64 4))),.p none 4 (.mv (.tmp 7))]) (.seq (.seq (.reg [.p none 8 (.mv (.tmp 4)),.p none 9 (.bin .lss .i64 (.tmp 8) (.const (.int .i64 0)))]) (.cond (.tmp 9) (.seq (.reg [.p none 2 (.mv (.const (.slice none 0 0))),.p none 3 (.mv (.const (.int .i64 11)))]) .ret) .skip)) (.seq (.seq (.dreg (.fork [.qp 0 none 10 (.mv (.tmp 0)),.qp 1 none 11 (.mv (.tmp 4)),.qp 2 none 12 (.slc 1 (.tmp 10) none (some (.tmp 11)) none),.qp 6 none 16 (.mv (.tmp 0)),.qp 7 none 17 (.mv (.tmp 4)),.qp 8 none 18 (.slc 1 (.tmp 16) (some (.tmp 17)) none none)] (.fork [.l 3 none (some 13) (.call 29 [(.tmp 12)])] (.fork [.l 4 none (some 14) (.call 28 [(.tmp 13)])] (.line [.l 5 none (some 15) (.b2s (.tmp 14)),.l 9 none (some 19) (.b2s (.tmp 18)),.qp 10 none 20 (.sbin .neq (.tmp 15) (.tmp 19))]) (.line [.l 9 none (some 19) (.b2s (.tmp 18)),.l 5 none (some 15) (.b2s (.tmp 14)),.qp 10 none 20 (.sbin .neq (.tmp 15) (.tmp 19))])) (.line [.l 9 none (some 19) (.b2s (.tmp 18)),.l 4 none (some 14) (.call 28 [(.tmp 13)]),.l 5 none (some 15) (.b2s (.tmp 14)),.qp 10 none 20 (.sbin .neq (.tmp 15) (.tmp 19))])) (.line [.l 9 none (some 19) (.b2s (.tmp 18)),.l 3 none (some 13) (.call 29 [(.tmp 12)]),.l 4 none (some 14) (.call 28 [(.tmp 13)]),.l 5 none (some 15) (.b2s (.tmp 14)),.qp 10 none 20 (.sbin .neq (.tmp 15) (.tmp 19))]))) (.cond (.tmp 20) (.seq (.reg [.p none 2 (.mv (.const (.slice none 0 0))),.p none 3 (.mv (.const (.int .i64 10)))]) .ret) .skip)) (.seq (.reg [.l none (some 21) (.bs 5 0 1 [] []),.p none 22 (.mv (.tmp 0)),.p none 23 (.mv (.tmp 4)),.p none 24 (.slc 1 (.tmp 22) none (some (.tmp 23)) none),.l none (some 25) (.app 5 1 1 [(.int .u8 0)] (.tmp 21) (.tmp 24)),.p none 2 (.mv (.tmp 25)),.p none 3 (.mv (.const (.int .i64 0)))]) .ret)))))
theorem C10 : compile Try.prog 26 (Try.f10.body.getD .skip) = some M10 := by kernel_rfl
noncomputable def M11 : MC := (.seq (.reg [.p none 4 (.mv (.const (.slice none 0 0))),.p none 5 (.mv (.const (.int .i64 0)))]) (.seq (.seq (.reg [.p none 7 (.mv (.tmp 1)),.p none 8 (.bin .lss .i64 (.tmp 7) (.const (.int .i64 0))),.p none 9 (.mv (.tmp 8)),.split 9,.p (some (9,false)) 10 (.mv (.tmp 1)),.p (some (9,false)) 11 (.bin .gtr .i64 (.tmp 10) (.const (.int .i64 65536))),.p none 12 (.pick (.tmp 9) (.const (.bool true)) (.tmp 11))]) (.cond (.tmp 12) (.seq (.reg [.p none 4 (.mv (.const (.slice none 0 0))),.p none 5 (.mv (.const (.int .i64 3)))]) .ret) .skip)) (.seq (.reg [.l none (some 6) (.al 24 [(.slice none 0 0)])]) (.seq (.seq (.reg [.p none 13 (.mv (.tmp 0)),.p none 14 (.mv (.tmp 1)),.p none 15 (.mkf (.func 31) [] [(.tmp 6)]),.l none (some 16) (.call 30 [(.tmp 13),(.tmp 14),(.tmp 15)]),.p none 17 (.not (.tmp 16))]) (.cond (.tmp 17) (.seq (.reg [.p none 4 (.mv (.const (.slice none 0 0))),.p none 5 (.mv (.const (.int .i64 30)))]) .ret) .skip)) (.seq (.reg [.l none (some 18) (.ld none (.tmp 6)),.p none 4 (.mv (.tmp 18)),.p none 5 (.mv (.const (.int .i64 0)))]) .ret)))))
theorem C11 : compile Try.prog 19 (Try.f11.body.getD .skip) = some M11 := by kernel_rfl
noncomputable def M12 : MC := (.seq (.reg [.p none 4 (.mv (.const (.slice none 0 0))),.p none 5 (.mv (.const (.int .i64 0)))]) (.seq (.seq (.reg [.p none 10 (.mv (.tmp 1)),.p none 11 (.bin .lss .i64 (.tmp 10) (.const (.int .i64 0))),.p none 12 (.mv (.tmp 11)),.split 12,.p (some (12,false)) 13 (.mv (.tmp 1)),.p (some (12,false)) 14 (.bin .gtr .i64 (.tmp 13) (.const (.int .i64 65536))),.p none 15 (.pick (.tmp 12) (.const (.bool true)) (.tmp 14))]) (.cond (.tmp 15) (.seq (.reg [.p none 4 (.mv (.const (.slice none 0 0))),.p none 5 (.mv (.const (.int .i64 3)))]) .ret) .skip)) (.seq (.reg [.p none 16 (.mv (.tmp 0)),.l none (some 17) (.call 33 [(.tmp 16)]),.p none 6 (.mv (.tmp 17))]) (.seq (.reg [.p none 19 (.mv (.tmp 6)),.l none (some 20) (.call 34 [(.tmp 19)]),.p none 18 (.mv (.tmp 20)),.p none 21 (.ext 0 (.tmp 18)),.p none 22 (.ext 1 (.tmp 18)),.p none 7 (.mv (.tmp 21)),.p none 8 (.mv (.tmp 22))]) (.seq (.seq (.reg [.p none 23 (.mv (.tmp 8)),.p none 24 (.not (.tmp 23))]) (.cond (.tmp 24) (.seq (.reg [.p none 4 (.mv (.const (.slice none 0 0))),.p none 5 (.mv (.const (.int .i64 40)))]) .ret) .skip)) (.seq (.reg [.p none 26 (.mv (.tmp 7)),.p none 27 (.mv (.tmp 6)),.p none 28 (.mv (.tmp 6)),.l none (some 29) (.call 37 [(.tmp 28)]),.l none (some 30) (.call 36 [(.tmp 27),(.tmp 29)]),.p none 31 (.mv (.tmp 1)),.l none (some 32) (.call 35 [(.tmp 26),(.tmp 30),(.tmp 31)]),.p none 25 (.mv (.tmp 32)),.p none 33 (.ext 0 (.tmp 25)),.p none 34 (.ext 1 (.tmp 25)),.p none 9 (.mv (.tmp 33)),.p none 8 (.mv (.tmp 34))]) (.seq (.seq (.reg [.p none 35 (.mv (.tmp 8)),.p none 36 (.not (.tmp 35))]) (.cond (.tmp 36) (.seq (.reg [.p none 4 (.mv (.const (.slice none 0 0))),.p none 5 (.mv (.const (.int .i64 40)))]) .ret) .skip)) (.seq (.reg [.p none 37 (.mv (.tmp 9)),.p none 4 (.mv (.tmp 37)),.p none 5 (.mv (.const (.int .i64 0)))]) .ret))))))))
theorem C12 : compile Try.prog 38 (Try.f12.body.getD .skip) = some M12 := by kernel_rfl
noncomputable def M13 : MC := (.seq (.reg [.p none 2 (.mv (.const (.slice none 0 0))),.p none 3 (.mv (.const (.int .i64 0)))]) (.seq (.seq (.reg [.p none 10 (.mv (.tmp 0)),.p none 11 (.len (.tmp 10)),.p none 12 (.bin .gtr .i64 (.tmp 11) (.const (.int .i64 65536)))]) (.cond (.tmp 12) (.seq (.reg [.p none 2 (.mv (.const (.slice none 0 0))),.p none 3 (.mv (.const (.int .i64 2)))]) .ret) .skip)) (.seq (.reg [.p none 13 (.mv (.tmp 0)),.p none 14 (.mv (.tmp 0)),.p none 15 (.len (.tmp 14)),.l none (some 16) (.mks 3 8 1 [(.int .i64 0)] (.tmp 15) (.tmp 15)),.p none 17 (.bld (zcOf Try.t79) [(0,1,(.tmp 13)),(32769,1,(.tmp 16))]),.l none (some 18) (.bx 79 (.tmp 17)),.p none 4 (.mv (.tmp 18))]) (.seq (.reg [.p none 5 (.mv (.const (.slice none 0 0)))]) (.seq (.reg [.p none 6 (.mv (.const (.int .i64 0)))]) (.seq (.seq (.reg [.p none 7 (.mv (.const (.int .i64 0)))]) (.block 0 (.loop (.seq (.seq (.reg [.p none 19 (.mv (.tmp 7)),.p none 20 (.mv (.tmp 0)),.p none 21 (.len (.tmp 20)),.p none 22 (.bin .lss .i64 (.tmp 19) (.tmp 21))]) (.cond (.tmp 22) .skip (.exit 0))) (.block 1 (.seq (.reg [.p none 24 (.mv (.tmp 4)),.p none 25 (.mv (.tmp 7)),.l none (some 26) (.call 38 [(.tmp 24),(.tmp 25)]),.p none 23 (.mv (.tmp 26)),.p none 27 (.ext 0 (.tmp 23)),.p none 28 (.ext 1 (.tmp 23)),.p none 8 (.mv (.tmp 27)),.p none 9 (.mv (.tmp 28))]) (.seq (.seq (.reg [.p none 29 (.mv (.tmp 9)),.p none 30 (.bin .eql .i64 (.tmp 29) (.const (.int .i64 0)))]) (.cond (.tmp 30) (.seq (.reg [.p none 31 (.mv (.tmp 4)),.p none 32 (.mv (.tmp 7)),.l none (some 33) (.call 39 [(.tmp 31),(.tmp 32)])]) (.seq (.reg [.p none 34 (.mv (.tmp 7)),.p none 35 (.bin .add .i64 (.tmp 34) (.const (.int .i64 1))),.p none 7 (.mv (.tmp 35))]) (.exit 1))) .skip)) (.seq (.reg [.p none 36 (.mv (.tmp 5)),.p none 37 (.mv (.tmp 0)),.p none 38 (.mv (.tmp 6)),.p none 39 (.mv (.tmp 7)),.p none 40 (.mv (.tmp 7)),.p none 41 (.slc 1 (.tmp 37) (some (.tmp 38)) (some (.tmp 39)) (some (.tmp 40))),.l none (some 42) (.call 41 [(.tmp 41)]),.p none 43
 (.mv (.tmp 8)),.p none 44 (.mv (.tmp 9)),.p none 45 (.bld [(.slice none 0 0),(.int .i64 0),(.int .i64 0)] [(0,1,(.tmp 42)),(1,1,(.tmp 43)),(2,1,(.tmp 44))]),.l none (some 46) (.call 40 [(.tmp 45)]),.l none (some 47) (.app 5 1 1 [(.int .u8 0)] (.tmp 36) (.tmp 46)),.p none 5 (.mv (.tmp 47))]) (.seq (.seq (.reg [.p none 48 (.mv (.tmp 9)),.p none 49 (.mv (.const (.int .i64 0)))]) (.block 2 (.loop (.seq (.reg [.p none 50 (.bin .lss .i64 (.tmp 49) (.tmp 48))]) (.seq (.cond (.tmp 50) .skip (.exit 2)) (.seq (.block 3 (.seq (.reg [.p none 51 (.mv (.tmp 4)),.p none 52 (.mv (.tmp 7)),.l none (some 53) (.call 39 [(.tmp 51),(.tmp 52)])]) (.reg [.p none 54 (.mv (.tmp 7)),.p none 55 (.bin .add .i64 (.tmp 54) (.const (.int .i64 1))),.p none 7 (.mv (.tmp 55))]))) (.reg [.p none 56 (.bin .add .i64 (.tmp 49) (.const (.int .i64 1))),.p none 49 (.mv (.tmp 56))]))))))) (.reg [.p none 57 (.mv (.tmp 7)),.p none 6 (.mv (.tmp 57))])))))))))) (.seq (.seq (.reg [.p none 58 (.mv (.tmp 6)),.p none 59 (.mv (.tmp 0)),.p none 60 (.len (.tmp 59)),.p none 61 (.bin .lss .i64 (.tmp 58) (.tmp 60))]) (.cond (.tmp 61) (.reg [.p none 62 (.mv (.tmp 5)),.p none 63 (.mv (.tmp 0)),.p none 64 (.mv (.tmp 6)),.p none 65 (.mv (.tmp 0)),.p none 66 (.len (.tmp 65)),.p none 67 (.mv (.tmp 0)),.p none 68 (.len (.tmp 67)),.p none 69 (.slc 1 (.tmp 63) (some (.tmp 64)) (some (.tmp 66)) (some (.tmp 68))),.l none (some 70) (.call 41 [(.tmp 69)]),.p none 71 (.bld [(.slice none 0 0),(.int .i64 0),(.int .i64 0)] [(0,1,(.tmp 70))]),.l none (some 72) (.call 40 [(.tmp 71)]),.l none (some 73) (.app 5 1 1 [(.int .u8 0)] (.tmp 62) (.tmp 72)),.p none 5 (.mv (.tmp 73))]) .skip)) (.seq (.reg [.p none 74 (.mv (.tmp 5)),.p none 2 (.mv (.tmp 74)),.p none 3 (.mv (.const (.int .i64 0)))]) .ret))))))))
theorem C13 : compile Try.prog 75 (Try.f13.body.getD .skip) = some M13 := by kernel_rfl
noncomputable def M14 : MC := (.seq (.reg [.p none 2 (.mv (.const (.slice none 0 0))),.p none 3 (.mv (.const (.int .i64 0)))]) (.seq (.seq (.reg [.p none 18 (.mv (.tmp 0)),.p none 19 (.len (.tmp 18)),.p none 20 (.bin .gtr .i64 (.tmp 19) (.const (.int .i64 65536)))]) (.cond (.tmp 20) (.seq (.reg [.p none 2 (.mv (.const (.slice none 0 0))),.p none 3 (.mv (.const (.int .i64 2)))]) .ret) .skip)) (.seq (.reg [.l none (some 21) (.mks 2 8 1 [(.int .i64 0)] (.const (.int .i64 256)) (.const (.int .i64 256))),.p none 4 (.mv (.tmp 21))]) (.seq (.seq (.reg [.p none 22 (.mv (.tmp 0)),.p none 23 (.len (.tmp 22)),.p none 24 (.mv (.const (.int .i64 0)))]) (.block 0 (.loop (.seq (.reg [.p none 25 (.bin .lss .i64 (.tmp 24) (.tmp 23))]) (.seq (.cond (.tmp 25) .skip (.exit 0)) (.seq (.block 1 (.seq (.reg [.p none 26 (.idx 1 (.tmp 22) (.tmp 24)),.l none (some 27) (.ld none (.tmp 26)),.p none 6 (.mv (.tmp 27))]) (.reg [.p none 28 (.mv (.tmp 4)),.p none 29 (.mv (.tmp 6)),.p none 30 (.idx 1 (.tmp 28) (.tmp 29)),.l none (some 31) (.ld none (.tmp 30)),.p none 32 (.bin .add .i64 (.tmp 31) (.const (.int .i64 1))),.p none 33 (.idx 1 (.tmp 28) (.tmp 29)),.l none none (.st 1 (.tmp 33) (.tmp 32))]))) (.reg [.p none 34 (.bin .add .i64 (.tmp 24) (.const (.int .i64 1))),.p none 24 (.mv (.tmp 34))]))))))) (.seq (.reg [.p none 36 (.mv (.tmp 4)),.l none (some 37) (.call 42 [(.tmp 36),(.const (.int .i64 15))]),.p none 35 (.mv (.tmp 37)),.p none 38 (.ext 0 (.tmp 35)),.p none 39 (.ext 1 (.tmp 35)),.p none 7 (.mv (.tmp 38)),.p none 8 (.mv (.tmp 39))]) (.seq (.reg [.p none 41 (.mv (.tmp 7)),.l none (some 42) (.call 43 [(.tmp 41)]),.p none 40 (.mv (.tmp 42)),.p none 43 (.ext 0 (.tmp 40)),.p none 44 (.ext 1 (.tmp 40)),.p none 9 (.mv (.tmp 43)),.p none 10 (.mv (.tmp 44))]) (.seq (.reg [.p none 45 (.mv (.tmp 7)),.l none (some 46) (.call 44 [(.tmp 45)]),.l none (some 11) (.al 24 [(.slice none 0 0)]),.l none none (.st 1 (.tmp 11) (.tmp 46))]) (.seq (.reg [.l none (some 12) (.al 3 [(.int .i64 0)]),.l none none
 (.st 1 (.tmp 12) (.const (.int .i64 0)))]) (.seq (.reg [.p none 47 (.mkf (.func 45) [] [(.tmp 12),(.tmp 11)]),.p none 13 (.mv (.tmp 47))]) (.seq (.seq (.reg [.p none 48 (.mv (.tmp 0)),.p none 49 (.len (.tmp 48)),.p none 50 (.mv (.const (.int .i64 0)))]) (.block 2 (.loop (.seq (.reg [.p none 51 (.bin .lss .i64 (.tmp 50) (.tmp 49))]) (.seq (.cond (.tmp 51) .skip (.exit 2)) (.seq (.block 3 (.seq (.reg [.p none 52 (.idx 1 (.tmp 48) (.tmp 50)),.l none (some 53) (.ld none (.tmp 52)),.p none 15 (.mv (.tmp 53))]) (.seq (.reg [.p none 54 (.mv (.tmp 9)),.p none 55 (.mv (.tmp 15)),.p none 56 (.idx 2 (.tmp 54) (.tmp 55)),.l none (some 57) (.ld (some 2) (.tmp 56)),.l none (some 16) (.al 93 [(.int .i64 0),(.int .u32 0)]),.l none none (.st 2 (.tmp 16) (.tmp 57))]) (.seq (.reg [.p none 58 (.fa 0 (.tmp 16)),.l none (some 59) (.ld none (.tmp 58)),.p none 60 (.bin .sub .i64 (.tmp 59) (.const (.int .i64 1))),.p none 17 (.mv (.tmp 60))]) (.block 4 (.loop (.seq (.seq (.reg [.p none 61 (.mv (.tmp 17)),.p none 62 (.bin .geq .i64 (.tmp 61) (.const (.int .i64 0)))]) (.cond (.tmp 62) .skip (.exit 4))) (.seq (.block 5 (.reg [.p none 65 (.mv (.tmp 13)),.p none 66 (.fa 1 (.tmp 16)),.l none (some 67) (.ld none (.tmp 66)),.p none 68 (.mv (.tmp 17)),.p none 69 (.shf .shr (.tmp 67) (.tmp 68)),.p none 70 (.bin .and .u32 (.tmp 69) (.const (.int .u32 1))),.l none (some 71) (.callv (.tmp 65) [(.tmp 70)])])) (.reg [.p none 63 (.mv (.tmp 17)),.p none 64 (.bin .sub .i64 (.tmp 63) (.const (.int .i64 1))),.p none 17 (.mv (.tmp 64))]))))))))) (.reg [.p none 72 (.bin .add .i64 (.tmp 50) (.const (.int .i64 1))),.p none 50 (.mv (.tmp 72))]))))))) (.seq (.reg [.l none (some 73) (.ld none (.tmp 11)),.p none 2 (.mv (.tmp 73)),.p none 3 (.mv (.const (.int .i64 0)))]) .ret)))))))))))
theorem C14 : compile Try.prog 74 (Try.f14.body.getD .skip) = some M14 := by kernel_rfl
noncomputable def M15 : MC := (.seq (.reg [.p none 2 (.mv (.const (.slice none 0 0)))]) (.seq (.reg [.p none 4 (.mv (.tmp 0)),.p none 5 (.len (.tmp 4)),.p none 6 (.bin .add .i64 (.tmp 5) (.const (.int .i64 4))),.l none (some 7) (.mks 5 1 1 [(.int .u8 0)] (.const (.int .i64 0)) (.tmp 6)),.p none 3 (.mv (.tmp 7))]) (.seq (.reg [.p none 8 (.mv (.tmp 3)),.p none 9 (.mv (.tmp 0)),.l none (some 10) (.app 5 1 1 [(.int .u8 0)] (.tmp 8) (.tmp 9)),.p none 3 (.mv (.tmp 10))]) (.seq (.reg [.p none 11 (.mv (.tmp 3)),.p none 12 (.mv (.tmp 0)),.l none (some 13) (.call 29 [(.tmp 12)]),.l none (some 14) (.call 28 [(.tmp 13)]),.l none (some 15) (.app 5 1 1 [(.int .u8 0)] (.tmp 11) (.tmp 14)),.p none 2 (.mv (.tmp 15))]) .ret))))
theorem C15 : compile Try.prog 16 (Try.f15.body.getD .skip) = some M15 := by kernel_rfl
noncomputable def M16 : MC := (.seq (.reg [.p none 2 (.mv (.const (.int .i64 0)))]) (.seq (.seq (.reg [.p none 3 (.mv (.tmp 0)),.p none 4 (.isnil false 0 (.tmp 3))]) (.cond (.tmp 4) (.seq (.reg [.p none 2 (.mv (.const (.int .i64 0)))]) .ret) .skip)) (.seq (.reg [.p none 5 (.mv (.tmp 0)),.p none 6 (.nilchk (.tmp 5)),.p none 7 (.fa 1 (.tmp 6)),.l none (some 8) (.ld none (.tmp 7)),.p none 9 (.len (.tmp 8)),.p none 2 (.mv (.tmp 9))]) .ret)))
theorem C16 : compile Try.prog 10 (Try.f16.body.getD .skip) = some M16 := by kernel_rfl
noncomputable def M17 : MC := (.seq (.reg [.p none 2 (.mv (.const (.int .u64 0)))]) (.seq (.reg [.p none 3 (.mv (.const (.int .u64 0)))]) (.seq (.seq (.reg [.p none 5 (.mv (.tmp 0)),.p none 6 (.len (.tmp 5)),.p none 7 (.mm false .i64 (.tmp 6) [(.const (.int .i64 8))]),.p none 8 (.mv (.const (.int .i64 0)))]) (.block 0 (.loop (.seq (.reg [.p none 9 (.bin .lss .i64 (.tmp 8) (.tmp 7))]) (.seq (.cond (.tmp 9) .skip (.exit 0)) (.seq (.block 1 (.seq (.reg [.p none 10 (.mv (.tmp 8)),.p none 4 (.mv (.tmp 10))]) (.reg [.p none 11 (.mv (.tmp 3)),.p none 12 (.mv (.tmp 0)),.p none 13 (.mv (.tmp 4)),.p none 14 (.idx 1 (.tmp 12) (.tmp 13)),.l none (some 15) (.ld none (.tmp 14)),.p none 16 (.conv .u64 (.tmp 15)),.p none 17 (.mv (.tmp 4)),.p none 18 (.bin .mul .i64 (.const (.int .i64 8)) (.tmp 17)),.p none 19 (.shf .shl (.tmp 16) (.tmp 18)),.p none 20 (.bin .or .u64 (.tmp 11) (.tmp 19)),.p none 3 (.mv (.tmp 20))]))) (.reg [.p none 21 (.bin .add .i64 (.tmp 8) (.const (.int .i64 1))),.p none 8 (.mv (.tmp 21))]))))))) (.seq (.reg [.p none 22 (.mv (.tmp 3)),.p none 2 (.mv (.tmp 22))]) .ret))))
theorem C17 : compile Try.prog 23 (Try.f17.body.getD .skip) = some M17 := by kernel_rfl
noncomputable def M18 : MC := (.seq (.reg [.p none 4 (.mv (.const (.pointer none))),.p none 5 (.mv (.const (.int .i64 0)))]) (.seq (.seq (.reg [.p none 6 (.mv (.tmp 0)),.p none 7 (.bin .lss .i64 (.tmp 6) (.const (.int .i64 1))),.p none 8 (.mv (.tmp 7)),.split 8,.p (some (8,false)) 9 (.mv (.tmp 0)),.p (some (8,false)) 10 (.bin .gtr .i64 (.tmp 9) (.const (.int .i64 64))),.p none 11 (.pick (.tmp 8) (.const (.bool true)) (.tmp 10)),.p none 12 (.mv (.tmp 11)),.split 12,.p (some (12,false)) 13 (.mv (.tmp 1)),.p (some (12,false)) 14 (.bin .lss .i64 (.tmp 13) (.const (.int .i64 64))),.p none 15 (.pick (.tmp 12) (.const (.bool true)) (.tmp 14)),.p none 16 (.mv (.tmp 15)),.split 16,.p (some (16,false)) 17 (.mv (.tmp 1)),.p (some (16,false)) 18 (.bin .gtr .i64 (.tmp 17) (.const (.int .i64 65536))),.p none 19 (.pick (.tmp 16) (.const (.bool true)) (.tmp 18))]) (.cond (.tmp 19) (.seq (.reg [.p none 4 (.mv (.const (.pointer none))),.p none 5 (.mv (.const (.int .i64 3)))]) .ret) .skip)) (.seq (.reg [.p none 20 (.mv (.tmp 0)),.p none 21 (.mv (.tmp 1)),.p none 22 (.bld [(.int .i64 0),(.int .i64 0),(.slice none 0 0),(.slice none 0 0),(.string ⟨#[]⟩),(.int .i64 0)] [(0,1,(.tmp 20)),(1,1,(.tmp 21))]),.l none (some 23) (.bx 98 (.tmp 22)),.p none 4 (.mv (.tmp 23)),.p none 5 (.mv (.const (.int .i64 0)))]) .ret)))
theorem C18 : compile Try.prog 24 (Try.f18.body.getD .skip) = some M18 := by kernel_rfl
noncomputable def M19 : MC := (.seq (.reg [.p none 4 (.mv (.const (.string ⟨#[]⟩))),.p none 5 (.mv (.const (.string ⟨#[]⟩))),.p none 6 (.mv (.const (.int .i64 0)))]) (.seq (.block 0 (.seq (.reg [.p none 8 (.mv (.tmp 0)),.p none 9 (.isnil false 0 (.tmp 8)),.p none 7 (.mv (.tmp 9))]) (.cond (.tmp 7) (.seq (.reg [.p none 4 (.mv (.const (.string ⟨#[]⟩))),.p none 5 (.mv (.const (.string ⟨#[]⟩))),.p none 6 (.mv (.const (.int .i64 1)))]) .ret) (.seq (.reg [.p none 11 (.mv (.tmp 1)),.p none 12 (.bin .lss .i64 (.tmp 11) (.const (.int .i64 0))),.p none 13 (.mv (.tmp 12)),.split 13,.p (some (13,false)) 14 (.mv (.tmp 1)),.p (some (13,false)) 15 (.mv (.tmp 0)),.p (some (13,false)) 16 (.nilchk (.tmp 15)),.p (some (13,false)) 17 (.fa 1 (.tmp 16)),.l (some (13,false)) (some 18) (.ld none (.tmp 17)),.p (some (13,false)) 19 (.len (.tmp 18)),.p (some (13,false)) 20 (.bin .geq .i64 (.tmp 14) (.tmp 19)),.p none 21 (.pick (.tmp 13) (.const (.bool true)) (.tmp 20)),.p none 10 (.mv (.tmp 21))]) (.cond (.tmp 10) (.seq (.reg [.p none 4 (.mv (.const (.string ⟨#[]⟩))),.p none 5 (.mv (.const (.string ⟨#[]⟩))),.p none 6 (.mv (.const (.int .i64 3)))]) .ret) .skip))))) (.seq (.dreg (.line [.qp 0 none 22 (.mv (.tmp 0)),.qp 1 none 23 (.nilchk (.tmp 22)),.qp 2 none 24 (.fa 1 (.tmp 23)),.qp 4 none 26 (.mv (.tmp 1)),.qp 8 none 30 (.mv (.tmp 0)),.qp 9 none 31 (.nilchk (.tmp 30)),.qp 10 none 32 (.fa 1 (.tmp 31)),.qp 12 none 34 (.mv (.tmp 1)),.ql 11 none 33 none (.tmp 32),.qp 13 none 35 (.idx 2 (.tmp 33) (.tmp 34)),.qp 14 none 36 (.fa 1 (.tmp 35)),.ql 15 none 37 none (.tmp 36),.l 3 none (some 25) (.ld none (.tmp 24)),.qp 5 none 27 (.idx 2 (.tmp 25) (.tmp 26)),.qp 6 none 28 (.fa 0 (.tmp 27)),.l 7 none (some 29) (.ld none (.tmp 28)),.qp 16 none 4 (.mv (.tmp 29)),.qp 17 none 5 (.mv (.tmp 37)),.qp 18 none 6 (.mv (.const (.int .i64 0)))])) .ret)))
theorem C19 : compile Try.prog 38 (Try.f19.body.getD .skip) = some M19 := by kernel_rfl
noncomputable def M20 : MC := (.seq (.reg [.p none 6 (.mv (.const (.int .i64 0)))]) (.seq (.seq (.reg [.p none 10 (.mv (.tmp 0)),.p none 11 (.isnil false 0 (.tmp 10))]) (.cond (.tmp 11) (.seq (.reg [.p none 6 (.mv (.const (.int .i64 1)))]) .ret) .skip)) (.seq (.seq (.reg [.p none 12 (.mv (.tmp 1)),.p none 13 (.lens (.tmp 12)),.p none 14 (.bin .gtr .i64 (.tmp 13) (.const (.int .i64 1024))),.p none 15 (.mv (.tmp 14)),.split 15,.p (some (15,false)) 16 (.mv (.tmp 2)),.p (some (15,false)) 17 (.lens (.tmp 16)),.p (some (15,false)) 18 (.bin .gtr .i64 (.tmp 17) (.const (.int .i64 1024))),.p none 19 (.pick (.tmp 15) (.const (.bool true)) (.tmp 18))]) (.cond (.tmp 19) (.seq (.reg [.p none 6 (.mv (.const (.int .i64 2)))]) .ret) .skip)) (.seq (.seq (.reg [.p none 20 (.mv (.tmp 0)),.p none 21 (.nilchk (.tmp 20)),.p none 22 (.fa 5 (.tmp 21)),.l none (some 23) (.ld none (.tmp 22)),.p none 24 (.bin .gtr .i64 (.tmp 23) (.const (.int .i64 0))),.p none 25 (.mv (.tmp 24)),.split 25,.p (some (25,true)) 26 (.mv (.tmp 1)),.p (some (25,true)) 27 (.mv (.tmp 0)),.p (some (25,true)) 28 (.nilchk (.tmp 27)),.p (some (25,true)) 29 (.fa 4 (.tmp 28)),.l (some (25,true)) (some 30) (.ld none (.tmp 29)),.l (some (25,true)) (some 31) (.call 23 [(.tmp 26),(.tmp 30)]),.p (some (25,true)) 32 (.bin .lss .i64 (.tmp 31) (.const (.int .i64 0))),.p none 33 (.pick (.tmp 25) (.tmp 32) (.const (.bool false)))]) (.cond (.tmp 33) (.seq (.reg [.p none 6 (.mv (.const (.int .i64 61)))]) .ret) .skip)) (.seq (.dreg (.line [.qp 0 none 34 (.mv (.tmp 0)),.qp 1 none 35 (.nilchk (.tmp 34)),.qp 2 none 36 (.fa 0 (.tmp 35)),.l 3 none (some 37) (.ld none (.tmp 36)),.qp 4 none 38 (.bin .gtr .i64 (.tmp 37) (.const (.int .i64 0))),.qp 5 none 39 (.mv (.tmp 38)),.split 39,.qp 6 (some (39,true)) 40 (.mv (.tmp 0)),.qp 7 (some (39,true)) 41 (.nilchk (.tmp 40)),.qp 8 (some (39,true)) 42 (.fa 5 (.tmp 41)),.qp 10 (some (39,true)) 44 (.mv (.tmp 0)),.qp 11 (some (39,true)) 45 (.nilchk (.tmp 44)),.qp 12 (some (39,true)) 46 (.fa 0 (.tmp
 45)),.ql 13 (some (39,true)) 47 none (.tmp 46),.l 9 (some (39,true)) (some 43) (.ld none (.tmp 42)),.qp 14 (some (39,true)) 48 (.div .rem .i64 (.tmp 43) (.tmp 47)),.qp 15 (some (39,true)) 49 (.bin .eql .i64 (.tmp 48) (.const (.int .i64 0))),.qp 16 none 50 (.pick (.tmp 39) (.tmp 49) (.const (.bool false))),.qp 17 none 7 (.mv (.tmp 50))])) (.seq (.reg [.p none 51 (.mv (.tmp 0)),.p none 52 (.nilchk (.tmp 51)),.p none 53 (.fa 4 (.tmp 52)),.l none (some 54) (.ld none (.tmp 53)),.p none 8 (.mv (.tmp 54))]) (.seq (.seq (.reg [.p none 55 (.mv (.tmp 7))]) (.cond (.tmp 55) (.reg [.p none 8 (.mv (.const (.string ⟨#[]⟩)))]) .skip)) (.seq (.reg [.p none 56 (.mv (.tmp 8)),.p none 57 (.mv (.tmp 1)),.p none 58 (.mv (.tmp 2)),.l none (some 59) (.call 46 [(.tmp 56),(.tmp 57),(.tmp 58)]),.p none 9 (.mv (.tmp 59))]) (.seq (.seq (.dreg (.line [.qp 0 none 60 (.mv (.tmp 0)),.qp 1 none 61 (.nilchk (.tmp 60)),.qp 2 none 62 (.fa 5 (.tmp 61)),.l 3 none (some 63) (.ld none (.tmp 62)),.qp 4 none 64 (.bin .gtr .i64 (.tmp 63) (.const (.int .i64 0))),.qp 5 none 65 (.mv (.tmp 64)),.split 65,.qp 6 (some (65,true)) 66 (.mv (.tmp 0)),.qp 7 (some (65,true)) 67 (.mv (.tmp 0)),.qp 8 (some (65,true)) 68 (.nilchk (.tmp 67)),.qp 9 (some (65,true)) 69 (.fa 2 (.tmp 68)),.qp 12 (some (65,true)) 72 (.mv (.tmp 9)),.qp 13 (some (65,true)) 73 (.len (.tmp 72)),.qp 15 (some (65,true)) 75 (.mv (.tmp 0)),.qp 16 (some (65,true)) 76 (.nilchk (.tmp 75)),.qp 17 (some (65,true)) 77 (.fa 5 (.tmp 76)),.qp 21 (some (65,true)) 81 (.mv (.tmp 0)),.qp 22 (some (65,true)) 82 (.nilchk (.tmp 81)),.qp 23 (some (65,true)) 83 (.fa 1 (.tmp 82)),.ql 24 (some (65,true)) 84 none (.tmp 83),.ql 18 (some (65,true)) 78 none (.tmp 77),.qp 19 (some (65,true)) 79 (.bin .add .i64 (.tmp 78) (.const (.int .i64 1))),.l 10 (some (65,true)) (some 70) (.ld none (.tmp 69)),.qp 11 (some (65,true)) 71 (.len (.tmp 70)),.qp 14 (some (65,true)) 74 (.bin .add .i64 (.tmp 71) (.tmp 73)),.l 20 (some (65,true)) (some 80) (.call 47 [(.tmp 66),(.tmp 74),(.tmp
 79)]),.qp 25 (some (65,true)) 85 (.bin .gtr .i64 (.tmp 80) (.tmp 84)),.qp 26 none 86 (.pick (.tmp 65) (.tmp 85) (.const (.bool false)))])) (.cond (.tmp 86) (.seq (.reg [.p none 6 (.mv (.const (.int .i64 62)))]) .ret) .skip)) (.seq (.seq (.reg [.p none 87 (.mv (.tmp 7))]) (.cond (.tmp 87) (.dreg (.fork [.qp 0 none 88 (.mv (.tmp 0)),.qp 1 none 89 (.mv (.tmp 0)),.qp 2 none 90 (.nilchk (.tmp 89)),.qp 3 none 91 (.fa 3 (.tmp 90)),.qp 5 none 93 (.mv (.tmp 0)),.qp 6 none 94 (.nilchk (.tmp 93)),.qp 7 none 95 (.fa 2 (.tmp 94))] (.line [.l 4 none (some 92) (.ld none (.tmp 91)),.l 8 none (some 96) (.ld none (.tmp 95)),.qp 9 none 97 (.len (.tmp 96)),.l 10 none (some 98) (.bs 3 1 1 [(.int .i64 0)] [(0,1,(.tmp 97))]),.l 11 none (some 99) (.app 3 8 1 [(.int .i64 0)] (.tmp 92) (.tmp 98)),.qp 12 none 100 (.nilchk (.tmp 88)),.qp 13 none 101 (.fa 3 (.tmp 100)),.l 14 none none (.st 1 (.tmp 101) (.tmp 99))]) (.fork [.l 8 none (some 96) (.ld none (.tmp 95)),.qp 9 none 97 (.len (.tmp 96))] (.line [.l 4 none (some 92) (.ld none (.tmp 91)),.l 10 none (some 98) (.bs 3 1 1 [(.int .i64 0)] [(0,1,(.tmp 97))]),.l 11 none (some 99) (.app 3 8 1 [(.int .i64 0)] (.tmp 92) (.tmp 98)),.qp 12 none 100 (.nilchk (.tmp 88)),.qp 13 none 101 (.fa 3 (.tmp 100)),.l 14 none none (.st 1 (.tmp 101) (.tmp 99))]) (.line [.l 10 none (some 98) (.bs 3 1 1 [(.int .i64 0)] [(0,1,(.tmp 97))]),.l 4 none (some 92) (.ld none (.tmp 91)),.l 11 none (some 99) (.app 3 8 1 [(.int .i64 0)] (.tmp 92) (.tmp 98)),.qp 12 none 100 (.nilchk (.tmp 88)),.qp 13 none 101 (.fa 3 (.tmp 100)),.l 14 none none (.st 1 (.tmp 101) (.tmp 99))])))) .skip)) (.seq (.reg [.p none 102 (.mv (.tmp 0)),.p none 103 (.mv (.tmp 0)),.p none 104 (.nilchk (.tmp 103)),.p none 105 (.fa 2 (.tmp 104)),.l none (some 106) (.ld none (.tmp 105)),.p none 107 (.mv (.tmp 9)),.l none (some 108) (.app 5 1 1 [(.int .u8 0)] (.tmp 106) (.tmp 107)),.p none 109 (.nilchk (.tmp 102)),.p none 110 (.fa 2 (.tmp 109)),.l none none (.st 1 (.tmp 110) (.tmp 108))]) (.seq (.reg [.p none
 111 (.mv (.tmp 0)),.p none 112 (.mv (.tmp 1)),.p none 113 (.nilchk (.tmp 111)),.p none 114 (.fa 4 (.tmp 113)),.l none none (.st 1 (.tmp 114) (.tmp 112))]) (.seq (.reg [.p none 115 (.mv (.tmp 0)),.p none 116 (.nilchk (.tmp 115)),.p none 117 (.fa 5 (.tmp 116)),.l none (some 118) (.ld none (.tmp 117)),.p none 119 (.bin .add .i64 (.tmp 118) (.const (.int .i64 1))),.p none 120 (.nilchk (.tmp 115)),.p none 121 (.fa 5 (.tmp 120)),.l none none (.st 1 (.tmp 121) (.tmp 119))]) (.seq (.reg [.p none 6 (.mv (.const (.int .i64 0)))]) .ret))))))))))))))
theorem C20 : compile Try.prog 122 (Try.f20.body.getD .skip) = some M20 := by kernel_rfl
noncomputable def M21 : MC := (.seq (.reg [.p none 2 (.mv (.const (.int .i64 0)))]) (.seq (.seq (.reg [.p none 3 (.mv (.tmp 0)),.p none 4 (.isnil false 0 (.tmp 3))]) (.cond (.tmp 4) (.seq (.reg [.p none 2 (.mv (.const (.int .i64 0)))]) .ret) .skip)) (.seq (.dreg (.line [.qp 0 none 5 (.mv (.tmp 0)),.qp 1 none 6 (.mv (.tmp 0)),.qp 2 none 7 (.nilchk (.tmp 6)),.qp 3 none 8 (.fa 2 (.tmp 7)),.qp 6 none 11 (.mv (.tmp 0)),.qp 7 none 12 (.nilchk (.tmp 11)),.qp 8 none 13 (.fa 5 (.tmp 12)),.ql 9 none 14 none (.tmp 13),.l 4 none (some 9) (.ld none (.tmp 8)),.qp 5 none 10 (.len (.tmp 9)),.l 10 none (some 15) (.call 47 [(.tmp 5),(.tmp 10),(.tmp 14)]),.qp 11 none 2 (.mv (.tmp 15))])) .ret)))
theorem C21 : compile Try.prog 16 (Try.f21.body.getD .skip) = some M21 := by kernel_rfl
noncomputable def M23 : MC := (.seq (.reg [.p none 4 (.mv (.const (.int .i64 0)))]) (.seq (.seq (.reg [.p none 6 (.mv (.tmp 0)),.p none 7 (.lens (.tmp 6)),.p none 8 (.mv (.tmp 1)),.p none 9 (.lens (.tmp 8)),.p none 10 (.mm false .i64 (.tmp 7) [(.tmp 9)]),.p none 11 (.mv (.const (.int .i64 0)))]) (.block 0 (.loop (.seq (.reg [.p none 12 (.bin .lss .i64 (.tmp 11) (.tmp 10))]) (.seq (.cond (.tmp 12) .skip (.exit 0)) (.seq (.block 1 (.seq (.reg [.p none 13 (.mv (.tmp 11)),.p none 5 (.mv (.tmp 13))]) (.block 2 (.seq (.dreg (.line [.qp 0 none 15 (.mv (.tmp 0)),.qp 1 none 16 (.mv (.tmp 5)),.qp 2 none 17 (.idxs (.tmp 15) (.tmp 16)),.qp 3 none 18 (.mv (.tmp 1)),.qp 4 none 19 (.mv (.tmp 5)),.qp 5 none 20 (.idxs (.tmp 18) (.tmp 19)),.qp 6 none 21 (.bin .lss .u8 (.tmp 17) (.tmp 20)),.qp 7 none 14 (.mv (.tmp 21))])) (.cond (.tmp 14) (.seq (.reg [.p none 4 (.mv (.const (.int .i64 (-1))))]) .ret) (.seq (.dreg (.line [.qp 0 none 23 (.mv (.tmp 0)),.qp 1 none 24 (.mv (.tmp 5)),.qp 2 none 25 (.idxs (.tmp 23) (.tmp 24)),.qp 3 none 26 (.mv (.tmp 1)),.qp 4 none 27 (.mv (.tmp 5)),.qp 5 none 28 (.idxs (.tmp 26) (.tmp 27)),.qp 6 none 29 (.bin .gtr .u8 (.tmp 25) (.tmp 28)),.qp 7 none 22 (.mv (.tmp 29))])) (.cond (.tmp 22) (.seq (.reg [.p none 4 (.mv (.const (.int .i64 1)))]) .ret) .skip))))))) (.reg [.p none 30 (.bin .add .i64 (.tmp 11) (.const (.int .i64 1))),.p none 11 (.mv (.tmp 30))]))))))) (.seq (.block 3 (.seq (.reg [.p none 32 (.mv (.tmp 0)),.p none 33 (.lens (.tmp 32)),.p none 34 (.mv (.tmp 1)),.p none 35 (.lens (.tmp 34)),.p none 36 (.bin .lss .i64 (.tmp 33) (.tmp 35)),.p none 31 (.mv (.tmp 36))]) (.cond (.tmp 31) (.seq (.reg [.p none 4 (.mv (.const (.int .i64 (-1))))]) .ret) (.seq (.reg [.p none 38 (.mv (.tmp 0)),.p none 39 (.lens (.tmp 38)),.p none 40 (.mv (.tmp 1)),.p none 41 (.lens (.tmp 40)),.p none 42 (.bin .gtr .i64 (.tmp 39) (.tmp 41)),.p none 37 (.mv (.tmp 42))]) (.cond (.tmp 37) (.seq (.reg [.p none 4 (.mv (.const (.int .i64 1)))]) .ret) .skip))))) (.seq (.reg [.p none 4
 (.mv (.const (.int .i64 0)))]) .ret))))
theorem C23 : compile Try.prog 43 (Try.f23.body.getD .skip) = some M23 := by kernel_rfl
noncomputable def M24 : MC := (.seq (.reg [.p none 2 (.mv (.const (.slice none 0 0))),.p none 3 (.mv (.const (.int .i64 0))),.p none 4 (.mv (.const (.int .i64 0)))]) (.seq (.seq (.reg [.p none 15 (.mv (.tmp 0)),.p none 16 (.isnil false 0 (.tmp 15))]) (.cond (.tmp 16) (.seq (.reg [.p none 2 (.mv (.const (.slice none 0 0))),.p none 3 (.mv (.const (.int .i64 0))),.p none 4 (.mv (.const (.int .i64 1)))]) .ret) .skip)) (.seq (.seq (.reg [.p none 17 (.mv (.tmp 0)),.p none 18 (.nilchk (.tmp 17)),.p none 19 (.fa 5 (.tmp 18)),.l none (some 20) (.ld none (.tmp 19)),.p none 21 (.bin .eql .i64 (.tmp 20) (.const (.int .i64 0)))]) (.cond (.tmp 21) (.seq (.reg [.p none 2 (.mv (.const (.slice none 0 0))),.p none 3 (.mv (.const (.int .i64 0))),.p none 4 (.mv (.const (.int .i64 3)))]) .ret) .skip)) (.seq (.reg [.l none (some 22) (.bs 5 0 1 [] []),.p none 23 (.mv (.tmp 0)),.p none 24 (.nilchk (.tmp 23)),.p none 25 (.fa 2 (.tmp 24)),.l none (some 26) (.ld none (.tmp 25)),.l none (some 27) (.app 5 1 1 [(.int .u8 0)] (.tmp 22) (.tmp 26)),.p none 5 (.mv (.tmp 27))]) (.seq (.seq (.reg [.p none 28 (.mv (.tmp 0)),.p none 29 (.nilchk (.tmp 28)),.p none 30 (.fa 3 (.tmp 29)),.l none (some 31) (.ld none (.tmp 30)),.p none 32 (.len (.tmp 31)),.p none 33 (.mv (.const (.int .i64 0)))]) (.block 0 (.loop (.seq (.reg [.p none 34 (.bin .lss .i64 (.tmp 33) (.tmp 32))]) (.seq (.cond (.tmp 34) .skip (.exit 0)) (.seq (.block 1 (.seq (.reg [.p none 35 (.idx 1 (.tmp 31) (.tmp 33)),.l none (some 36) (.ld none (.tmp 35)),.p none 7 (.mv (.tmp 36))]) (.reg [.p none 37 (.mv (.tmp 5)),.p none 38 (.mv (.tmp 7)),.p none 39 (.conv .u64 (.tmp 38)),.l none (some 40) (.call 49 [(.tmp 39),(.const (.int .i64 4))]),.l none (some 41) (.app 5 1 1 [(.int .u8 0)] (.tmp 37) (.tmp 40)),.p none 5 (.mv (.tmp 41))]))) (.reg [.p none 42 (.bin .add .i64 (.tmp 33) (.const (.int .i64 1))),.p none 33 (.mv (.tmp 42))]))))))) (.seq (.reg [.p none 43 (.mv (.tmp 5)),.p none 44 (.mv (.tmp 0)),.p none 45 (.nilchk (.tmp 44)),.p none 46 (.fa 0
 (.tmp 45)),.l none (some 47) (.ld none (.tmp 46)),.p none 48 (.conv .u64 (.tmp 47)),.l none (some 49) (.call 49 [(.tmp 48),(.const (.int .i64 4))]),.l none (some 50) (.app 5 1 1 [(.int .u8 0)] (.tmp 43) (.tmp 49)),.p none 5 (.mv (.tmp 50))]) (.seq (.reg [.p none 51 (.mv (.tmp 5)),.p none 52 (.mv (.tmp 0)),.p none 53 (.nilchk (.tmp 52)),.p none 54 (.fa 5 (.tmp 53)),.l none (some 55) (.ld none (.tmp 54)),.p none 56 (.conv .u64 (.tmp 55)),.l none (some 57) (.call 49 [(.tmp 56),(.const (.int .i64 4))]),.l none (some 58) (.app 5 1 1 [(.int .u8 0)] (.tmp 51) (.tmp 57)),.p none 5 (.mv (.tmp 58))]) (.seq (.reg [.p none 8 (.mv (.const (.slice none 0 0)))]) (.seq (.reg [.p none 9 (.mv (.const (.int .i64 (-1))))]) (.seq (.seq (.reg [.l none (some 59) (.call 26 []),.p none 60 (.mv (.const (.int .i64 0)))]) (.block 2 (.loop (.seq (.reg [.p none 61 (.bin .lss .i64 (.tmp 60) (.const (.int .i64 3)))]) (.seq (.cond (.tmp 61) .skip (.exit 2)) (.seq (.block 3 (.seq (.reg [.p none 62 (.mv (.tmp 60)),.p none 63 (.idxv 3 2 true (.tmp 59) (.tmp 60)),.l none (some 11) (.al 57 [.nilFunc,.nilFunc]),.p none 10 (.mv (.tmp 62)),.l none none (.st 2 (.tmp 11) (.tmp 63))]) (.seq (.reg [.p none 65 (.fa 0 (.tmp 11)),.l none (some 66) (.ld none (.tmp 65)),.p none 67 (.mv (.tmp 5)),.l none (some 68) (.callv (.tmp 66) [(.tmp 67)]),.p none 64 (.mv (.tmp 68)),.p none 69 (.ext 0 (.tmp 64)),.p none 70 (.ext 1 (.tmp 64)),.p none 12 (.mv (.tmp 69)),.p none 13 (.mv (.tmp 70))]) (.seq (.reg [.p none 71 (.mv (.tmp 13)),.p none 72 (.bin .eql .i64 (.tmp 71) (.const (.int .i64 0))),.p none 73 (.mv (.tmp 72)),.split 73,.p (some (73,true)) 74 (.mv (.tmp 12)),.p (some (73,true)) 75 (.len (.tmp 74)),.p (some (73,true)) 76 (.bin .mul .i64 (.const (.int .i64 64)) (.tmp 75)),.p (some (73,true)) 77 (.mv (.tmp 5)),.p (some (73,true)) 78 (.len (.tmp 77)),.p (some (73,true)) 79 (.bin .geq .i64 (.tmp 76) (.tmp 78)),.p none 80 (.pick (.tmp 73) (.tmp 79) (.const (.bool false))),.p none 81 (.mv (.tmp 80)),.split 81,.p (some
 (81,true)) 82 (.mv (.tmp 9)),.p (some (81,true)) 83 (.bin .lss .i64 (.tmp 82) (.const (.int .i64 0))),.p (some (81,true)) 84 (.mv (.tmp 83)),.split 84,.p (some (84,false)) 85 (.mv (.tmp 12)),.p (some (84,false)) 86 (.len (.tmp 85)),.p (some (84,false)) 87 (.mv (.tmp 8)),.p (some (84,false)) 88 (.len (.tmp 87)),.p (some (84,false)) 89 (.bin .lss .i64 (.tmp 86) (.tmp 88)),.p (some (81,true)) 90 (.pick (.tmp 84) (.const (.bool true)) (.tmp 89)),.p none 91 (.pick (.tmp 81) (.tmp 90) (.const (.bool false)))]) (.cond (.tmp 91) (.reg [.p none 92 (.mv (.tmp 12)),.p none 93 (.mv (.tmp 10)),.p none 8 (.mv (.tmp 92)),.p none 9 (.mv (.tmp 93))]) .skip))))) (.reg [.p none 94 (.bin .add .i64 (.tmp 60) (.const (.int .i64 1))),.p none 60 (.mv (.tmp 94))]))))))) (.seq (.reg [.l none (some 95) (.bs 5 0 1 [] []),.p none 96 (.mv (.tmp 8)),.l none (some 97) (.app 5 1 1 [(.int .u8 0)] (.tmp 95) (.tmp 96)),.p none 98 (.mv (.tmp 9)),.p none 99 (.conv .u8 (.tmp 98)),.l none (some 100) (.bs 5 1 1 [(.int .u8 0)] [(0,1,(.tmp 99))]),.l none (some 101) (.app 5 1 1 [(.int .u8 0)] (.tmp 97) (.tmp 100)),.l none (some 102) (.call 15 [(.tmp 101)]),.p none 14 (.mv (.tmp 102))]) (.seq (.dreg (.fork [.qp 0 none 103 (.mv (.tmp 0)),.qp 1 none 104 (.mv (.tmp 0)),.qp 2 none 105 (.nilchk (.tmp 104)),.qp 3 none 106 (.fa 0 (.tmp 105)),.qp 5 none 108 (.mv (.tmp 0)),.qp 6 none 109 (.nilchk (.tmp 108)),.qp 7 none 110 (.fa 1 (.tmp 109))] (.line [.l 4 none (some 107) (.ld none (.tmp 106)),.l 8 none (some 111) (.ld none (.tmp 110)),.qp 9 none 112 (.bld [(.int .i64 0),(.int .i64 0),(.slice none 0 0),(.slice none 0 0),(.string ⟨#[]⟩),(.int .i64 0)] [(0,1,(.tmp 107)),(1,1,(.tmp 111))]),.qp 10 none 113 (.nilchk (.tmp 103)),.l 11 none none (.st 6 (.tmp 113) (.tmp 112))]) (.line [.l 8 none (some 111) (.ld none (.tmp 110)),.l 4 none (some 107) (.ld none (.tmp 106)),.qp 9 none 112 (.bld [(.int .i64 0),(.int .i64 0),(.slice none 0 0),(.slice none 0 0),(.string ⟨#[]⟩),(.int .i64 0)] [(0,1,(.tmp 107)),(1,1,(.tmp 111))]),.qp
 10 none 113 (.nilchk (.tmp 103)),.l 11 none none (.st 6 (.tmp 113) (.tmp 112))]))) (.seq (.reg [.p none 114 (.mv (.tmp 14)),.p none 115 (.mv (.tmp 5)),.p none 116 (.len (.tmp 115)),.p none 2 (.mv (.tmp 114)),.p none 3 (.mv (.tmp 116)),.p none 4 (.mv (.const (.int .i64 0)))]) .ret)))))))))))))
theorem C24 : compile Try.prog 117 (Try.f24.body.getD .skip) = some M24 := by kernel_rfl
noncomputable def M25 : MC := (.seq (.reg [.p none 2 (.mv (.const (.int .i64 0)))]) (.seq (.seq (.reg [.p none 3 (.mv (.tmp 0)),.p none 4 (.isnil false 0 (.tmp 3))]) (.cond (.tmp 4) (.seq (.reg [.p none 2 (.mv (.const (.int .i64 0)))]) .ret) .skip)) (.seq (.reg [.p none 5 (.mv (.tmp 0)),.p none 6 (.nilchk (.tmp 5)),.p none 7 (.fa 5 (.tmp 6)),.l none (some 8) (.ld none (.tmp 7)),.p none 2 (.mv (.tmp 8))]) .ret)))
theorem C25 : compile Try.prog 9 (Try.f25.body.getD .skip) = some M25 := by kernel_rfl
noncomputable def M26 : MC := (.seq (.reg [.l none (some 0) (.al 58 [.nilFunc,.nilFunc,.nilFunc,.nilFunc,.nilFunc,.nilFunc])]) (.seq (.reg [.p none 1 (.bld [.nilFunc,.nilFunc] [(0,1,(.func 50)),(1,1,(.func 51))]),.p none 2 (.bld [.nilFunc,.nilFunc] [(0,1,(.func 13)),(1,1,(.func 11))]),.p none 3 (.bld [.nilFunc,.nilFunc] [(0,1,(.func 14)),(1,1,(.func 12))]),.p none 4 (.bld [.nilFunc,.nilFunc,.nilFunc,.nilFunc,.nilFunc,.nilFunc] [(0,2,(.tmp 1)),(2,2,(.tmp 2)),(4,2,(.tmp 3))]),.l none none (.st 6 (.tmp 0) (.tmp 4))]) .ret))
theorem C26 : compile Try.prog 5 (Try.f26.body.getD .skip) = some M26 := by kernel_rfl
noncomputable def M27 : MC := (.seq (.reg [.p none 2 (.mv (.const (.pointer none)))]) (.seq (.seq (.reg [.p none 13 (.mv (.tmp 0)),.p none 14 (.len (.tmp 13)),.p none 15 (.bin .lss .i64 (.tmp 14) (.const (.int .i64 8)))]) (.cond (.tmp 15) (.seq (.reg [.p none 2 (.mv (.const (.pointer none)))]) .ret) .skip)) (.seq (.reg [.p none 16 (.mv (.tmp 0)),.p none 17 (.len (.tmp 16)),.p none 18 (.bin .sub .i64 (.tmp 17) (.const (.int .i64 8))),.p none 3 (.mv (.tmp 18))]) (.seq (.reg [.p none 19 (.mv (.tmp 0)),.p none 20 (.mv (.tmp 3)),.p none 21 (.mv (.tmp 3)),.p none 22 (.bin .add .i64 (.tmp 21) (.const (.int .i64 4))),.p none 23 (.slc 1 (.tmp 19) (some (.tmp 20)) (some (.tmp 22)) none),.l none (some 24) (.call 17 [(.tmp 23)]),.p none 25 (.conv .i64 (.tmp 24)),.p none 4 (.mv (.tmp 25))]) (.seq (.reg [.p none 26 (.mv (.tmp 0)),.p none 27 (.mv (.tmp 3)),.p none 28 (.bin .add .i64 (.tmp 27) (.const (.int .i64 4))),.p none 29 (.slc 1 (.tmp 26) (some (.tmp 28)) none none),.l none (some 30) (.call 17 [(.tmp 29)]),.p none 31 (.conv .i64 (.tmp 30)),.p none 5 (.mv (.tmp 31))]) (.seq (.seq (.reg [.p none 32 (.mv (.tmp 4)),.p none 33 (.bin .lss .i64 (.tmp 32) (.const (.int .i64 1))),.p none 34 (.mv (.tmp 33)),.split 34,.p (some (34,false)) 35 (.mv (.tmp 4)),.p (some (34,false)) 36 (.bin .gtr .i64 (.tmp 35) (.const (.int .i64 64))),.p none 37 (.pick (.tmp 34) (.const (.bool true)) (.tmp 36)),.p none 38 (.mv (.tmp 37)),.split 38,.p (some (38,false)) 39 (.mv (.tmp 5)),.p (some (38,false)) 40 (.bin .lss .i64 (.tmp 39) (.const (.int .i64 1))),.p none 41 (.pick (.tmp 38) (.const (.bool true)) (.tmp 40)),.p none 42 (.mv (.tmp 41)),.split 42,.p (some (42,false)) 43 (.mv (.tmp 5)),.p (some (42,false)) 44 (.mv (.tmp 3)),.p (some (42,false)) 45 (.div .quo .i64 (.tmp 44) (.const (.int .i64 3))),.p (some (42,false)) 46 (.bin .gtr .i64 (.tmp 43) (.tmp 45)),.p none 47 (.pick (.tmp 42) (.const (.bool true)) (.tmp 46))]) (.cond (.tmp 47) (.seq (.reg [.p none 2 (.mv (.const (.pointer none)))]) .ret)
 .skip)) (.seq (.reg [.p none 48 (.mv (.tmp 3)),.p none 49 (.mv (.tmp 5)),.p none 50 (.mv (.tmp 4)),.p none 51 (.bin .add .i64 (.tmp 49) (.tmp 50)),.p none 52 (.bin .sub .i64 (.tmp 51) (.const (.int .i64 1))),.p none 53 (.mv (.tmp 4)),.p none 54 (.div .quo .i64 (.tmp 52) (.tmp 53)),.p none 55 (.bin .mul .i64 (.const (.int .i64 4)) (.tmp 54)),.p none 56 (.bin .sub .i64 (.tmp 48) (.tmp 55)),.p none 6 (.mv (.tmp 56))]) (.seq (.seq (.reg [.p none 57 (.mv (.tmp 6)),.p none 58 (.bin .lss .i64 (.tmp 57) (.const (.int .i64 0)))]) (.cond (.tmp 58) (.seq (.reg [.p none 2 (.mv (.const (.pointer none)))]) .ret) .skip)) (.seq (.reg [.p none 59 (.mv (.tmp 4)),.p none 60 (.bld [(.int .i64 0),(.slice none 0 0)] [(0,1,(.tmp 59))]),.l none (some 61) (.bx 96 (.tmp 60)),.p none 7 (.mv (.tmp 61))]) (.seq (.reg [.p none 62 (.mv (.tmp 0)),.p none 63 (.mv (.tmp 6)),.p none 64 (.slc 1 (.tmp 62) none (some (.tmp 63)) none),.l none (some 65) (.call 33 [(.tmp 64)]),.p none 66 (.bld [(.pointer none),(.string ⟨#[]⟩)] [(0,1,(.tmp 65))]),.l none (some 8) (.al 106 [(.pointer none),(.string ⟨#[]⟩)]),.l none none (.st 2 (.tmp 8) (.tmp 66))]) (.seq (.seq (.reg [.p none 67 (.mv (.tmp 5)),.p none 68 (.mv (.const (.int .i64 0)))]) (.block 0 (.loop (.seq (.reg [.p none 69 (.bin .lss .i64 (.tmp 68) (.tmp 67))]) (.seq (.cond (.tmp 69) .skip (.exit 0)) (.seq (.block 1 (.seq (.reg [.p none 70 (.mv (.tmp 68)),.p none 9 (.mv (.tmp 70))]) (.seq (.seq (.reg [.p none 71 (.mv (.tmp 9)),.p none 72 (.mv (.tmp 4)),.p none 73 (.div .rem .i64 (.tmp 71) (.tmp 72)),.p none 74 (.bin .eql .i64 (.tmp 73) (.const (.int .i64 0)))]) (.cond (.tmp 74) (.seq (.reg [.p none 75 (.mv (.tmp 6)),.p none 76 (.mv (.tmp 9)),.p none 77 (.mv (.tmp 4)),.p none 78 (.div .quo .i64 (.tmp 76) (.tmp 77)),.p none 79 (.bin .mul .i64 (.const (.int .i64 4)) (.tmp 78)),.p none 80 (.bin .add .i64 (.tmp 75) (.tmp 79)),.p none 10 (.mv (.tmp 80))]) (.seq (.dreg (.line [.qp 0 none 81 (.mv (.tmp 0)),.qp 1 none 82 (.mv (.tmp 10)),.qp 2 none 83 (.mv (.tmp
 10)),.qp 3 none 84 (.bin .add .i64 (.tmp 83) (.const (.int .i64 4))),.qp 4 none 85 (.slc 1 (.tmp 81) (some (.tmp 82)) (some (.tmp 84)) none),.qp 6 none 87 (.mv (.tmp 6)),.qp 7 none 88 (.fa 0 (.tmp 8)),.ql 8 none 89 none (.tmp 88),.l 5 none (some 86) (.call 17 [(.tmp 85)]),.l 9 none (some 90) (.call 37 [(.tmp 89)]),.qp 10 none 91 (.bin .sub .i64 (.tmp 87) (.tmp 90)),.qp 11 none 92 (.conv .u64 (.tmp 91)),.qp 12 none 93 (.bin .neq .u64 (.tmp 86) (.tmp 92))])) (.cond (.tmp 93) (.seq (.reg [.p none 2 (.mv (.const (.pointer none)))]) .ret) .skip))) .skip)) (.seq (.reg [.p none 95 (.mv (.tmp 9)),.p none 96 (.mv (.tmp 4)),.p none 97 (.div .rem .i64 (.tmp 95) (.tmp 96)),.p none 98 (.bin .eql .i64 (.tmp 97) (.const (.int .i64 0))),.p none 99 (.mv (.tmp 9)),.p none 100 (.bin .eql .i64 (.tmp 99) (.const (.int .i64 0))),.l none (some 101) (.call 52 [(.tmp 8),(.tmp 98),(.tmp 100)]),.p none 94 (.mv (.tmp 101)),.p none 102 (.ext 0 (.tmp 94)),.p none 103 (.ext 1 (.tmp 94)),.l none (some 11) (.al 100 [(.string ⟨#[]⟩),(.string ⟨#[]⟩)]),.l none none (.st 2 (.tmp 11) (.tmp 102)),.p none 12 (.mv (.tmp 103))]) (.seq (.seq (.reg [.p none 104 (.mv (.tmp 12)),.p none 105 (.not (.tmp 104))]) (.cond (.tmp 105) (.seq (.reg [.p none 2 (.mv (.const (.pointer none)))]) .ret) .skip)) (.dreg (.fork [.qp 0 none 106 (.mv (.tmp 7)),.qp 1 none 107 (.mv (.tmp 7)),.qp 2 none 108 (.nilchk (.tmp 107)),.qp 3 none 109 (.fa 1 (.tmp 108)),.ql 5 none 111 (some 2) (.tmp 11)] (.line [.l 4 none (some 110) (.ld none (.tmp 109)),.l 6 none (some 112) (.bs 100 1 2 [(.string ⟨#[]⟩),(.string ⟨#[]⟩)] [(0,2,(.tmp 111))]),.l 7 none (some 113) (.app 100 32 2 [(.string ⟨#[]⟩),(.string ⟨#[]⟩)] (.tmp 110) (.tmp 112)),.qp 8 none 114 (.nilchk (.tmp 106)),.qp 9 none 115 (.fa 1 (.tmp 114)),.l 10 none none (.st 1 (.tmp 115) (.tmp 113))]) (.line [.l 6 none (some 112) (.bs 100 1 2 [(.string ⟨#[]⟩),(.string ⟨#[]⟩)] [(0,2,(.tmp 111))]),.l 4 none (some 110) (.ld none (.tmp 109)),.l 7 none (some 113) (.app 100 32 2 [(.string
 ⟨#[]⟩),(.string ⟨#[]⟩)] (.tmp 110) (.tmp 112)),.qp 8 none 114 (.nilchk (.tmp 106)),.qp 9 none 115 (.fa 1 (.tmp 114)),.l 10 none none (.st 1 (.tmp 115) (.tmp 113))])))))))) (.reg [.p none 116 (.bin .add .i64 (.tmp 68) (.const (.int .i64 1))),.p none 68 (.mv (.tmp 116))]))))))) (.seq (.seq (.reg [.p none 117 (.fa 0 (.tmp 8)),.l none (some 118) (.ld none (.tmp 117)),.l none (some 119) (.call 53 [(.tmp 118)]),.p none 120 (.fld 0 none (.tmp 119)),.p none 121 (.bin .neq .i64 (.tmp 120) (.const (.int .i64 0)))]) (.cond (.tmp 121) (.seq (.reg [.p none 2 (.mv (.const (.pointer none)))]) .ret) .skip)) (.seq (.reg [.p none 122 (.mv (.tmp 7)),.p none 2 (.mv (.tmp 122))]) .ret)))))))))))))
theorem C27 : compile Try.prog 123 (Try.f27.body.getD .skip) = some M27 := by kernel_rfl
noncomputable def M28 : MC := (.seq (.reg [.p none 2 (.mv (.const (.slice none 0 0)))]) (.seq (.reg [.p none 3 (.mv (.tmp 0)),.p none 4 (.conv .u8 (.tmp 3)),.p none 5 (.mv (.tmp 0)),.p none 6 (.shf .shr (.tmp 5) (.const (.int .u64 8))),.p none 7 (.conv .u8 (.tmp 6)),.p none 8 (.mv (.tmp 0)),.p none 9 (.shf .shr (.tmp 8) (.const (.int .u64 16))),.p none 10 (.conv .u8 (.tmp 9)),.p none 11 (.mv (.tmp 0)),.p none 12 (.shf .shr (.tmp 11) (.const (.int .u64 24))),.p none 13 (.conv .u8 (.tmp 12)),.l none (some 14) (.bs 5 4 1 [(.int .u8 0),(.int .u8 0),(.int .u8 0),(.int .u8 0)] [(0,1,(.tmp 4)),(1,1,(.tmp 7)),(2,1,(.tmp 10)),(3,1,(.tmp 13))]),.p none 2 (.mv (.tmp 14))]) .ret))
theorem C28 : compile Try.prog 15 (Try.f28.body.getD .skip) = some M28 := by kernel_rfl
noncomputable def M29 : MC := (.seq (.reg [.p none 2 (.mv (.const (.int .u32 0)))]) (.seq (.reg [.p none 3 (.mv (.tmp 0)),.l none (some 4) (.call 54 [(.const (.int .u32 0)),(.tmp 3)]),.p none 2 (.mv (.tmp 4))]) .ret))
theorem C29 : compile Try.prog 5 (Try.f29.body.getD .skip) = some M29 := by kernel_rfl
noncomputable def M30 : MC := (.seq (.reg [.p none 6 (.mv (.const (.bool false)))]) (.seq (.reg [.p none 13 (.mv (.tmp 0)),.l none (some 14) (.call 33 [(.tmp 13)]),.p none 7 (.mv (.tmp 14))]) (.seq (.reg [.p none 8 (.mv (.const (.int .i64 0)))]) (.seq (.block 0 (.loop (.seq (.seq (.reg [.p none 15 (.mv (.tmp 7)),.l none (some 16) (.call 37 [(.tmp 15)]),.p none 17 (.bin .gtr .i64 (.tmp 16) (.const (.int .i64 0)))]) (.cond (.tmp 17) .skip (.exit 0))) (.block 1 (.seq (.reg [.p none 18 (.mv (.tmp 1)),.p none 19 (.mv (.tmp 8)),.p none 20 (.bin .sub .i64 (.tmp 18) (.tmp 19)),.p none 9 (.mv (.tmp 20))]) (.seq (.reg [.p none 21 (.mv (.tmp 7)),.p none 22 (.mv (.tmp 9)),.l none (some 23) (.call 55 [(.tmp 21),(.tmp 22)]),.p none 10 (.mv (.tmp 23))]) (.seq (.reg [.p none 24 (.mv (.tmp 7)),.p none 25 (.mv (.tmp 10)),.l none (some 26) (.call 36 [(.tmp 24),(.tmp 25)]),.p none 27 (.bld [(.slice none 0 0),(.int .i64 0),(.int .i64 0)] [(0,1,(.tmp 26))]),.l none (some 11) (.al 65 [(.slice none 0 0),(.int .i64 0),(.int .i64 0)]),.l none none (.st 3 (.tmp 11) (.tmp 27))]) (.seq (.reg [.p none 28 (.mv (.tmp 8)),.p none 29 (.fa 0 (.tmp 11)),.l none (some 30) (.ld none (.tmp 29)),.p none 31 (.len (.tmp 30)),.p none 32 (.bin .add .i64 (.tmp 28) (.tmp 31)),.p none 8 (.mv (.tmp 32))]) (.seq (.seq (.reg [.p none 33 (.mv (.tmp 7)),.l none (some 34) (.call 37 [(.tmp 33)]),.p none 35 (.bin .gtr .i64 (.tmp 34) (.const (.int .i64 0)))]) (.cond (.tmp 35) (.seq (.reg [.p none 36 (.mv (.tmp 7)),.l none (some 37) (.call 55 [(.tmp 36),(.const (.int .i64 255))]),.p none 38 (.bin .add .i64 (.tmp 37) (.const (.int .i64 4))),.p none 39 (.fa 2 (.tmp 11)),.l none none (.st 1 (.tmp 39) (.tmp 38))]) (.reg [.p none 40 (.mv (.tmp 7)),.p none 41 (.mv (.tmp 8)),.p none 42 (.mm false .i64 (.const (.int .i64 32768)) [(.tmp 41)]),.l none (some 43) (.call 55 [(.tmp 40),(.tmp 42)]),.p none 44 (.fa 1 (.tmp 11)),.l none none (.st 1 (.tmp 44) (.tmp 43))])) .skip)) (.seq (.seq (.reg [.p none 45 (.mv (.tmp 7)),.l none (some
 46) (.call 53 [(.tmp 45)]),.l none (some 12) (.al 110 [(.int .i64 0),(.int .i64 0)]),.l none none (.st 2 (.tmp 12) (.tmp 46))]) (.seq (.reg [.p none 47 (.fa 0 (.tmp 12)),.l none (some 48) (.ld none (.tmp 47)),.p none 49 (.bin .neq .i64 (.tmp 48) (.const (.int .i64 0))),.p none 50 (.mv (.tmp 49)),.split 50,.p (some (50,true)) 51 (.fa 0 (.tmp 12)),.l (some (50,true)) (some 52) (.ld none (.tmp 51)),.p (some (50,true)) 53 (.bin .neq .i64 (.tmp 52) (.const (.int .i64 22))),.p none 54 (.pick (.tmp 50) (.tmp 53) (.const (.bool false)))]) (.cond (.tmp 54) (.seq (.reg [.p none 6 (.mv (.const (.bool false)))]) .ret) .skip))) (.seq (.seq (.dreg (.line [.qp 1 none 56 (.mv (.tmp 8)),.qp 2 none 57 (.mv (.tmp 7)),.ql 0 none 55 (some 3) (.tmp 11),.l 3 none (some 58) (.call 37 [(.tmp 57)]),.qp 4 none 59 (.bin .eql .i64 (.tmp 58) (.const (.int .i64 0))),.l 5 none (some 60) (.call 56 [(.tmp 55),(.tmp 56),(.tmp 59)]),.qp 6 none 61 (.not (.tmp 60)),.qp 7 none 62 (.mv (.tmp 61)),.split 62,.qp 8 (some (62,false)) 63 (.mv (.tmp 8)),.qp 9 (some (62,false)) 64 (.fa 2 (.tmp 11)),.qp 12 (some (62,false)) 67 (.mv (.tmp 1)),.l 10 (some (62,false)) (some 65) (.ld none (.tmp 64)),.qp 11 (some (62,false)) 66 (.bin .add .i64 (.tmp 63) (.tmp 65)),.qp 13 (some (62,false)) 68 (.bin .gtr .i64 (.tmp 66) (.tmp 67)),.qp 14 none 69 (.pick (.tmp 62) (.const (.bool true)) (.tmp 68)),.qp 15 none 70 (.mv (.tmp 69)),.split 70,.l 16 (some (70,false)) (some 71) (.ld (some 3) (.tmp 11)),.l 17 (some (70,false)) (some 72) (.call 57 [(.tmp 71)]),.qp 18 (some (70,false)) 73 (.mv (.tmp 72)),.split 73,.qp 19 (some (73,true)) 74 (.mv (.tmp 8)),.qp 20 (some (73,true)) 75 (.mv (.tmp 1)),.qp 21 (some (73,true)) 76 (.bin .neq .i64 (.tmp 74) (.tmp 75)),.qp 22 (some (70,false)) 77 (.pick (.tmp 73) (.tmp 76) (.const (.bool false))),.qp 23 none 78 (.pick (.tmp 70) (.const (.bool true)) (.tmp 77))])) (.cond (.tmp 78) (.seq (.reg [.p none 6 (.mv (.const (.bool false)))]) .ret) .skip)) (.seq (.reg [.p none 79 (.mv (.tmp 8)),.p
 none 80 (.fa 2 (.tmp 11)),.l none (some 81) (.ld none (.tmp 80)),.p none 82 (.bin .add .i64 (.tmp 79) (.tmp 81)),.p none 8 (.mv (.tmp 82))]) (.reg [.p none 83 (.mv (.tmp 2)),.l none (some 84) (.ld (some 3) (.tmp 11)),.l none (some 85) (.callv (.tmp 83) [(.tmp 84)])]))))))))))))) (.seq (.reg [.p none 86 (.mv (.tmp 8)),.p none 87 (.mv (.tmp 1)),.p none 88 (.bin .eql .i64 (.tmp 86) (.tmp 87)),.p none 89 (.mv (.tmp 88)),.split 89,.p (some (89,true)) 90 (.mv (.tmp 7)),.l (some (89,true)) (some 91) (.call 53 [(.tmp 90)]),.p (some (89,true)) 92 (.fld 0 none (.tmp 91)),.p (some (89,true)) 93 (.bin .eql .i64 (.tmp 92) (.const (.int .i64 0))),.p none 94 (.pick (.tmp 89) (.tmp 93) (.const (.bool false))),.p none 6 (.mv (.tmp 94))]) .ret)))))
theorem C30 : compile Try.prog 95 (Try.f30.body.getD .skip) = some M30 := by kernel_rfl
noncomputable def M31 : MC := (.seq (.reg [.l none (some 2) (.bx 65 (.tmp 0))]) (.dreg (.line [.qp 1 none 4 (.fa 0 (.tmp 2)),.qp 4 none 7 (.fa 1 (.tmp 2)),.qp 6 none 9 (.fa 2 (.tmp 2)),.ql 7 none 10 none (.tmp 9),.ql 5 none 8 none (.tmp 7),.ql 2 none 5 none (.tmp 4),.l 0 none (some 3) (.ld none (.tmp 1)),.l 3 none (some 6) (.app 5 1 1 [(.int .u8 0)] (.tmp 3) (.tmp 5)),.l 8 none (some 11) (.call 32 [(.tmp 6),(.tmp 8),(.tmp 10)]),.l 9 none none (.st 1 (.tmp 1) (.tmp 11))])))
theorem C31 : compile Try.prog 12 (Try.f31.body.getD .skip) = some M31 := by kernel_rfl
noncomputable def M32 : MC := (.seq (.reg [.p none 6 (.mv (.const (.slice none 0 0)))]) (.seq (.seq (.reg [.p none 7 (.mv (.tmp 2)),.p none 8 (.mv (.const (.int .i64 0)))]) (.block 0 (.loop (.seq (.reg [.p none 9 (.bin .lss .i64 (.tmp 8) (.tmp 7))]) (.seq (.cond (.tmp 9) .skip (.exit 0)) (.seq (.block 1 (.reg [.p none 10 (.mv (.tmp 0)),.p none 11 (.mv (.tmp 0)),.p none 12 (.mv (.tmp 0)),.p none 13 (.len (.tmp 12)),.p none 14 (.mv (.tmp 1)),.p none 15 (.bin .sub .i64 (.tmp 13) (.tmp 14)),.p none 16 (.idx 1 (.tmp 11) (.tmp 15)),.l none (some 17) (.ld none (.tmp 16)),.l none (some 18) (.bs 5 1 1 [(.int .u8 0)] [(0,1,(.tmp 17))]),.l none (some 19) (.app 5 1 1 [(.int .u8 0)] (.tmp 10) (.tmp 18)),.p none 0 (.mv (.tmp 19))])) (.reg [.p none 20 (.bin .add .i64 (.tmp 8) (.const (.int .i64 1))),.p none 8 (.mv (.tmp 20))]))))))) (.seq (.reg [.p none 21 (.mv (.tmp 0)),.p none 6 (.mv (.tmp 21))]) .ret)))
theorem C32 : compile Try.prog 22 (Try.f32.body.getD .skip) = some M32 := by kernel_rfl
noncomputable def M33 : MC := (.seq (.reg [.p none 2 (.mv (.const (.pointer none)))]) (.seq (.reg [.p none 3 (.mv (.tmp 0)),.l none (some 4) (.app 5 1 1 [(.int .u8 0)] (.const (.slice none 0 0)) (.tmp 3)),.p none 5 (.bld [(.slice none 0 0),(.int .i64 0),(.int .i64 0)] [(0,1,(.tmp 4))]),.l none (some 6) (.bx 118 (.tmp 5)),.p none 2 (.mv (.tmp 6))]) .ret))
theorem C33 : compile Try.prog 7 (Try.f33.body.getD .skip) = some M33 := by kernel_rfl
noncomputable def M34 : MC := (.seq (.reg [.p none 2 (.mv (.const (.slice none 0 0))),.p none 3 (.mv (.const (.bool false)))]) (.seq (.reg [.p none 4 (.mv (.const (.slice none 0 0)))]) (.seq (.reg [.p none 5 (.mv (.const (.int .i64 (-1))))]) (.seq (.block 0 (.loop (.block 1 (.seq (.reg [.p none 9 (.mv (.tmp 0)),.l none (some 10) (.call 55 [(.tmp 9),(.const (.int .i64 256))]),.p none 6 (.mv (.tmp 10))]) (.seq (.seq (.reg [.p none 11 (.mv (.tmp 6)),.p none 12 (.bin .eql .i64 (.tmp 11) (.const (.int .i64 0)))]) (.cond (.tmp 12) (.exit 0) .skip)) (.seq (.reg [.p none 13 (.mv (.tmp 0)),.l none (some 14) (.call 58 [(.tmp 13),(.const (.int .i64 1))]),.p none 15 (.conv .i64 (.tmp 14)),.p none 7 (.mv (.tmp 15))]) (.seq (.seq (.reg [.p none 16 (.mv (.tmp 7)),.p none 17 (.bin .gtr .i64 (.tmp 16) (.const (.int .i64 15))),.p none 18 (.mv (.tmp 17)),.split 18,.p (some (18,false)) 19 (.mv (.tmp 7)),.p (some (18,false)) 20 (.mv (.tmp 5)),.p (some (18,false)) 21 (.bin .eql .i64 (.tmp 19) (.tmp 20)),.p none 22 (.pick (.tmp 18) (.const (.bool true)) (.tmp 21)),.p none 23 (.mv (.tmp 22)),.split 23,.p (some (23,false)) 24 (.mv (.tmp 4)),.p (some (23,false)) 25 (.len (.tmp 24)),.p (some (23,false)) 26 (.mv (.tmp 6)),.p (some (23,false)) 27 (.bin .add .i64 (.tmp 25) (.tmp 26)),.p (some (23,false)) 28 (.bin .gtr .i64 (.tmp 27) (.const (.int .i64 256))),.p none 29 (.pick (.tmp 23) (.const (.bool true)) (.tmp 28))]) (.cond (.tmp 29) (.seq (.reg [.p none 2 (.mv (.const (.slice none 0 0))),.p none 3 (.mv (.const (.bool false)))]) .ret) .skip)) (.seq (.seq (.reg [.p none 30 (.mv (.tmp 6)),.p none 31 (.mv (.const (.int .i64 0)))]) (.block 2 (.loop (.seq (.reg [.p none 32 (.bin .lss .i64 (.tmp 31) (.tmp 30))]) (.seq (.cond (.tmp 32) .skip (.exit 2)) (.seq (.block 3 (.reg [.p none 33 (.mv (.tmp 4)),.p none 34 (.mv (.tmp 7)),.l none (some 35) (.bs 3 1 1 [(.int .i64 0)] [(0,1,(.tmp 34))]),.l none (some 36) (.app 3 8 1 [(.int .i64 0)] (.tmp 33) (.tmp 35)),.p none 4 (.mv (.tmp 36))])) (.reg [.p none
 37 (.bin .add .i64 (.tmp 31) (.const (.int .i64 1))),.p none 31 (.mv (.tmp 37))]))))))) (.reg [.p none 38 (.mv (.tmp 7)),.p none 5 (.mv (.tmp 38))]))))))))) (.seq (.reg [.p none 39 (.mv (.tmp 0)),.l none (some 40) (.call 53 [(.tmp 39)]),.p none 41 (.fld 0 none (.tmp 40)),.p none 8 (.mv (.tmp 41))]) (.seq (.reg [.p none 42 (.mv (.tmp 4)),.p none 43 (.mv (.tmp 5)),.p none 44 (.bin .neq .i64 (.tmp 43) (.const (.int .i64 0))),.p none 45 (.mv (.tmp 44)),.split 45,.p (some (45,true)) 46 (.mv (.tmp 8)),.p (some (45,true)) 47 (.bin .eql .i64 (.tmp 46) (.const (.int .i64 0))),.p (some (45,true)) 48 (.mv (.tmp 47)),.split 48,.p (some (48,false)) 49 (.mv (.tmp 8)),.p (some (48,false)) 50 (.bin .eql .i64 (.tmp 49) (.const (.int .i64 22))),.p (some (45,true)) 51 (.pick (.tmp 48) (.const (.bool true)) (.tmp 50)),.p none 52 (.pick (.tmp 45) (.tmp 51) (.const (.bool false))),.p none 2 (.mv (.tmp 42)),.p none 3 (.mv (.tmp 52))]) .ret))))))
theorem C34 : compile Try.prog 53 (Try.f34.body.getD .skip) = some M34 := by kernel_rfl
noncomputable def M35 : MC := (.seq (.reg [.p none 6 (.mv (.const (.slice none 0 0))),.p none 7 (.mv (.const (.bool false)))]) (.seq (.reg [.p none 18 (.mv (.tmp 0)),.l none (some 19) (.call 59 [(.tmp 18)]),.p none 17 (.mv (.tmp 19)),.p none 20 (.ext 0 (.tmp 17)),.p none 21 (.ext 1 (.tmp 17)),.p none 22 (.ext 2 (.tmp 17)),.l none (some 9) (.al 120 (List.replicate 16 (.int .i64 0))),.p none 8 (.mv (.tmp 20)),.l none none (.st 16 (.tmp 9) (.tmp 21)),.p none 10 (.mv (.tmp 22))]) (.seq (.seq (.reg [.p none 23 (.mv (.tmp 10)),.p none 24 (.not (.tmp 23)),.p none 25 (.mv (.tmp 24)),.split 25,.p (some (25,false)) 26 (.mv (.tmp 2)),.p (some (25,false)) 27 (.mv (.tmp 1)),.p (some (25,false)) 28 (.len (.tmp 27)),.p (some (25,false)) 29 (.bin .mul .i64 (.const (.int .i64 8)) (.tmp 28)),.p (some (25,false)) 30 (.bin .gtr .i64 (.tmp 26) (.tmp 29)),.p none 31 (.pick (.tmp 25) (.const (.bool true)) (.tmp 30))]) (.cond (.tmp 31) (.seq (.reg [.p none 6 (.mv (.const (.slice none 0 0))),.p none 7 (.mv (.const (.bool false)))]) .ret) .skip)) (.seq (.reg [.p none 32 (.mv (.tmp 2)),.l none (some 33) (.mks 5 1 1 [(.int .u8 0)] (.const (.int .i64 0)) (.tmp 32)),.p none 11 (.mv (.tmp 33))]) (.seq (.reg [.p none 12 (.mv (.const (.int .i64 0)))]) (.seq (.seq (.reg [.p none 34 (.mv (.tmp 2)),.p none 35 (.mv (.const (.int .i64 0)))]) (.block 0 (.loop (.seq (.reg [.p none 36 (.bin .lss .i64 (.tmp 35) (.tmp 34))]) (.seq (.cond (.tmp 36) .skip (.exit 0)) (.seq (.block 1 (.seq (.reg [.p none 13 (.mv (.const (.int .i64 0))),.p none 14 (.mv (.const (.int .i64 0))),.p none 15 (.mv (.const (.int .i64 0)))]) (.seq (.reg [.p none 16 (.mv (.const (.int .i64 1)))]) (.block 2 (.loop (.seq (.block 3 (.seq (.seq (.reg [.p none 39 (.mv (.tmp 16)),.p none 40 (.bin .gtr .i64 (.tmp 39) (.const (.int .i64 15))),.p none 41 (.mv (.tmp 40)),.split 41,.p (some (41,false)) 42 (.mv (.tmp 12)),.p (some (41,false)) 43 (.mv (.tmp 1)),.p (some (41,false)) 44 (.len (.tmp 43)),.p (some (41,false)) 45 (.bin .mul .i64 (.const
 (.int .i64 8)) (.tmp 44)),.p (some (41,false)) 46 (.bin .eql .i64 (.tmp 42) (.tmp 45)),.p none 47 (.pick (.tmp 41) (.const (.bool true)) (.tmp 46))]) (.cond (.tmp 47) (.seq (.reg [.p none 6 (.mv (.const (.slice none 0 0))),.p none 7 (.mv (.const (.bool false)))]) .ret) .skip)) (.seq (.reg [.p none 48 (.mv (.tmp 13)),.p none 49 (.shf .shl (.tmp 48) (.const (.int .u64 1))),.p none 50 (.mv (.tmp 1)),.p none 51 (.mv (.tmp 12)),.p none 52 (.div .quo .i64 (.tmp 51) (.const (.int .i64 8))),.p none 53 (.idx 1 (.tmp 50) (.tmp 52)),.l none (some 54) (.ld none (.tmp 53)),.p none 55 (.mv (.tmp 12)),.p none 56 (.div .rem .i64 (.tmp 55) (.const (.int .i64 8))),.p none 57 (.shf .shr (.tmp 54) (.tmp 56)),.p none 58 (.bin .and .u8 (.tmp 57) (.const (.int .u8 1))),.p none 59 (.conv .i64 (.tmp 58)),.p none 60 (.bin .or .i64 (.tmp 49) (.tmp 59)),.p none 13 (.mv (.tmp 60))]) (.seq (.reg [.p none 61 (.mv (.tmp 12)),.p none 62 (.bin .add .i64 (.tmp 61) (.const (.int .i64 1))),.p none 12 (.mv (.tmp 62))]) (.seq (.reg [.p none 63 (.mv (.tmp 14)),.p none 64 (.shf .shl (.tmp 63) (.const (.int .u64 1))),.p none 14 (.mv (.tmp 64))]) (.seq (.seq (.reg [.p none 65 (.mv (.tmp 13)),.p none 66 (.mv (.tmp 14)),.p none 67 (.bin .sub .i64 (.tmp 65) (.tmp 66)),.p none 68 (.mv (.tmp 16)),.p none 69 (.idxa 16 1 (.tmp 9) (.tmp 68)),.l none (some 70) (.ld none (.tmp 69)),.p none 71 (.bin .lss .i64 (.tmp 67) (.tmp 70))]) (.cond (.tmp 71) (.seq (.reg [.p none 72 (.mv (.tmp 11)),.p none 73 (.mv (.tmp 8)),.p none 74 (.mv (.tmp 15)),.p none 75 (.mv (.tmp 13)),.p none 76 (.bin .add .i64 (.tmp 74) (.tmp 75)),.p none 77 (.mv (.tmp 14)),.p none 78 (.bin .sub .i64 (.tmp 76) (.tmp 77)),.p none 79 (.idx 1 (.tmp 73) (.tmp 78)),.l none (some 80) (.ld none (.tmp 79)),.p none 81 (.conv .u8 (.tmp 80)),.l none (some 82) (.bs 5 1 1 [(.int .u8 0)] [(0,1,(.tmp 81))]),.l none (some 83) (.app 5 1 1 [(.int .u8 0)] (.tmp 72) (.tmp 82)),.p none 11 (.mv (.tmp 83))]) (.exit 2)) .skip)) (.seq (.reg [.p none 84 (.mv (.tmp 14)),.p none
 85 (.mv (.tmp 16)),.p none 86 (.idxa 16 1 (.tmp 9) (.tmp 85)),.l none (some 87) (.ld none (.tmp 86)),.p none 88 (.bin .add .i64 (.tmp 84) (.tmp 87)),.p none 14 (.mv (.tmp 88))]) (.reg [.p none 89 (.mv (.tmp 15)),.p none 90 (.mv (.tmp 16)),.p none 91 (.idxa 16 1 (.tmp 9) (.tmp 90)),.l none (some 92) (.ld none (.tmp 91)),.p none 93 (.bin .add .i64 (.tmp 89) (.tmp 92)),.p none 15 (.mv (.tmp 93))])))))))) (.reg [.p none 37 (.mv (.tmp 16)),.p none 38 (.bin .add .i64 (.tmp 37) (.const (.int .i64 1))),.p none 16 (.mv (.tmp 38))]))))))) (.reg [.p none 94 (.bin .add .i64 (.tmp 35) (.const (.int .i64 1))),.p none 35 (.mv (.tmp 94))]))))))) (.seq (.seq (.reg [.p none 95 (.mv (.tmp 12)),.p none 96 (.bin .add .i64 (.tmp 95) (.const (.int .i64 7))),.p none 97 (.div .quo .i64 (.tmp 96) (.const (.int .i64 8))),.p none 98 (.mv (.tmp 1)),.p none 99 (.len (.tmp 98)),.p none 100 (.bin .neq .i64 (.tmp 97) (.tmp 99)),.p none 101 (.mv (.tmp 100)),.split 101,.p (some (101,false)) 102 (.mv (.tmp 12)),.p (some (101,false)) 103 (.div .rem .i64 (.tmp 102) (.const (.int .i64 8))),.p (some (101,false)) 104 (.bin .neq .i64 (.tmp 103) (.const (.int .i64 0))),.p (some (101,false)) 105 (.mv (.tmp 104)),.split 105,.p (some (105,true)) 106 (.mv (.tmp 1)),.p (some (105,true)) 107 (.mv (.tmp 12)),.p (some (105,true)) 108 (.div .quo .i64 (.tmp 107) (.const (.int .i64 8))),.p (some (105,true)) 109 (.idx 1 (.tmp 106) (.tmp 108)),.l (some (105,true)) (some 110) (.ld none (.tmp 109)),.p (some (105,true)) 111 (.mv (.tmp 12)),.p (some (105,true)) 112 (.div .rem .i64 (.tmp 111) (.const (.int .i64 8))),.p (some (105,true)) 113 (.shf .shr (.tmp 110) (.tmp 112)),.p (some (105,true)) 114 (.bin .neq .u8 (.tmp 113) (.const (.int .u8 0))),.p (some (101,false)) 115 (.pick (.tmp 105) (.tmp 114) (.const (.bool false))),.p none 116 (.pick (.tmp 101) (.const (.bool true)) (.tmp 115))]) (.cond (.tmp 116) (.seq (.reg [.p none 6 (.mv (.const (.slice none 0 0))),.p none 7 (.mv (.const (.bool false)))]) .ret) .skip)) (.seq
 (.reg [.p none 117 (.mv (.tmp 11)),.p none 6 (.mv (.tmp 117)),.p none 7 (.mv (.const (.bool true)))]) .ret))))))))
theorem C35 : compile Try.prog 118 (Try.f35.body.getD .skip) = some M35 := by kernel_rfl
noncomputable def M36 : MC := (.seq (.reg [.l none (some 3) (.bx 3 (.tmp 1)),.p none 4 (.mv (.const (.slice none 0 0)))]) (.seq (.reg [.l none (some 5) (.al 24 [(.slice none 0 0)])]) (.seq (.reg [.p none 6 (.mv (.tmp 0)),.p none 7 (.mkf (.func 61) [] [(.tmp 3),(.tmp 5)]),.l none (some 8) (.call 60 [(.tmp 6),(.tmp 7)])]) (.seq (.reg [.l none (some 9) (.ld none (.tmp 5)),.p none 4 (.mv (.tmp 9))]) .ret))))
theorem C36 : compile Try.prog 10 (Try.f36.body.getD .skip) = some M36 := by kernel_rfl
noncomputable def M37 : MC := (.seq (.reg [.p none 2 (.mv (.const (.int .i64 0)))]) (.seq (.seq (.reg [.p none 3 (.mv (.tmp 0)),.p none 4 (.isnil false 0 (.tmp 3)),.p none 5 (.mv (.tmp 4)),.split 5,.p (some (5,false)) 6 (.mv (.tmp 0)),.p (some (5,false)) 7 (.nilchk (.tmp 6)),.p (some (5,false)) 8 (.fa 2 (.tmp 7)),.l (some (5,false)) (some 9) (.ld none (.tmp 8)),.p (some (5,false)) 10 (.bin .neq .i64 (.tmp 9) (.const (.int .i64 0))),.p none 11 (.pick (.tmp 5) (.const (.bool true)) (.tmp 10))]) (.cond (.tmp 11) (.seq (.reg [.p none 2 (.mv (.const (.int .i64 0)))]) .ret) .skip)) (.seq (.dreg (.line [.qp 0 none 12 (.mv (.tmp 0)),.qp 1 none 13 (.nilchk (.tmp 12)),.qp 2 none 14 (.fa 0 (.tmp 13)),.qp 5 none 17 (.mv (.tmp 0)),.qp 6 none 18 (.nilchk (.tmp 17)),.qp 7 none 19 (.fa 1 (.tmp 18)),.ql 8 none 20 none (.tmp 19),.l 3 none (some 15) (.ld none (.tmp 14)),.qp 4 none 16 (.len (.tmp 15)),.qp 9 none 21 (.bin .sub .i64 (.tmp 16) (.tmp 20)),.qp 10 none 2 (.mv (.tmp 21))])) .ret)))
theorem C37 : compile Try.prog 22 (Try.f37.body.getD .skip) = some M37 := by kernel_rfl
noncomputable def M38 : MC := (.seq (.reg [.p none 4 (.mv (.const (.int .i64 0))),.p none 5 (.mv (.const (.int .i64 0)))]) (.seq (.seq (.reg [.p none 10 (.mv (.tmp 1)),.p none 11 (.bin .add .i64 (.tmp 10) (.const (.int .i64 4))),.p none 12 (.mv (.tmp 0)),.p none 13 (.nilchk (.tmp 12)),.p none 14 (.fa 0 (.tmp 13)),.l none (some 15) (.ld none (.tmp 14)),.p none 16 (.len (.tmp 15)),.p none 17 (.bin .gtr .i64 (.tmp 11) (.tmp 16))]) (.cond (.tmp 17) (.seq (.reg [.p none 4 (.mv (.const (.int .i64 0))),.p none 5 (.mv (.const (.int .i64 0)))]) .ret) .skip)) (.seq (.reg [.p none 6 (.mv (.const (.int .i64 0)))]) (.seq (.reg [.p none 18 (.mv (.tmp 0)),.p none 19 (.nilchk (.tmp 18)),.p none 20 (.fa 0 (.tmp 19)),.l none (some 21) (.ld none (.tmp 20)),.p none 22 (.len (.tmp 21)),.p none 23 (.mv (.tmp 1)),.p none 24 (.bin .sub .i64 (.tmp 22) (.tmp 23)),.p none 25 (.mm false .i64 (.const (.int .i64 259)) [(.tmp 24)]),.p none 7 (.mv (.tmp 25))]) (.seq .skip (.seq (.seq (.dreg (.line [.qp 0 none 26 (.mv (.tmp 0)),.qp 1 none 27 (.mv (.tmp 0)),.qp 2 none 28 (.mv (.tmp 1)),.qp 4 none 30 (.nilchk (.tmp 26)),.qp 5 none 31 (.fa 1 (.tmp 30)),.l 3 none (some 29) (.call 62 [(.tmp 27),(.tmp 28)]),.qp 6 none 32 (.idxa 32768 1 (.tmp 31) (.tmp 29)),.l 7 none (some 33) (.ld none (.tmp 32)),.qp 8 none 34 (.bin .sub .i64 (.tmp 33) (.const (.int .i64 1))),.qp 9 none 8 (.mv (.tmp 34))])) (.block 0 (.loop (.seq (.seq (.reg [.p none 35 (.mv (.tmp 8)),.p none 36 (.bin .geq .i64 (.tmp 35) (.const (.int .i64 0))),.p none 37 (.mv (.tmp 36)),.split 37,.p (some (37,true)) 38 (.mv (.tmp 1)),.p (some (37,true)) 39 (.mv (.tmp 8)),.p (some (37,true)) 40 (.bin .sub .i64 (.tmp 38) (.tmp 39)),.p (some (37,true)) 41 (.bin .leq .i64 (.tmp 40) (.const (.int .i64 32768))),.p none 42 (.pick (.tmp 37) (.tmp 41) (.const (.bool false))),.p none 43 (.mv (.tmp 42)),.split 43,.p (some (43,true)) 44 (.mv (.tmp 6)),.p (some (43,true)) 45 (.bin .lss .i64 (.tmp 44) (.const (.int .i64 16))),.p none 46 (.pick (.tmp 43) (.tmp 45)
 (.const (.bool false)))]) (.cond (.tmp 46) .skip (.exit 0))) (.seq (.block 1 (.seq (.reg [.p none 9 (.mv (.const (.int .i64 0)))]) (.seq (.block 2 (.loop (.seq (.seq (.dreg (.line [.qp 0 none 54 (.mv (.tmp 9)),.qp 1 none 55 (.mv (.tmp 7)),.qp 2 none 56 (.bin .lss .i64 (.tmp 54) (.tmp 55)),.qp 3 none 57 (.mv (.tmp 56)),.split 57,.qp 4 (some (57,true)) 58 (.mv (.tmp 0)),.qp 5 (some (57,true)) 59 (.nilchk (.tmp 58)),.qp 6 (some (57,true)) 60 (.fa 0 (.tmp 59)),.qp 8 (some (57,true)) 62 (.mv (.tmp 1)),.qp 9 (some (57,true)) 63 (.mv (.tmp 9)),.qp 10 (some (57,true)) 64 (.bin .add .i64 (.tmp 62) (.tmp 63)),.qp 13 (some (57,true)) 67 (.mv (.tmp 0)),.qp 14 (some (57,true)) 68 (.nilchk (.tmp 67)),.qp 15 (some (57,true)) 69 (.fa 0 (.tmp 68)),.qp 17 (some (57,true)) 71 (.mv (.tmp 8)),.qp 18 (some (57,true)) 72 (.mv (.tmp 9)),.qp 19 (some (57,true)) 73 (.bin .add .i64 (.tmp 71) (.tmp 72)),.ql 16 (some (57,true)) 70 none (.tmp 69),.qp 20 (some (57,true)) 74 (.idx 1 (.tmp 70) (.tmp 73)),.ql 7 (some (57,true)) 61 none (.tmp 60),.qp 11 (some (57,true)) 65 (.idx 1 (.tmp 61) (.tmp 64)),.ql 21 (some (57,true)) 75 none (.tmp 74),.l 12 (some (57,true)) (some 66) (.ld none (.tmp 65)),.qp 22 (some (57,true)) 76 (.bin .eql .u8 (.tmp 66) (.tmp 75)),.qp 23 none 77 (.pick (.tmp 57) (.tmp 76) (.const (.bool false)))])) (.cond (.tmp 77) .skip (.exit 2))) (.block 3 (.reg [.p none 78 (.mv (.tmp 9)),.p none 79 (.bin .add .i64 (.tmp 78) (.const (.int .i64 1))),.p none 9 (.mv (.tmp 79))]))))) (.seq (.seq (.reg [.p none 80 (.mv (.tmp 9)),.p none 81 (.bin .lss .i64 (.tmp 80) (.const (.int .i64 4)))]) (.cond (.tmp 81) (.exit 1) .skip)) (.seq (.reg [.p none 82 (.mv (.tmp 6)),.p none 83 (.bin .add .i64 (.tmp 82) (.const (.int .i64 1))),.p none 6 (.mv (.tmp 83))]) (.seq (.seq (.reg [.p none 84 (.mv (.tmp 9)),.p none 85 (.mv (.tmp 5)),.p none 86 (.bin .leq .i64 (.tmp 84) (.tmp 85)),.p none 87 (.mv (.tmp 86)),.split 87,.p (some (87,false)) 88 (.mv (.tmp 9)),.p (some (87,false)) 89 (.mv (.tmp 1)),.p (some
 (87,false)) 90 (.mv (.tmp 8)),.p (some (87,false)) 91 (.bin .sub .i64 (.tmp 89) (.tmp 90)),.l (some (87,false)) (some 92) (.call 63 [(.tmp 91)]),.p (some (87,false)) 93 (.len (.tmp 92)),.p (some (87,false)) 94 (.bin .add .i64 (.const (.int .i64 3)) (.tmp 93)),.p (some (87,false)) 95 (.bin .lss .i64 (.tmp 88) (.tmp 94)),.p none 96 (.pick (.tmp 87) (.const (.bool true)) (.tmp 95))]) (.cond (.tmp 96) (.exit 1) .skip)) (.seq (.reg [.p none 97 (.mv (.tmp 1)),.p none 98 (.mv (.tmp 8)),.p none 99 (.bin .sub .i64 (.tmp 97) (.tmp 98)),.p none 100 (.mv (.tmp 9)),.p none 4 (.mv (.tmp 99)),.p none 5 (.mv (.tmp 100))]) (.seq (.reg [.p none 101 (.mv (.tmp 9)),.p none 102 (.mv (.tmp 7)),.p none 103 (.bin .eql .i64 (.tmp 101) (.tmp 102))]) (.cond (.tmp 103) (.exit 0) .skip))))))))) (.reg [.p none 47 (.mv (.tmp 0)),.p none 48 (.nilchk (.tmp 47)),.p none 49 (.fa 32769 (.tmp 48)),.l none (some 50) (.ld none (.tmp 49)),.p none 51 (.mv (.tmp 8)),.p none 52 (.idx 1 (.tmp 50) (.tmp 51)),.l none (some 53) (.ld none (.tmp 52)),.p none 8 (.mv (.tmp 53))])))))) (.seq (.reg [.p none 104 (.mv (.tmp 4)),.p none 105 (.mv (.tmp 5)),.p none 4 (.mv (.tmp 104)),.p none 5 (.mv (.tmp 105))]) .ret)))))))
theorem C38 : compile Try.prog 106 (Try.f38.body.getD .skip) = some M38 := by kernel_rfl
noncomputable def M39 : MC := (.seq (.seq (.reg [.p none 5 (.mv (.tmp 1)),.p none 6 (.bin .add .i64 (.tmp 5) (.const (.int .i64 4))),.p none 7 (.mv (.tmp 0)),.p none 8 (.nilchk (.tmp 7)),.p none 9 (.fa 0 (.tmp 8)),.l none (some 10) (.ld none (.tmp 9)),.p none 11 (.len (.tmp 10)),.p none 12 (.bin .gtr .i64 (.tmp 6) (.tmp 11))]) (.cond (.tmp 12) .ret .skip)) (.seq (.reg [.p none 13 (.mv (.tmp 0)),.p none 14 (.mv (.tmp 1)),.l none (some 15) (.call 62 [(.tmp 13),(.tmp 14)]),.p none 4 (.mv (.tmp 15))]) (.seq (.dreg (.line [.qp 0 none 16 (.mv (.tmp 0)),.qp 1 none 17 (.nilchk (.tmp 16)),.qp 2 none 18 (.fa 32769 (.tmp 17)),.qp 4 none 20 (.mv (.tmp 1)),.qp 5 none 21 (.mv (.tmp 0)),.qp 6 none 22 (.mv (.tmp 4)),.qp 7 none 23 (.nilchk (.tmp 21)),.qp 8 none 24 (.fa 1 (.tmp 23)),.qp 9 none 25 (.idxa 32768 1 (.tmp 24) (.tmp 22)),.ql 3 none 19 none (.tmp 18),.l 10 none (some 26) (.ld none (.tmp 25)),.qp 11 none 27 (.bin .sub .i64 (.tmp 26) (.const (.int .i64 1))),.qp 12 none 28 (.idx 1 (.tmp 19) (.tmp 20)),.l 13 none none (.st 1 (.tmp 28) (.tmp 27))])) (.reg [.p none 29 (.mv (.tmp 0)),.p none 30 (.mv (.tmp 4)),.p none 31 (.mv (.tmp 1)),.p none 32 (.bin .add .i64 (.tmp 31) (.const (.int .i64 1))),.p none 33 (.nilchk (.tmp 29)),.p none 34 (.fa 1 (.tmp 33)),.p none 35 (.idxa 32768 1 (.tmp 34) (.tmp 30)),.l none none (.st 1 (.tmp 35) (.tmp 32))]))))
theorem C39 : compile Try.prog 36 (Try.f39.body.getD .skip) = some M39 := by kernel_rfl
noncomputable def M40 : MC := (.seq (.reg [.l none (some 1) (.bx 65 (.tmp 0)),.p none 2 (.mv (.const (.slice none 0 0)))]) (.seq (.dreg (.line [.qp 0 none 4 (.fa 0 (.tmp 1)),.qp 4 none 8 (.fa 0 (.tmp 1)),.ql 5 none 9 none (.tmp 8),.l 1 none (some 5) (.ld none (.tmp 4)),.qp 2 none 6 (.len (.tmp 5)),.l 3 none (some 7) (.call 63 [(.tmp 6)]),.l 6 none (some 10) (.app 5 1 1 [(.int .u8 0)] (.tmp 7) (.tmp 9)),.qp 7 none 3 (.mv (.tmp 10))])) (.seq (.seq (.reg [.l none (some 11) (.ld (some 3) (.tmp 1)),.l none (some 12) (.call 57 [(.tmp 11)])]) (.cond (.tmp 12) (.seq (.reg [.p none 13 (.mv (.tmp 3)),.p none 2 (.mv (.tmp 13))]) .ret) .skip)) (.seq (.reg [.p none 14 (.mv (.tmp 3)),.p none 15 (.fa 2 (.tmp 1)),.l none (some 16) (.ld none (.tmp 15)),.p none 17 (.bin .sub .i64 (.tmp 16) (.const (.int .i64 4))),.l none (some 18) (.call 63 [(.tmp 17)]),.l none (some 19) (.app 5 1 1 [(.int .u8 0)] (.tmp 14) (.tmp 18)),.p none 3 (.mv (.tmp 19))]) (.seq (.reg [.p none 20 (.mv (.tmp 3)),.p none 21 (.fa 1 (.tmp 1)),.l none (some 22) (.ld none (.tmp 21)),.l none (some 23) (.call 63 [(.tmp 22)]),.l none (some 24) (.app 5 1 1 [(.int .u8 0)] (.tmp 20) (.tmp 23)),.p none 2 (.mv (.tmp 24))]) .ret)))))
theorem C40 : compile Try.prog 25 (Try.f40.body.getD .skip) = some M40 := by kernel_rfl
noncomputable def M41 : MC := (.seq (.reg [.p none 2 (.mv (.const (.slice none 0 0)))]) (.seq (.reg [.p none 4 (.mv (.tmp 0)),.p none 5 (.len (.tmp 4)),.l none (some 6) (.mks 5 1 1 [(.int .u8 0)] (.tmp 5) (.tmp 5)),.p none 3 (.mv (.tmp 6))]) (.seq (.reg [.p none 7 (.mv (.tmp 3)),.p none 8 (.mv (.tmp 0)),.l none (some 9) (.cpy 1 (.tmp 7) (.tmp 8))]) (.seq (.reg [.p none 10 (.mv (.tmp 3)),.p none 2 (.mv (.tmp 10))]) .ret))))
theorem C41 : compile Try.prog 11 (Try.f41.body.getD .skip) = some M41 := by kernel_rfl
noncomputable def M42 : MC := (.seq (.reg [.p none 4 (.mv (.const (.slice none 0 0))),.p none 5 (.mv (.const (.int .i64 0)))]) (.seq (.seq (.reg [.p none 16 (.mv (.tmp 0)),.p none 17 (.len (.tmp 16)),.p none 18 (.bin .gtr .i64 (.tmp 17) (.const (.int .i64 256)))]) (.cond (.tmp 18) (.seq (.reg [.p none 4 (.mv (.const (.slice none 0 0))),.p none 5 (.mv (.const (.int .i64 2)))]) .ret) .skip)) (.seq (.seq (.reg [.p none 19 (.mv (.tmp 0)),.l none (some 20) (.call 64 [(.tmp 19)]),.p none 6 (.mv (.tmp 20))]) (.seq (.reg [.p none 21 (.mv (.tmp 6)),.p none 22 (.bin .neq .i64 (.tmp 21) (.const (.int .i64 0))),.p none 23 (.mv (.tmp 22)),.split 23,.p (some (23,false)) 24 (.mv (.tmp 1)),.p (some (23,false)) 25 (.bin .lss .i64 (.tmp 24) (.const (.int .i64 1))),.p none 26 (.pick (.tmp 23) (.const (.bool true)) (.tmp 25)),.p none 27 (.mv (.tmp 26)),.split 27,.p (some (27,false)) 28 (.mv (.tmp 1)),.p (some (27,false)) 29 (.bin .gtr .i64 (.tmp 28) (.const (.int .i64 15))),.p none 30 (.pick (.tmp 27) (.const (.bool true)) (.tmp 29))]) (.cond (.tmp 30) (.seq (.reg [.p none 4 (.mv (.const (.slice none 0 0))),.p none 5 (.mv (.const (.int .i64 3)))]) .ret) .skip))) (.seq (.reg [.p none 31 (.mv (.tmp 0)),.l none (some 32) (.call 65 [(.tmp 31)]),.p none 7 (.mv (.tmp 32))]) (.seq (.reg [.p none 33 (.mv (.tmp 7)),.p none 34 (.len (.tmp 33)),.p none 8 (.mv (.tmp 34))]) (.seq (.seq (.reg [.p none 35 (.mv (.tmp 8)),.p none 36 (.mv (.tmp 1)),.p none 37 (.shf .shl (.const (.int .i64 1)) (.tmp 36)),.p none 38 (.bin .gtr .i64 (.tmp 35) (.tmp 37))]) (.cond (.tmp 38) (.seq (.reg [.p none 4 (.mv (.const (.slice none 0 0))),.p none 5 (.mv (.const (.int .i64 41)))]) .ret) .skip)) (.seq (.reg [.p none 39 (.mv (.tmp 0)),.p none 40 (.len (.tmp 39)),.l none (some 41) (.mks 3 8 1 [(.int .i64 0)] (.tmp 40) (.tmp 40)),.p none 9 (.mv (.tmp 41))]) (.seq (.seq (.reg [.p none 42 (.mv (.tmp 8)),.p none 43 (.bin .eql .i64 (.tmp 42) (.const (.int .i64 1)))]) (.cond (.tmp 43) (.seq (.seq (.reg [.p none 44 (.mv (.tmp
 0)),.p none 45 (.len (.tmp 44)),.p none 46 (.mv (.const (.int .i64 0)))]) (.block 0 (.loop (.seq (.reg [.p none 47 (.bin .lss .i64 (.tmp 46) (.tmp 45))]) (.seq (.cond (.tmp 47) .skip (.exit 0)) (.seq (.block 1 (.seq (.reg [.p none 48 (.mv (.tmp 46)),.p none 49 (.idx 1 (.tmp 44) (.tmp 46)),.l none (some 50) (.ld none (.tmp 49)),.p none 10 (.mv (.tmp 48)),.p none 11 (.mv (.tmp 50))]) (.seq (.reg [.p none 51 (.mv (.tmp 11)),.p none 52 (.bin .gtr .i64 (.tmp 51) (.const (.int .i64 0)))]) (.cond (.tmp 52) (.reg [.p none 53 (.mv (.tmp 9)),.p none 54 (.mv (.tmp 10)),.p none 55 (.idx 1 (.tmp 53) (.tmp 54)),.l none none (.st 1 (.tmp 55) (.const (.int .i64 1)))]) .skip)))) (.reg [.p none 56 (.bin .add .i64 (.tmp 46) (.const (.int .i64 1))),.p none 46 (.mv (.tmp 56))]))))))) (.seq (.reg [.p none 57 (.mv (.tmp 9)),.p none 4 (.mv (.tmp 57)),.p none 5 (.mv (.const (.int .i64 0)))]) .ret)) .skip)) (.seq (.reg [.p none 58 (.mv (.tmp 7)),.p none 12 (.mv (.tmp 58))]) (.seq (.seq (.reg [.p none 59 (.mv (.tmp 1)),.p none 60 (.bin .sub .i64 (.tmp 59) (.const (.int .i64 1))),.p none 61 (.mv (.const (.int .i64 0)))]) (.block 2 (.loop (.seq (.reg [.p none 62 (.bin .lss .i64 (.tmp 61) (.tmp 60))]) (.seq (.cond (.tmp 62) .skip (.exit 2)) (.seq (.block 3 (.reg [.p none 63 (.mv (.tmp 7)),.p none 64 (.mv (.tmp 12)),.l none (some 65) (.call 66 [(.tmp 63),(.tmp 64)]),.p none 12 (.mv (.tmp 65))])) (.reg [.p none 66 (.bin .add .i64 (.tmp 61) (.const (.int .i64 1))),.p none 61 (.mv (.tmp 66))]))))))) (.seq (.seq (.reg [.p none 67 (.mv (.tmp 12)),.p none 68 (.mv (.tmp 8)),.p none 69 (.bin .mul .i64 (.const (.int .i64 2)) (.tmp 68)),.p none 70 (.bin .sub .i64 (.tmp 69) (.const (.int .i64 2))),.p none 71 (.mm true .i64 (.tmp 70) [(.const (.int .i64 0))]),.p none 72 (.slc 257 (.tmp 67) none (some (.tmp 71)) none),.p none 73 (.len (.tmp 72)),.p none 74 (.mv (.const (.int .i64 0)))]) (.block 4 (.loop (.seq (.reg [.p none 75 (.bin .lss .i64 (.tmp 74) (.tmp 73))]) (.seq (.cond (.tmp 75) .skip (.exit 4))
 (.seq (.block 5 (.seq (.reg [.p none 76 (.idx 257 (.tmp 72) (.tmp 74)),.l none (some 77) (.ld (some 257) (.tmp 76)),.l none (some 14) (.al 133 (zcOf Try.t133)),.l none none (.st 257 (.tmp 14) (.tmp 77))]) (.seq (.reg [.p none 78 (.mv (.tmp 9)),.p none 79 (.len (.tmp 78)),.p none 80 (.mv (.const (.int .i64 0)))]) (.block 6 (.loop (.seq (.reg [.p none 81 (.bin .lss .i64 (.tmp 80) (.tmp 79))]) (.seq (.cond (.tmp 81) .skip (.exit 6)) (.seq (.block 7 (.seq (.reg [.p none 82 (.mv (.tmp 80)),.p none 15 (.mv (.tmp 82))]) (.dreg (.line [.qp 0 none 83 (.mv (.tmp 9)),.qp 1 none 84 (.mv (.tmp 15)),.qp 2 none 85 (.idx 1 (.tmp 83) (.tmp 84)),.qp 4 none 87 (.mv (.tmp 15)),.qp 5 none 88 (.fa 1 (.tmp 14)),.qp 6 none 89 (.idxa 256 1 (.tmp 88) (.tmp 87)),.ql 7 none 90 none (.tmp 89),.qp 8 none 91 (.conv .i64 (.tmp 90)),.l 3 none (some 86) (.ld none (.tmp 85)),.qp 9 none 92 (.bin .add .i64 (.tmp 86) (.tmp 91)),.qp 10 none 93 (.idx 1 (.tmp 83) (.tmp 84)),.l 11 none none (.st 1 (.tmp 93) (.tmp 92))])))) (.reg [.p none 94 (.bin .add .i64 (.tmp 80) (.const (.int .i64 1))),.p none 80 (.mv (.tmp 94))]))))))))) (.reg [.p none 95 (.bin .add .i64 (.tmp 74) (.const (.int .i64 1))),.p none 74 (.mv (.tmp 95))]))))))) (.seq (.reg [.p none 96 (.mv (.tmp 9)),.p none 4 (.mv (.tmp 96)),.p none 5 (.mv (.const (.int .i64 0)))]) .ret))))))))))))
theorem C42 : compile Try.prog 97 (Try.f42.body.getD .skip) = some M42 := by kernel_rfl
noncomputable def M43 : MC := (.seq (.reg [.p none 2 (.mv (.const (.slice none 0 0))),.p none 3 (.mv (.const (.int .i64 0)))]) (.seq (.seq (.reg [.p none 12 (.mv (.tmp 0)),.p none 13 (.len (.tmp 12)),.p none 14 (.bin .gtr .i64 (.tmp 13) (.const (.int .i64 256)))]) (.cond (.tmp 14) (.seq (.reg [.p none 2 (.mv (.const (.slice none 0 0))),.p none 3 (.mv (.const (.int .i64 2)))]) .ret) .skip)) (.seq (.seq (.reg [.p none 15 (.mv (.tmp 0)),.l none (some 16) (.call 67 [(.tmp 15)]),.p none 17 (.not (.tmp 16))]) (.cond (.tmp 17) (.seq (.reg [.p none 2 (.mv (.const (.slice none 0 0))),.p none 3 (.mv (.const (.int .i64 3)))]) .ret) .skip)) (.seq (.reg [.p none 19 (.mv (.tmp 0)),.l none (some 20) (.call 59 [(.tmp 19)]),.p none 18 (.mv (.tmp 20)),.p none 21 (.ext 0 (.tmp 18)),.p none 22 (.ext 1 (.tmp 18)),.p none 23 (.ext 2 (.tmp 18)),.l none (some 5) (.al 120 (List.replicate 16 (.int .i64 0))),.p none 4 (.mv (.tmp 21)),.l none none (.st 16 (.tmp 5) (.tmp 22)),.p none 6 (.mv (.tmp 23))]) (.seq (.seq (.reg [.p none 24 (.mv (.tmp 6)),.p none 25 (.not (.tmp 24))]) (.cond (.tmp 25) (.seq (.reg [.p none 2 (.mv (.const (.slice none 0 0))),.p none 3 (.mv (.const (.int .i64 41)))]) .ret) .skip)) (.seq (.reg [.p none 26 (.mv (.tmp 0)),.p none 27 (.len (.tmp 26)),.l none (some 28) (.mks 93 16 2 [(.int .i64 0),(.int .u32 0)] (.tmp 27) (.tmp 27)),.p none 7 (.mv (.tmp 28))]) (.seq (.reg [.p none 8 (.mv (.const (.int .u32 0))),.p none 9 (.mv (.const (.int .i64 0)))]) (.seq (.seq (.reg [.p none 29 (.mv (.tmp 4)),.p none 30 (.len (.tmp 29)),.p none 31 (.mv (.const (.int .i64 0)))]) (.block 0 (.loop (.seq (.reg [.p none 32 (.bin .lss .i64 (.tmp 31) (.tmp 30))]) (.seq (.cond (.tmp 32) .skip (.exit 0)) (.seq (.block 1 (.seq (.reg [.p none 33 (.mv (.tmp 31)),.p none 34 (.idx 1 (.tmp 29) (.tmp 31)),.l none (some 35) (.ld none (.tmp 34)),.p none 10 (.mv (.tmp 33)),.p none 11 (.mv (.tmp 35))]) (.seq (.seq (.reg [.p none 36 (.mv (.tmp 10)),.p none 37 (.bin .gtr .i64 (.tmp 36) (.const (.int .i64 0)))])
 (.cond (.tmp 37) (.reg [.p none 38 (.mv (.tmp 8)),.p none 39 (.bin .add .u32 (.tmp 38) (.const (.int .u32 1))),.p none 8 (.mv (.tmp 39))]) .skip)) (.seq (.reg [.p none 40 (.mv (.tmp 8)),.p none 41 (.mv (.tmp 0)),.p none 42 (.mv (.tmp 11)),.p none 43 (.idx 1 (.tmp 41) (.tmp 42)),.l none (some 44) (.ld none (.tmp 43)),.p none 45 (.mv (.tmp 9)),.p none 46 (.bin .sub .i64 (.tmp 44) (.tmp 45)),.p none 47 (.shf .shl (.tmp 40) (.tmp 46)),.p none 8 (.mv (.tmp 47))]) (.seq (.reg [.p none 48 (.mv (.tmp 0)),.p none 49 (.mv (.tmp 11)),.p none 50 (.idx 1 (.tmp 48) (.tmp 49)),.l none (some 51) (.ld none (.tmp 50)),.p none 9 (.mv (.tmp 51))]) (.reg [.p none 52 (.mv (.tmp 7)),.p none 53 (.mv (.tmp 11)),.p none 54 (.mv (.tmp 9)),.p none 55 (.mv (.tmp 8)),.p none 56 (.bld [(.int .i64 0),(.int .u32 0)] [(0,1,(.tmp 54)),(1,1,(.tmp 55))]),.p none 57 (.idx 2 (.tmp 52) (.tmp 53)),.l none none (.st 2 (.tmp 57) (.tmp 56))])))))) (.reg [.p none 58 (.bin .add .i64 (.tmp 31) (.const (.int .i64 1))),.p none 31 (.mv (.tmp 58))]))))))) (.seq (.reg [.p none 59 (.mv (.tmp 7)),.p none 2 (.mv (.tmp 59)),.p none 3 (.mv (.const (.int .i64 0)))]) .ret)))))))))
theorem C43 : compile Try.prog 60 (Try.f43.body.getD .skip) = some M43 := by kernel_rfl
noncomputable def M44 : MC := (.seq (.reg [.p none 2 (.mv (.const (.slice none 0 0)))]) (.seq (.reg [.p none 3 (.mv (.const (.slice none 0 0)))]) (.seq (.seq (.reg [.p none 4 (.mv (.const (.int .i64 0)))]) (.block 0 (.loop (.seq (.seq (.reg [.p none 6 (.mv (.tmp 4)),.p none 7 (.mv (.tmp 0)),.p none 8 (.len (.tmp 7)),.p none 9 (.bin .lss .i64 (.tmp 6) (.tmp 8))]) (.cond (.tmp 9) .skip (.exit 0))) (.block 1 (.seq (.reg [.p none 10 (.mv (.tmp 4)),.p none 5 (.mv (.tmp 10))]) (.seq (.block 2 (.loop (.seq (.seq (.dreg (.line [.qp 0 none 11 (.mv (.tmp 5)),.qp 1 none 12 (.mv (.tmp 0)),.qp 2 none 13 (.len (.tmp 12)),.qp 3 none 14 (.bin .lss .i64 (.tmp 11) (.tmp 13)),.qp 4 none 15 (.mv (.tmp 14)),.split 15,.qp 5 (some (15,true)) 16 (.mv (.tmp 0)),.qp 6 (some (15,true)) 17 (.mv (.tmp 5)),.qp 7 (some (15,true)) 18 (.idx 1 (.tmp 16) (.tmp 17)),.qp 9 (some (15,true)) 20 (.mv (.tmp 0)),.qp 10 (some (15,true)) 21 (.mv (.tmp 4)),.qp 11 (some (15,true)) 22 (.idx 1 (.tmp 20) (.tmp 21)),.ql 12 (some (15,true)) 23 none (.tmp 22),.l 8 (some (15,true)) (some 19) (.ld none (.tmp 18)),.qp 13 (some (15,true)) 24 (.bin .eql .i64 (.tmp 19) (.tmp 23)),.qp 14 none 25 (.pick (.tmp 15) (.tmp 24) (.const (.bool false)))])) (.cond (.tmp 25) .skip (.exit 2))) (.block 3 (.reg [.p none 26 (.mv (.tmp 5)),.p none 27 (.bin .add .i64 (.tmp 26) (.const (.int .i64 1))),.p none 5 (.mv (.tmp 27))]))))) (.seq (.seq (.reg [.p none 28 (.mv (.tmp 5)),.p none 29 (.mv (.tmp 0)),.p none 30 (.len (.tmp 29)),.p none 31 (.bin .lss .i64 (.tmp 28) (.tmp 30)),.p none 32 (.mv (.tmp 31)),.split 32,.p (some (32,false)) 33 (.mv (.tmp 0)),.p (some (32,false)) 34 (.mv (.tmp 4)),.p (some (32,false)) 35 (.idx 1 (.tmp 33) (.tmp 34)),.l (some (32,false)) (some 36) (.ld none (.tmp 35)),.p (some (32,false)) 37 (.bin .neq .i64 (.tmp 36) (.const (.int .i64 0))),.p none 38 (.pick (.tmp 32) (.const (.bool true)) (.tmp 37))]) (.cond (.tmp 38) (.seq (.reg [.p none 39 (.mv (.tmp 3)),.p none 40 (.mv (.tmp 5)),.p none 41 (.mv (.tmp 4)),.p
 none 42 (.bin .sub .i64 (.tmp 40) (.tmp 41)),.l none (some 43) (.call 63 [(.tmp 42)]),.l none (some 44) (.app 5 1 1 [(.int .u8 0)] (.tmp 39) (.tmp 43)),.p none 3 (.mv (.tmp 44))]) (.reg [.p none 45 (.mv (.tmp 3)),.p none 46 (.mv (.tmp 0)),.p none 47 (.mv (.tmp 4)),.p none 48 (.idx 1 (.tmp 46) (.tmp 47)),.l none (some 49) (.ld none (.tmp 48)),.p none 50 (.conv .u8 (.tmp 49)),.l none (some 51) (.bs 5 1 1 [(.int .u8 0)] [(0,1,(.tmp 50))]),.l none (some 52) (.app 5 1 1 [(.int .u8 0)] (.tmp 45) (.tmp 51)),.p none 3 (.mv (.tmp 52))])) .skip)) (.reg [.p none 53 (.mv (.tmp 5)),.p none 4 (.mv (.tmp 53))]))))))))) (.seq (.reg [.p none 54 (.mv (.tmp 3)),.l none (some 55) (.bs 5 1 1 [(.int .u8 0)] [(0,1,(.const (.int .u8 0)))]),.l none (some 56) (.app 5 1 1 [(.int .u8 0)] (.tmp 54) (.tmp 55)),.p none 2 (.mv (.tmp 56))]) .ret))))
theorem C44 : compile Try.prog 57 (Try.f44.body.getD .skip) = some M44 := by kernel_rfl
noncomputable def M45 : MC := (.seq (.seq (.reg [.l none (some 4) (.ld none (.tmp 1)),.p none 5 (.div .rem .i64 (.tmp 4) (.const (.int .i64 8))),.p none 6 (.bin .eql .i64 (.tmp 5) (.const (.int .i64 0)))]) (.cond (.tmp 6) (.reg [.l none (some 7) (.ld none (.tmp 2)),.l none (some 8) (.bs 5 1 1 [(.int .u8 0)] [(0,1,(.const (.int .u8 0)))]),.l none (some 9) (.app 5 1 1 [(.int .u8 0)] (.tmp 7) (.tmp 8)),.l none none (.st 1 (.tmp 2) (.tmp 9))]) .skip)) (.seq (.dreg (.line [.qp 6 none 16 (.mv (.tmp 0)),.ql 7 none 17 none (.tmp 1),.qp 8 none 18 (.div .rem .i64 (.tmp 17) (.const (.int .i64 8))),.qp 9 none 19 (.shf .shl (.tmp 16) (.tmp 18)),.qp 10 none 20 (.conv .u8 (.tmp 19)),.ql 1 none 11 none (.tmp 2),.qp 2 none 12 (.len (.tmp 11)),.qp 3 none 13 (.bin .sub .i64 (.tmp 12) (.const (.int .i64 1))),.l 0 none (some 10) (.ld none (.tmp 2)),.qp 4 none 14 (.idx 1 (.tmp 10) (.tmp 13)),.l 5 none (some 15) (.ld none (.tmp 14)),.qp 11 none 21 (.bin .or .u8 (.tmp 15) (.tmp 20)),.qp 12 none 22 (.idx 1 (.tmp 10) (.tmp 13)),.l 13 none none (.st 1 (.tmp 22) (.tmp 21))])) (.reg [.l none (some 23) (.ld none (.tmp 1)),.p none 24 (.bin .add .i64 (.tmp 23) (.const (.int .i64 1))),.l none none (.st 1 (.tmp 1) (.tmp 24))])))
theorem C45 : compile Try.prog 25 (Try.f45.body.getD .skip) = some M45 := by kernel_rfl
noncomputable def M46 : MC := (.seq (.reg [.p none 6 (.mv (.const (.slice none 0 0)))]) (.seq (.reg [.p none 9 (.mv (.tmp 0)),.p none 10 (.mv (.tmp 1)),.l none (some 11) (.call 68 [(.tmp 9),(.tmp 10)]),.p none 7 (.mv (.tmp 11))]) (.seq (.reg [.p none 12 (.mv (.tmp 7)),.l none (some 13) (.call 63 [(.tmp 12)]),.p none 8 (.mv (.tmp 13))]) (.seq (.reg [.p none 14 (.mv (.tmp 8)),.p none 15 (.mv (.tmp 1)),.p none 16 (.lens (.tmp 15)),.p none 17 (.mv (.tmp 7)),.p none 18 (.bin .sub .i64 (.tmp 16) (.tmp 17)),.l none (some 19) (.call 63 [(.tmp 18)]),.l none (some 20) (.app 5 1 1 [(.int .u8 0)] (.tmp 14) (.tmp 19)),.p none 8 (.mv (.tmp 20))]) (.seq (.reg [.p none 21 (.mv (.tmp 8)),.p none 22 (.mv (.tmp 2)),.p none 23 (.lens (.tmp 22)),.l none (some 24) (.call 63 [(.tmp 23)]),.l none (some 25) (.app 5 1 1 [(.int .u8 0)] (.tmp 21) (.tmp 24)),.p none 8 (.mv (.tmp 25))]) (.seq (.reg [.p none 26 (.mv (.tmp 8)),.p none 27 (.mv (.tmp 1)),.p none 28 (.mv (.tmp 7)),.p none 29 (.slcs (.tmp 27) (some (.tmp 28)) none),.l none (some 30) (.app 5 1 1 [(.int .u8 0)] (.tmp 26) (.tmp 29)),.p none 8 (.mv (.tmp 30))]) (.seq (.reg [.p none 31 (.mv (.tmp 8)),.p none 32 (.mv (.tmp 2)),.l none (some 33) (.app 5 1 1 [(.int .u8 0)] (.tmp 31) (.tmp 32)),.p none 6 (.mv (.tmp 33))]) .ret)))))))
theorem C46 : compile Try.prog 34 (Try.f46.body.getD .skip) = some M46 := by kernel_rfl
noncomputable def M47 : MC := (.seq (.reg [.p none 6 (.mv (.const (.int .i64 0)))]) (.seq (.seq (.reg [.p none 7 (.mv (.tmp 2)),.p none 8 (.bin .eql .i64 (.tmp 7) (.const (.int .i64 0)))]) (.cond (.tmp 8) (.seq (.reg [.p none 6 (.mv (.const (.int .i64 0)))]) .ret) .skip)) (.seq (.dreg (.line [.qp 0 none 9 (.mv (.tmp 1)),.qp 1 none 10 (.mv (.tmp 2)),.qp 2 none 11 (.mv (.tmp 0)),.qp 3 none 12 (.nilchk (.tmp 11)),.qp 4 none 13 (.fa 0 (.tmp 12)),.qp 8 none 17 (.mv (.tmp 0)),.qp 9 none 18 (.nilchk (.tmp 17)),.qp 10 none 19 (.fa 0 (.tmp 18)),.ql 11 none 20 none (.tmp 19),.l 5 none (some 14) (.ld none (.tmp 13)),.qp 6 none 15 (.bin .add .i64 (.tmp 10) (.tmp 14)),.qp 7 none 16 (.bin .sub .i64 (.tmp 15) (.const (.int .i64 1))),.qp 12 none 21 (.div .quo .i64 (.tmp 16) (.tmp 20)),.qp 13 none 22 (.bin .mul .i64 (.const (.int .i64 4)) (.tmp 21)),.qp 14 none 23 (.bin .add .i64 (.tmp 9) (.tmp 22)),.qp 15 none 24 (.bin .add .i64 (.tmp 23) (.const (.int .i64 8))),.qp 16 none 6 (.mv (.tmp 24))])) .ret)))
theorem C47 : compile Try.prog 25 (Try.f47.body.getD .skip) = some M47 := by kernel_rfl
noncomputable def M49 : MC := (.seq (.reg [.p none 4 (.mv (.const (.slice none 0 0)))]) (.seq (.seq (.reg [.p none 7 (.mv (.tmp 1)),.p none 8 (.bin .lss .i64 (.tmp 7) (.const (.int .i64 1))),.p none 9 (.mv (.tmp 8)),.split 9,.p (some (9,false)) 10 (.mv (.tmp 1)),.p (some (9,false)) 11 (.bin .gtr .i64 (.tmp 10) (.const (.int .i64 8))),.p none 12 (.pick (.tmp 9) (.const (.bool true)) (.tmp 11))]) (.cond (.tmp 12) (.seq (.reg [.p none 4 (.mv (.const (.slice none 0 0)))]) .ret) .skip)) (.seq (.reg [.p none 13 (.mv (.tmp 1)),.l none (some 14) (.mks 5 1 1 [(.int .u8 0)] (.tmp 13) (.tmp 13)),.p none 5 (.mv (.tmp 14))]) (.seq (.seq (.reg [.p none 15 (.mv (.tmp 5)),.p none 16 (.len (.tmp 15)),.p none 17 (.mv (.const (.int .i64 0)))]) (.block 0 (.loop (.seq (.reg [.p none 18 (.bin .lss .i64 (.tmp 17) (.tmp 16))]) (.seq (.cond (.tmp 18) .skip (.exit 0)) (.seq (.block 1 (.seq (.reg [.p none 19 (.mv (.tmp 17)),.p none 6 (.mv (.tmp 19))]) (.reg [.p none 20 (.mv (.tmp 5)),.p none 21 (.mv (.tmp 6)),.p none 22 (.mv (.tmp 0)),.p none 23 (.mv (.tmp 6)),.p none 24 (.bin .mul .i64 (.const (.int .i64 8)) (.tmp 23)),.p none 25 (.shf .shr (.tmp 22) (.tmp 24)),.p none 26 (.conv .u8 (.tmp 25)),.p none 27 (.idx 1 (.tmp 20) (.tmp 21)),.l none none (.st 1 (.tmp 27) (.tmp 26))]))) (.reg [.p none 28 (.bin .add .i64 (.tmp 17) (.const (.int .i64 1))),.p none 17 (.mv (.tmp 28))]))))))) (.seq (.reg [.p none 29 (.mv (.tmp 5)),.p none 4 (.mv (.tmp 29))]) .ret)))))
theorem C49 : compile Try.prog 30 (Try.f49.body.getD .skip) = some M49 := by kernel_rfl
noncomputable def M50 : MC := (.seq (.reg [.p none 2 (.mv (.const (.slice none 0 0))),.p none 3 (.mv (.const (.int .i64 0)))]) (.seq (.reg [.p none 4 (.mv (.tmp 0)),.p none 2 (.mv (.tmp 4)),.p none 3 (.mv (.const (.int .i64 0)))]) .ret))
theorem C50 : compile Try.prog 5 (Try.f50.body.getD .skip) = some M50 := by kernel_rfl
noncomputable def M51 : MC := (.seq (.reg [.p none 4 (.mv (.const (.slice none 0 0))),.p none 5 (.mv (.const (.int .i64 0)))]) (.seq (.seq (.reg [.p none 6 (.mv (.tmp 0)),.p none 7 (.len (.tmp 6)),.p none 8 (.mv (.tmp 1)),.p none 9 (.bin .neq .i64 (.tmp 7) (.tmp 8))]) (.cond (.tmp 9) (.seq (.reg [.p none 4 (.mv (.const (.slice none 0 0))),.p none 5 (.mv (.const (.int .i64 60)))]) .ret) .skip)) (.seq (.reg [.p none 10 (.mv (.tmp 0)),.p none 4 (.mv (.tmp 10)),.p none 5 (.mv (.const (.int .i64 0)))]) .ret)))
theorem C51 : compile Try.prog 11 (Try.f51.body.getD .skip) = some M51 := by kernel_rfl
noncomputable def M52 : MC := (.seq (.reg [.l none (some 6) (.al 100 [(.string ⟨#[]⟩),(.string ⟨#[]⟩)]),.p none 7 (.mv (.const (.bool false)))]) (.seq (.reg [.p none 14 (.mv (.tmp 0)),.p none 15 (.nilchk (.tmp 14)),.p none 16 (.fa 0 (.tmp 15)),.l none (some 17) (.ld none (.tmp 16)),.l none (some 18) (.call 55 [(.tmp 17),(.const (.int .i64 1024))]),.p none 8 (.mv (.tmp 18))]) (.seq (.reg [.p none 19 (.mv (.tmp 0)),.p none 20 (.nilchk (.tmp 19)),.p none 21 (.fa 0 (.tmp 20)),.l none (some 22) (.ld none (.tmp 21)),.l none (some 23) (.call 55 [(.tmp 22),(.const (.int .i64 1024))]),.p none 9 (.mv (.tmp 23))]) (.seq (.reg [.p none 24 (.mv (.tmp 0)),.p none 25 (.nilchk (.tmp 24)),.p none 26 (.fa 0 (.tmp 25)),.l none (some 27) (.ld none (.tmp 26)),.l none (some 28) (.call 55 [(.tmp 27),(.const (.int .i64 1024))]),.p none 10 (.mv (.tmp 28))]) (.seq (.reg [.p none 29 (.mv (.tmp 0)),.p none 30 (.nilchk (.tmp 29)),.p none 31 (.fa 0 (.tmp 30)),.l none (some 32) (.ld none (.tmp 31)),.p none 33 (.mv (.tmp 9)),.l none (some 34) (.call 36 [(.tmp 32),(.tmp 33)]),.l none (some 35) (.b2s (.tmp 34)),.p none 11 (.mv (.tmp 35))]) (.seq (.reg [.p none 36 (.mv (.tmp 0)),.p none 37 (.nilchk (.tmp 36)),.p none 38 (.fa 0 (.tmp 37)),.l none (some 39) (.ld none (.tmp 38)),.p none 40 (.mv (.tmp 10)),.l none (some 41) (.call 36 [(.tmp 39),(.tmp 40)]),.l none (some 42) (.b2s (.tmp 41)),.p none 43 (.bld [(.string ⟨#[]⟩),(.string ⟨#[]⟩)] [(1,1,(.tmp 42))]),.l none (some 12) (.al 100 [(.string ⟨#[]⟩),(.string ⟨#[]⟩)]),.l none none (.st 2 (.tmp 12) (.tmp 43))]) (.seq (.seq (.reg [.p none 44 (.mv (.tmp 0)),.p none 45 (.nilchk (.tmp 44)),.p none 46 (.fa 0 (.tmp 45)),.l none (some 47) (.ld none (.tmp 46)),.l none (some 48) (.call 53 [(.tmp 47)]),.l none (some 13) (.al 110 [(.int .i64 0),(.int .i64 0)]),.l none none (.st 2 (.tmp 13) (.tmp 48))]) (.seq (.reg [.p none 49 (.fa 0 (.tmp 13)),.l none (some 50) (.ld none (.tmp 49)),.p none 51 (.bin .neq .i64 (.tmp 50) (.const (.int .i64 0))),.p none 52 (.mv (.tmp
 51)),.split 52,.p (some (52,true)) 53 (.fa 0 (.tmp 13)),.l (some (52,true)) (some 54) (.ld none (.tmp 53)),.p (some (52,true)) 55 (.bin .neq .i64 (.tmp 54) (.const (.int .i64 22))),.p none 56 (.pick (.tmp 52) (.tmp 55) (.const (.bool false)))]) (.cond (.tmp 56) (.seq (.reg [.p none 57 (.bld [(.string ⟨#[]⟩),(.string ⟨#[]⟩)] []),.l none none (.st 2 (.tmp 6) (.tmp 57)),.p none 7 (.mv (.const (.bool false)))]) .ret) .skip))) (.seq (.seq (.reg [.p none 58 (.mv (.tmp 1)),.p none 59 (.mv (.tmp 58)),.split 59,.p (some (59,true)) 60 (.mv (.tmp 8)),.p (some (59,true)) 61 (.bin .neq .i64 (.tmp 60) (.const (.int .i64 0))),.p none 62 (.pick (.tmp 59) (.tmp 61) (.const (.bool false))),.p none 63 (.mv (.tmp 62)),.split 63,.p (some (63,false)) 64 (.mv (.tmp 8)),.p (some (63,false)) 65 (.mv (.tmp 0)),.p (some (63,false)) 66 (.nilchk (.tmp 65)),.p (some (63,false)) 67 (.fa 1 (.tmp 66)),.l (some (63,false)) (some 68) (.ld none (.tmp 67)),.p (some (63,false)) 69 (.lens (.tmp 68)),.p (some (63,false)) 70 (.bin .gtr .i64 (.tmp 64) (.tmp 69)),.p none 71 (.pick (.tmp 63) (.const (.bool true)) (.tmp 70)),.p none 72 (.mv (.tmp 71)),.split 72,.p (some (72,false)) 73 (.mv (.tmp 8)),.p (some (72,false)) 74 (.mv (.tmp 9)),.p (some (72,false)) 75 (.bin .add .i64 (.tmp 73) (.tmp 74)),.p (some (72,false)) 76 (.bin .gtr .i64 (.tmp 75) (.const (.int .i64 1024))),.p none 77 (.pick (.tmp 72) (.const (.bool true)) (.tmp 76))]) (.cond (.tmp 77) (.seq (.reg [.p none 78 (.bld [(.string ⟨#[]⟩),(.string ⟨#[]⟩)] []),.l none none (.st 2 (.tmp 6) (.tmp 78)),.p none 7 (.mv (.const (.bool false)))]) .ret) .skip)) (.seq (.reg [.p none 79 (.mv (.tmp 0)),.p none 80 (.nilchk (.tmp 79)),.p none 81 (.fa 1 (.tmp 80)),.l none (some 82) (.ld none (.tmp 81)),.p none 83 (.mv (.tmp 8)),.p none 84 (.slcs (.tmp 82) none (some (.tmp 83))),.p none 85 (.mv (.tmp 11)),.p none 86 (.sbin .add (.tmp 84) (.tmp 85)),.p none 87 (.fa 0 (.tmp 12)),.l none none (.st 1 (.tmp 87) (.tmp 86))]) (.seq (.seq (.dreg (.line [.qp 0 none 88 (.mv
 (.tmp 2)),.qp 1 none 89 (.not (.tmp 88)),.qp 2 none 90 (.mv (.tmp 89)),.split 90,.qp 3 (some (90,true)) 91 (.fa 0 (.tmp 12)),.qp 5 (some (90,true)) 93 (.mv (.tmp 0)),.qp 6 (some (90,true)) 94 (.nilchk (.tmp 93)),.qp 7 (some (90,true)) 95 (.fa 1 (.tmp 94)),.ql 8 (some (90,true)) 96 none (.tmp 95),.l 4 (some (90,true)) (some 92) (.ld none (.tmp 91)),.l 9 (some (90,true)) (some 97) (.call 23 [(.tmp 92),(.tmp 96)]),.qp 10 (some (90,true)) 98 (.bin .lss .i64 (.tmp 97) (.const (.int .i64 0))),.qp 11 none 99 (.pick (.tmp 90) (.tmp 98) (.const (.bool false))),.qp 12 none 100 (.mv (.tmp 99)),.split 100,.qp 13 (some (100,false)) 101 (.mv (.tmp 1)),.qp 14 (some (100,false)) 102 (.not (.tmp 101)),.qp 15 (some (100,false)) 103 (.mv (.tmp 102)),.split 103,.qp 16 (some (103,true)) 104 (.mv (.tmp 0)),.qp 17 (some (103,true)) 105 (.nilchk (.tmp 104)),.qp 18 (some (103,true)) 106 (.fa 1 (.tmp 105)),.qp 20 (some (103,true)) 108 (.fa 0 (.tmp 12)),.qp 23 (some (103,true)) 111 (.mv (.tmp 8)),.ql 21 (some (103,true)) 109 none (.tmp 108),.l 19 (some (103,true)) (some 107) (.ld none (.tmp 106)),.l 22 (some (103,true)) (some 110) (.call 68 [(.tmp 107),(.tmp 109)]),.qp 24 (some (103,true)) 112 (.bin .neq .i64 (.tmp 110) (.tmp 111)),.qp 25 (some (100,false)) 113 (.pick (.tmp 103) (.tmp 112) (.const (.bool false))),.qp 26 none 114 (.pick (.tmp 100) (.const (.bool true)) (.tmp 113))])) (.cond (.tmp 114) (.seq (.reg [.p none 115 (.bld [(.string ⟨#[]⟩),(.string ⟨#[]⟩)] []),.l none none (.st 2 (.tmp 6) (.tmp 115)),.p none 7 (.mv (.const (.bool false)))]) .ret) .skip)) (.seq (.reg [.p none 116 (.mv (.tmp 0)),.p none 117 (.fa 0 (.tmp 12)),.l none (some 118) (.ld none (.tmp 117)),.p none 119 (.nilchk (.tmp 116)),.p none 120 (.fa 1 (.tmp 119)),.l none none (.st 1 (.tmp 120) (.tmp 118))]) (.seq (.reg [.l none (some 121) (.ld (some 2) (.tmp 12)),.l none none (.st 2 (.tmp 6) (.tmp 121)),.p none 7 (.mv (.const (.bool true)))]) .ret))))))))))))
theorem C52 : compile Try.prog 122 (Try.f52.body.getD .skip) = some M52 := by kernel_rfl
noncomputable def M53 : MC := (.seq (.reg [.l none (some 2) (.al 110 [(.int .i64 0),(.int .i64 0)])]) (.seq (.block 0 (.seq (.reg [.p none 4 (.mv (.tmp 0)),.p none 5 (.isnil false 0 (.tmp 4)),.p none 3 (.mv (.tmp 5))]) (.cond (.tmp 3) (.seq (.reg [.p none 6 (.bld [(.int .i64 0),(.int .i64 0)] [(0,1,(.const (.int .i64 1)))]),.l none none (.st 2 (.tmp 2) (.tmp 6))]) .ret) (.seq (.reg [.p none 8 (.mv (.tmp 0)),.p none 9 (.nilchk (.tmp 8)),.p none 10 (.fa 2 (.tmp 9)),.l none (some 11) (.ld none (.tmp 10)),.p none 12 (.bin .neq .i64 (.tmp 11) (.const (.int .i64 0))),.p none 7 (.mv (.tmp 12))]) (.cond (.tmp 7) (.seq (.dreg (.line [.qp 0 none 13 (.mv (.tmp 0)),.qp 1 none 14 (.nilchk (.tmp 13)),.qp 2 none 15 (.fa 2 (.tmp 14)),.qp 4 none 17 (.mv (.tmp 0)),.qp 5 none 18 (.nilchk (.tmp 17)),.qp 6 none 19 (.fa 1 (.tmp 18)),.ql 7 none 20 none (.tmp 19),.l 3 none (some 16) (.ld none (.tmp 15)),.qp 8 none 21 (.bld [(.int .i64 0),(.int .i64 0)] [(0,1,(.tmp 16)),(1,1,(.tmp 20))]),.l 9 none none (.st 2 (.tmp 2) (.tmp 21))])) .ret) (.seq (.dreg (.line [.qp 0 none 23 (.mv (.tmp 0)),.qp 1 none 24 (.nilchk (.tmp 23)),.qp 2 none 25 (.fa 1 (.tmp 24)),.qp 4 none 27 (.mv (.tmp 0)),.qp 5 none 28 (.nilchk (.tmp 27)),.qp 6 none 29 (.fa 0 (.tmp 28)),.ql 7 none 30 none (.tmp 29),.qp 8 none 31 (.len (.tmp 30)),.l 3 none (some 26) (.ld none (.tmp 25)),.qp 9 none 32 (.bin .lss .i64 (.tmp 26) (.tmp 31)),.qp 10 none 22 (.mv (.tmp 32))])) (.cond (.tmp 22) (.seq (.reg [.p none 33 (.mv (.tmp 0)),.p none 34 (.nilchk (.tmp 33)),.p none 35 (.fa 1 (.tmp 34)),.l none (some 36) (.ld none (.tmp 35)),.p none 37 (.bld [(.int .i64 0),(.int .i64 0)] [(0,1,(.const (.int .i64 22))),(1,1,(.tmp 36))]),.l none none (.st 2 (.tmp 2) (.tmp 37))]) .ret) .skip))))))) (.seq (.reg [.p none 38 (.bld [(.int .i64 0),(.int .i64 0)] []),.l none none (.st 2 (.tmp 2) (.tmp 38))]) .ret)))
theorem C53 : compile Try.prog 39 (Try.f53.body.getD .skip) = some M53 := by kernel_rfl
noncomputable def M54 : MC := (.seq (.reg [.p none 4 (.mv (.const (.int .u32 0)))]) (.seq (.reg [.p none 9 (.mv (.tmp 0)),.p none 10 (.bin .xor .u32 (.const (.int .u32 4294967295)) (.tmp 9)),.p none 5 (.mv (.tmp 10))]) (.seq (.reg [.l none (some 11) (.call 69 []),.l none (some 6) (.al 136 (List.replicate 16 (.int .u32 0))),.l none none (.st 16 (.tmp 6) (.tmp 11))]) (.seq (.seq (.reg [.p none 12 (.mv (.tmp 1)),.p none 13 (.len (.tmp 12)),.p none 14 (.mv (.const (.int .i64 0)))]) (.block 0 (.loop (.seq (.reg [.p none 15 (.bin .lss .i64 (.tmp 14) (.tmp 13))]) (.seq (.cond (.tmp 15) .skip (.exit 0)) (.seq (.block 1 (.seq (.reg [.p none 16 (.idx 1 (.tmp 12) (.tmp 14)),.l none (some 17) (.ld none (.tmp 16)),.p none 8 (.mv (.tmp 17))]) (.seq (.reg [.p none 18 (.mv (.tmp 5)),.p none 19 (.mv (.tmp 8)),.p none 20 (.conv .u32 (.tmp 19)),.p none 21 (.bin .xor .u32 (.tmp 18) (.tmp 20)),.p none 5 (.mv (.tmp 21))]) (.seq (.reg [.p none 22 (.mv (.tmp 5)),.p none 23 (.shf .shr (.tmp 22) (.const (.int .u64 4))),.p none 24 (.mv (.tmp 5)),.p none 25 (.bin .and .u32 (.tmp 24) (.const (.int .u32 15))),.p none 26 (.idxa 16 1 (.tmp 6) (.tmp 25)),.l none (some 27) (.ld none (.tmp 26)),.p none 28 (.bin .xor .u32 (.tmp 23) (.tmp 27)),.p none 5 (.mv (.tmp 28))]) (.reg [.p none 29 (.mv (.tmp 5)),.p none 30 (.shf .shr (.tmp 29) (.const (.int .u64 4))),.p none 31 (.mv (.tmp 5)),.p none 32 (.bin .and .u32 (.tmp 31) (.const (.int .u32 15))),.p none 33 (.idxa 16 1 (.tmp 6) (.tmp 32)),.l none (some 34) (.ld none (.tmp 33)),.p none 35 (.bin .xor .u32 (.tmp 30) (.tmp 34)),.p none 5 (.mv (.tmp 35))]))))) (.reg [.p none 36 (.bin .add .i64 (.tmp 14) (.const (.int .i64 1))),.p none 14 (.mv (.tmp 36))]))))))) (.seq (.reg [.p none 37 (.mv (.tmp 5)),.p none 38 (.bin .xor .u32 (.const (.int .u32 4294967295)) (.tmp 37)),.p none 4 (.mv (.tmp 38))]) .ret)))))
theorem C54 : compile Try.prog 39 (Try.f54.body.getD .skip) = some M54 := by kernel_rfl
noncomputable def M55 : MC := (.seq (.reg [.l none (some 3) (.bx 2 (.tmp 1)),.p none 4 (.mv (.const (.int .i64 0)))]) (.seq (.reg [.l none (some 5) (.al 2 [(.int .i64 0)])]) (.seq (.reg [.p none 6 (.mv (.tmp 0)),.p none 7 (.mkf (.func 70) [] [(.tmp 3),(.tmp 5)]),.l none (some 8) (.call 60 [(.tmp 6),(.tmp 7)])]) (.seq (.reg [.l none (some 9) (.ld none (.tmp 5)),.p none 4 (.mv (.tmp 9))]) .ret))))
theorem C55 : compile Try.prog 10 (Try.f55.body.getD .skip) = some M55 := by kernel_rfl
noncomputable def M56 : MC := (.seq (.reg [.l none (some 3) (.bx 65 (.tmp 0)),.p none 6 (.mv (.const (.bool false)))]) (.seq (.seq (.reg [.l none (some 7) (.ld (some 3) (.tmp 3)),.l none (some 8) (.call 57 [(.tmp 7)])]) (.cond (.tmp 8) (.seq (.reg [.p none 9 (.mv (.tmp 2)),.p none 10 (.mv (.tmp 9)),.split 10,.p (some (10,true)) 11 (.fa 0 (.tmp 3)),.l (some (10,true)) (some 12) (.ld none (.tmp 11)),.p (some (10,true)) 13 (.len (.tmp 12)),.p (some (10,true)) 14 (.bin .gtr .i64 (.tmp 13) (.const (.int .i64 0))),.p none 15 (.pick (.tmp 10) (.tmp 14) (.const (.bool false))),.p none 6 (.mv (.tmp 15))]) .ret) .skip)) (.seq (.reg [.p none 16 (.fa 2 (.tmp 3)),.l none (some 17) (.ld none (.tmp 16)),.p none 18 (.bin .geq .i64 (.tmp 17) (.const (.int .i64 4))),.p none 19 (.mv (.tmp 18)),.split 19,.p (some (19,true)) 20 (.fa 2 (.tmp 3)),.l (some (19,true)) (some 21) (.ld none (.tmp 20)),.p (some (19,true)) 22 (.bin .leq .i64 (.tmp 21) (.const (.int .i64 259))),.p none 23 (.pick (.tmp 19) (.tmp 22) (.const (.bool false))),.p none 24 (.mv (.tmp 23)),.split 24,.p (some (24,true)) 25 (.fa 1 (.tmp 3)),.l (some (24,true)) (some 26) (.ld none (.tmp 25)),.p (some (24,true)) 27 (.bin .geq .i64 (.tmp 26) (.const (.int .i64 1))),.p none 28 (.pick (.tmp 24) (.tmp 27) (.const (.bool false))),.p none 29 (.mv (.tmp 28)),.split 29,.p (some (29,true)) 30 (.fa 1 (.tmp 3)),.l (some (29,true)) (some 31) (.ld none (.tmp 30)),.p (some (29,true)) 32 (.mv (.tmp 1)),.p (some (29,true)) 33 (.mm false .i64 (.const (.int .i64 32768)) [(.tmp 32)]),.p (some (29,true)) 34 (.bin .leq .i64 (.tmp 31) (.tmp 33)),.p none 35 (.pick (.tmp 29) (.tmp 34) (.const (.bool false))),.p none 6 (.mv (.tmp 35))]) .ret)))
theorem C56 : compile Try.prog 36 (Try.f56.body.getD .skip) = some M56 := by kernel_rfl
noncomputable def M57 : MC := (.seq (.reg [.l none (some 1) (.bx 65 (.tmp 0)),.p none 2 (.mv (.const (.bool false)))]) (.seq (.reg [.p none 3 (.fa 1 (.tmp 1)),.l none (some 4) (.ld none (.tmp 3)),.p none 5 (.bin .eql .i64 (.tmp 4) (.const (.int .i64 0))),.p none 6 (.mv (.tmp 5)),.split 6,.p (some (6,true)) 7 (.fa 2 (.tmp 1)),.l (some (6,true)) (some 8) (.ld none (.tmp 7)),.p (some (6,true)) 9 (.bin .eql .i64 (.tmp 8) (.const (.int .i64 0))),.p none 10 (.pick (.tmp 6) (.tmp 9) (.const (.bool false))),.p none 2 (.mv (.tmp 10))]) .ret))
theorem C57 : compile Try.prog 11 (Try.f57.body.getD .skip) = some M57 := by kernel_rfl
noncomputable def M58 : MC := (.seq (.reg [.l none (some 3) (.bx 3 (.tmp 1)),.p none 4 (.mv (.const (.int .u64 0)))]) (.seq (.reg [.l none (some 5) (.al 39 [(.int .u64 0)])]) (.seq (.reg [.p none 6 (.mv (.tmp 0)),.p none 7 (.mkf (.func 72) [] [(.tmp 3),(.tmp 5)]),.l none (some 8) (.call 60 [(.tmp 6),(.tmp 7)])]) (.seq (.reg [.l none (some 9) (.ld none (.tmp 5)),.p none 4 (.mv (.tmp 9))]) .ret))))
theorem C58 : compile Try.prog 10 (Try.f58.body.getD .skip) = some M58 := by kernel_rfl
noncomputable def M59 : MC := (.seq (.reg [.p none 2 (.mv (.const (.slice none 0 0))),.l none (some 3) (.al 120 (List.replicate 16 (.int .i64 0))),.p none 4 (.mv (.const (.bool false)))]) (.seq (.reg [.p none 5 (.mv (.const (.slice none 0 0)))]) (.seq (.reg [.l none (some 6) (.al 120 (List.replicate 16 (.int .i64 0)))]) (.seq (.reg [.p none 7 (.mv (.const (.int .i64 32768)))]) (.seq (.seq (.reg [.p none 8 (.mv (.const (.int .i64 1)))]) (.block 0 (.loop (.seq (.seq (.reg [.p none 11 (.mv (.tmp 8)),.p none 12 (.bin .leq .i64 (.tmp 11) (.const (.int .i64 15)))]) (.cond (.tmp 12) .skip (.exit 0))) (.seq (.block 1 (.seq (.reg [.p none 15 (.mv (.tmp 0)),.p none 16 (.len (.tmp 15)),.p none 17 (.mv (.const (.int .i64 0)))]) (.block 2 (.loop (.seq (.reg [.p none 18 (.bin .lss .i64 (.tmp 17) (.tmp 16))]) (.seq (.cond (.tmp 18) .skip (.exit 2)) (.seq (.block 3 (.seq (.reg [.p none 19 (.mv (.tmp 17)),.p none 20 (.idx 1 (.tmp 15) (.tmp 17)),.l none (some 21) (.ld none (.tmp 20)),.p none 9 (.mv (.tmp 19)),.p none 10 (.mv (.tmp 21))]) (.seq (.reg [.p none 22 (.mv (.tmp 10)),.p none 23 (.mv (.tmp 8)),.p none 24 (.bin .eql .i64 (.tmp 22) (.tmp 23))]) (.cond (.tmp 24) (.seq (.reg [.p none 25 (.mv (.tmp 5)),.p none 26 (.mv (.tmp 9)),.l none (some 27) (.bs 3 1 1 [(.int .i64 0)] [(0,1,(.tmp 26))]),.l none (some 28) (.app 3 8 1 [(.int .i64 0)] (.tmp 25) (.tmp 27)),.p none 5 (.mv (.tmp 28))]) (.seq (.reg [.p none 29 (.mv (.tmp 8)),.p none 30 (.idxa 16 1 (.tmp 6) (.tmp 29)),.l none (some 31) (.ld none (.tmp 30)),.p none 32 (.bin .add .i64 (.tmp 31) (.const (.int .i64 1))),.p none 33 (.idxa 16 1 (.tmp 6) (.tmp 29)),.l none none (.st 1 (.tmp 33) (.tmp 32))]) (.reg [.p none 34 (.mv (.tmp 7)),.p none 35 (.mv (.tmp 8)),.p none 36 (.bin .sub .i64 (.const (.int .i64 15)) (.tmp 35)),.p none 37 (.shf .shl (.const (.int .i64 1)) (.tmp 36)),.p none 38 (.bin .sub .i64 (.tmp 34) (.tmp 37)),.p none 7 (.mv (.tmp 38))]))) .skip)))) (.reg [.p none 39 (.bin .add .i64 (.tmp 17) (.const (.int .i64 1))),.p
 none 17 (.mv (.tmp 39))])))))))) (.reg [.p none 13 (.mv (.tmp 8)),.p none 14 (.bin .add .i64 (.tmp 13) (.const (.int .i64 1))),.p none 8 (.mv (.tmp 14))])))))) (.seq (.dreg (.line [.qp 0 none 40 (.mv (.tmp 5)),.qp 2 none 42 (.mv (.tmp 7)),.qp 3 none 43 (.bin .geq .i64 (.tmp 42) (.const (.int .i64 0))),.qp 4 none 2 (.mv (.tmp 40)),.l 1 none (some 41) (.ld (some 16) (.tmp 6)),.l 5 none none (.st 16 (.tmp 3) (.tmp 41)),.qp 6 none 4 (.mv (.tmp 43))])) .ret))))))
theorem C59 : compile Try.prog 44 (Try.f59.body.getD .skip) = some M59 := by kernel_rfl
noncomputable def M60 : MC := (.seq (.seq (.reg [.p none 6 (.mv (.tmp 0)),.p none 7 (.isnil false 0 (.tmp 6)),.p none 8 (.mv (.tmp 7)),.split 8,.p (some (8,false)) 9 (.mv (.tmp 0)),.p (some (8,false)) 10 (.nilchk (.tmp 9)),.p (some (8,false)) 11 (.fa 2 (.tmp 10)),.l (some (8,false)) (some 12) (.ld none (.tmp 11)),.p (some (8,false)) 13 (.bin .neq .i64 (.tmp 12) (.const (.int .i64 0))),.p none 14 (.pick (.tmp 8) (.const (.bool true)) (.tmp 13))]) (.cond (.tmp 14) .ret .skip)) (.seq (.dreg (.line [.qp 0 none 16 (.mv (.tmp 1)),.qp 1 none 17 (.mv (.tmp 0)),.qp 2 none 18 (.nilchk (.tmp 17)),.qp 3 none 19 (.fa 0 (.tmp 18)),.qp 5 none 21 (.mv (.tmp 0)),.qp 6 none 22 (.nilchk (.tmp 21)),.qp 7 none 23 (.fa 1 (.tmp 22)),.ql 8 none 24 none (.tmp 23),.l 4 none (some 20) (.ld none (.tmp 19)),.qp 9 none 25 (.slc 1 (.tmp 20) (some (.tmp 24)) none none),.l 10 none (some 26) (.callv (.tmp 16) [(.tmp 25)]),.qp 11 none 15 (.mv (.tmp 26)),.qp 12 none 27 (.ext 0 (.tmp 15)),.qp 13 none 28 (.ext 1 (.tmp 15)),.qp 14 none 4 (.mv (.tmp 27)),.qp 15 none 5 (.mv (.tmp 28))])) (.seq (.seq (.reg [.p none 29 (.mv (.tmp 5)),.p none 30 (.bin .neq .i64 (.tmp 29) (.const (.int .i64 0)))]) (.cond (.tmp 30) (.seq (.reg [.p none 31 (.mv (.tmp 0)),.p none 32 (.mv (.tmp 5)),.p none 33 (.nilchk (.tmp 31)),.p none 34 (.fa 2 (.tmp 33)),.l none none (.st 1 (.tmp 34) (.tmp 32))]) .ret) .skip)) (.reg [.p none 35 (.mv (.tmp 0)),.p none 36 (.nilchk (.tmp 35)),.p none 37 (.fa 1 (.tmp 36)),.l none (some 38) (.ld none (.tmp 37)),.p none 39 (.mv (.tmp 4)),.p none 40 (.bin .add .i64 (.tmp 38) (.tmp 39)),.p none 41 (.nilchk (.tmp 35)),.p none 42 (.fa 1 (.tmp 41)),.l none none (.st 1 (.tmp 42) (.tmp 40))]))))
theorem C60 : compile Try.prog 43 (Try.f60.body.getD .skip) = some M60 := by kernel_rfl
noncomputable def M61 : MC := (.seq (.reg [.p none 4 (.mv (.const (.int .i64 0))),.p none 5 (.mv (.const (.int .i64 0)))]) (.seq (.block 0 (.seq (.reg [.l none (some 7) (.ld none (.tmp 1)),.p none 8 (.bin .lss .i64 (.tmp 7) (.const (.int .i64 0))),.p none 6 (.mv (.tmp 8))]) (.cond (.tmp 6) (.seq (.reg [.p none 4 (.mv (.const (.int .i64 0))),.p none 5 (.mv (.const (.int .i64 23)))]) .ret) (.seq (.reg [.l none (some 10) (.ld none (.tmp 1)),.p none 11 (.mv (.tmp 0)),.p none 12 (.len (.tmp 11)),.p none 13 (.bin .gtr .i64 (.tmp 10) (.tmp 12)),.p none 9 (.mv (.tmp 13))]) (.cond (.tmp 9) (.seq (.reg [.p none 4 (.mv (.const (.int .i64 0))),.p none 5 (.mv (.const (.int .i64 20)))]) .ret) .skip))))) (.seq (.dreg (.line [.qp 1 none 15 (.mv (.tmp 0)),.ql 2 none 16 none (.tmp 1),.qp 3 none 17 (.slc 1 (.tmp 15) none (some (.tmp 16)) none),.l 0 none (some 14) (.ld none (.tmp 2)),.l 4 none (some 18) (.app 5 1 1 [(.int .u8 0)] (.tmp 14) (.tmp 17)),.l 5 none none (.st 1 (.tmp 2) (.tmp 18))])) (.seq (.reg [.l none (some 19) (.ld none (.tmp 1)),.p none 4 (.mv (.tmp 19)),.p none 5 (.mv (.const (.int .i64 0)))]) .ret))))
theorem C61 : compile Try.prog 20 (Try.f61.body.getD .skip) = some M61 := by kernel_rfl
noncomputable def M62 : MC := (.seq (.reg [.p none 4 (.mv (.const (.int .i64 0)))]) (.seq (.dreg (.line [.qp 0 none 6 (.mv (.tmp 0)),.qp 1 none 7 (.nilchk (.tmp 6)),.qp 2 none 8 (.fa 0 (.tmp 7)),.qp 4 none 10 (.mv (.tmp 1)),.qp 8 none 14 (.mv (.tmp 0)),.qp 9 none 15 (.nilchk (.tmp 14)),.qp 10 none 16 (.fa 0 (.tmp 15)),.qp 12 none 18 (.mv (.tmp 1)),.qp 13 none 19 (.bin .add .i64 (.tmp 18) (.const (.int .i64 1))),.qp 19 none 25 (.mv (.tmp 0)),.qp 20 none 26 (.nilchk (.tmp 25)),.qp 21 none 27 (.fa 0 (.tmp 26)),.qp 23 none 29 (.mv (.tmp 1)),.qp 24 none 30 (.bin .add .i64 (.tmp 29) (.const (.int .i64 2))),.qp 30 none 36 (.mv (.tmp 0)),.qp 31 none 37 (.nilchk (.tmp 36)),.qp 32 none 38 (.fa 0 (.tmp 37)),.qp 34 none 40 (.mv (.tmp 1)),.qp 35 none 41 (.bin .add .i64 (.tmp 40) (.const (.int .i64 3))),.ql 33 none 39 none (.tmp 38),.qp 36 none 42 (.idx 1 (.tmp 39) (.tmp 41)),.ql 22 none 28 none (.tmp 27),.qp 25 none 31 (.idx 1 (.tmp 28) (.tmp 30)),.ql 11 none 17 none (.tmp 16),.qp 14 none 20 (.idx 1 (.tmp 17) (.tmp 19)),.ql 3 none 9 none (.tmp 8),.qp 5 none 11 (.idx 1 (.tmp 9) (.tmp 10)),.ql 37 none 43 none (.tmp 42),.qp 38 none 44 (.conv .u32 (.tmp 43)),.qp 39 none 45 (.shf .shl (.tmp 44) (.const (.int .u64 24))),.ql 26 none 32 none (.tmp 31),.qp 27 none 33 (.conv .u32 (.tmp 32)),.qp 28 none 34 (.shf .shl (.tmp 33) (.const (.int .u64 16))),.ql 15 none 21 none (.tmp 20),.qp 16 none 22 (.conv .u32 (.tmp 21)),.qp 17 none 23 (.shf .shl (.tmp 22) (.const (.int .u64 8))),.l 6 none (some 12) (.ld none (.tmp 11)),.qp 7 none 13 (.conv .u32 (.tmp 12)),.qp 18 none 24 (.bin .or .u32 (.tmp 13) (.tmp 23)),.qp 29 none 35 (.bin .or .u32 (.tmp 24) (.tmp 34)),.qp 40 none 46 (.bin .or .u32 (.tmp 35) (.tmp 45)),.qp 41 none 5 (.mv (.tmp 46))])) (.seq (.reg [.p none 47 (.mv (.tmp 5)),.p none 48 (.bin .mul .u32 (.tmp 47) (.const (.int .u32 2654435761))),.p none 49 (.shf .shr (.tmp 48) (.const (.int .u64 17))),.p none 50 (.conv .i64 (.tmp 49)),.p none 4 (.mv (.tmp 50))]) .ret)))
theorem C62 : compile Try.prog 51 (Try.f62.body.getD .skip) = some M62 := by kernel_rfl
noncomputable def M63 : MC := (.seq (.reg [.p none 2 (.mv (.const (.slice none 0 0)))]) (.seq (.seq (.reg [.p none 4 (.mv (.tmp 0)),.p none 5 (.bin .lss .i64 (.tmp 4) (.const (.int .i64 0)))]) (.cond (.tmp 5) (.seq (.reg [.p none 2 (.mv (.const (.slice none 0 0)))]) .ret) .skip)) (.seq (.reg [.p none 3 (.mv (.const (.slice none 0 0)))]) (.seq (.block 0 (.loop (.seq (.seq (.reg [.p none 6 (.mv (.tmp 0)),.p none 7 (.bin .geq .i64 (.tmp 6) (.const (.int .i64 128)))]) (.cond (.tmp 7) .skip (.exit 0))) (.block 1 (.seq (.reg [.p none 8 (.mv (.tmp 3)),.p none 9 (.mv (.tmp 0)),.p none 10 (.conv .u8 (.tmp 9)),.p none 11 (.bin .or .u8 (.tmp 10) (.const (.int .u8 128))),.l none (some 12) (.bs 5 1 1 [(.int .u8 0)] [(0,1,(.tmp 11))]),.l none (some 13) (.app 5 1 1 [(.int .u8 0)] (.tmp 8) (.tmp 12)),.p none 3 (.mv (.tmp 13))]) (.reg [.p none 14 (.mv (.tmp 0)),.p none 15 (.shf .shr (.tmp 14) (.const (.int .u64 7))),.p none 0 (.mv (.tmp 15))])))))) (.seq (.reg [.p none 16 (.mv (.tmp 3)),.p none 17 (.mv (.tmp 0)),.p none 18 (.conv .u8 (.tmp 17)),.l none (some 19) (.bs 5 1 1 [(.int .u8 0)] [(0,1,(.tmp 18))]),.l none (some 20) (.app 5 1 1 [(.int .u8 0)] (.tmp 16) (.tmp 19)),.p none 2 (.mv (.tmp 20))]) .ret)))))
theorem C63 : compile Try.prog 21 (Try.f63.body.getD .skip) = some M63 := by kernel_rfl
noncomputable def M64 : MC := (.seq (.reg [.p none 2 (.mv (.const (.int .i64 0)))]) (.seq (.seq (.reg [.p none 5 (.mv (.tmp 0)),.p none 6 (.len (.tmp 5)),.p none 7 (.mv (.const (.int .i64 0)))]) (.block 0 (.loop (.seq (.reg [.p none 8 (.bin .lss .i64 (.tmp 7) (.tmp 6))]) (.seq (.cond (.tmp 8) .skip (.exit 0)) (.seq (.block 1 (.seq (.reg [.p none 9 (.idx 1 (.tmp 5) (.tmp 7)),.l none (some 10) (.ld none (.tmp 9)),.p none 4 (.mv (.tmp 10))]) (.seq (.reg [.p none 11 (.mv (.tmp 4)),.p none 12 (.bin .lss .i64 (.tmp 11) (.const (.int .i64 0))),.p none 13 (.mv (.tmp 12)),.split 13,.p (some (13,false)) 14 (.mv (.tmp 4)),.p (some (13,false)) 15 (.bin .gtr .i64 (.tmp 14) (.const (.int .i64 1099511627776))),.p none 16 (.pick (.tmp 13) (.const (.bool true)) (.tmp 15))]) (.cond (.tmp 16) (.seq (.reg [.p none 2 (.mv (.const (.int .i64 3)))]) .ret) .skip)))) (.reg [.p none 17 (.bin .add .i64 (.tmp 7) (.const (.int .i64 1))),.p none 7 (.mv (.tmp 17))]))))))) (.seq (.reg [.p none 2 (.mv (.const (.int .i64 0)))]) .ret)))
theorem C64 : compile Try.prog 18 (Try.f64.body.getD .skip) = some M64 := by kernel_rfl
noncomputable def M65 : MC := (.seq (.reg [.p none 2 (.mv (.const (.slice none 0 0)))]) (.seq (.reg [.p none 3 (.mv (.const (.slice none 0 0)))]) (.seq (.seq (.reg [.p none 6 (.mv (.tmp 0)),.p none 7 (.len (.tmp 6)),.p none 8 (.bin .sub .i64 (.tmp 7) (.const (.int .i64 1))),.p none 4 (.mv (.tmp 8))]) (.block 0 (.loop (.seq (.seq (.reg [.p none 9 (.mv (.tmp 4)),.p none 10 (.bin .geq .i64 (.tmp 9) (.const (.int .i64 0)))]) (.cond (.tmp 10) .skip (.exit 0))) (.seq (.block 1 (.seq (.reg [.p none 13 (.mv (.tmp 0)),.p none 14 (.mv (.tmp 4)),.p none 15 (.idx 1 (.tmp 13) (.tmp 14)),.l none (some 16) (.ld none (.tmp 15)),.p none 17 (.bin .gtr .i64 (.tmp 16) (.const (.int .i64 0)))]) (.cond (.tmp 17) (.seq (.reg [.p none 18 (.mv (.tmp 0)),.p none 19 (.mv (.tmp 4)),.p none 20 (.idx 1 (.tmp 18) (.tmp 19)),.l none (some 21) (.ld none (.tmp 20)),.p none 22 (.bld (zcOf Try.t133) [(0,1,(.tmp 21))]),.l none (some 5) (.al 133 (zcOf Try.t133)),.l none none (.st 257 (.tmp 5) (.tmp 22))]) (.seq (.reg [.p none 23 (.mv (.tmp 4)),.p none 24 (.fa 1 (.tmp 5)),.p none 25 (.idxa 256 1 (.tmp 24) (.tmp 23)),.l none none (.st 1 (.tmp 25) (.const (.int .u8 1)))]) (.reg [.p none 26 (.mv (.tmp 3)),.l none (some 27) (.ld (some 257) (.tmp 5)),.l none (some 28) (.bs 133 1 257 (zcOf Try.t133) [(0,257,(.tmp 27))]),.l none (some 29) (.app 133 264 257 (zcOf Try.t133) (.tmp 26) (.tmp 28)),.p none 3 (.mv (.tmp 29))]))) .skip))) (.reg [.p none 11 (.mv (.tmp 4)),.p none 12 (.bin .sub .i64 (.tmp 11) (.const (.int .i64 1))),.p none 4 (.mv (.tmp 12))])))))) (.seq (.reg [.p none 30 (.mv (.tmp 3)),.l none (some 31) (.call 73 [(.tmp 30),(.func 74)])]) (.seq (.reg [.p none 32 (.mv (.tmp 3)),.p none 2 (.mv (.tmp 32))]) .ret)))))
theorem C65 : compile Try.prog 33 (Try.f65.body.getD .skip) = some M65 := by kernel_rfl
noncomputable def M66 : MC := (.seq (.reg [.p none 4 (.mv (.const (.slice none 0 0)))]) (.seq (.reg [.p none 8 (.mv (.tmp 0)),.p none 9 (.len (.tmp 8)),.p none 10 (.mv (.tmp 1)),.p none 11 (.len (.tmp 10)),.p none 12 (.div .quo .i64 (.tmp 11) (.const (.int .i64 2))),.p none 13 (.bin .add .i64 (.tmp 9) (.tmp 12)),.l none (some 14) (.mks 133 264 257 (zcOf Try.t133) (.const (.int .i64 0)) (.tmp 13)),.p none 5 (.mv (.tmp 14))]) (.seq (.seq (.reg [.p none 6 (.mv (.const (.int .i64 0)))]) (.block 0 (.loop (.seq (.seq (.reg [.p none 15 (.mv (.tmp 6)),.p none 16 (.bin .add .i64 (.tmp 15) (.const (.int .i64 1))),.p none 17 (.mv (.tmp 1)),.p none 18 (.len (.tmp 17)),.p none 19 (.bin .lss .i64 (.tmp 16) (.tmp 18))]) (.cond (.tmp 19) .skip (.exit 0))) (.seq (.block 1 (.seq (.dreg (.fork [.qp 0 none 22 (.mv (.tmp 1)),.qp 1 none 23 (.mv (.tmp 6)),.qp 2 none 24 (.idx 257 (.tmp 22) (.tmp 23)),.qp 4 none 26 (.mv (.tmp 1)),.qp 5 none 27 (.mv (.tmp 6)),.qp 6 none 28 (.bin .add .i64 (.tmp 27) (.const (.int .i64 1))),.qp 7 none 29 (.idx 257 (.tmp 26) (.tmp 28)),.ql 8 none 30 (some 257) (.tmp 29),.ql 3 none 25 (some 257) (.tmp 24)] (.line [.l 9 none (some 31) (.call 75 [(.tmp 25),(.tmp 30)]),.l 10 none (some 7) (.al 133 (zcOf Try.t133)),.l 11 none none (.st 257 (.tmp 7) (.tmp 31))]) (.line [.l 10 none (some 7) (.al 133 (zcOf Try.t133)),.l 9 none (some 31) (.call 75 [(.tmp 25),(.tmp 30)]),.l 11 none none (.st 257 (.tmp 7) (.tmp 31))]))) (.seq (.block 2 (.loop (.seq (.seq (.dreg (.line [.qp 0 none 32 (.mv (.tmp 0)),.qp 1 none 33 (.len (.tmp 32)),.qp 2 none 34 (.bin .gtr .i64 (.tmp 33) (.const (.int .i64 0))),.qp 3 none 35 (.mv (.tmp 34)),.split 35,.qp 4 (some (35,true)) 36 (.mv (.tmp 0)),.qp 5 (some (35,true)) 37 (.idx 257 (.tmp 36) (.const (.int .i64 0))),.qp 6 (some (35,true)) 38 (.fa 0 (.tmp 37)),.qp 8 (some (35,true)) 40 (.fa 0 (.tmp 7)),.ql 9 (some (35,true)) 41 none (.tmp 40),.l 7 (some (35,true)) (some 39) (.ld none (.tmp 38)),.qp 10 (some (35,true)) 42 (.bin .leq .i64 (.tmp 39)
 (.tmp 41)),.qp 11 none 43 (.pick (.tmp 35) (.tmp 42) (.const (.bool false)))])) (.cond (.tmp 43) .skip (.exit 2))) (.block 3 (.seq (.reg [.p none 44 (.mv (.tmp 5)),.p none 45 (.mv (.tmp 0)),.p none 46 (.idx 257 (.tmp 45) (.const (.int .i64 0))),.l none (some 47) (.ld (some 257) (.tmp 46)),.l none (some 48) (.bs 133 1 257 (zcOf Try.t133) [(0,257,(.tmp 47))]),.l none (some 49) (.app 133 264 257 (zcOf Try.t133) (.tmp 44) (.tmp 48)),.p none 5 (.mv (.tmp 49))]) (.reg [.p none 50 (.mv (.tmp 0)),.p none 51 (.slc 257 (.tmp 50) (some (.const (.int .i64 1))) none none),.p none 0 (.mv (.tmp 51))])))))) (.reg [.p none 52 (.mv (.tmp 5)),.l none (some 53) (.ld (some 257) (.tmp 7)),.l none (some 54) (.bs 133 1 257 (zcOf Try.t133) [(0,257,(.tmp 53))]),.l none (some 55) (.app 133 264 257 (zcOf Try.t133) (.tmp 52) (.tmp 54)),.p none 5 (.mv (.tmp 55))])))) (.reg [.p none 20 (.mv (.tmp 6)),.p none 21 (.bin .add .i64 (.tmp 20) (.const (.int .i64 2))),.p none 6 (.mv (.tmp 21))])))))) (.seq (.reg [.p none 56 (.mv (.tmp 5)),.p none 57 (.mv (.tmp 0)),.l none (some 58) (.app 133 264 257 (zcOf Try.t133) (.tmp 56) (.tmp 57)),.p none 4 (.mv (.tmp 58))]) .ret))))
theorem C66 : compile Try.prog 59 (Try.f66.body.getD .skip) = some M66 := by kernel_rfl
noncomputable def M67 : MC := (.seq (.reg [.p none 2 (.mv (.const (.bool false)))]) (.seq (.seq (.reg [.p none 5 (.mv (.tmp 0)),.p none 6 (.len (.tmp 5)),.p none 7 (.mv (.const (.int .i64 0)))]) (.block 0 (.loop (.seq (.reg [.p none 8 (.bin .lss .i64 (.tmp 7) (.tmp 6))]) (.seq (.cond (.tmp 8) .skip (.exit 0)) (.seq (.block 1 (.seq (.reg [.p none 9 (.idx 1 (.tmp 5) (.tmp 7)),.l none (some 10) (.ld none (.tmp 9)),.p none 4 (.mv (.tmp 10))]) (.seq (.reg [.p none 11 (.mv (.tmp 4)),.p none 12 (.bin .lss .i64 (.tmp 11) (.const (.int .i64 0))),.p none 13 (.mv (.tmp 12)),.split 13,.p (some (13,false)) 14 (.mv (.tmp 4)),.p (some (13,false)) 15 (.bin .gtr .i64 (.tmp 14) (.const (.int .i64 15))),.p none 16 (.pick (.tmp 13) (.const (.bool true)) (.tmp 15))]) (.cond (.tmp 16) (.seq (.reg [.p none 2 (.mv (.const (.bool false)))]) .ret) .skip)))) (.reg [.p none 17 (.bin .add .i64 (.tmp 7) (.const (.int .i64 1))),.p none 7 (.mv (.tmp 17))]))))))) (.seq (.reg [.p none 2 (.mv (.const (.bool true)))]) .ret)))
theorem C67 : compile Try.prog 18 (Try.f67.body.getD .skip) = some M67 := by kernel_rfl
noncomputable def M68 : MC := (.seq (.reg [.p none 4 (.mv (.const (.int .i64 0)))]) (.seq (.seq (.reg [.p none 6 (.mv (.tmp 0)),.p none 7 (.lens (.tmp 6)),.p none 8 (.mv (.tmp 1)),.p none 9 (.lens (.tmp 8)),.p none 10 (.mm false .i64 (.tmp 7) [(.tmp 9)]),.p none 11 (.mv (.const (.int .i64 0)))]) (.block 0 (.loop (.seq (.reg [.p none 12 (.bin .lss .i64 (.tmp 11) (.tmp 10))]) (.seq (.cond (.tmp 12) .skip (.exit 0)) (.seq (.block 1 (.seq (.reg [.p none 13 (.mv (.tmp 11)),.p none 5 (.mv (.tmp 13))]) (.seq (.dreg (.line [.qp 0 none 14 (.mv (.tmp 0)),.qp 1 none 15 (.mv (.tmp 5)),.qp 2 none 16 (.idxs (.tmp 14) (.tmp 15)),.qp 3 none 17 (.mv (.tmp 1)),.qp 4 none 18 (.mv (.tmp 5)),.qp 5 none 19 (.idxs (.tmp 17) (.tmp 18)),.qp 6 none 20 (.bin .neq .u8 (.tmp 16) (.tmp 19))])) (.cond (.tmp 20) (.seq (.reg [.p none 21 (.mv (.tmp 5)),.p none 4 (.mv (.tmp 21))]) .ret) .skip)))) (.reg [.p none 22 (.bin .add .i64 (.tmp 11) (.const (.int .i64 1))),.p none 11 (.mv (.tmp 22))]))))))) (.seq (.reg [.p none 23 (.mv (.tmp 0)),.p none 24 (.lens (.tmp 23)),.p none 25 (.mv (.tmp 1)),.p none 26 (.lens (.tmp 25)),.p none 27 (.mm false .i64 (.tmp 24) [(.tmp 26)]),.p none 4 (.mv (.tmp 27))]) .ret)))
theorem C68 : compile Try.prog 28 (Try.f68.body.getD .skip) = some M68 := by kernel_rfl
noncomputable def M69 : MC := (.seq (.reg [.l none (some 0) (.al 136 (List.replicate 16 (.int .u32 0)))]) (.seq (.reg [.l none (some 1) (.al 136 (List.replicate 16 (.int .u32 0)))]) (.seq (.seq (.reg [.p none 4 (.mv (.const (.int .i64 0)))]) (.block 0 (.loop (.seq (.reg [.p none 5 (.bin .lss .i64 (.tmp 4) (.const (.int .i64 16)))]) (.seq (.cond (.tmp 5) .skip (.exit 0)) (.seq (.block 1 (.seq (.reg [.p none 6 (.mv (.tmp 4)),.p none 2 (.mv (.tmp 6))]) (.seq (.reg [.p none 7 (.mv (.tmp 2)),.p none 8 (.conv .u32 (.tmp 7)),.p none 3 (.mv (.tmp 8))]) (.seq (.seq (.reg [.p none 9 (.mv (.const (.int .i64 0)))]) (.block 2 (.loop (.seq (.reg [.p none 10 (.bin .lss .i64 (.tmp 9) (.const (.int .i64 4)))]) (.seq (.cond (.tmp 10) .skip (.exit 2)) (.seq (.block 3 (.reg [.p none 11 (.mv (.tmp 3)),.l none (some 12) (.call 76 [(.tmp 11)]),.p none 3 (.mv (.tmp 12))])) (.reg [.p none 13 (.bin .add .i64 (.tmp 9) (.const (.int .i64 1))),.p none 9 (.mv (.tmp 13))]))))))) (.reg [.p none 14 (.mv (.tmp 2)),.p none 15 (.mv (.tmp 3)),.p none 16 (.idxa 16 1 (.tmp 1) (.tmp 14)),.l none none (.st 1 (.tmp 16) (.tmp 15))]))))) (.reg [.p none 17 (.bin .add .i64 (.tmp 4) (.const (.int .i64 1))),.p none 4 (.mv (.tmp 17))]))))))) (.seq (.reg [.l none (some 18) (.ld (some 16) (.tmp 1)),.l none none (.st 16 (.tmp 0) (.tmp 18))]) .ret))))
theorem C69 : compile Try.prog 19 (Try.f69.body.getD .skip) = some M69 := by kernel_rfl
noncomputable def M70 : MC := (.seq (.reg [.p none 4 (.mv (.const (.int .i64 0))),.p none 5 (.mv (.const (.int .i64 0)))]) (.seq (.reg [.p none 10 (.mv (.tmp 0)),.l none (some 11) (.call 71 [(.tmp 10)]),.p none 9 (.mv (.tmp 11)),.p none 12 (.ext 0 (.tmp 9)),.p none 13 (.ext 1 (.tmp 9)),.p none 14 (.ext 2 (.tmp 9)),.p none 6 (.mv (.tmp 12)),.p none 7 (.mv (.tmp 13)),.p none 8 (.mv (.tmp 14))]) (.seq (.seq (.reg [.p none 15 (.mv (.tmp 8)),.p none 16 (.bin .eql .i64 (.tmp 15) (.const (.int .i64 0))),.p none 17 (.mv (.tmp 16)),.split 17,.p (some (17,true)) 18 (.mv (.tmp 6)),.l (some (17,true)) (some 19) (.ld none (.tmp 1)),.p (some (17,true)) 20 (.bin .gtr .i64 (.tmp 18) (.tmp 19)),.p none 21 (.pick (.tmp 17) (.tmp 20) (.const (.bool false)))]) (.cond (.tmp 21) (.reg [.p none 8 (.mv (.const (.int .i64 23)))]) .skip)) (.seq (.seq (.reg [.p none 22 (.mv (.tmp 8)),.p none 23 (.bin .eql .i64 (.tmp 22) (.const (.int .i64 0)))]) (.cond (.tmp 23) (.reg [.p none 24 (.mv (.tmp 6)),.l none none (.st 1 (.tmp 2) (.tmp 24))]) .skip)) (.seq (.reg [.p none 25 (.mv (.tmp 7)),.p none 26 (.mv (.tmp 8)),.p none 4 (.mv (.tmp 25)),.p none 5 (.mv (.tmp 26))]) .ret)))))
theorem C70 : compile Try.prog 27 (Try.f70.body.getD .skip) = some M70 := by kernel_rfl
noncomputable def M71 : MC := (.seq (.reg [.p none 2 (.mv (.const (.int .i64 0))),.p none 3 (.mv (.const (.int .i64 0))),.p none 4 (.mv (.const (.int .i64 0)))]) (.seq (.reg [.p none 5 (.mv (.const (.int .i64 0)))]) (.seq (.seq (.reg [.p none 8 (.mv (.tmp 0)),.p none 9 (.len (.tmp 8)),.p none 10 (.mv (.const (.int .i64 0)))]) (.block 0 (.loop (.seq (.reg [.p none 11 (.bin .lss .i64 (.tmp 10) (.tmp 9))]) (.seq (.cond (.tmp 11) .skip (.exit 0)) (.seq (.block 1 (.seq (.reg [.p none 12 (.mv (.tmp 10)),.p none 13 (.idx 1 (.tmp 8) (.tmp 10)),.l none (some 14) (.ld none (.tmp 13)),.p none 6 (.mv (.tmp 12)),.p none 7 (.mv (.tmp 14))]) (.seq (.seq (.reg [.p none 15 (.mv (.tmp 6)),.p none 16 (.bin .eql .i64 (.tmp 15) (.const (.int .i64 8))),.p none 17 (.mv (.tmp 16)),.split 17,.p (some (17,true)) 18 (.mv (.tmp 7)),.p (some (17,true)) 19 (.bin .geq .u8 (.tmp 18) (.const (.int .u8 128))),.p none 20 (.pick (.tmp 17) (.tmp 19) (.const (.bool false)))]) (.cond (.tmp 20) (.seq (.reg [.p none 2 (.mv (.const (.int .i64 0))),.p none 3 (.mv (.const (.int .i64 0))),.p none 4 (.mv (.const (.int .i64 21)))]) .ret) .skip)) (.seq (.reg [.p none 21 (.mv (.tmp 5)),.p none 22 (.mv (.tmp 7)),.p none 23 (.bin .and .u8 (.tmp 22) (.const (.int .u8 127))),.p none 24 (.conv .i64 (.tmp 23)),.p none 25 (.mv (.tmp 6)),.p none 26 (.bin .mul .i64 (.const (.int .i64 7)) (.tmp 25)),.p none 27 (.shf .shl (.tmp 24) (.tmp 26)),.p none 28 (.bin .or .i64 (.tmp 21) (.tmp 27)),.p none 5 (.mv (.tmp 28))]) (.seq (.reg [.p none 29 (.mv (.tmp 7)),.p none 30 (.bin .lss .u8 (.tmp 29) (.const (.int .u8 128)))]) (.cond (.tmp 30) (.seq (.seq (.reg [.p none 31 (.mv (.tmp 7)),.p none 32 (.bin .eql .u8 (.tmp 31) (.const (.int .u8 0))),.p none 33 (.mv (.tmp 32)),.split 33,.p (some (33,true)) 34 (.mv (.tmp 6)),.p (some (33,true)) 35 (.bin .gtr .i64 (.tmp 34) (.const (.int .i64 0))),.p none 36 (.pick (.tmp 33) (.tmp 35) (.const (.bool false)))]) (.cond (.tmp 36) (.seq (.reg [.p none 2 (.mv (.const (.int .i64 0))),.p none 3
 (.mv (.const (.int .i64 0))),.p none 4 (.mv (.const (.int .i64 21)))]) .ret) .skip)) (.seq (.reg [.p none 37 (.mv (.tmp 5)),.p none 38 (.mv (.tmp 6)),.p none 39 (.bin .add .i64 (.tmp 38) (.const (.int .i64 1))),.p none 2 (.mv (.tmp 37)),.p none 3 (.mv (.tmp 39)),.p none 4 (.mv (.const (.int .i64 0)))]) .ret)) .skip)))))) (.reg [.p none 40 (.bin .add .i64 (.tmp 10) (.const (.int .i64 1))),.p none 10 (.mv (.tmp 40))]))))))) (.seq (.reg [.p none 2 (.mv (.const (.int .i64 0))),.p none 3 (.mv (.const (.int .i64 0))),.p none 4 (.mv (.const (.int .i64 20)))]) .ret))))
theorem C71 : compile Try.prog 41 (Try.f71.body.getD .skip) = some M71 := by kernel_rfl
noncomputable def M72 : MC := (.seq (.reg [.p none 4 (.mv (.const (.int .i64 0))),.p none 5 (.mv (.const (.int .i64 0)))]) (.seq (.block 0 (.seq (.reg [.l none (some 7) (.ld none (.tmp 1)),.p none 8 (.bin .lss .i64 (.tmp 7) (.const (.int .i64 1))),.p none 9 (.mv (.tmp 8)),.split 9,.l (some (9,false)) (some 10) (.ld none (.tmp 1)),.p (some (9,false)) 11 (.bin .gtr .i64 (.tmp 10) (.const (.int .i64 8))),.p none 12 (.pick (.tmp 9) (.const (.bool true)) (.tmp 11)),.p none 6 (.mv (.tmp 12))]) (.cond (.tmp 6) (.seq (.reg [.p none 4 (.mv (.const (.int .i64 0))),.p none 5 (.mv (.const (.int .i64 23)))]) .ret) (.seq (.reg [.l none (some 14) (.ld none (.tmp 1)),.p none 15 (.mv (.tmp 0)),.p none 16 (.len (.tmp 15)),.p none 17 (.bin .gtr .i64 (.tmp 14) (.tmp 16)),.p none 13 (.mv (.tmp 17))]) (.cond (.tmp 13) (.seq (.reg [.p none 4 (.mv (.const (.int .i64 0))),.p none 5 (.mv (.const (.int .i64 20)))]) .ret) .skip))))) (.seq (.reg [.p none 18 (.mv (.tmp 0)),.l none (some 19) (.ld none (.tmp 1)),.p none 20 (.slc 1 (.tmp 18) none (some (.tmp 19)) none),.l none (some 21) (.call 17 [(.tmp 20)]),.l none none (.st 1 (.tmp 2) (.tmp 21))]) (.seq (.reg [.l none (some 22) (.ld none (.tmp 1)),.p none 4 (.mv (.tmp 22)),.p none 5 (.mv (.const (.int .i64 0)))]) .ret))))
theorem C72 : compile Try.prog 23 (Try.f72.body.getD .skip) = some M72 := by kernel_rfl
noncomputable def M73 : MC := (.reg [.p none 4 (.mv (.tmp 0)),.p none 5 (.mv (.tmp 0)),.p none 6 (.len (.tmp 5)),.p none 7 (.mv (.tmp 1)),.l none (some 8) (.call 77 [(.tmp 4),(.tmp 6),(.tmp 7)])])
theorem C73 : compile Try.prog 9 (Try.f73.body.getD .skip) = some M73 := by kernel_rfl
noncomputable def M74 : MC := (.seq (.reg [.l none (some 2) (.bx 133 (.tmp 0)),.l none (some 3) (.bx 133 (.tmp 1)),.p none 4 (.mv (.const (.int .i64 0)))]) (.seq (.block 0 (.seq (.reg [.p none 6 (.fa 0 (.tmp 2)),.l none (some 7) (.ld none (.tmp 6)),.p none 8 (.fa 0 (.tmp 3)),.l none (some 9) (.ld none (.tmp 8)),.p none 10 (.bin .lss .i64 (.tmp 7) (.tmp 9)),.p none 5 (.mv (.tmp 10))]) (.cond (.tmp 5) (.seq (.reg [.p none 4 (.mv (.const (.int .i64 (-1))))]) .ret) (.seq (.reg [.p none 12 (.fa 0 (.tmp 2)),.l none (some 13) (.ld none (.tmp 12)),.p none 14 (.fa 0 (.tmp 3)),.l none (some 15) (.ld none (.tmp 14)),.p none 16 (.bin .gtr .i64 (.tmp 13) (.tmp 15)),.p none 11 (.mv (.tmp 16))]) (.cond (.tmp 11) (.seq (.reg [.p none 4 (.mv (.const (.int .i64 1)))]) .ret) .skip))))) (.seq (.reg [.p none 4 (.mv (.const (.int .i64 0)))]) .ret)))
theorem C74 : compile Try.prog 17 (Try.f74.body.getD .skip) = some M74 := by kernel_rfl
noncomputable def M75 : MC := (.seq (.reg [.l none (some 2) (.bx 133 (.tmp 0)),.l none (some 3) (.bx 133 (.tmp 1)),.l none (some 4) (.al 133 (zcOf Try.t133))]) (.seq (.reg [.p none 7 (.fa 0 (.tmp 2)),.l none (some 8) (.ld none (.tmp 7)),.p none 9 (.fa 0 (.tmp 3)),.l none (some 10) (.ld none (.tmp 9)),.p none 11 (.bin .add .i64 (.tmp 8) (.tmp 10)),.p none 12 (.fa 0 (.tmp 2)),.l none none (.st 1 (.tmp 12) (.tmp 11))]) (.seq (.seq (.reg [.p none 13 (.fa 1 (.tmp 3)),.l none (some 14) (.ld (some 256) (.tmp 13)),.p none 15 (.mv (.const (.int .i64 0)))]) (.block 0 (.loop (.seq (.reg [.p none 16 (.bin .lss .i64 (.tmp 15) (.const (.int .i64 256)))]) (.seq (.cond (.tmp 16) .skip (.exit 0)) (.seq (.block 1 (.seq (.reg [.p none 17 (.mv (.tmp 15)),.p none 18 (.idxv 256 1 false (.tmp 14) (.tmp 15)),.p none 5 (.mv (.tmp 17)),.p none 6 (.mv (.tmp 18))]) (.reg [.p none 19 (.mv (.tmp 5)),.p none 20 (.fa 1 (.tmp 2)),.p none 21 (.idxa 256 1 (.tmp 20) (.tmp 19)),.l none (some 22) (.ld none (.tmp 21)),.p none 23 (.mv (.tmp 6)),.p none 24 (.bin .add .u8 (.tmp 22) (.tmp 23)),.p none 25 (.fa 1 (.tmp 2)),.p none 26 (.idxa 256 1 (.tmp 25) (.tmp 19)),.l none none (.st 1 (.tmp 26) (.tmp 24))]))) (.reg [.p none 27 (.bin .add .i64 (.tmp 15) (.const (.int .i64 1))),.p none 15 (.mv (.tmp 27))]))))))) (.seq (.reg [.l none (some 28) (.ld (some 257) (.tmp 2)),.l none none (.st 257 (.tmp 4) (.tmp 28))]) .ret))))
theorem C75 : compile Try.prog 29 (Try.f75.body.getD .skip) = some M75 := by kernel_rfl
noncomputable def M76 : MC := (.seq (.reg [.p none 2 (.mv (.const (.int .u32 0)))]) (.seq (.seq (.reg [.p none 3 (.mv (.tmp 0)),.p none 4 (.bin .and .u32 (.tmp 3) (.const (.int .u32 1))),.p none 5 (.bin .eql .u32 (.tmp 4) (.const (.int .u32 1)))]) (.cond (.tmp 5) (.seq (.reg [.p none 6 (.mv (.tmp 0)),.p none 7 (.shf .shr (.tmp 6) (.const (.int .u64 1))),.p none 8 (.bin .xor .u32 (.tmp 7) (.const (.int .u32 2197175160))),.p none 2 (.mv (.tmp 8))]) .ret) .skip)) (.seq (.reg [.p none 9 (.mv (.tmp 0)),.p none 10 (.shf .shr (.tmp 9) (.const (.int .u64 1))),.p none 2 (.mv (.tmp 10))]) .ret)))
theorem C76 : compile Try.prog 11 (Try.f76.body.getD .skip) = some M76 := by kernel_rfl
noncomputable def M77 : MC := (.seq (.reg [.p none 6 (.mv (.const (.int .i64 20)))]) (.seq (.reg [.p none 10 (.mv (.tmp 6)),.p none 7 (.mv (.const (.int .i64 0))),.p none 8 (.mv (.tmp 10))]) (.seq (.block 0 (.loop (.seq (.seq (.reg [.p none 11 (.mv (.tmp 8)),.p none 12 (.mv (.tmp 1)),.p none 13 (.bin .leq .i64 (.tmp 11) (.tmp 12))]) (.cond (.tmp 13) .skip (.exit 0))) (.block 1 (.seq (.reg [.p none 14 (.mv (.tmp 0)),.p none 15 (.mv (.tmp 7)),.p none 16 (.mv (.tmp 8)),.p none 17 (.mv (.tmp 2)),.l none (some 18) (.call 78 [(.tmp 14),(.tmp 15),(.tmp 16),(.tmp 17)])]) (.seq (.reg [.p none 19 (.mv (.tmp 8)),.p none 7 (.mv (.tmp 19))]) (.reg [.p none 20 (.mv (.tmp 8)),.p none 21 (.mv (.tmp 6)),.p none 22 (.bin .add .i64 (.tmp 20) (.tmp 21)),.p none 8 (.mv (.tmp 22))]))))))) (.seq (.reg [.p none 23 (.mv (.tmp 0)),.p none 24 (.mv (.tmp 7)),.p none 25 (.mv (.tmp 1)),.p none 26 (.mv (.tmp 2)),.l none (some 27) (.call 78 [(.tmp 23),(.tmp 24),(.tmp 25),(.tmp 26)])]) (.block 2 (.loop (.seq (.seq (.reg [.p none 28 (.mv (.tmp 6)),.p none 29 (.mv (.tmp 1)),.p none 30 (.bin .lss .i64 (.tmp 28) (.tmp 29))]) (.cond (.tmp 30) .skip (.exit 2))) (.block 3 (.seq (.reg [.p none 31 (.mv (.tmp 6)),.p none 32 (.bin .mul .i64 (.const (.int .i64 2)) (.tmp 31)),.p none 7 (.mv (.const (.int .i64 0))),.p none 8 (.mv (.tmp 32))]) (.seq (.block 4 (.loop (.seq (.seq (.reg [.p none 33 (.mv (.tmp 8)),.p none 34 (.mv (.tmp 1)),.p none 35 (.bin .leq .i64 (.tmp 33) (.tmp 34))]) (.cond (.tmp 35) .skip (.exit 4))) (.block 5 (.seq (.reg [.p none 36 (.mv (.tmp 0)),.p none 37 (.mv (.tmp 7)),.p none 38 (.mv (.tmp 7)),.p none 39 (.mv (.tmp 6)),.p none 40 (.bin .add .i64 (.tmp 38) (.tmp 39)),.p none 41 (.mv (.tmp 8)),.p none 42 (.mv (.tmp 2)),.l none (some 43) (.call 79 [(.tmp 36),(.tmp 37),(.tmp 40),(.tmp 41),(.tmp 42)])]) (.seq (.reg [.p none 44 (.mv (.tmp 8)),.p none 7 (.mv (.tmp 44))]) (.reg [.p none 45 (.mv (.tmp 8)),.p none 46 (.mv (.tmp 6)),.p none 47 (.bin .mul .i64 (.const (.int .i64 2)) (.tmp 46)),.p
 none 48 (.bin .add .i64 (.tmp 45) (.tmp 47)),.p none 8 (.mv (.tmp 48))]))))))) (.seq (.seq (.reg [.p none 49 (.mv (.tmp 7)),.p none 50 (.mv (.tmp 6)),.p none 51 (.bin .add .i64 (.tmp 49) (.tmp 50)),.p none 9 (.mv (.tmp 51))]) (.seq (.reg [.p none 52 (.mv (.tmp 9)),.p none 53 (.mv (.tmp 1)),.p none 54 (.bin .lss .i64 (.tmp 52) (.tmp 53))]) (.cond (.tmp 54) (.reg [.p none 55 (.mv (.tmp 0)),.p none 56 (.mv (.tmp 7)),.p none 57 (.mv (.tmp 9)),.p none 58 (.mv (.tmp 1)),.p none 59 (.mv (.tmp 2)),.l none (some 60) (.call 79 [(.tmp 55),(.tmp 56),(.tmp 57),(.tmp 58),(.tmp 59)])]) .skip))) (.reg [.p none 61 (.mv (.tmp 6)),.p none 62 (.bin .mul .i64 (.tmp 61) (.const (.int .i64 2))),.p none 6 (.mv (.tmp 62))]))))))))))))
theorem C77 : compile Try.prog 63 (Try.f77.body.getD .skip) = some M77 := by kernel_rfl
noncomputable def M78 : MC := (.seq (.reg [.p none 10 (.mv (.tmp 1)),.p none 11 (.bin .add .i64 (.tmp 10) (.const (.int .i64 1))),.p none 8 (.mv (.tmp 11))]) (.block 0 (.loop (.seq (.seq (.reg [.p none 12 (.mv (.tmp 8)),.p none 13 (.mv (.tmp 2)),.p none 14 (.bin .lss .i64 (.tmp 12) (.tmp 13))]) (.cond (.tmp 14) .skip (.exit 0))) (.seq (.block 1 (.seq (.reg [.p none 17 (.mv (.tmp 8)),.p none 9 (.mv (.tmp 17))]) (.block 2 (.loop (.seq (.seq (.dreg (.line [.qp 0 none 18 (.mv (.tmp 9)),.qp 1 none 19 (.mv (.tmp 1)),.qp 2 none 20 (.bin .gtr .i64 (.tmp 18) (.tmp 19)),.qp 3 none 21 (.mv (.tmp 20)),.split 21,.qp 4 (some (21,true)) 22 (.mv (.tmp 3)),.qp 5 (some (21,true)) 23 (.mv (.tmp 0)),.qp 6 (some (21,true)) 24 (.mv (.tmp 9)),.qp 7 (some (21,true)) 25 (.idx 257 (.tmp 23) (.tmp 24)),.qp 9 (some (21,true)) 27 (.mv (.tmp 0)),.qp 10 (some (21,true)) 28 (.mv (.tmp 9)),.qp 11 (some (21,true)) 29 (.bin .sub .i64 (.tmp 28) (.const (.int .i64 1))),.qp 12 (some (21,true)) 30 (.idx 257 (.tmp 27) (.tmp 29)),.ql 13 (some (21,true)) 31 (some 257) (.tmp 30),.l 8 (some (21,true)) (some 26) (.ld (some 257) (.tmp 25)),.l 14 (some (21,true)) (some 32) (.callv (.tmp 22) [(.tmp 26),(.tmp 31)]),.qp 15 (some (21,true)) 33 (.bin .lss .i64 (.tmp 32) (.const (.int .i64 0))),.qp 16 none 34 (.pick (.tmp 21) (.tmp 33) (.const (.bool false)))])) (.cond (.tmp 34) .skip (.exit 2))) (.seq (.block 3 (.dreg (.fork [.qp 0 none 37 (.mv (.tmp 0)),.qp 1 none 38 (.mv (.tmp 9)),.qp 2 none 39 (.mv (.tmp 0)),.qp 3 none 40 (.mv (.tmp 9)),.qp 4 none 41 (.bin .sub .i64 (.tmp 40) (.const (.int .i64 1))),.qp 5 none 42 (.mv (.tmp 0)),.qp 6 none 43 (.mv (.tmp 9)),.qp 7 none 44 (.bin .sub .i64 (.tmp 43) (.const (.int .i64 1))),.qp 8 none 45 (.idx 257 (.tmp 42) (.tmp 44)),.qp 10 none 47 (.mv (.tmp 0)),.qp 11 none 48 (.mv (.tmp 9)),.qp 12 none 49 (.idx 257 (.tmp 47) (.tmp 48))] (.line [.l 9 none (some 46) (.ld (some 257) (.tmp 45)),.l 13 none (some 50) (.ld (some 257) (.tmp 49)),.qp 14 none 51 (.idx 257 (.tmp 37) (.tmp
 38)),.l 15 none none (.st 257 (.tmp 51) (.tmp 46)),.qp 16 none 52 (.idx 257 (.tmp 39) (.tmp 41)),.l 17 none none (.st 257 (.tmp 52) (.tmp 50))]) (.line [.l 13 none (some 50) (.ld (some 257) (.tmp 49)),.l 9 none (some 46) (.ld (some 257) (.tmp 45)),.qp 14 none 51 (.idx 257 (.tmp 37) (.tmp 38)),.l 15 none none (.st 257 (.tmp 51) (.tmp 46)),.qp 16 none 52 (.idx 257 (.tmp 39) (.tmp 41)),.l 17 none none (.st 257 (.tmp 52) (.tmp 50))])))) (.reg [.p none 35 (.mv (.tmp 9)),.p none 36 (.bin .sub .i64 (.tmp 35) (.const (.int .i64 1))),.p none 9 (.mv (.tmp 36))]))))))) (.reg [.p none 15 (.mv (.tmp 8)),.p none 16 (.bin .add .i64 (.tmp 15) (.const (.int .i64 1))),.p none 8 (.mv (.tmp 16))]))))))
theorem C78 : compile Try.prog 53 (Try.f78.body.getD .skip) = some M78 := by kernel_rfl
noncomputable def M79 : MC := (.seq (.seq (.reg [.p none 25 (.mv (.tmp 2)),.p none 26 (.mv (.tmp 1)),.p none 27 (.bin .sub .i64 (.tmp 25) (.tmp 26)),.p none 28 (.bin .eql .i64 (.tmp 27) (.const (.int .i64 1)))]) (.cond (.tmp 28) (.seq (.reg [.p none 29 (.mv (.tmp 2)),.p none 10 (.mv (.tmp 29))]) (.seq (.reg [.p none 30 (.mv (.tmp 3)),.p none 11 (.mv (.tmp 30))]) (.seq (.block 0 (.loop (.seq (.seq (.reg [.p none 31 (.mv (.tmp 10)),.p none 32 (.mv (.tmp 11)),.p none 33 (.bin .lss .i64 (.tmp 31) (.tmp 32))]) (.cond (.tmp 33) .skip (.exit 0))) (.block 1 (.seq (.reg [.p none 34 (.mv (.tmp 10)),.p none 35 (.mv (.tmp 11)),.p none 36 (.bin .add .i64 (.tmp 34) (.tmp 35)),.p none 37 (.conv .u64 (.tmp 36)),.p none 38 (.shf .shr (.tmp 37) (.const (.int .u64 1))),.p none 39 (.conv .i64 (.tmp 38)),.p none 12 (.mv (.tmp 39))]) (.seq (.dreg (.line [.qp 0 none 40 (.mv (.tmp 4)),.qp 1 none 41 (.mv (.tmp 0)),.qp 2 none 42 (.mv (.tmp 12)),.qp 3 none 43 (.idx 257 (.tmp 41) (.tmp 42)),.qp 5 none 45 (.mv (.tmp 0)),.qp 6 none 46 (.mv (.tmp 1)),.qp 7 none 47 (.idx 257 (.tmp 45) (.tmp 46)),.ql 8 none 48 (some 257) (.tmp 47),.l 4 none (some 44) (.ld (some 257) (.tmp 43)),.l 9 none (some 49) (.callv (.tmp 40) [(.tmp 44),(.tmp 48)]),.qp 10 none 50 (.bin .lss .i64 (.tmp 49) (.const (.int .i64 0)))])) (.cond (.tmp 50) (.reg [.p none 51 (.mv (.tmp 12)),.p none 52 (.bin .add .i64 (.tmp 51) (.const (.int .i64 1))),.p none 10 (.mv (.tmp 52))]) (.reg [.p none 53 (.mv (.tmp 12)),.p none 11 (.mv (.tmp 53))])))))))) (.seq (.seq (.reg [.p none 54 (.mv (.tmp 1)),.p none 13 (.mv (.tmp 54))]) (.block 2 (.loop (.seq (.seq (.reg [.p none 55 (.mv (.tmp 13)),.p none 56 (.mv (.tmp 10)),.p none 57 (.bin .sub .i64 (.tmp 56) (.const (.int .i64 1))),.p none 58 (.bin .lss .i64 (.tmp 55) (.tmp 57))]) (.cond (.tmp 58) .skip (.exit 2))) (.seq (.block 3 (.dreg (.fork [.qp 0 none 61 (.mv (.tmp 0)),.qp 1 none 62 (.mv (.tmp 13)),.qp 2 none 63 (.mv (.tmp 0)),.qp 3 none 64 (.mv (.tmp 13)),.qp 4 none 65 (.bin .add .i64 (.tmp
 64) (.const (.int .i64 1))),.qp 5 none 66 (.mv (.tmp 0)),.qp 6 none 67 (.mv (.tmp 13)),.qp 7 none 68 (.bin .add .i64 (.tmp 67) (.const (.int .i64 1))),.qp 8 none 69 (.idx 257 (.tmp 66) (.tmp 68)),.qp 10 none 71 (.mv (.tmp 0)),.qp 11 none 72 (.mv (.tmp 13)),.qp 12 none 73 (.idx 257 (.tmp 71) (.tmp 72))] (.line [.l 9 none (some 70) (.ld (some 257) (.tmp 69)),.l 13 none (some 74) (.ld (some 257) (.tmp 73)),.qp 14 none 75 (.idx 257 (.tmp 61) (.tmp 62)),.l 15 none none (.st 257 (.tmp 75) (.tmp 70)),.qp 16 none 76 (.idx 257 (.tmp 63) (.tmp 65)),.l 17 none none (.st 257 (.tmp 76) (.tmp 74))]) (.line [.l 13 none (some 74) (.ld (some 257) (.tmp 73)),.l 9 none (some 70) (.ld (some 257) (.tmp 69)),.qp 14 none 75 (.idx 257 (.tmp 61) (.tmp 62)),.l 15 none none (.st 257 (.tmp 75) (.tmp 70)),.qp 16 none 76 (.idx 257 (.tmp 63) (.tmp 65)),.l 17 none none (.st 257 (.tmp 76) (.tmp 74))])))) (.reg [.p none 59 (.mv (.tmp 13)),.p none 60 (.bin .add .i64 (.tmp 59) (.const (.int .i64 1))),.p none 13 (.mv (.tmp 60))])))))) .ret)))) .skip)) (.seq (.seq (.reg [.p none 77 (.mv (.tmp 3)),.p none 78 (.mv (.tmp 2)),.p none 79 (.bin .sub .i64 (.tmp 77) (.tmp 78)),.p none 80 (.bin .eql .i64 (.tmp 79) (.const (.int .i64 1)))]) (.cond (.tmp 80) (.seq (.reg [.p none 81 (.mv (.tmp 1)),.p none 14 (.mv (.tmp 81))]) (.seq (.reg [.p none 82 (.mv (.tmp 2)),.p none 15 (.mv (.tmp 82))]) (.seq (.block 4 (.loop (.seq (.seq (.reg [.p none 83 (.mv (.tmp 14)),.p none 84 (.mv (.tmp 15)),.p none 85 (.bin .lss .i64 (.tmp 83) (.tmp 84))]) (.cond (.tmp 85) .skip (.exit 4))) (.block 5 (.seq (.reg [.p none 86 (.mv (.tmp 14)),.p none 87 (.mv (.tmp 15)),.p none 88 (.bin .add .i64 (.tmp 86) (.tmp 87)),.p none 89 (.conv .u64 (.tmp 88)),.p none 90 (.shf .shr (.tmp 89) (.const (.int .u64 1))),.p none 91 (.conv .i64 (.tmp 90)),.p none 16 (.mv (.tmp 91))]) (.seq (.dreg (.line [.qp 0 none 92 (.mv (.tmp 4)),.qp 1 none 93 (.mv (.tmp 0)),.qp 2 none 94 (.mv (.tmp 2)),.qp 3 none 95 (.idx 257 (.tmp 93) (.tmp 94)),.qp 5 none 97 (.mv
 (.tmp 0)),.qp 6 none 98 (.mv (.tmp 16)),.qp 7 none 99 (.idx 257 (.tmp 97) (.tmp 98)),.ql 8 none 100 (some 257) (.tmp 99),.l 4 none (some 96) (.ld (some 257) (.tmp 95)),.l 9 none (some 101) (.callv (.tmp 92) [(.tmp 96),(.tmp 100)]),.qp 10 none 102 (.bin .lss .i64 (.tmp 101) (.const (.int .i64 0))),.qp 11 none 103 (.not (.tmp 102))])) (.cond (.tmp 103) (.reg [.p none 104 (.mv (.tmp 16)),.p none 105 (.bin .add .i64 (.tmp 104) (.const (.int .i64 1))),.p none 14 (.mv (.tmp 105))]) (.reg [.p none 106 (.mv (.tmp 16)),.p none 15 (.mv (.tmp 106))])))))))) (.seq (.seq (.reg [.p none 107 (.mv (.tmp 2)),.p none 17 (.mv (.tmp 107))]) (.block 6 (.loop (.seq (.seq (.reg [.p none 108 (.mv (.tmp 17)),.p none 109 (.mv (.tmp 14)),.p none 110 (.bin .gtr .i64 (.tmp 108) (.tmp 109))]) (.cond (.tmp 110) .skip (.exit 6))) (.seq (.block 7 (.dreg (.fork [.qp 0 none 113 (.mv (.tmp 0)),.qp 1 none 114 (.mv (.tmp 17)),.qp 2 none 115 (.mv (.tmp 0)),.qp 3 none 116 (.mv (.tmp 17)),.qp 4 none 117 (.bin .sub .i64 (.tmp 116) (.const (.int .i64 1))),.qp 5 none 118 (.mv (.tmp 0)),.qp 6 none 119 (.mv (.tmp 17)),.qp 7 none 120 (.bin .sub .i64 (.tmp 119) (.const (.int .i64 1))),.qp 8 none 121 (.idx 257 (.tmp 118) (.tmp 120)),.qp 10 none 123 (.mv (.tmp 0)),.qp 11 none 124 (.mv (.tmp 17)),.qp 12 none 125 (.idx 257 (.tmp 123) (.tmp 124))] (.line [.l 9 none (some 122) (.ld (some 257) (.tmp 121)),.l 13 none (some 126) (.ld (some 257) (.tmp 125)),.qp 14 none 127 (.idx 257 (.tmp 113) (.tmp 114)),.l 15 none none (.st 257 (.tmp 127) (.tmp 122)),.qp 16 none 128 (.idx 257 (.tmp 115) (.tmp 117)),.l 17 none none (.st 257 (.tmp 128) (.tmp 126))]) (.line [.l 13 none (some 126) (.ld (some 257) (.tmp 125)),.l 9 none (some 122) (.ld (some 257) (.tmp 121)),.qp 14 none 127 (.idx 257 (.tmp 113) (.tmp 114)),.l 15 none none (.st 257 (.tmp 127) (.tmp 122)),.qp 16 none 128 (.idx 257 (.tmp 115) (.tmp 117)),.l 17 none none (.st 257 (.tmp 128) (.tmp 126))])))) (.reg [.p none 111 (.mv (.tmp 17)),.p none 112 (.bin .sub .i64 (.tmp
 111) (.const (.int .i64 1))),.p none 17 (.mv (.tmp 112))])))))) .ret)))) .skip)) (.seq (.reg [.p none 129 (.mv (.tmp 1)),.p none 130 (.mv (.tmp 3)),.p none 131 (.bin .add .i64 (.tmp 129) (.tmp 130)),.p none 132 (.conv .u64 (.tmp 131)),.p none 133 (.shf .shr (.tmp 132) (.const (.int .u64 1))),.p none 134 (.conv .i64 (.tmp 133)),.p none 18 (.mv (.tmp 134))]) (.seq (.reg [.p none 135 (.mv (.tmp 18)),.p none 136 (.mv (.tmp 2)),.p none 137 (.bin .add .i64 (.tmp 135) (.tmp 136)),.p none 19 (.mv (.tmp 137))]) (.seq (.reg [.p none 20 (.mv (.const (.int .i64 0))),.p none 21 (.mv (.const (.int .i64 0)))]) (.seq (.seq (.reg [.p none 138 (.mv (.tmp 2)),.p none 139 (.mv (.tmp 18)),.p none 140 (.bin .gtr .i64 (.tmp 138) (.tmp 139))]) (.cond (.tmp 140) (.seq (.reg [.p none 141 (.mv (.tmp 19)),.p none 142 (.mv (.tmp 3)),.p none 143 (.bin .sub .i64 (.tmp 141) (.tmp 142)),.p none 20 (.mv (.tmp 143))]) (.reg [.p none 144 (.mv (.tmp 18)),.p none 21 (.mv (.tmp 144))])) (.seq (.reg [.p none 145 (.mv (.tmp 1)),.p none 20 (.mv (.tmp 145))]) (.reg [.p none 146 (.mv (.tmp 2)),.p none 21 (.mv (.tmp 146))])))) (.seq (.reg [.p none 147 (.mv (.tmp 19)),.p none 148 (.bin .sub .i64 (.tmp 147) (.const (.int .i64 1))),.p none 22 (.mv (.tmp 148))]) (.seq (.block 8 (.loop (.seq (.seq (.reg [.p none 149 (.mv (.tmp 20)),.p none 150 (.mv (.tmp 21)),.p none 151 (.bin .lss .i64 (.tmp 149) (.tmp 150))]) (.cond (.tmp 151) .skip (.exit 8))) (.block 9 (.seq (.reg [.p none 152 (.mv (.tmp 20)),.p none 153 (.mv (.tmp 21)),.p none 154 (.bin .add .i64 (.tmp 152) (.tmp 153)),.p none 155 (.conv .u64 (.tmp 154)),.p none 156 (.shf .shr (.tmp 155) (.const (.int .u64 1))),.p none 157 (.conv .i64 (.tmp 156)),.p none 23 (.mv (.tmp 157))]) (.seq (.dreg (.line [.qp 0 none 158 (.mv (.tmp 4)),.qp 1 none 159 (.mv (.tmp 0)),.qp 2 none 160 (.mv (.tmp 22)),.qp 3 none 161 (.mv (.tmp 23)),.qp 4 none 162 (.bin .sub .i64 (.tmp 160) (.tmp 161)),.qp 5 none 163 (.idx 257 (.tmp 159) (.tmp 162)),.qp 7 none 165 (.mv (.tmp 0)),.qp 8 none
 166 (.mv (.tmp 23)),.qp 9 none 167 (.idx 257 (.tmp 165) (.tmp 166)),.ql 10 none 168 (some 257) (.tmp 167),.l 6 none (some 164) (.ld (some 257) (.tmp 163)),.l 11 none (some 169) (.callv (.tmp 158) [(.tmp 164),(.tmp 168)]),.qp 12 none 170 (.bin .lss .i64 (.tmp 169) (.const (.int .i64 0))),.qp 13 none 171 (.not (.tmp 170))])) (.cond (.tmp 171) (.reg [.p none 172 (.mv (.tmp 23)),.p none 173 (.bin .add .i64 (.tmp 172) (.const (.int .i64 1))),.p none 20 (.mv (.tmp 173))]) (.reg [.p none 174 (.mv (.tmp 23)),.p none 21 (.mv (.tmp 174))])))))))) (.seq (.reg [.p none 175 (.mv (.tmp 19)),.p none 176 (.mv (.tmp 20)),.p none 177 (.bin .sub .i64 (.tmp 175) (.tmp 176)),.p none 24 (.mv (.tmp 177))]) (.seq (.seq (.reg [.p none 178 (.mv (.tmp 20)),.p none 179 (.mv (.tmp 2)),.p none 180 (.bin .lss .i64 (.tmp 178) (.tmp 179)),.p none 181 (.mv (.tmp 180)),.split 181,.p (some (181,true)) 182 (.mv (.tmp 2)),.p (some (181,true)) 183 (.mv (.tmp 24)),.p (some (181,true)) 184 (.bin .lss .i64 (.tmp 182) (.tmp 183)),.p none 185 (.pick (.tmp 181) (.tmp 184) (.const (.bool false)))]) (.cond (.tmp 185) (.reg [.p none 186 (.mv (.tmp 0)),.p none 187 (.mv (.tmp 20)),.p none 188 (.mv (.tmp 2)),.p none 189 (.mv (.tmp 24)),.p none 190 (.mv (.tmp 4)),.l none (some 191) (.call 80 [(.tmp 186),(.tmp 187),(.tmp 188),(.tmp 189),(.tmp 190)])]) .skip)) (.seq (.seq (.reg [.p none 192 (.mv (.tmp 1)),.p none 193 (.mv (.tmp 20)),.p none 194 (.bin .lss .i64 (.tmp 192) (.tmp 193)),.p none 195 (.mv (.tmp 194)),.split 195,.p (some (195,true)) 196 (.mv (.tmp 20)),.p (some (195,true)) 197 (.mv (.tmp 18)),.p (some (195,true)) 198 (.bin .lss .i64 (.tmp 196) (.tmp 197)),.p none 199 (.pick (.tmp 195) (.tmp 198) (.const (.bool false)))]) (.cond (.tmp 199) (.reg [.p none 200 (.mv (.tmp 0)),.p none 201 (.mv (.tmp 1)),.p none 202 (.mv (.tmp 20)),.p none 203 (.mv (.tmp 18)),.p none 204 (.mv (.tmp 4)),.l none (some 205) (.call 79 [(.tmp 200),(.tmp 201),(.tmp 202),(.tmp 203),(.tmp 204)])]) .skip)) (.seq (.reg [.p none 206 (.mv
 (.tmp 18)),.p none 207 (.mv (.tmp 24)),.p none 208 (.bin .lss .i64 (.tmp 206) (.tmp 207)),.p none 209 (.mv (.tmp 208)),.split 209,.p (some (209,true)) 210 (.mv (.tmp 24)),.p (some (209,true)) 211 (.mv (.tmp 3)),.p (some (209,true)) 212 (.bin .lss .i64 (.tmp 210) (.tmp 211)),.p none 213 (.pick (.tmp 209) (.tmp 212) (.const (.bool false)))]) (.cond (.tmp 213) (.reg [.p none 214 (.mv (.tmp 0)),.p none 215 (.mv (.tmp 18)),.p none 216 (.mv (.tmp 24)),.p none 217 (.mv (.tmp 3)),.p none 218 (.mv (.tmp 4)),.l none (some 219) (.call 79 [(.tmp 214),(.tmp 215),(.tmp 216),(.tmp 217),(.tmp 218)])]) .skip)))))))))))))
theorem C79 : compile Try.prog 220 (Try.f79.body.getD .skip) = some M79 := by kernel_rfl
noncomputable def M80 : MC := (.seq (.reg [.p none 12 (.mv (.tmp 2)),.p none 13 (.mv (.tmp 1)),.p none 14 (.bin .sub .i64 (.tmp 12) (.tmp 13)),.p none 10 (.mv (.tmp 14))]) (.seq (.reg [.p none 15 (.mv (.tmp 3)),.p none 16 (.mv (.tmp 2)),.p none 17 (.bin .sub .i64 (.tmp 15) (.tmp 16)),.p none 11 (.mv (.tmp 17))]) (.seq (.block 0 (.loop (.seq (.seq (.reg [.p none 18 (.mv (.tmp 10)),.p none 19 (.mv (.tmp 11)),.p none 20 (.bin .neq .i64 (.tmp 18) (.tmp 19))]) (.cond (.tmp 20) .skip (.exit 0))) (.block 1 (.seq (.reg [.p none 21 (.mv (.tmp 10)),.p none 22 (.mv (.tmp 11)),.p none 23 (.bin .gtr .i64 (.tmp 21) (.tmp 22))]) (.cond (.tmp 23) (.seq (.reg [.p none 24 (.mv (.tmp 0)),.p none 25 (.mv (.tmp 2)),.p none 26 (.mv (.tmp 10)),.p none 27 (.bin .sub .i64 (.tmp 25) (.tmp 26)),.p none 28 (.mv (.tmp 2)),.p none 29 (.mv (.tmp 11)),.p none 30 (.mv (.tmp 4)),.l none (some 31) (.call 81 [(.tmp 24),(.tmp 27),(.tmp 28),(.tmp 29),(.tmp 30)])]) (.reg [.p none 32 (.mv (.tmp 10)),.p none 33 (.mv (.tmp 11)),.p none 34 (.bin .sub .i64 (.tmp 32) (.tmp 33)),.p none 10 (.mv (.tmp 34))])) (.seq (.reg [.p none 35 (.mv (.tmp 0)),.p none 36 (.mv (.tmp 2)),.p none 37 (.mv (.tmp 10)),.p none 38 (.bin .sub .i64 (.tmp 36) (.tmp 37)),.p none 39 (.mv (.tmp 2)),.p none 40 (.mv (.tmp 11)),.p none 41 (.bin .add .i64 (.tmp 39) (.tmp 40)),.p none 42 (.mv (.tmp 10)),.p none 43 (.bin .sub .i64 (.tmp 41) (.tmp 42)),.p none 44 (.mv (.tmp 10)),.p none 45 (.mv (.tmp 4)),.l none (some 46) (.call 81 [(.tmp 35),(.tmp 38),(.tmp 43),(.tmp 44),(.tmp 45)])]) (.reg [.p none 47 (.mv (.tmp 11)),.p none 48 (.mv (.tmp 10)),.p none 49 (.bin .sub .i64 (.tmp 47) (.tmp 48)),.p none 11 (.mv (.tmp 49))])))))))) (.reg [.p none 50 (.mv (.tmp 0)),.p none 51 (.mv (.tmp 2)),.p none 52 (.mv (.tmp 10)),.p none 53 (.bin .sub .i64 (.tmp 51) (.tmp 52)),.p none 54 (.mv (.tmp 2)),.p none 55 (.mv (.tmp 10)),.p none 56 (.mv (.tmp 4)),.l none (some 57) (.call 81 [(.tmp 50),(.tmp 53),(.tmp 54),(.tmp 55),(.tmp 56)])]))))
theorem C80 : compile Try.prog 58 (Try.f80.body.getD .skip) = some M80 := by kernel_rfl
noncomputable def M81 : MC := (.seq (.reg [.p none 10 (.mv (.const (.int .i64 0)))]) (.block 0 (.loop (.seq (.seq (.reg [.p none 11 (.mv (.tmp 10)),.p none 12 (.mv (.tmp 3)),.p none 13 (.bin .lss .i64 (.tmp 11) (.tmp 12))]) (.cond (.tmp 13) .skip (.exit 0))) (.seq (.block 1 (.dreg (.fork [.qp 0 none 16 (.mv (.tmp 0)),.qp 1 none 17 (.mv (.tmp 1)),.qp 2 none 18 (.mv (.tmp 10)),.qp 3 none 19 (.bin .add .i64 (.tmp 17) (.tmp 18)),.qp 4 none 20 (.mv (.tmp 0)),.qp 5 none 21 (.mv (.tmp 2)),.qp 6 none 22 (.mv (.tmp 10)),.qp 7 none 23 (.bin .add .i64 (.tmp 21) (.tmp 22)),.qp 8 none 24 (.mv (.tmp 0)),.qp 9 none 25 (.mv (.tmp 2)),.qp 10 none 26 (.mv (.tmp 10)),.qp 11 none 27 (.bin .add .i64 (.tmp 25) (.tmp 26)),.qp 12 none 28 (.idx 257 (.tmp 24) (.tmp 27)),.qp 14 none 30 (.mv (.tmp 0)),.qp 15 none 31 (.mv (.tmp 1)),.qp 16 none 32 (.mv (.tmp 10)),.qp 17 none 33 (.bin .add .i64 (.tmp 31) (.tmp 32)),.qp 18 none 34 (.idx 257 (.tmp 30) (.tmp 33))] (.line [.l 13 none (some 29) (.ld (some 257) (.tmp 28)),.l 19 none (some 35) (.ld (some 257) (.tmp 34)),.qp 20 none 36 (.idx 257 (.tmp 16) (.tmp 19)),.l 21 none none (.st 257 (.tmp 36) (.tmp 29)),.qp 22 none 37 (.idx 257 (.tmp 20) (.tmp 23)),.l 23 none none (.st 257 (.tmp 37) (.tmp 35))]) (.line [.l 19 none (some 35) (.ld (some 257) (.tmp 34)),.l 13 none (some 29) (.ld (some 257) (.tmp 28)),.qp 20 none 36 (.idx 257 (.tmp 16) (.tmp 19)),.l 21 none none (.st 257 (.tmp 36) (.tmp 29)),.qp 22 none 37 (.idx 257 (.tmp 20) (.tmp 23)),.l 23 none none (.st 257 (.tmp 37) (.tmp 35))])))) (.reg [.p none 14 (.mv (.tmp 10)),.p none 15 (.bin .add .i64 (.tmp 14) (.const (.int .i64 1))),.p none 10 (.mv (.tmp 15))]))))))
theorem C81 : compile Try.prog 38 (Try.f81.body.getD .skip) = some M81 := by kernel_rfl
noncomputable def M5 : MC := (.seq (.reg [.p none 6 (.mv (.const (.bool false)))]) (.seq (.reg [.l none (some 22) (.bs 5 0 1 [] []),.p none 23 (.mv (.tmp 0)),.l none (some 24) (.app 5 1 1 [(.int .u8 0)] (.tmp 22) (.tmp 23)),.p none 25 (.mv (.tmp 1)),.l none (some 26) (.bs 5 1 1 [(.int .u8 0)] [(0,1,(.tmp 25))]),.l none (some 27) (.app 5 1 1 [(.int .u8 0)] (.tmp 24) (.tmp 26)),.p none 7 (.mv (.tmp 27))]) (.seq (.reg [.p none 29 (.mv (.tmp 7)),.l none (some 30) (.call 15 [(.tmp 29)]),.p none 31 (.mv (.tmp 2)),.l none (some 32) (.call 9 [(.tmp 30),(.tmp 31)]),.p none 28 (.mv (.tmp 32)),.p none 33 (.ext 0 (.tmp 28)),.p none 34 (.ext 1 (.tmp 28)),.p none 8 (.mv (.tmp 33)),.p none 9 (.mv (.tmp 34))]) (.seq (.seq (.reg [.p none 35 (.mv (.tmp 9)),.p none 36 (.bin .neq .i64 (.tmp 35) (.const (.int .i64 0)))]) (.cond (.tmp 36) (.seq (.reg [.l none (some 38) (.call 7 [(.const (.int .i64 4)),(.const (.int .i64 100)),(.const (.slice none 0 0))]),.p none 37 (.mv (.tmp 38)),.p none 39 (.ext 0 (.tmp 37)),.p none 40 (.ext 1 (.tmp 37)),.p none 41 (.ext 2 (.tmp 37)),.p none 42 (.ext 3 (.tmp 37)),.p none 10 (.mv (.tmp 39)),.p none 11 (.mv (.tmp 40)),.p none 12 (.mv (.tmp 41)),.p none 13 (.mv (.tmp 42))]) (.seq (.reg [.p none 43 (.mv (.tmp 13)),.p none 44 (.mv (.tmp 43)),.split 44,.p (some (44,true)) 45 (.mv (.tmp 8)),.p (some (44,true)) 46 (.isnil false 0 (.tmp 45)),.p none 47 (.pick (.tmp 44) (.tmp 46) (.const (.bool false))),.p none 48 (.mv (.tmp 47)),.split 48,.p (some (48,true)) 49 (.mv (.tmp 9)),.p (some (48,true)) 50 (.bin .eql .i64 (.tmp 49) (.const (.int .i64 60))),.p (some (48,true)) 51 (.mv (.tmp 50)),.split 51,.p (some (51,false)) 52 (.mv (.tmp 9)),.p (some (51,false)) 53 (.bin .eql .i64 (.tmp 52) (.const (.int .i64 3))),.p (some (51,false)) 54 (.mv (.tmp 53)),.split 54,.p (some (54,true)) 55 (.mv (.tmp 2)),.p (some (54,true)) 56 (.bin .lss .i64 (.tmp 55) (.const (.int .i64 1))),.p (some (54,true)) 57 (.mv (.tmp 56)),.split 57,.p (some (57,false)) 58 (.mv (.tmp 2)),.p (some
 (57,false)) 59 (.bin .gtr .i64 (.tmp 58) (.const (.int .i64 65536))),.p (some (54,true)) 60 (.pick (.tmp 57) (.const (.bool true)) (.tmp 59)),.p (some (51,false)) 61 (.pick (.tmp 54) (.tmp 60) (.const (.bool false))),.p (some (48,true)) 62 (.pick (.tmp 51) (.const (.bool true)) (.tmp 61)),.p none 63 (.pick (.tmp 48) (.tmp 62) (.const (.bool false))),.p none 6 (.mv (.tmp 63))]) .ret)) .skip)) (.seq (.reg [.p none 64 (.mv (.tmp 0)),.p none 14 (.mv (.tmp 64))]) (.seq (.seq (.reg [.p none 65 (.mv (.tmp 1)),.p none 66 (.bin .eql .u8 (.tmp 65) (.const (.int .u8 1)))]) (.cond (.tmp 66) (.reg [.p none 68 (.mv (.tmp 0)),.p none 69 (.mv (.tmp 2)),.l none (some 70) (.call 11 [(.tmp 68),(.tmp 69)]),.p none 67 (.mv (.tmp 70)),.p none 71 (.ext 0 (.tmp 67)),.p none 72 (.ext 1 (.tmp 67)),.p none 14 (.mv (.tmp 71))]) .skip)) (.seq (.seq (.reg [.p none 73 (.mv (.tmp 1)),.p none 74 (.bin .eql .u8 (.tmp 73) (.const (.int .u8 2)))]) (.cond (.tmp 74) (.reg [.p none 76 (.mv (.tmp 0)),.p none 77 (.mv (.tmp 2)),.l none (some 78) (.call 12 [(.tmp 76),(.tmp 77)]),.p none 75 (.mv (.tmp 78)),.p none 79 (.ext 0 (.tmp 75)),.p none 80 (.ext 1 (.tmp 75)),.p none 14 (.mv (.tmp 79))]) .skip)) (.seq (.seq (.reg [.p none 81 (.mv (.tmp 14)),.p none 82 (.len (.tmp 81)),.p none 83 (.mv (.tmp 2)),.p none 84 (.bin .neq .i64 (.tmp 82) (.tmp 83)),.p none 85 (.mv (.tmp 84)),.split 85,.p (some (85,false)) 86 (.mv (.tmp 2)),.p (some (85,false)) 87 (.bin .lss .i64 (.tmp 86) (.const (.int .i64 8))),.p none 88 (.pick (.tmp 85) (.const (.bool true)) (.tmp 87)),.p none 89 (.mv (.tmp 88)),.split 89,.p (some (89,false)) 90 (.mv (.tmp 8)),.l (some (89,false)) (some 91) (.call 16 [(.tmp 90)]),.p (some (89,false)) 92 (.bin .lss .i64 (.tmp 91) (.const (.int .i64 1))),.p none 93 (.pick (.tmp 89) (.const (.bool true)) (.tmp 92))]) (.cond (.tmp 93) (.seq (.reg [.p none 6 (.mv (.const (.bool false)))]) .ret) .skip)) (.seq (.reg [.p none 94 (.mv (.tmp 14)),.p none 95 (.mv (.tmp 2)),.p none 96 (.bin .sub .i64 (.tmp 95) (.const
 (.int .i64 8))),.p none 97 (.mv (.tmp 2)),.p none 98 (.bin .sub .i64 (.tmp 97) (.const (.int .i64 4))),.p none 99 (.slc 1 (.tmp 94) (some (.tmp 96)) (some (.tmp 98)) none),.l none (some 100) (.call 17 [(.tmp 99)]),.p none 15 (.mv (.tmp 100))]) (.seq (.reg [.p none 102 (.mv (.tmp 15)),.p none 103 (.conv .i64 (.tmp 102)),.l none (some 104) (.call 18 [(.tmp 103),(.const (.int .i64 65536))]),.p none 101 (.mv (.tmp 104)),.p none 105 (.ext 0 (.tmp 101)),.p none 106 (.ext 1 (.tmp 101)),.p none 16 (.mv (.tmp 105)),.p none 17 (.mv (.tmp 106))]) (.seq (.seq (.reg [.p none 107 (.mv (.tmp 17)),.p none 108 (.bin .neq .i64 (.tmp 107) (.const (.int .i64 0)))]) (.cond (.tmp 108) (.seq (.reg [.p none 6 (.mv (.const (.bool false)))]) .ret) .skip)) (.seq (.seq (.reg [.p none 18 (.mv (.const (.int .i64 0)))]) (.block 0 (.loop (.seq (.seq (.reg [.p none 109 (.mv (.tmp 18)),.p none 110 (.mv (.tmp 8)),.l none (some 111) (.call 16 [(.tmp 110)]),.p none 112 (.bin .lss .i64 (.tmp 109) (.tmp 111))]) (.cond (.tmp 112) .skip (.exit 0))) (.seq (.block 1 (.seq (.reg [.p none 116 (.mv (.tmp 8)),.p none 117 (.mv (.tmp 18)),.l none (some 118) (.call 19 [(.tmp 116),(.tmp 117)]),.p none 115 (.mv (.tmp 118)),.p none 119 (.ext 0 (.tmp 115)),.p none 120 (.ext 1 (.tmp 115)),.p none 121 (.ext 2 (.tmp 115)),.p none 19 (.mv (.tmp 119)),.p none 20 (.mv (.tmp 120)),.p none 21 (.mv (.tmp 121))]) (.seq (.reg [.p none 122 (.mv (.tmp 21)),.p none 123 (.bin .neq .i64 (.tmp 122) (.const (.int .i64 0))),.p none 124 (.mv (.tmp 123)),.split 124,.p (some (124,false)) 125 (.mv (.tmp 16)),.p (some (124,false)) 126 (.mv (.tmp 19)),.p (some (124,false)) 127 (.mv (.tmp 20)),.l (some (124,false)) (some 128) (.call 20 [(.tmp 125),(.tmp 126),(.tmp 127)]),.p (some (124,false)) 129 (.bin .neq .i64 (.tmp 128) (.const (.int .i64 0))),.p none 130 (.pick (.tmp 124) (.const (.bool true)) (.tmp 129))]) (.cond (.tmp 130) (.seq (.reg [.p none 6 (.mv (.const (.bool false)))]) .ret) .skip)))) (.reg [.p none 113 (.mv (.tmp 18)),.p none
 114 (.bin .add .i64 (.tmp 113) (.const (.int .i64 1))),.p none 18 (.mv (.tmp 114))])))))) (.seq (.reg [.p none 131 (.mv (.tmp 16)),.l none (some 132) (.call 21 [(.tmp 131)]),.p none 133 (.mv (.tmp 2)),.p none 134 (.bin .eql .i64 (.tmp 132) (.tmp 133)),.p none 135 (.mv (.tmp 134)),.split 135,.p (some (135,true)) 136 (.mv (.tmp 14)),.p (some (135,true)) 137 (.mv (.tmp 2)),.p (some (135,true)) 138 (.bin .sub .i64 (.tmp 137) (.const (.int .i64 4))),.p (some (135,true)) 139 (.slc 1 (.tmp 136) (some (.tmp 138)) none none),.l (some (135,true)) (some 140) (.call 17 [(.tmp 139)]),.p (some (135,true)) 141 (.mv (.tmp 8)),.l (some (135,true)) (some 142) (.call 16 [(.tmp 141)]),.p (some (135,true)) 143 (.conv .u64 (.tmp 142)),.p (some (135,true)) 144 (.bin .eql .u64 (.tmp 140) (.tmp 143)),.p none 145 (.pick (.tmp 135) (.tmp 144) (.const (.bool false))),.p none 6 (.mv (.tmp 145))]) .ret)))))))))))))
theorem C5 : compile Try.prog 146 (Try.f5.body.getD .skip) = some M5 := by kernel_rfl
end Go.Proofs.Ytifnmbmijljhfaa.E
namespace Go.Proofs.Ytifnmbmijljhfaa.E
open Go
theorem drop_getD {a : List UInt8} {i : Nat} (h : i < a.length) : a.drop i = a.getD i 0 :: a.drop (i + 1) := by
 rw [List.drop_eq_getElem_cons h, List.getD_eq_getElem?_getD, List.getElem?_eq_getElem h]; rfl
def put (v : Nat) : List UInt8 := if h : v < 128 then [v.toUInt8] else (v % 128 + 128).toUInt8 :: put (v / 128)
termination_by v
def putI (v : Int) : List UInt8 := if v < 0 then [] else put v.toNat
theorem put_lt {v : Nat} (h : v < 128) : put v = [v.toUInt8] := by rw [put]; simp [h]
theorem put_ge {v : Nat} (h : 128 ≤ v) : put v = (v % 128 + 128).toUInt8 :: put (v / 128) := by rw [put]; simp [Nat.not_lt.2 h]
theorem put_len (k : Nat) : ∀ v : Nat, v < 128 ^ (k + 1) → (put v).length ≤ k + 1 := by
 induction k with
 | zero => intro v h; rw [put_lt (by simpa using h)]; simp
 | succ k ih =>
  intro v h
  by_cases h1 : v < 128
  ·rw [put_lt h1]; simp
  rw [put_ge (by omega)]
  have : v / 128 < 128 ^ (k + 1) := by rw [Nat.pow_succ] at h; omega
  have := ih _ this
  simp; omega
theorem putI_len {v : Int} (h : v ≤ 9223372036854775807) : (putI v).length ≤ 9 := by
 unfold putI; split
 ·simp
 exact put_len 8 _ (by simp; omega)
theorem putI_ge {v : Int} (h : 128 ≤ v) : putI v = (v % 128 + 128).toNat.toUInt8 :: putI (v / 128) := by
 unfold putI
 rw [if_neg (by omega), if_neg (by omega), put_ge (by omega)]
 congr 2
 ·omega
 congr 1; omega
theorem putI_lt {v : Int} (h0 : 0 ≤ v) (h : v < 128) : putI v = [v.toNat.toUInt8] := by
 unfold putI
 rw [if_neg (by omega), put_lt (by omega)]
theorem put_pos (v : Nat) : 0 < (put v).length := by rw [put]; split <;> simp
theorem putI_pos {v : Int} (h : 0 ≤ v) : 0 < (putI v).length := by unfold putI; rw [if_neg (by omega)]; exact put_pos _
theorem low_or8 : ∀ n : Fin 256, orI .u8 (n.val : Int) 128 = (n.val : Int) % 128 + 128 := by decide +kernel
theorem low_or (v : Int) : orI .u8 (v % 256) 128 = v % 128 + 128 := by
 have h := low_or8 ⟨(v % 256).toNat, by omega⟩
 simp only [] at h
 rw [Int.toNat_of_nonneg (by omega)] at h
 rw [h]; omega
def fixed (n v : Nat) : List UInt8 := (List.range n).map fun i => (v / 256 ^ i % 256).toUInt8
def fixedI (v n : Int) : List UInt8 := if n < 1 ∨ 8 < n then [] else fixed n.toNat v.toNat
theorem fixedI_none {v n : Int} (h : n < 1 ∨ 8 < n) : fixedI v n = [] := by unfold fixedI; rw [if_pos h]
theorem fixedI_some {v n : Int} (h : ¬ (n < 1 ∨ 8 < n)) : fixedI v n = fixed n.toNat v.toNat := by unfold fixedI; rw [if_neg h]
theorem fixed_length (n v : Nat) : (fixed n v).length = n := by simp [fixed]
theorem fixed_succ (n v : Nat) : fixed (n + 1) v = fixed n v ++ [(v / 256 ^ n % 256).toUInt8] := by simp [fixed, List.range_succ]
theorem fixed_set {n i v : Nat} (h : i < n) : (fixed i v ++ List.replicate (n - i) 0).set i (v / 256 ^ i % 256).toUInt8 = fixed (i + 1) v ++ List.replicate (n - (i + 1)) 0 := by
 rw [List.set_append_right _ _ (by rw [fixed_length]; exact Nat.le_refl _), fixed_length, Nat.sub_self, fixed_succ]
 obtain ⟨k, hk⟩ : ∃ k, n - i = k + 1 := ⟨n - i - 1, by omega⟩
 rw [hk, List.replicate_succ, List.set_cons_zero, show n - (i + 1) = k by omega]
 simp
theorem shr_byte {v : Int} {i : Nat} (h0 : 0 ≤ v) (hi : i < 8) : Value.int .u8 (IntKind.u8.wrap (shrI .u64 v (8 * (i : Int)))) = byteV (v.toNat / 256 ^ i % 256).toUInt8 := by
 have e1 : shrI .u64 v (8 * (i : Int)) = ((v.toNat / 256 ^ i : Nat) : Int) := by
  unfold shrI
  have e : (8 * (i : Int)).toNat = 8 * i := by omega
  rw [e]
  have e2 : min (8 * i) IntKind.u64.bits = 8 * i := Nat.min_eq_left (by simp only [IntKind.bits]; omega)
  rw [e2, Int.fdiv_eq_ediv_of_nonneg _ (by exact Int.le_of_lt (Int.pow_pos (by omega)))]
  have e3 : (2 : Int) ^ (8 * i) = ((256 ^ i : Nat) : Int) := by rw [Int.pow_mul]; simp
  rw [e3]
  obtain ⟨m, rfl⟩ := Int.eq_ofNat_of_zero_le h0
  rfl
 rw [e1, wrap_u8]
 have e3 : ((v.toNat / 256 ^ i : Nat) : Int) % 256 = ((v.toNat / 256 ^ i % 256 : Nat) : Int) := by omega
 rw [e3]
 exact byteV_of (by omega) (by omega)
theorem byte_mod (m : Nat) : Value.int .u8 ((m : Int) % 256 % 256) = byteV (m % 256).toUInt8 := by
 have e3 : (m : Int) % 256 % 256 = ((m % 256 : Nat) : Int) := by omega
 rw [e3]
 exact byteV_of (by omega) (by omega)
theorem take_succ_eq {a b : List UInt8} {i : Nat} (h : a.take i = b.take i) (ha : i < a.length) (hb : i < b.length) (he : a.getD i 0 = b.getD i 0) : a.take (i + 1) = b.take (i + 1) := by
 rw [List.take_add_one, List.take_add_one, h, List.getElem?_eq_getElem ha, List.getElem?_eq_getElem hb]
 simp only [List.getD_eq_getElem?_getD, List.getElem?_eq_getElem ha, List.getElem?_eq_getElem hb, Option.getD_some] at he
 rw [he]
theorem fixedI_len {v n : Int} : (fixedI v n).length ≤ 8 := by
 unfold fixedI; split
 ·simp
 rw [fixed_length]; omega
def getA : Nat → Nat → List UInt8 → Nat × Nat × Int
 | _, _, [] => (0, 0, 20)
 | i, v, c :: r => if i = 8 ∧ 128 ≤ c.toNat then (0, 0, 21) else if c.toNat < 128 then (if c.toNat = 0 ∧ 0 < i then (0, 0, 21) else (v + c.toNat % 128 * 128 ^ i, i + 1, 0)) else getA (i + 1) (v + c.toNat % 128 * 128 ^ i) r
def get (b : List UInt8) : Nat × Nat × Int := getA 0 0 b
theorem get_far {b : List UInt8} {i v : Nat} (hg : get b = getA i v (b.drop i)) (hi : i < b.length) (h8 : (i : Int) = 8) (hc : (128 : Int) ≤ (b.getD i 0).toNat) : get b = (0, 0, 21) := by
 rw [hg, drop_getD hi, getA, if_pos ⟨by omega, by omega⟩]
theorem get_zero {b : List UInt8} {i v : Nat} (hg : get b = getA i v (b.drop i)) (hi : i < b.length) (h0 : (0 : Int) < i) (hc : ((b.getD i 0).toNat : Int) = 0) : get b = (0, 0, 21) := by
 rw [hg, drop_getD hi, getA, if_neg (by omega), if_pos (by omega), if_pos ⟨by omega, by omega⟩]
theorem get_stop {b : List UInt8} {i v : Nat} (hg : get b = getA i v (b.drop i)) (hi : i < b.length) (hc : ((b.getD i 0).toNat : Int) < 128) (h0 : ¬ ((b.getD i 0).toNat = 0 ∧ 0 < i)) : get b = (v + (b.getD i 0).toNat % 128 * 128 ^ i, i + 1, 0) := by
 rw [hg, drop_getD hi, getA, if_neg (by omega), if_pos (by omega), if_neg h0]
theorem get_more {b : List UInt8} {i v : Nat} (hg : get b = getA i v (b.drop i)) (hi : i < b.length) (h8 : i < 8) (hc : 128 ≤ (b.getD i 0).toNat) : get b = getA (i + 1) (v + (b.getD i 0).toNat % 128 * 128 ^ i) (b.drop (i + 1)) := by
 rw [hg, drop_getD hi, getA, if_neg (by omega), if_neg (by omega)]
theorem get_end {b : List UInt8} {i v : Nat} (hg : get b = getA i v (b.drop i)) (hi : b.length ≤ i) : get b = (0, 0, 20) := by
 rw [hg, List.drop_eq_nil_of_le hi, getA]
abbrev tup3 (t : Nat × Nat × Int) : Value := .tuple [.int .i64 (t.1 : Nat), .int .i64 (t.2.1 : Nat), .int .i64 t.2.2].toArray
theorem ret3 {b : List UInt8} {v n : Nat} {e : Int} (h : get b = (v, n, e)) : (.tuple [.int .i64 (v : Nat), .int .i64 (n : Nat), .int .i64 e].toArray : Value) = tup3 (get b) := by rw [h]
theorem digit_lt {d i : Nat} (hd : d < 128) : d * 128 ^ i + 128 ^ i ≤ 128 ^ (i + 1) := by
 rw [Nat.pow_succ]
 calc d * 128 ^ i + 128 ^ i = (d + 1) * 128 ^ i := by rw [Nat.add_mul]; omega
  _ ≤ 128 * 128 ^ i := Nat.mul_le_mul_right _ hd
  _ = 128 ^ i * 128 := Nat.mul_comm _ _
theorem digit_bd {d v i : Nat} (hd : d < 128) (hi : i ≤ 8) (hv : v < 128 ^ i) : v + d * 128 ^ i < 128 ^ (i + 1) ∧ v + d * 128 ^ i ≤ 9223372036854775807 ∧ d * 128 ^ i ≤ 9223372036854775807 := by
 have h1 := digit_lt (i := i) hd
 have h2 : 128 ^ (i + 1) ≤ 9223372036854775808 := Nat.le_trans (Nat.pow_le_pow_right (by omega) (show i + 1 ≤ 9 by omega)) (by decide)
 omega
theorem and127 (c : UInt8) : binI .and .u8 (c.toNat : Int) 127 = .int .u8 ((c.toNat % 128 : Nat) : Int) := by
 have hc := c.toNat_lt
 have h := andI_nat (k := .u8) (a := c.toNat) (b := 127) (by simpa [IntKind.bits] using hc) (by decide) (by
  have := Nat.and_le_left (n := c.toNat) (m := 127)
  simp only [inK]; omega)
 rw [show (127 : Nat) = 2 ^ 7 - 1 from rfl, and_low] at h
 exact v_int h
theorem get_shl {d i : Nat} (hd : d < 128) (hi : i ≤ 8) : Value.int .i64 (IntKind.i64.wrap ((d : Int) * 2 ^ min (7 * (i : Int)).toNat IntKind.i64.bits)) = .int .i64 ((d * 128 ^ i : Nat) : Int) := by
 have e : (7 * (i : Int)).toNat = 7 * i := by omega
 have h := shlI_nat (k := .i64) (a := d) (n := 7 * i) (by simp only [IntKind.bits]; omega) (by
  rw [← pow128]; have := (digit_bd (v := 0) hd hi (Nat.pow_pos (by omega))).2.2
  simp only [inK]; omega)
 unfold shlI at h
 rw [Int.toNat_natCast, ← pow128] at h
 rw [e]; exact v_int h
theorem get_or {v d i : Nat} (hd : d < 128) (hi : i ≤ 8) (hv : v < 128 ^ i) : binI .or .i64 (v : Int) ((d * 128 ^ i : Nat) : Int) = .int .i64 ((v + d * 128 ^ i : Nat) : Int) := by
 obtain ⟨h1, h2, h3⟩ := digit_bd hd hi hv
 have e := or_add (v := v) (d := d) (n := 7 * i) (by rw [← pow128]; exact hv)
 rw [← pow128] at e
 have h := orI_nat (k := .i64) (a := v) (b := d * 128 ^ i) (by simp only [IntKind.bits]; omega) (by simp only [IntKind.bits]; omega) (by rw [e]; simp only [inK]; omega)
 rw [e] at h
 exact v_int h
theorem m128 (c : UInt8) : c.toNat % 128 < 128 := Nat.mod_lt _ (by omega)
def le : List UInt8 → Nat
 | [] => 0
 | b :: r => b.toNat + 256 * le r
def word (b : List UInt8) : Nat := le (b.take 8)
theorem le_lt : ∀ l : List UInt8, le l < 256 ^ l.length
 | [] => by simp [le]
 | b :: r => by
  have h := le_lt r
  have hb := b.toNat_lt
  simp only [le, List.length_cons, Nat.pow_succ]
  have : 256 * le r + 256 ≤ 256 * 256 ^ r.length := by
   calc 256 * le r + 256 = 256 * (le r + 1) := by omega
    _ ≤ 256 * 256 ^ r.length := Nat.mul_le_mul_left _ h
  omega
theorem le_snoc : ∀ (l : List UInt8) (b : UInt8), le (l ++ [b]) = le l + b.toNat * 256 ^ l.length
 | [], b => by simp [le]
 | c :: r, b => by
  simp only [List.cons_append, le, le_snoc r b, List.length_cons, Nat.pow_succ, Nat.mul_add]
  have : 256 * (b.toNat * 256 ^ r.length) = b.toNat * (256 ^ r.length * 256) := by rw [Nat.mul_comm 256, Nat.mul_assoc]
  omega
theorem take_getD {b : List UInt8} {i : Nat} (h : i < b.length) : b.take (i + 1) = b.take i ++ [b.getD i 0] := by
 rw [List.take_add_one, List.getElem?_eq_getElem h, List.getD_eq_getElem?_getD, List.getElem?_eq_getElem h]; rfl
theorem le_take {b : List UInt8} {i : Nat} (h : i < b.length) : le (b.take (i + 1)) = le (b.take i) + (b.getD i 0).toNat * 256 ^ i := by
 rw [take_getD h, le_snoc]; simp [Nat.min_eq_left (Nat.le_of_lt h)]
theorem le_take_lt {b : List UInt8} {i : Nat} (h : i ≤ b.length) : le (b.take i) < 256 ^ i := by
 have := le_lt (b.take i)
 rwa [List.length_take, Nat.min_eq_left h] at this
theorem pow_256 {i : Nat} (h : i ≤ 8) : 256 ^ i ≤ 18446744073709551616 := Nat.le_trans (Nat.pow_le_pow_right (by omega) h) (by decide)
theorem byte_pow {c : UInt8} {i : Nat} (h : i < 8) : c.toNat * 256 ^ i + 256 ^ i ≤ 18446744073709551616 := by
 have h1 := pow_256 (i := i + 1) (by omega)
 have hc := c.toNat_lt
 rw [Nat.pow_succ] at h1
 have : (c.toNat + 1) * 256 ^ i ≤ 256 * 256 ^ i := Nat.mul_le_mul_right _ hc
 rw [Nat.add_mul] at this; omega
theorem word_shl {c : UInt8} {i : Nat} (hi : i < 8) : Value.int .u64 (IntKind.u64.wrap ((c.toNat : Int) * 2 ^ min (8 * (i : Int)).toNat IntKind.u64.bits)) = .int .u64 ((c.toNat * 256 ^ i : Nat) : Int) := by
 have e : (8 * (i : Int)).toNat = 8 * i := by omega
 have hp : 0 < 256 ^ i := Nat.pow_pos (by omega)
 have hb := byte_pow (c := c) hi
 have h := shlI_nat (k := .u64) (a := c.toNat) (n := 8 * i) (by simp only [IntKind.bits]; omega) (by rw [← pow256]; simp only [inK]; omega)
 unfold shlI at h
 rw [Int.toNat_natCast, ← pow256] at h
 rw [e]; exact v_int h
theorem word_or {b : List UInt8} {i : Nat} (hi : i < 8) (hl : i < b.length) : binI .or .u64 (le (b.take i) : Int) (((b.getD i 0).toNat * 256 ^ i : Nat) : Int) = .int .u64 ((le (b.take (i + 1)) : Nat) : Int) := by
 have h1 := le_take_lt (b := b) (i := i) (by omega)
 have hb := byte_pow (c := b.getD i 0) hi
 have e := or_add (v := le (b.take i)) (d := (b.getD i 0).toNat) (n := 8 * i) (by rw [← pow256]; exact h1)
 rw [← pow256] at e
 have h := orI_nat (k := .u64) (a := le (b.take i)) (b := (b.getD i 0).toNat * 256 ^ i) (by simp only [IntKind.bits]; omega) (by simp only [IntKind.bits]; omega) (by rw [e]; simp only [inK]; omega)
 rw [e] at h
 rw [le_take hl]; exact v_int h
theorem word_end {b : List UInt8} {i : Nat} (hi : i ≤ b.length) (hi8 : i ≤ 8) (h : b.length ≤ i ∨ 8 ≤ i) : le (b.take i) = word b := by
 unfold word
 rcases h with h | h
 ·rw [List.take_of_length_le h, List.take_of_length_le (by omega)]
 rw [show i = 8 by omega]
theorem getA_put (r : List UInt8) : ∀ (n u i v : Nat), u < n → i ≤ 8 → u < 128 ^ (9 - i) → (0 < i → 0 < u) → getA i v (put u ++ r) = (v + u * 128 ^ i, i + (put u).length, 0) := by
 intro n
 induction n with
 | zero => intro u i v h; omega
 | succ n ih =>
  intro u i v hn hi hu h0
  by_cases h1 : u < 128
  ·rw [put_lt h1]
   have e : u.toUInt8.toNat = u := by simp; omega
   simp only [List.cons_append, List.nil_append, getA, e, List.length_singleton]
   rw [if_neg (by omega), if_pos h1, if_neg (by omega), Nat.mod_eq_of_lt h1]
  rw [put_ge (by omega)]
  have e : (u % 128 + 128).toUInt8.toNat = u % 128 + 128 := by simp; omega
  have h8 : i ≠ 8 := by intro h; subst h; simp at hu; omega
  simp only [List.cons_append, getA, e, List.length_cons]
  rw [if_neg (by omega), if_neg (by omega), ih _ _ _ (by omega) (by omega) ?_ (by intro; omega)]
  ·have e2 : (u % 128 + 128) % 128 = u % 128 := by omega
   rw [e2, Nat.pow_succ]
   refine Prod.ext ?_ (Prod.ext ?_ rfl)
   ·simp only
    have : u / 128 * (128 ^ i * 128) = (u / 128 * 128) * 128 ^ i := by rw [Nat.mul_comm (128 ^ i), ← Nat.mul_assoc]
    rw [this, Nat.add_assoc, ← Nat.add_mul]
    congr 2; omega
   simp only; omega
  have : 128 ^ (9 - i) = 128 ^ (9 - (i + 1)) * 128 := by rw [← Nat.pow_succ]; congr 1; omega
  rw [this] at hu; omega
theorem get_put {v : Int} (h0 : 0 ≤ v) (h : v ≤ 9223372036854775807) (r : List UInt8) : get (putI v ++ r) = (v.toNat, (putI v).length, 0) := by
 unfold get putI
 rw [if_neg (by omega), getA_put r (v.toNat + 1) v.toNat 0 0 (by omega) (by omega) (by
  have : (128 : Nat) ^ (9 - 0) = 9223372036854775808 := by decide
  omega) (by omega)]
 simp
theorem getA_inv : ∀ (b : List UInt8) (i v x m : Nat), getA i v b = (x, m, 0) → i ≤ 8 → ∃ u n, b.take n = put u ∧ n ≤ b.length ∧ 1 ≤ n ∧ m = i + n ∧ x = v + u * 128 ^ i ∧ (0 < i → 0 < u)
 | [], i, v, x, m, h, _ => by simp [getA] at h
 | c :: r, i, v, x, m, h, hi => by
  have hc := c.toNat_lt
  simp only [getA] at h
  split at h
  ·simp at h
  rename_i h8
  split at h
  ·rename_i hlt
   split at h
   ·simp at h
   rename_i hz
   simp only [Prod.mk.injEq, and_true] at h
   refine ⟨c.toNat, 1, ?_, by simp, by omega, by omega, ?_, by omega⟩
   ·rw [put_lt hlt]; simp
   rw [← h.1, Nat.mod_eq_of_lt hlt]
  rename_i hge
  obtain ⟨u, n, h1, h2, h3, h4, h5, h6⟩ := getA_inv r _ _ _ _ h (by omega)
  refine ⟨c.toNat % 128 + 128 * u, n + 1, ?_, by simp; omega, by omega, by omega, ?_, by omega⟩
  ·rw [put_ge (by have := h6 (by omega); omega), List.take_succ_cons, h1]
   congr 1
   ·have : (c.toNat % 128 + 128 * u) % 128 + 128 = c.toNat := by omega
    rw [this]; simp
   congr 1; omega
  rw [h5, Nat.pow_succ, Nat.add_mul, Nat.add_assoc]
  congr 2
  rw [Nat.mul_comm (128 ^ i), ← Nat.mul_assoc, Nat.mul_comm u]
theorem getA_err : ∀ (b : List UInt8) (i v : Nat), ((getA i v b).2.2 = 0 ∨ (getA i v b).2.2 = 20 ∨ (getA i v b).2.2 = 21) ∧ (¬ (getA i v b).2.2 = 0 → (getA i v b).1 = 0 ∧ (getA i v b).2.1 = 0)
 | [], i, v => by simp [getA]
 | c :: r, i, v => by
  simp only [getA]
  split
  ·simp
  split
  ·split <;> simp
  exact getA_err r _ _
theorem get_ok {b : List UInt8} (h : (get b).2.2 = 0) : 1 ≤ (get b).2.1 ∧ (get b).2.1 ≤ b.length ∧ putI ((get b).1 : Nat) = b.take (get b).2.1 := by
 obtain ⟨u, n, h1, h2, h3, h4, h5, h6⟩ := getA_inv b 0 0 (get b).1 (get b).2.1 (by rw [← h]; rfl) (by omega)
 simp at h4 h5
 refine ⟨by omega, by omega, ?_⟩
 unfold putI
 rw [if_neg (by omega), h4, h1, h5]; simp
theorem le_fixed (n : Nat) : ∀ v, le (fixed n v) = v % 256 ^ n := by
 induction n with
 | zero => intro v; simp [fixed, le, Nat.mod_one]
 | succ n ih =>
  intro v
  rw [fixed_succ, le_snoc, fixed_length, ih]
  have : (v / 256 ^ n % 256).toUInt8.toNat = v / 256 ^ n % 256 := by simp
  rw [this, Nat.pow_succ, Nat.mod_mul, Nat.mul_comm]
theorem fixed_le : ∀ (b : List UInt8), fixed b.length (le b) = b := by
 intro b
 apply List.ext_getElem (by rw [fixed_length])
 intro i h1 h2
 simp only [fixed, List.getElem_map, List.getElem_range]
 have key : ∀ (l : List UInt8) (i : Nat) (h : i < l.length), le l / 256 ^ i % 256 = l[i].toNat := by
  intro l
  induction l with
  | nil => intro i h; simp at h
  | cons c r ih =>
   intro i h
   have hc := c.toNat_lt
   cases i with
   | zero => simp only [le, Nat.pow_zero, Nat.div_one, List.getElem_cons_zero]; omega
   | succ i =>
    simp only [le, List.getElem_cons_succ, Nat.pow_succ]
    rw [Nat.mul_comm (256 ^ i), ← Nat.div_div_eq_div_mul, show (c.toNat + 256 * le r) / 256 = le r by omega]
    exact ih i (by simpa using h)
 rw [key b i h2]
 simp
theorem fixed_word {b : List UInt8} (h0 : 0 < b.length) (h : b.length ≤ 8) : fixedI (word b : Nat) (b.length : Nat) = b := by
 rw [fixedI_some (by omega), Int.toNat_natCast, Int.toNat_natCast]
 unfold word
 rw [List.take_of_length_le h, fixed_le]
theorem Put_ok (v : Int) (hv : inK .i64 v) (w : World) : Calls Try.prog 63 [.int .i64 v].toArray w (Rt fun r w' => ∃ rs, SlB 5 r (putI v) rs ∧ Mem w [] w' [rs]) := by
 have hM0 : Mem w [] w [] := Mem.nil w []
 simp only [inK] at hv
 refine calls_vc mixed Try.func63 rfl C63 (by simp [Try.ntmps63]) <| seq fun _ h1 => mv <| h1 _ _ <| seq fun _ h2 => seq fun _ h3 => mv <| bn rfl rfl <| h3 _ _ <| cndP rfl (fun c4 => ?_) (fun c4 => ?_)
 ·refine seq fun _ h5 => mv <| h5 _ _ <| ⟨(.slice none 0 0), rfl, ⟨[], by unfold putI; rw [if_pos c4]; exact Sl.nil 1 5, hM0.addNil⟩⟩
 refine h2 _ _ <| seq fun _ h6 => mv <| h6 _ _ <| seq fun _ h7 => lp (n := fun _ _ => False) (ι := (Int) × (List UInt8) × (Value) × (List Ent)) (fun ⟨v', p, r, rs⟩ f w' => f 0 = .int .i64 v' ∧ f 3 = r ∧ Mem w [] w' [rs] ∧ (SlB 5 r p rs) ∧ (0 ≤ v' ∧ v' ≤ 9223372036854775807) ∧ (p ++ putI v' = putI v) ∧ (p.length ≤ 9)) (fun ⟨v', p, r, rs⟩ => v'.toNat) (v, [], .slice none 0 0, []) ?_ ?_
 ·exact ⟨vi, rfl, hM0.addNil, Sl.nil 1 5, by omega, by simp, by simp⟩
 rintro ⟨v', p, r, rs⟩ f w8 ⟨e8_0, e8_3, hM8, hs, hv1, hp, hl⟩ K9 h9
 obtain ⟨frm, rfl⟩ := re2 e8_0 e8_3
 refine seq fun _ h10 => seq fun _ h11 => mv <| bn rfl rfl <| h11 _ _ <| cndP rfl (fun c12 => ?_) (fun c12 => ?_)
 ·refine h10 _ _ <| seq fun _ h13 => mv <| mv <| stp (v := .int .u8 (v' % 256)) (o_conv rfl (v_u8 _)) <| stp (v := .int .u8 (v' % 128 + 128)) (o_bin rfl rfl (v_int (low_or v'))) <| m_app1 (E := byteV) (q := (v' % 128 + 128).toNat.toUInt8) hM8 (i := 0) rfl hs rfl (by simp) (byteV_of (by omega) (by omega)) (by omega) (by omega) fun v14 w14 r14 u14 (hs14 : SlE byteV 5 v14 (p ++ [(v' % 128 + 128).toNat.toUInt8]) r14) (hM14 : Mem w [] w14 [r14]) => mv <| h13 _ _ <| mv <| stp (v := .int .i64 (v' / 128)) (o_shr rfl rfl (by omega) (v_shr 7 (by decide))) <| mv <| h9 (v' / 128, p ++ [(v' % 128 + 128).toNat.toUInt8], v14, r14) _ _ ⟨vi, rfl, hM14, hs14, by omega, by rw [← hp, putI_ge (v := v') (by omega), List.append_assoc]; rfl, by have h1 := putI_len hv.2; have h2 := putI_pos (v := v' / 128) (by omega); rw [← hp, putI_ge (v := v') (by omega)] at h1; simp at h1 ⊢; omega⟩ (by (try dsimp only); omega)
 refine h7 _ _ <| seq fun _ h15 => mv <| mv <| stp (v := .int .u8 (v' % 256)) (o_conv rfl (v_u8 _)) <| m_app1 (E := byteV) (q := v'.toNat.toUInt8) hM8 (i := 0) rfl hs rfl (by simp) (by rw [Int.emod_eq_of_lt (by omega) (by omega)]; exact byteV_of (by omega) (by omega)) (by omega) (by omega) fun v16 w16 r16 u16 (hs16 : SlE byteV 5 v16 (p ++ [v'.toNat.toUInt8]) r16) (hM16 : Mem w [] w16 [r16]) => mv <| h15 _ _ <| ⟨v16, rfl, ⟨_, by rw [← hp, putI_lt (by omega) (by omega)]; exact hs16, hM16⟩⟩
theorem Get_ok (x : Value) (b : List UInt8) (w : World) (hx : RdB w x b) (hl : b.length ≤ 1152921504606846976) : Calls Try.prog 71 [x].toArray w (Rt fun r w' => r = tup3 (get b) ∧ Upd [] w w') := by
 have hM0 : Mem w [] w [] := Mem.nil w []
 refine calls_vc mixed Try.func71 rfl C71 (by simp [Try.ntmps71]) <| seq fun _ h1 => mv <| mv <| mv <| h1 _ _ <| seq fun _ h2 => mv <| h2 _ _ <| seq fun _ h3 => seq fun _ h4 => mv <| stp (v := .int .i64 (b.length : Nat)) (o_lenR (hx.upd hM0.upd) rfl rfl) <| mv ?_
 refine h4 _ _ <| lp (n := fun _ _ => False) (ι := (Nat) × (Nat)) (fun ⟨i, v⟩ f w' => f 5 = .int .i64 (v : Nat) ∧ f 8 = x ∧ f 9 = .int .i64 (b.length : Nat) ∧ f 10 = .int .i64 (i : Nat) ∧ Mem w [] w' [] ∧ (i ≤ b.length ∧ i ≤ 8) ∧ (v < 128 ^ i) ∧ (get b = getA i v (b.drop i))) (fun ⟨i, v⟩ => b.length - i) (0, 0) ?_ ?_
 ·exact ⟨vi, rfl, vi, vi, hM0, by omega, by simp, rfl⟩
 rintro ⟨i, v⟩ f w5 ⟨e5_5, e5_8, e5_9, e5_10, hM5, hi, hv, hg⟩ K6 h6
 obtain ⟨frm, rfl⟩ := re4 e5_5 e5_8 e5_9 e5_10
 refine seq fun _ h7 => bn rfl rfl <| h7 _ _ <| seq fun _ h8 => cndP rfl (fun c9 => ?_) (fun c9 => ?_)
 ·refine h8 _ _ <| seq fun _ h10 => seq fun _ h11 => mv <| m_idxE 0 (j := i) (hx.upd hM5.upd) rfl rfl (by omega) fun b12 o12 hp12 => ld (v := byteV (b.getD i 0)) rfl (hp12) <| mv <| mv <| h11 _ _ <| seq fun _ h13 => seq fun _ h14 => mv <| bn rfl rfl <| mv ?_
  refine splitP rfl (fun c15 => ?_) (fun c15 => ?_)
  ·refine gmv rfl <| gbn rfl rfl rfl <| pkT rfl <| h14 _ _ <| cndP rfl (fun c16 => ?_) (fun c16 => ?_)
   ·refine seq fun _ h17 => mv <| mv <| mv <| h17 _ _ <| ⟨(.tuple [.int .i64 0, .int .i64 0, .int .i64 21].toArray), rfl, ⟨ret3 (get_far hg (by omega) (by omega) (by omega)), hM5.upd⟩⟩
   refine h13 _ _ <| seq fun _ h18 => mv <| mv <| stp (v := .int .u8 ((b.getD i 0).toNat % 128 : Nat)) (o_bin rfl rfl (and127 _)) <| stp (v := .int .i64 ((b.getD i 0).toNat % 128 : Nat)) (o_conv rfl (v_same (by simp only [inK]; omega))) <| mv <| stp (v := .int .i64 (7 * (i : Nat))) (o_bin rfl rfl (v_mul64 (by omega))) <| stp (v := .int .i64 ((b.getD i 0).toNat % 128 * 128 ^ i : Nat)) (o_shl rfl rfl (by omega) (get_shl (m128 _) (by omega))) <| stp (v := .int .i64 (v + (b.getD i 0).toNat % 128 * 128 ^ i : Nat)) (o_bin rfl rfl (get_or (m128 _) (by omega) hv)) <| mv <| h18 _ _ <| seq fun _ h19 => mv <| bn rfl rfl <| h19 _ _ <| cndP rfl (fun c20 => ?_) (fun c20 => ?_)
   ·refine seq fun _ h21 => seq fun _ h22 => mv <| bn rfl rfl <| mv <| splitP rfl (fun c23 => ?_) (fun c23 => ?_)
    ·refine gmv rfl <| gbn rfl rfl rfl <| pkT rfl <| h22 _ _ <| cndP rfl (fun c24 => ?_) (fun c24 => ?_)
     ·refine seq fun _ h25 => mv <| mv <| mv <| h25 _ _ <| ⟨(.tuple [.int .i64 0, .int .i64 0, .int .i64 21].toArray), rfl, ⟨ret3 (get_zero hg (by omega) (by omega) (by omega)), hM5.upd⟩⟩
     refine h21 _ _ <| seq fun _ h26 => mv <| mv <| stp (v := .int .i64 ((i : Nat) + 1)) (o_bin rfl rfl (v_add64 (by omega))) <| mv <| mv <| mv <| h26 _ _ <| ⟨(.tuple [.int .i64 (v + (b.getD i 0).toNat % 128 * 128 ^ i : Nat), .int .i64 ((i : Nat) + 1), .int .i64 0].toArray), rfl, ⟨ret3 (get_stop hg (by omega) (by omega) (fun h => by have := h.1; have := h.2; omega)), hM5.upd⟩⟩
    refine gx rfl <| gx rfl <| pkF rfl <| h22 _ _ <| cndF rfl <| h21 _ _ <| seq fun _ h27 => mv <| mv <| stp (v := .int .i64 ((i : Nat) + 1)) (o_bin rfl rfl (v_add64 (by omega))) <| mv <| mv <| mv <| h27 _ _ <| ⟨(.tuple [.int .i64 (v + (b.getD i 0).toNat % 128 * 128 ^ i : Nat), .int .i64 ((i : Nat) + 1), .int .i64 0].toArray), rfl, ⟨ret3 (get_stop hg (by omega) (by omega) (fun h => by have := h.1; have := h.2; omega)), hM5.upd⟩⟩
   refine h10 _ _ <| stp (v := .int .i64 ((i : Nat) + 1)) (o_bin rfl rfl (v_add64 (by omega))) <| mv <| h6 (i + 1, v + (b.getD i 0).toNat % 128 * 128 ^ i) _ _ ⟨vi, rfl, vi, vi, hM5, by omega, (digit_bd (m128 _) (by omega) hv).1, get_more hg (by omega) (by omega) (by omega)⟩ (by (try dsimp only); omega)
  refine gx rfl <| gx rfl <| pkF rfl <| h14 _ _ <| cndF rfl <| h13 _ _ <| seq fun _ h28 => mv <| mv <| stp (v := .int .u8 ((b.getD i 0).toNat % 128 : Nat)) (o_bin rfl rfl (and127 _)) <| stp (v := .int .i64 ((b.getD i 0).toNat % 128 : Nat)) (o_conv rfl (v_same (by simp only [inK]; omega))) <| mv <| stp (v := .int .i64 (7 * (i : Nat))) (o_bin rfl rfl (v_mul64 (by omega))) <| stp (v := .int .i64 ((b.getD i 0).toNat % 128 * 128 ^ i : Nat)) (o_shl rfl rfl (by omega) (get_shl (m128 _) (by omega))) <| stp (v := .int .i64 (v + (b.getD i 0).toNat % 128 * 128 ^ i : Nat)) (o_bin rfl rfl (get_or (m128 _) (by omega) hv)) <| mv <| h28 _ _ <| seq fun _ h29 => mv <| bn rfl rfl <| h29 _ _ <| cndP rfl (fun c30 => ?_) (fun c30 => ?_)
  ·refine seq fun _ h31 => seq fun _ h32 => mv <| bn rfl rfl <| mv <| splitP rfl (fun c33 => ?_) (fun c33 => ?_)
   ·refine gmv rfl <| gbn rfl rfl rfl <| pkT rfl <| h32 _ _ <| cndP rfl (fun c34 => ?_) (fun c34 => ?_)
    ·refine seq fun _ h35 => mv <| mv <| mv <| h35 _ _ <| ⟨(.tuple [.int .i64 0, .int .i64 0, .int .i64 21].toArray), rfl, ⟨ret3 (get_zero hg (by omega) (by omega) (by omega)), hM5.upd⟩⟩
    refine h31 _ _ <| seq fun _ h36 => mv <| mv <| stp (v := .int .i64 ((i : Nat) + 1)) (o_bin rfl rfl (v_add64 (by omega))) <| mv <| mv <| mv <| h36 _ _ <| ⟨(.tuple [.int .i64 (v + (b.getD i 0).toNat % 128 * 128 ^ i : Nat), .int .i64 ((i : Nat) + 1), .int .i64 0].toArray), rfl, ⟨ret3 (get_stop hg (by omega) (by omega) (fun h => by have := h.1; have := h.2; omega)), hM5.upd⟩⟩
   refine gx rfl <| gx rfl <| pkF rfl <| h32 _ _ <| cndF rfl <| h31 _ _ <| seq fun _ h37 => mv <| mv <| stp (v := .int .i64 ((i : Nat) + 1)) (o_bin rfl rfl (v_add64 (by omega))) <| mv <| mv <| mv <| h37 _ _ <| ⟨(.tuple [.int .i64 (v + (b.getD i 0).toNat % 128 * 128 ^ i : Nat), .int .i64 ((i : Nat) + 1), .int .i64 0].toArray), rfl, ⟨ret3 (get_stop hg (by omega) (by omega) (fun h => by have := h.1; have := h.2; omega)), hM5.upd⟩⟩
  refine h10 _ _ <| stp (v := .int .i64 ((i : Nat) + 1)) (o_bin rfl rfl (v_add64 (by omega))) <| mv <| h6 (i + 1, v + (b.getD i 0).toNat % 128 * 128 ^ i) _ _ ⟨vi, rfl, vi, vi, hM5, by omega, (digit_bd (m128 _) (by omega) hv).1, get_more hg (by omega) (by omega) (by omega)⟩ (by (try dsimp only); omega)
 refine h3 _ _ <| seq fun _ h38 => mv <| mv <| mv <| h38 _ _ <| ⟨(.tuple [.int .i64 0, .int .i64 0, .int .i64 20].toArray), rfl, ⟨ret3 (get_end hg (by omega)), hM5.upd⟩⟩
theorem Fixed_ok (v n : Int) (hv : inK .u64 v) (hn : inK .i64 n) (w : World) : Calls Try.prog 49 [.int .u64 v, .int .i64 n].toArray w (Rt fun r w' => ∃ rs, SlB 5 r (fixedI v n) rs ∧ Mem w [] w' [rs]) := by
 have hM0 : Mem w [] w [] := Mem.nil w []
 simp only [inK] at hv hn
 refine calls_vc mixed Try.func49 rfl C49 (by simp [Try.ntmps49]) <| seq fun _ h1 => mv <| h1 _ _ <| seq fun _ h2 => seq fun _ h3 => mv <| bn rfl rfl <| mv <| splitP rfl (fun c4 => ?_) (fun c4 => ?_)
 ·refine gx rfl <| gx rfl <| pkT rfl <| h3 _ _ <| cndT rfl <| seq fun _ h5 => mv <| h5 _ _ <| ⟨(.slice none 0 0), rfl, ⟨[], by rw [fixedI_none (by omega)]; exact Sl.nil 1 5, hM0.addNil⟩⟩
 refine gmv rfl <| gbn rfl rfl rfl <| pkF rfl <| h3 _ _ <| cndP rfl (fun c6 => ?_) (fun c6 => ?_)
 ·refine seq fun _ h7 => mv <| h7 _ _ <| ⟨(.slice none 0 0), rfl, ⟨[], by rw [fixedI_none (by omega)]; exact Sl.nil 1 5, hM0.addNil⟩⟩
 refine h2 _ _ <| seq fun _ h8 => mv <| m_mksE (E := byteV) (z := 0) (n := n.toNat) (c := n.toNat) rfl hM0 (v_int (by omega)) (v_int (by omega)) (by omega) (by omega) (by omega) fun v9 w9 r9 hs9 (hM9 : Mem w [] w9 [r9]) => mv <| h8 _ _ <| seq fun _ h10 => seq fun _ h11 => mv <| stp (v := .int .i64 ((List.replicate n.toNat 0).length : Nat)) (o_lenR (hs9.rd hM9 (i := 0) rfl) rfl rfl) <| mv <| h11 _ _ <| lp (n := fun _ _ => False) (ι := (Nat) × (Value) × (List Ent)) (fun ⟨i, x, r⟩ f w' => f 0 = .int .u64 v ∧ f 5 = x ∧ f 16 = .int .i64 (n.toNat : Nat) ∧ f 17 = .int .i64 (i : Nat) ∧ Mem w [] w' [r] ∧ (SlB 5 x (fixed i v.toNat ++ List.replicate (n.toNat - i) 0) r) ∧ (i ≤ n.toNat)) (fun ⟨i, x, r⟩ => n.toNat - i) (0, v9, r9) ?_ ?_
 ·exact ⟨vi, rfl, vi, vi, hM9, by simpa [fixed] using hs9, by omega⟩
 rintro ⟨i, x, r⟩ f w12 ⟨e12_0, e12_5, e12_16, e12_17, hM12, hs, hi⟩ K13 h13
 obtain ⟨frm, rfl⟩ := re4 e12_0 e12_5 e12_16 e12_17
 refine seq fun _ h14 => bn rfl rfl <| h14 _ _ <| seq fun _ h15 => cndP rfl (fun c16 => ?_) (fun c16 => ?_)
 ·refine h15 _ _ <| seq fun _ h17 => seq fun _ h18 => mv <| mv <| h18 _ _ <| mv <| mv <| mv <| mv <| stp (v := .int .i64 (8 * (i : Nat))) (o_bin rfl rfl (v_mul64 (by omega))) <| stp (v := .int .u64 (shrI .u64 v (8 * (i : Nat)))) (o_shr rfl rfl (by omega) rfl) <| stp (v := byteV ((v.toNat / 256 ^ i % 256).toUInt8)) (o_conv rfl (shr_byte (by omega) (by omega))) <| m_set (E := byteV) (q := (v.toNat / 256 ^ i % 256).toUInt8) (j := i) hM12 (i := 0) rfl hs rfl rfl (by simp [fixed_length]; omega) (by simp) (rfl) fun w19 r19 u19 he19 hs19 (hM19 : Mem w [] w19 [r19]) => ?_
  refine h17 _ _ <| stp (v := .int .i64 ((i : Nat) + 1)) (o_bin rfl rfl (v_add64 (by omega))) <| mv <| h13 (i + 1, x, r19) _ _ ⟨vi, rfl, vi, vi, hM19, by rw [← fixed_set (by omega)]; exact hs19, by omega⟩ (by (try dsimp only); omega)
 refine h10 _ _ <| seq fun _ h20 => mv <| mv <| h20 _ _ <| ⟨x, rfl, ?_⟩
 have e : i = n.toNat := by omega
 subst e
 rw [Nat.sub_self, List.replicate_zero, List.append_nil] at hs
 exact ⟨_, by rw [fixedI_some (by omega)]; exact hs, hM12⟩
theorem Word_ok (x : Value) (b : List UInt8) (w : World) (hx : RdB w x b) (hl : b.length ≤ 1152921504606846976) : Calls Try.prog 17 [x].toArray w (Rt fun r w' => r = .int .u64 ((word b : Nat) : Int) ∧ Upd [] w w') := by
 have hM0 : Mem w [] w [] := Mem.nil w []
 refine calls_vc mixed Try.func17 rfl C17 (by simp [Try.ntmps17]) <| seq fun _ h1 => mv <| h1 _ _ <| seq fun _ h2 => mv <| h2 _ _ <| seq fun _ h3 => seq fun _ h4 => mv <| stp (v := .int .i64 (b.length : Nat)) (o_lenR (hx.upd hM0.upd) rfl rfl) <| stp (v := .int .i64 (min ((b.length : Nat) : Int) (8 : Int))) (o_mm rfl rfl rfl) <| mv <| h4 _ _ ?_
 refine lp (n := fun _ _ => False) (ι := (Nat)) (fun i f w' => f 0 = x ∧ f 3 = .int .u64 (le (b.take i) : Nat) ∧ f 7 = .int .i64 (min b.length 8 : Nat) ∧ f 8 = .int .i64 (i : Nat) ∧ Mem w [] w' [] ∧ (i ≤ b.length ∧ i ≤ 8)) (fun i => b.length - i) (0) ?_ ?_
 ·exact ⟨rfl, vi, vi, vi, hM0, by omega⟩
 rintro i f w5 ⟨e5_0, e5_3, e5_7, e5_8, hM5, hi⟩ K6 h6
 obtain ⟨frm, rfl⟩ := re4 e5_0 e5_3 e5_7 e5_8
 refine seq fun _ h7 => bn rfl rfl <| h7 _ _ <| seq fun _ h8 => cndP rfl (fun c9 => ?_) (fun c9 => ?_)
 ·refine h8 _ _ <| seq fun _ h10 => seq fun _ h11 => mv <| mv <| h11 _ _ <| mv <| mv <| mv <| m_idxE 0 (j := i) (hx.upd hM5.upd) rfl rfl (by omega) fun b12 o12 hp12 => ld (v := byteV (b.getD i 0)) rfl (hp12) <| stp (v := .int .u64 ((b.getD i 0).toNat : Int)) (o_conv rfl (v_byteTo (by decide))) <| mv <| stp (v := .int .i64 (8 * (i : Nat))) (o_bin rfl rfl (v_mul64 (by omega))) ?_
  refine stp (v := .int .u64 ((b.getD i 0).toNat * 256 ^ i : Nat)) (o_shl rfl rfl (by omega) (word_shl (by omega))) <| stp (v := .int .u64 (le (b.take (i + 1)) : Nat)) (o_bin rfl rfl (word_or (by omega) (by omega))) <| mv <| h10 _ _ <| stp (v := .int .i64 ((i : Nat) + 1)) (o_bin rfl rfl (v_add64 (by omega))) <| mv <| h6 (i + 1) _ _ ⟨rfl, vi, vi, vi, hM5, by omega⟩ (by (try dsimp only); omega)
 refine h3 _ _ <| seq fun _ h13 => mv <| mv <| h13 _ _ <| ⟨(.int .u64 (le (b.take i) : Nat)), rfl, ⟨by rw [word_end (by omega) (by omega) (by omega)], hM5.upd⟩⟩
def common : List UInt8 → List UInt8 → Nat
 | x :: a, y :: b => if x = y then common a b + 1 else 0
 | _, _ => 0
def cmp : List UInt8 → List UInt8 → Int
 | [], [] => 0
 | [], _ :: _ => -1
 | _ :: _, [] => 1
 | x :: a, y :: b => if x.toNat < y.toNat then -1 else if y.toNat < x.toNat then 1 else cmp a b
theorem cmp_drop (i : Nat) : ∀ {a b : List UInt8}, a.take i = b.take i → i ≤ a.length → i ≤ b.length → cmp a b = cmp (a.drop i) (b.drop i) := by
 induction i with
 | zero => intro a b _ _ _; rfl
 | succ i ih =>
  intro a b h ha hb
  match a, b with
  | [], _ => simp at ha
  | _ :: _, [] => simp at hb
  | x :: a, y :: b =>
   simp only [List.take_succ_cons, List.cons.injEq] at h
   simp only [List.length_cons] at ha hb
   obtain ⟨rfl, h⟩ := h
   simp only [cmp, Nat.lt_irrefl, if_false, List.drop_succ_cons]
   exact ih h (by omega) (by omega)
theorem common_drop (i : Nat) : ∀ {a b : List UInt8}, a.take i = b.take i → i ≤ a.length → i ≤ b.length → common a b = i + common (a.drop i) (b.drop i) := by
 induction i with
 | zero => intro a b _ _ _; simp
 | succ i ih =>
  intro a b h ha hb
  match a, b with
  | [], _ => simp at ha
  | _ :: _, [] => simp at hb
  | x :: a, y :: b =>
   simp only [List.take_succ_cons, List.cons.injEq] at h
   simp only [List.length_cons] at ha hb
   obtain ⟨rfl, h⟩ := h
   simp only [common, if_true, List.drop_succ_cons]
   rw [ih h (by omega) (by omega)]; omega
theorem cmp_lt {a b : List UInt8} {i : Nat} (hp : a.take i = b.take i) (ha : i < a.length) (hb : i < b.length) (h : ((a.getD i 0).toNat : Int) < (b.getD i 0).toNat) : cmp a b = -1 := by
 rw [cmp_drop i hp (by omega) (by omega), drop_getD ha, drop_getD hb, cmp, if_pos (by omega)]
theorem cmp_gt {a b : List UInt8} {i : Nat} (hp : a.take i = b.take i) (ha : i < a.length) (hb : i < b.length) (h : ((b.getD i 0).toNat : Int) < (a.getD i 0).toNat) : cmp a b = 1 := by
 rw [cmp_drop i hp (by omega) (by omega), drop_getD ha, drop_getD hb, cmp, if_neg (by omega), if_pos (by omega)]
theorem cmp_short {a b : List UInt8} {i : Nat} (hp : a.take i = b.take i) (ha : i = a.length) (hb : i < b.length) : cmp a b = -1 := by
 rw [cmp_drop i hp (by omega) (by omega), List.drop_eq_nil_of_le (by omega), drop_getD hb, cmp]
theorem cmp_long {a b : List UInt8} {i : Nat} (hp : a.take i = b.take i) (ha : i < a.length) (hb : i = b.length) : cmp a b = 1 := by
 rw [cmp_drop i hp (by omega) (by omega), show b.drop i = [] from List.drop_eq_nil_of_le (by omega), drop_getD ha, cmp]
theorem cmp_same {a b : List UInt8} {i : Nat} (hp : a.take i = b.take i) (ha : i = a.length) (hb : i = b.length) : cmp a b = 0 := by
 rw [cmp_drop i hp (by omega) (by omega), show b.drop i = [] from List.drop_eq_nil_of_le (by omega), List.drop_eq_nil_of_le (by omega), cmp]
theorem common_at {a b : List UInt8} {i : Nat} (hp : a.take i = b.take i) (ha : i < a.length) (hb : i < b.length) (h : ¬ a.getD i 0 = b.getD i 0) : common a b = i := by
 rw [common_drop i hp (by omega) (by omega), drop_getD ha, drop_getD hb, common, if_neg h]; omega
theorem common_end {a b : List UInt8} {i : Nat} (hp : a.take i = b.take i) (h : i = min a.length b.length) : common a b = i := by
 rw [common_drop i hp (by omega) (by omega)]
 rcases Nat.le_total a.length b.length with h1 | h1
 ·rw [show a.drop i = [] from List.drop_eq_nil_of_le (by omega)]; simp [common]
 rw [show b.drop i = [] from List.drop_eq_nil_of_le (by omega)]
 cases a.drop i <;> simp [common]
theorem common_le : ∀ (a b : List UInt8), common a b ≤ a.length ∧ common a b ≤ b.length ∧ a.take (common a b) = b.take (common a b) ∧ (common a b < a.length → common a b < b.length → ¬ a.getD (common a b) 0 = b.getD (common a b) 0)
 | [], b => by simp [common]
 | x :: a, [] => by simp [common]
 | x :: a, y :: b => by
  obtain ⟨h1, h2, h3, h4⟩ := common_le a b
  by_cases h : x = y
  ·subst h
   simp only [common, if_true, List.length_cons, List.take_succ_cons]
   refine ⟨by omega, by omega, by rw [h3], fun i j => ?_⟩
   simpa using h4 (by omega) (by omega)
  simp [common, h]
theorem nat_ne {x y : UInt8} (h : ¬ (x.toNat : Int) = (y.toNat : Int)) : ¬ x = y := fun e => h (by rw [e])
theorem Compare_ok (a b : List UInt8) (w : World) (hla : a.length ≤ 1152921504606846976) (hlb : b.length ≤ 1152921504606846976) : Calls Try.prog 23 [.string (str a), .string (str b)].toArray w (Rt fun r w' => r = .int .i64 (cmp a b) ∧ Upd [] w w') := by
 have hM0 : Mem w [] w [] := Mem.nil w []
 refine calls_vc mixed Try.func23 rfl C23 (by simp [Try.ntmps23]) <| seq fun _ h1 => mv <| h1 _ _ <| seq fun _ h2 => seq fun _ h3 => mv <| stp (v := .int .i64 (a.length : Nat)) (o_lens rfl rfl) <| mv <| stp (v := .int .i64 (b.length : Nat)) (o_lens rfl rfl) <| stp (v := .int .i64 (min ((a.length : Nat) : Int) ((b.length : Nat) : Int))) (o_mm rfl rfl rfl) <| mv <| h3 _ _ <| lp (n := fun _ _ => False) (ι := (Nat)) (fun i f w' => f 0 = .string (str a) ∧ f 1 = .string (str b) ∧ f 10 = .int .i64 (min a.length b.length : Nat) ∧ f 11 = .int .i64 (i : Nat) ∧ Mem w [] w' [] ∧ (i ≤ min a.length b.length) ∧ (a.take i = b.take i)) (fun i => min a.length b.length - i) (0) ?_ ?_
 ·exact ⟨by first | rfl | simp [upd], by first | rfl | simp [upd], vi, vi, hM0, by omega, by simp⟩
 rintro i f w4 ⟨e4_0, e4_1, e4_10, e4_11, hM4, hi, hp⟩ K5 h5
 obtain ⟨frm, rfl⟩ := re4 e4_0 e4_1 e4_10 e4_11
 refine seq fun _ h6 => bn rfl rfl <| h6 _ _ <| seq fun _ h7 => cndP rfl (fun c8 => ?_) (fun c8 => ?_)
 ·refine h7 _ _ <| seq fun _ h9 => seq fun _ h10 => mv <| mv <| h10 _ _ <| seq fun _ h11 => ?_
  intro wd e1 e2 e3 e4
  have hd := Upd.same e1 e2 e3 e4 []
  have hM12 := hM4.pure hd
  clear e1 e2 e3 e4
  refine ⟨none, ?_⟩
  show vd _ _ _ _ _ _ _
  refine dmv <| dmv <| dq (v := byteV (a.getD i 0)) (o_idxs rfl rfl (by omega) rfl) <| dmv <| dmv <| dq (v := byteV (b.getD i 0)) (o_idxs rfl rfl (by omega) rfl) <| dbn rfl rfl <| dmv <| h11 _ _ <| cndP rfl (fun c13 => ?_) (fun c13 => ?_)
  ·refine seq fun _ h14 => mv <| h14 _ _ <| ⟨(.int .i64 (-1)), rfl, ⟨by rw [cmp_lt hp (by omega) (by omega) (by omega)], hM12.upd⟩⟩
  refine seq fun _ h15 => ?_
  intro wd e1 e2 e3 e4
  have hd := Upd.same e1 e2 e3 e4 []
  have hM16 := hM12.pure hd
  clear e1 e2 e3 e4
  refine ⟨none, ?_⟩
  show vd _ _ _ _ _ _ _
  refine dmv <| dmv <| dq (v := byteV (a.getD i 0)) (o_idxs rfl rfl (by omega) rfl) <| dmv <| dmv <| dq (v := byteV (b.getD i 0)) (o_idxs rfl rfl (by omega) rfl) <| dbn rfl rfl <| dmv <| h15 _ _ <| cndP rfl (fun c17 => ?_) (fun c17 => ?_)
  ·refine seq fun _ h18 => mv <| h18 _ _ <| ⟨(.int .i64 1), rfl, ⟨by rw [cmp_gt hp (by omega) (by omega) (by omega)], hM16.upd⟩⟩
  refine h9 _ _ <| stp (v := .int .i64 ((i : Nat) + 1)) (o_bin rfl rfl (v_add64 (by omega))) <| mv <| h5 (i + 1) _ _ ⟨by first | rfl | simp [upd], by first | rfl | simp [upd], vi, vi, hM16, by omega, take_succ_eq hp (by omega) (by omega) (u8_eq (by omega))⟩ (by (try dsimp only); omega)
 refine h2 _ _ <| seq fun _ h19 => seq fun _ h20 => mv <| stp (v := .int .i64 (a.length : Nat)) (o_lens rfl rfl) <| mv <| stp (v := .int .i64 (b.length : Nat)) (o_lens rfl rfl) <| bn rfl rfl <| mv <| h20 _ _ <| cndP rfl (fun c21 => ?_) (fun c21 => ?_)
 ·refine seq fun _ h22 => mv <| h22 _ _ <| ⟨(.int .i64 (-1)), rfl, ⟨by rw [cmp_short hp (by omega) (by omega)], hM4.upd⟩⟩
 refine seq fun _ h23 => mv <| stp (v := .int .i64 (a.length : Nat)) (o_lens rfl rfl) <| mv <| stp (v := .int .i64 (b.length : Nat)) (o_lens rfl rfl) <| bn rfl rfl <| mv <| h23 _ _ <| cndP rfl (fun c24 => ?_) (fun c24 => ?_)
 ·refine seq fun _ h25 => mv <| h25 _ _ <| ⟨(.int .i64 1), rfl, ⟨by rw [cmp_long hp (by omega) (by omega)], hM4.upd⟩⟩
 refine h19 _ _ <| seq fun _ h26 => mv <| h26 _ _ <| ⟨(.int .i64 0), rfl, ⟨by rw [cmp_same hp (by omega) (by omega)], hM4.upd⟩⟩
theorem Common_ok (a b : List UInt8) (w : World) (hla : a.length ≤ 1152921504606846976) (hlb : b.length ≤ 1152921504606846976) : Calls Try.prog 68 [.string (str a), .string (str b)].toArray w (Rt fun r w' => r = .int .i64 ((common a b : Nat) : Int) ∧ Upd [] w w') := by
 have hM0 : Mem w [] w [] := Mem.nil w []
 refine calls_vc mixed Try.func68 rfl C68 (by simp [Try.ntmps68]) <| seq fun _ h1 => mv <| h1 _ _ <| seq fun _ h2 => seq fun _ h3 => mv <| stp (v := .int .i64 (a.length : Nat)) (o_lens rfl rfl) <| mv <| stp (v := .int .i64 (b.length : Nat)) (o_lens rfl rfl) <| stp (v := .int .i64 (min ((a.length : Nat) : Int) ((b.length : Nat) : Int))) (o_mm rfl rfl rfl) <| mv <| h3 _ _ <| lp (n := fun _ _ => False) (ι := (Nat)) (fun i f w' => f 0 = .string (str a) ∧ f 1 = .string (str b) ∧ f 10 = .int .i64 (min a.length b.length : Nat) ∧ f 11 = .int .i64 (i : Nat) ∧ Mem w [] w' [] ∧ (i ≤ min a.length b.length) ∧ (a.take i = b.take i)) (fun i => min a.length b.length - i) (0) ?_ ?_
 ·exact ⟨by first | rfl | simp [upd], by first | rfl | simp [upd], vi, vi, hM0, by omega, by simp⟩
 rintro i f w4 ⟨e4_0, e4_1, e4_10, e4_11, hM4, hi, hp⟩ K5 h5
 obtain ⟨frm, rfl⟩ := re4 e4_0 e4_1 e4_10 e4_11
 refine seq fun _ h6 => bn rfl rfl <| h6 _ _ <| seq fun _ h7 => cndP rfl (fun c8 => ?_) (fun c8 => ?_)
 ·refine h7 _ _ <| seq fun _ h9 => seq fun _ h10 => mv <| mv <| h10 _ _ <| seq fun _ h11 => ?_
  intro wd e1 e2 e3 e4
  have hd := Upd.same e1 e2 e3 e4 []
  have hM12 := hM4.pure hd
  clear e1 e2 e3 e4
  refine ⟨none, ?_⟩
  show vd _ _ _ _ _ _ _
  refine dmv <| dmv <| dq (v := byteV (a.getD i 0)) (o_idxs rfl rfl (by omega) rfl) <| dmv <| dmv <| dq (v := byteV (b.getD i 0)) (o_idxs rfl rfl (by omega) rfl) <| dq (v := .bool (decide (¬ ((a.getD i 0).toNat : Int) = ((b.getD i 0).toNat : Int)))) (o_bin rfl rfl v_neq) <| h11 _ _ <| cndP rfl (fun c13 => ?_) (fun c13 => ?_)
  ·refine seq fun _ h14 => mv <| mv <| h14 _ _ <| ⟨(.int .i64 (i : Nat)), rfl, ⟨by rw [common_at hp (by omega) (by omega) (nat_ne (by omega))], hM12.upd⟩⟩
  refine h9 _ _ <| stp (v := .int .i64 ((i : Nat) + 1)) (o_bin rfl rfl (v_add64 (by omega))) <| mv <| h5 (i + 1) _ _ ⟨by first | rfl | simp [upd], by first | rfl | simp [upd], vi, vi, hM12, by omega, take_succ_eq hp (by omega) (by omega) (u8_eq (by omega))⟩ (by (try dsimp only); omega)
 refine h2 _ _ <| seq fun _ h15 => mv <| stp (v := .int .i64 (a.length : Nat)) (o_lens rfl rfl) <| mv <| stp (v := .int .i64 (b.length : Nat)) (o_lens rfl rfl) <| stp (v := .int .i64 (min ((a.length : Nat) : Int) ((b.length : Nat) : Int))) (o_mm rfl rfl rfl) <| mv <| h15 _ _ <| ⟨(.int .i64 (min ((a.length : Nat) : Int) ((b.length : Nat) : Int))), rfl, ⟨by rw [common_end hp (by omega)]; exact v_int (by omega), hM4.upd⟩⟩
end Go.Proofs.Ytifnmbmijljhfaa.E
namespace Go.Proofs.Ytifnmbmijljhfaa.E
open Go
def stepN (x : Nat) : Nat := if x % 2 = 1 then x / 2 ^^^ 2197175160 else x / 2
theorem stepN_lt {x : Nat} (h : x < 4294967296) : stepN x < 4294967296 := by
 unfold stepN
 split
 ·exact Nat.xor_lt_two_pow (n := 32) (by omega) (by omega)
 omega
theorem stepN_xor (a b : Nat) : stepN (a ^^^ b) = stepN a ^^^ stepN b := by
 unfold stepN
 have hd : (a ^^^ b) / 2 = a / 2 ^^^ b / 2 := by
  apply Nat.eq_of_testBit_eq
  intro i
  rw [Nat.testBit_div_two, Nat.testBit_xor, Nat.testBit_xor, Nat.testBit_div_two, Nat.testBit_div_two]
 have hp : ((a ^^^ b) % 2 = 1) ↔ ¬ ((a % 2 = 1) ↔ (b % 2 = 1)) := by
  have h1 : ∀ n : Nat, (n % 2 = 1) ↔ n.testBit 0 = true := fun n => by rw [Nat.testBit_zero]; simp
  rw [h1, h1, h1, Nat.testBit_xor]
  cases a.testBit 0 <;> cases b.testBit 0 <;> simp
 by_cases ha : a % 2 = 1 <;> by_cases hb : b % 2 = 1
 ·rw [if_neg (by rw [hp]; simp [ha, hb]), if_pos ha, if_pos hb, hd]
  rw [Nat.xor_assoc, ← Nat.xor_assoc 2197175160, Nat.xor_comm 2197175160, Nat.xor_assoc, Nat.xor_self, Nat.xor_zero]
 ·rw [if_pos (by rw [hp]; simp [ha, hb]), if_pos ha, if_neg hb, hd, Nat.xor_assoc, Nat.xor_comm (b / 2), ← Nat.xor_assoc]
 ·rw [if_pos (by rw [hp]; simp [ha, hb]), if_neg ha, if_pos hb, hd, Nat.xor_assoc]
 rw [if_neg (by rw [hp]; simp [ha, hb]), if_neg ha, if_neg hb, hd]
def stepK : Nat → Nat → Nat
 | 0, x => x
 | k + 1, x => stepN (stepK k x)
theorem stepK_lt {x : Nat} (h : x < 4294967296) : ∀ k, stepK k x < 4294967296
 | 0 => h
 | k + 1 => stepN_lt (stepK_lt h k)
theorem stepK_xor (k a b : Nat) : stepK k (a ^^^ b) = stepK k a ^^^ stepK k b := by
 induction k with
 | zero => rfl
 | succ k ih => show stepN (stepK k (a ^^^ b)) = _; rw [ih, stepN_xor]; rfl
theorem stepK_add (j k x : Nat) : stepK j (stepK k x) = stepK (j + k) x := by
 induction j with
 | zero => rw [Nat.zero_add]; rfl
 | succ j ih => rw [Nat.succ_add]; show stepN (stepK j (stepK k x)) = stepN (stepK (j + k) x); rw [ih]
theorem stepN_two (z : Nat) : stepN (2 * z) = z := by unfold stepN; rw [if_neg (by omega)]; omega
theorem stepK_hi (y : Nat) : stepK 4 (16 * y) = y := by
 show stepN (stepN (stepN (stepN (16 * y)))) = y
 rw [show 16 * y = 2 * (2 * (2 * (2 * y))) by omega, stepN_two, stepN_two, stepN_two, stepN_two]
theorem split16 (x : Nat) : x = 16 * (x / 16) ^^^ x % 16 := by
 apply Nat.eq_of_testBit_eq
 intro i
 have h := Nat.testBit_two_pow_mul_add (x / 16) (i := 4) (b := x % 16) (by omega) i
 have e : 2 ^ 4 * (x / 16) + x % 16 = x := by omega
 rw [e] at h
 have e2 : 16 * (x / 16) = 2 ^ 4 * (x / 16) := by omega
 rw [h, Nat.testBit_xor, e2, Nat.testBit_two_pow_mul]
 by_cases c : i < 4
 ·rw [if_pos c, decide_eq_false (by omega)]; simp
 rw [if_neg c, decide_eq_true (by omega)]
 have h3 : (x % 16).testBit i = false := Nat.testBit_lt_two_pow (by
  have : 2 ^ 4 ≤ 2 ^ i := Nat.pow_le_pow_right (by omega) (by omega)
  omega)
 rw [h3]; simp
theorem nib (x : Nat) : x / 16 ^^^ stepK 4 (x % 16) = stepK 4 x := by
 conv => rhs; rw [split16 x, stepK_xor, stepK_hi]
def crcX (x : Nat) (b : List UInt8) : Nat := b.foldl (fun x c => stepK 8 (x ^^^ c.toNat)) x
def crcN (s : Nat) (b : List UInt8) : Nat := 4294967295 - crcX (4294967295 - s) b
theorem crcN_lt (s : Nat) (b : List UInt8) : crcN s b < 4294967296 := by unfold crcN; omega
theorem cpl32 {n : Nat} (h : n < 4294967296) : 4294967295 ^^^ n = 4294967295 - n := by
 apply Nat.eq_of_testBit_eq
 intro i
 have h1 := Nat.testBit_two_pow_sub_succ (x := n) (n := 32) (by omega) i
 have h2 := Nat.testBit_two_pow_sub_one 32 i
 have e : (2 : Nat) ^ 32 = 4294967296 := rfl
 rw [e] at h1 h2
 rw [show 4294967296 - (n + 1) = 4294967295 - n by omega] at h1
 rw [show 4294967296 - 1 = 4294967295 from rfl] at h2
 rw [Nat.testBit_xor, h2, h1]
 by_cases c : i < 32
 ·rw [decide_eq_true c]; simp
 rw [decide_eq_false c, Nat.testBit_lt_two_pow (by
  have : 2 ^ 32 ≤ 2 ^ i := Nat.pow_le_pow_right (by omega) (by omega)
  have e : (2 : Nat) ^ 32 = 4294967296 := rfl
  omega)]; simp
theorem xor32 {a b : Nat} (ha : a < 4294967296) (hb : b < 4294967296) : xorI .u32 (a : Int) (b : Int) = ((a ^^^ b : Nat) : Int) :=
 xorI_nat (k := .u32) ha hb (by have := Nat.xor_lt_two_pow (n := 32) (x := a) (y := b) ha hb; simp only [inK]; omega)
theorem xor32_lt {a b : Nat} (ha : a < 4294967296) (hb : b < 4294967296) : a ^^^ b < 4294967296 := Nat.xor_lt_two_pow (n := 32) ha hb
theorem xor32_cpl {n : Nat} (h : n < 4294967296) : xorI .u32 4294967295 (n : Int) = ((4294967295 - n : Nat) : Int) := by
 have := xor32 (a := 4294967295) (b := n) (by omega) h
 rw [cpl32 h] at this
 exact this
theorem shr32 {n j : Nat} {z : Int} (hj : j < 32) (hz : z = (j : Int)) : Value.int .u32 ((n : Int).fdiv (2 ^ min z.toNat IntKind.u32.bits)) = .int .u32 ((n / 2 ^ j : Nat) : Int) := by
 subst hz; exact v_int (shrI_nat (k := .u32) (by simp only [IntKind.bits]; omega))
theorem and32_nat {a b : Nat} (ha : a < 4294967296) (hb : b < 4294967296) : binI .and .u32 (a : Int) (b : Int) = .int .u32 ((a &&& b : Nat) : Int) := by
 show Value.int .u32 (IntKind.u32.wrap (BitVec.ofInt 32 (a : Int) &&& BitVec.ofInt 32 (b : Int)).toNat) = _
 have h4 : a &&& b < 4294967296 := Nat.lt_of_le_of_lt Nat.and_le_left ha
 have e1 : (BitVec.ofInt 32 (a : Int)).toNat = a := by simp; omega
 have e2 : (BitVec.ofInt 32 (b : Int)).toNat = b := by simp; omega
 rw [BitVec.toNat_and, e1, e2, wrap_u32]
 exact v_int (by omega)
theorem and15 {a : Nat} (ha : a < 4294967296) : binI .and .u32 (a : Int) 15 = .int .u32 ((a % 16 : Nat) : Int) := by
 have := and32_nat (a := a) (b := 15) ha (by omega)
 rw [show a &&& 15 = a % 16 from Nat.and_two_pow_sub_one_eq_mod a 4] at this
 exact this
theorem and1 {a : Nat} (ha : a < 4294967296) : binI .and .u32 (a : Int) 1 = .int .u32 ((a % 2 : Nat) : Int) := by
 have := and32_nat (a := a) (b := 1) ha (by omega)
 rw [show a &&& 1 = a % 2 from Nat.and_two_pow_sub_one_eq_mod a 1] at this
 exact this
def tabN (n : Nat) : List Nat := (List.range 16).map fun i => if i < n then stepK 4 i else 0
def tabI (n : Nat) : List Value := (tabN n).map fun (x : Nat) => Value.int .u32 (x : Int)
theorem tabN_length (n : Nat) : (tabN n).length = 16 := by unfold tabN; simp
theorem tabI_length (n : Nat) : (tabI n).length = 16 := by unfold tabI; rw [List.length_map, tabN_length]
theorem tabI_zero : tabI 0 = List.replicate 16 (.int .u32 0) := rfl
theorem tabI_get {j : Nat} (h : j < 16) : (tabI 16)[j]? = some (.int .u32 ((stepK 4 j : Nat) : Int)) := by
 unfold tabI tabN
 rw [List.getElem?_map, List.getElem?_map, List.getElem?_range h]
 show some (Value.int .u32 (((if j < 16 then stepK 4 j else 0 : Nat)) : Int)) = _
 rw [if_pos h]
theorem tabI_set {n : Nat} (h : n < 16) : (tabI n).set n (.int .u32 ((stepK 4 n : Nat) : Int)) = tabI (n + 1) := by
 apply List.ext_getElem?
 intro i
 rw [List.getElem?_set, tabI_length]
 by_cases hi : i < 16
 ·unfold tabI tabN
  rw [List.getElem?_map, List.getElem?_map, List.getElem?_map, List.getElem?_map, List.getElem?_range hi]
  simp only [Option.map_some]
  split
  ·rename_i e; subst e
   rw [if_pos (show n < n + 1 by omega)]
  by_cases c : i < n
  ·rw [if_pos c, if_pos (show i < n + 1 by omega)]
  rw [if_neg c, if_neg (show ¬ i < n + 1 by omega)]
 rw [if_neg (by omega), List.getElem?_eq_none (by rw [tabI_length]; omega), List.getElem?_eq_none (by rw [tabI_length]; omega)]
theorem tabI_one (n : Nat) : oneCells (tabI n) := by
 intro c hc
 obtain ⟨x, _, rfl⟩ := List.mem_map.1 hc
 rfl
theorem crcX_succ {s : Nat} {b : List UInt8} {i : Nat} (h : i < b.length) : crcX s (b.take (i + 1)) = stepK 8 (crcX s (b.take i) ^^^ (b.getD i 0).toNat) := by
 unfold crcX; rw [takeG 0 h, List.foldl_append]; rfl
theorem fixed4 (s : Nat) : fixed 4 s = [(s % 256).toUInt8, (s / 256 % 256).toUInt8, (s / 65536 % 256).toUInt8, (s / 16777216 % 256).toUInt8] := by
 show [(s / 256 ^ 0 % 256).toUInt8, (s / 256 ^ 1 % 256).toUInt8, (s / 256 ^ 2 % 256).toUInt8, (s / 256 ^ 3 % 256).toUInt8] = _
 rw [Nat.pow_zero, Nat.div_one]
theorem byte4 (m : Nat) : Value.int .u8 (IntKind.u8.wrap (m : Int)) = byteV (m % 256).toUInt8 := by
 have := byte_mod m
 rw [Int.emod_emod_of_dvd _ (Int.dvd_refl _)] at this
 rw [wrap_u8]; exact this
def sealF (b : List UInt8) : List UInt8 := b ++ fixed 4 (crcN 0 b)
def openF (b : List UInt8) : List UInt8 × Int := if b.length < 4 then ([], 11) else if fixed 4 (crcN 0 (b.take (b.length - 4))) = b.drop (b.length - 4) then (b.take (b.length - 4), 0) else ([], 10)
theorem open_short {b : List UInt8} (h : b.length < 4) : openF b = ([], 11) := by unfold openF; rw [if_pos h]
theorem open_sum {b : List UInt8} (h : ¬ b.length < 4) (h2 : ¬ fixed 4 (crcN 0 (b.take (b.length - 4))) = b.drop (b.length - 4)) : openF b = ([], 10) := by unfold openF; rw [if_neg h, if_neg h2]
theorem open_ok {b : List UInt8} (h : ¬ b.length < 4) (h2 : fixed 4 (crcN 0 (b.take (b.length - 4))) = b.drop (b.length - 4)) : openF b = (b.take (b.length - 4), 0) := by unfold openF; rw [if_neg h, if_pos h2]
theorem openF_len (b : List UInt8) : (openF b).1.length ≤ b.length := by
 unfold openF
 split
 ·simp
 split
 ·dsimp only; rw [List.length_take]; omega
 simp
theorem step_ok (x : Nat) (hx : x < 4294967296) (w : World) : Calls Try.prog 76 [.int .u32 (x : Nat)].toArray w (Rt fun r w' => r = .int .u32 ((stepN x : Nat) : Int) ∧ Upd [] w w') := by
 have hM0 : Mem w [] w [] := Mem.nil w []
 refine calls_vc mixed Try.func76 rfl C76 (by simp [Try.ntmps76]) <| seq fun _ h1 => mv <| h1 _ _ <| seq fun _ h2 => seq fun _ h3 => mv <| stp (v := .int .u32 (x % 2 : Nat)) (o_bin rfl rfl (and1 hx)) <| bn rfl rfl <| h3 _ _ <| cndP rfl (fun c4 => ?_) (fun c4 => ?_)
 ·refine seq fun _ h5 => mv <| stp (v := .int .u32 (x / 2 : Nat)) (o_shr rfl rfl (by omega) (shr32 (j := 1) (by omega) rfl)) <| stp (v := .int .u32 (x / 2 ^^^ 2197175160 : Nat)) (o_bin rfl rfl (v_int (xor32 (a := x / 2) (b := 2197175160) (by omega) (by omega)))) <| mv <| h5 _ _ <| ⟨(.int .u32 (x / 2 ^^^ 2197175160 : Nat)), rfl, ⟨by unfold stepN; rw [if_pos (by omega)], hM0.upd⟩⟩
 refine h2 _ _ <| seq fun _ h6 => mv <| stp (v := .int .u32 (x / 2 : Nat)) (o_shr rfl rfl (by omega) (shr32 (j := 1) (by omega) rfl)) <| mv <| h6 _ _ <| ⟨(.int .u32 (x / 2 : Nat)), rfl, ⟨by unfold stepN; rw [if_neg (by omega)], hM0.upd⟩⟩
set_option maxRecDepth 100000 in
theorem sums_ok (w : World) : Calls Try.prog 69 [].toArray w (Rt fun r w' => r = .agg (tabI 16).toArray ∧ Upd [] w w') := by
 have hM0 : Mem w [] w [] := Mem.nil w []
 refine calls_vc mixed Try.func69 rfl C69 (by simp [Try.ntmps69]) <| seq fun _ h1 => m_al hM0 fun b2 w3 (hM3 : Mem w [] w3 [[⟨b2, 136, (List.replicate 16 (.int .u32 0))⟩]]) => h1 _ _ <| seq fun _ h4 => m_al hM3 fun b5 w6 (hM6 : Mem w [] w6 [[⟨b2, 136, (List.replicate 16 (.int .u32 0))⟩], [⟨b5, 136, (List.replicate 16 (.int .u32 0))⟩]]) => h4 _ _ <| seq fun _ h7 => seq fun _ h8 => mv <| h8 _ _ <| lp (n := fun _ _ => False) (ι := (Nat)) (fun i f w' => f 4 = .int .i64 (i : Nat) ∧ f 0 = .pointer (some ⟨b2, 0, none⟩) ∧ f 1 = .pointer (some ⟨b5, 0, none⟩) ∧ Mem w [] w' [[⟨b2, 136, (List.replicate 16 (.int .u32 0))⟩], [⟨b5, 136, tabI i⟩]] ∧ (i ≤ 16)) (fun i => 16 - i) (0) ?_ ?_
 ·exact ⟨vi, rfl, rfl, (by rw [tabI_zero]; exact hM6), by omega⟩
 rintro i f w9 ⟨e9_4, e9_0, e9_1, hM9, hi⟩ K10 h10
 obtain ⟨frm, rfl⟩ := re3 e9_4 e9_0 e9_1
 refine seq fun _ h11 => bn rfl rfl <| h11 _ _ <| seq fun _ h12 => cndP rfl (fun c13 => ?_) (fun c13 => ?_)
 ·refine h12 _ _ <| seq fun _ h14 => seq fun _ h15 => mv <| mv <| h15 _ _ <| seq fun _ h16 => mv <| stp (v := .int .u32 (i : Nat)) (o_conv rfl (by rw [wrap_u32]; exact v_int (by omega))) <| mv <| h16 _ _ <| seq fun _ h17 => seq fun _ h18 => mv ?_
  refine h18 _ _ <| lp (n := fun _ _ => False) (ι := (Nat)) (fun j f w' => f 9 = .int .i64 (j : Nat) ∧ f 3 = .int .u32 (stepK j i : Nat) ∧ f 0 = .pointer (some ⟨b2, 0, none⟩) ∧ f 1 = .pointer (some ⟨b5, 0, none⟩) ∧ f 2 = .int .i64 (i : Nat) ∧ f 4 = .int .i64 (i : Nat) ∧ Mem w [] w' [[⟨b2, 136, (List.replicate 16 (.int .u32 0))⟩], [⟨b5, 136, tabI i⟩]] ∧ (j ≤ 4)) (fun j => 4 - j) (0) ?_ ?_
  ·exact ⟨vi, vi, rfl, rfl, vi, vi, hM9, by omega⟩
  rintro j f w19 ⟨e19_9, e19_3, e19_0, e19_1, e19_2, e19_4, hM19, hj⟩ K20 h20
  obtain ⟨frm, rfl⟩ := re6 e19_9 e19_3 e19_0 e19_1 e19_2 e19_4
  refine seq fun _ h21 => bn rfl rfl <| h21 _ _ <| seq fun _ h22 => cndP rfl (fun c23 => ?_) (fun c23 => ?_)
  ·refine h22 _ _ <| seq fun _ h24 => mv <| m_call (step_ok (stepK j i) (by first | exact stepK_lt (by omega) _ | omega | assumption) w19) rfl fun v25 w25 ⟨hr25, hu25⟩ => ?_
   have hM25 : Mem w [] w25 [[⟨b2, 136, (List.replicate 16 (.int .u32 0))⟩], [⟨b5, 136, tabI i⟩]] := hM19.pure hu25
   subst hr25
   refine mv <| h24 _ _ <| stp (v := .int .i64 ((j : Nat) + 1)) (o_bin rfl rfl (v_add64 (by omega))) <| mv <| h20 (j + 1) _ _ ⟨vi, vi, rfl, rfl, vi, vi, hM25, by omega⟩ (by (try dsimp only); omega)
  refine h17 _ _ <| mv <| mv <| stp (v := .pointer (some ⟨b5, i, none⟩)) (o_idxa rfl rfl (by omega) (v_ptr (by first | (rw [Int.toNat_natCast, Nat.mul_one]; done) | (simp; done) | omega))) <| m_st (v := .int .u32 (stepK j i : Nat)) hM19 (i := 1) rfl rfl rfl rfl (by rw [tabI_length]; omega) fun w26 hm26 => ?_
  have hM26 : Mem w [] w26 [[⟨b2, 136, (List.replicate 16 (.int .u32 0))⟩], [⟨b5, 136, tabI (i + 1)⟩]] := by
   have e : (tabI i).set i (.int .u32 (stepK j i : Nat)) = (tabI (i + 1)) := by rw [show j = 4 by omega]; exact tabI_set (by omega)
   rw [← e]; exact hm26
  refine h14 _ _ <| stp (v := .int .i64 ((i : Nat) + 1)) (o_bin rfl rfl (v_add64 (by omega))) <| mv <| h10 (i + 1) _ _ ⟨vi, rfl, rfl, hM26, by omega⟩ (by (try dsimp only); omega)
 refine h7 _ _ <| seq fun _ h27 => ldA (cs := (tabI i)) rfl (by first | rfl | simp [tabI_length]) ((hM9.at (i := 1) (j := 0) rfl rfl).all) <| m_stA (l := (tabI i)) hM9 (i := 0) rfl rfl rfl (by simp [tabI_length]) (tabI_one _) (by simp) fun w28 hm28 => ?_
 have hM28 : Mem w [] w28 [[⟨b2, 136, (tabI i)⟩], [⟨b5, 136, tabI i⟩]] := by
  have e : splice (List.replicate 16 (.int .u32 0)) 0 (tabI i) = (tabI i) := splice_full (by simp; first | done | (simp [tabI_length]) | omega)
  rw [e] at hm28
  exact hm28
 refine h27 _ _ ?_
 show resV _ _ _ _ _
 refine res_cell (s := some 16) (by kernel_rfl) <| vl_ldA (cs := (tabI i)) rfl (by simp [tabI_length]) (hM28.at (i := 0) (j := 0) rfl rfl).all <| ⟨(.agg (((tabI i)).toArray)), rfl, ?_⟩
 rw [show i = 16 by omega]
 exact ⟨rfl, hM28.upd⟩
theorem Extend_ok (s : Nat) (hs : s < 4294967296) (x : Value) (b : List UInt8) (w : World) (hx : RdE byteV w x b) (hl : b.length ≤ 140737488355328) : Calls Try.prog 54 [.int .u32 (s : Nat), x].toArray w (Rt fun r w' => r = .int .u32 ((crcN s b : Nat) : Int) ∧ Upd [] w w') := by
 have hM0 : Mem w [] w [] := Mem.nil w []
 refine calls_vc mixed Try.func54 rfl C54 (by simp [Try.ntmps54]) <| seq fun _ h1 => mv <| h1 _ _ <| seq fun _ h2 => mv <| stp (v := .int .u32 (4294967295 - s : Nat)) (o_bin rfl rfl (v_int (xor32_cpl (by omega)))) <| mv <| h2 _ _ <| seq fun _ h3 => m_call (sums_ok w) rfl fun v4 w4 ⟨hr4, hu4⟩ => ?_
 have hM4 : Mem w [] w4 [] := hM0.pure hu4
 subst hr4
 refine m_al hM4 fun b5 w6 (hM6 : Mem w [] w6 [[⟨b5, 136, (List.replicate 16 (.int .u32 0))⟩]]) => m_stA (l := (tabI 16)) hM6 (i := 0) rfl rfl rfl (by simp [tabI_length]) (tabI_one _) (by simp) fun w7 hm7 => ?_
 have hM7 : Mem w [] w7 [[⟨b5, 136, (tabI 16)⟩]] := by
  have e : splice (List.replicate 16 (.int .u32 0)) 0 (tabI 16) = (tabI 16) := splice_full (by simp; first | done | (simp [tabI_length]) | omega)
  rw [e] at hm7
  exact hm7
 refine h3 _ _ <| seq fun _ h8 => seq fun _ h9 => mv <| stp (v := .int .i64 (b.length : Nat)) (o_lenR (hx.upd hM7.upd) rfl rfl) <| mv <| h9 _ _ <| lp (n := fun _ _ => False) (ι := (Nat) × (Nat)) (fun ⟨i, X⟩ f w' => f 14 = .int .i64 (i : Nat) ∧ f 5 = .int .u32 (X : Nat) ∧ f 6 = .pointer (some ⟨b5, 0, none⟩) ∧ f 12 = x ∧ f 13 = .int .i64 (b.length : Nat) ∧ Mem w [] w' [[⟨b5, 136, (tabI 16)⟩]] ∧ (i ≤ b.length) ∧ (X = crcX (4294967295 - s) (b.take i)) ∧ (X < 4294967296)) (fun ⟨i, X⟩ => b.length - i) (0, 4294967295 - s) ?_ ?_
 ·exact ⟨vi, vi, rfl, rfl, vi, hM7, by omega, rfl, by omega⟩
 rintro ⟨i, X⟩ f w10 ⟨e10_14, e10_5, e10_6, e10_12, e10_13, hM10, hi, hX, hXl⟩ K11 h11
 obtain ⟨frm, rfl⟩ := re5 e10_14 e10_5 e10_6 e10_12 e10_13
 refine seq fun _ h12 => bn rfl rfl <| h12 _ _ <| seq fun _ h13 => cndP rfl (fun c14 => ?_) (fun c14 => ?_)
 ·refine h13 _ _ <| seq fun _ h15 => seq fun _ h16 => ?_
  have hc8 := (b.getD i 0).toNat_lt
  have hY : X ^^^ (b.getD i 0).toNat < 4294967296 := xor32_lt hXl (by omega)
  have hZ := stepK_lt hY 4
  have hN := nib (X ^^^ (b.getD i 0).toNat)
  have hN2 := nib (stepK 4 (X ^^^ (b.getD i 0).toNat))
  have hS := stepK_lt (x := (X ^^^ (b.getD i 0).toNat) % 16) (by omega) 4
  have hS2 := stepK_lt (x := (stepK 4 (X ^^^ (b.getD i 0).toNat)) % 16) (by omega) 4
  refine m_idxE 0 (j := i) (hx.upd hM10.upd) rfl rfl (by omega) fun b17 o17 hp17 => ld (v := byteV (b.getD i 0)) rfl (hp17) <| mv <| h16 _ _ <| seq fun _ h18 => mv <| mv <| stp (v := .int .u32 ((b.getD i 0).toNat : Nat)) (o_conv rfl (by rw [wrap_u32]; exact v_int (by have := (b.getD i 0).toNat_lt; omega))) <| stp (v := .int .u32 ((X ^^^ (b.getD i 0).toNat) : Nat)) (o_bin rfl rfl (v_int (xor32 hXl (by omega)))) <| mv <| h18 _ _ <| seq fun _ h19 => mv <| stp (v := .int .u32 ((X ^^^ (b.getD i 0).toNat) / 16 : Nat)) (o_shr rfl rfl (by omega) (shr32 (j := 4) (by omega) rfl)) ?_
  refine mv <| stp (v := .int .u32 ((X ^^^ (b.getD i 0).toNat) % 16 : Nat)) (o_bin rfl rfl (and15 hY)) <| stp (v := .pointer (some ⟨b5, (X ^^^ (b.getD i 0).toNat) % 16, none⟩)) (o_idxa rfl rfl (by omega) (v_ptr (by first | (rw [Int.toNat_natCast, Nat.mul_one]; done) | (simp; done) | omega))) <| ld (v := .int .u32 (stepK 4 ((X ^^^ (b.getD i 0).toNat) % 16) : Nat)) rfl (((hM10.at (i := 0) (j := 0) rfl rfl).cell _).trans (tabI_get (by omega))) <| stp (v := .int .u32 ((stepK 4 (X ^^^ (b.getD i 0).toNat)) : Nat)) (o_bin rfl rfl ((v_int (xor32 (by omega) hS)).trans (by rw [hN]))) <| mv <| h19 _ _ <| mv <| stp (v := .int .u32 ((stepK 4 (X ^^^ (b.getD i 0).toNat)) / 16 : Nat)) (o_shr rfl rfl (by omega) (shr32 (j := 4) (by omega) rfl)) <| mv <| stp (v := .int .u32 ((stepK 4 (X ^^^ (b.getD i 0).toNat)) % 16 : Nat)) (o_bin rfl rfl (and15 hZ)) <| stp (v := .pointer (some ⟨b5, (stepK 4 (X ^^^ (b.getD i 0).toNat)) % 16, none⟩)) (o_idxa rfl rfl (by omega) (v_ptr (by first | (rw [Int.toNat_natCast, Nat.mul_one]; done) | (simp; done) | omega))) <| ld (v := .int .u32 (stepK 4 ((stepK 4 (X ^^^ (b.getD i 0).toNat)) % 16) : Nat)) rfl (((hM10.at (i := 0) (j := 0) rfl rfl).cell _).trans (tabI_get (by omega))) <| stp (v := .int .u32 (stepK 4 (stepK 4 (X ^^^ (b.getD i 0).toNat)) : Nat)) (o_bin rfl rfl ((v_int (xor32 (by omega) hS2)).trans (by rw [hN2]))) ?_
  refine mv <| h15 _ _ <| stp (v := .int .i64 ((i : Nat) + 1)) (o_bin rfl rfl (v_add64 (by omega))) <| mv <| h11 (i + 1, stepK 4 (stepK 4 (X ^^^ (b.getD i 0).toNat))) _ _ ⟨vi, vi, rfl, rfl, vi, hM10, by omega, by rw [stepK_add, crcX_succ (by omega), ← hX], stepK_lt hZ 4⟩ (by (try dsimp only); omega)
 refine h8 _ _ <| seq fun _ h20 => mv <| stp (v := .int .u32 (4294967295 - X : Nat)) (o_bin rfl rfl (v_int (xor32_cpl hXl))) <| mv <| h20 _ _ <| ⟨(.int .u32 (4294967295 - X : Nat)), rfl, ?_⟩
 have e : b.take i = b := List.take_of_length_le (by omega)
 rw [e] at hX
 exact ⟨by unfold crcN; rw [← hX], hM10.upd⟩
end Go.Proofs.Ytifnmbmijljhfaa.E
namespace Go.Proofs.Ytifnmbmijljhfaa.E
open Go
theorem Sum_ok (x : Value) (b : List UInt8) (w : World) (hx : RdE byteV w x b) (hl : b.length ≤ 140737488355328) : Calls Try.prog 29 [x].toArray w (Rt fun r w' => r = .int .u32 ((crcN 0 b : Nat) : Int) ∧ Upd [] w w') := by
 have hM0 : Mem w [] w [] := Mem.nil w []
 refine calls_vc mixed Try.func29 rfl C29 (by simp [Try.ntmps29]) <| seq fun _ h1 => mv <| h1 _ _ <| seq fun _ h2 => mv <| m_call (Extend_ok 0 (by omega) _ b w (hx.upd hM0.upd) (by first | omega | (simp; done) | (simp; omega))) rfl fun v3 w3 ⟨hr3, hu3⟩ => ?_
 have hM3 : Mem w [] w3 [] := hM0.pure hu3
 subst hr3
 refine mv <| h2 _ _ <| ⟨(.int .u32 (crcN 0 b : Nat)), rfl, ⟨rfl, hM3.upd⟩⟩
theorem four_ok (s : Nat) (_hs : s < 4294967296) (w : World) : Calls Try.prog 28 [.int .u32 (s : Nat)].toArray w (Rt fun r w' => ∃ rs, SlE byteV 5 r (fixed 4 s) rs ∧ Mem w [] w' [rs]) := by
 have hM0 : Mem w [] w [] := Mem.nil w []
 refine calls_vc mixed Try.func28 rfl C28 (by simp [Try.ntmps28]) <| seq fun _ h1 => mv <| h1 _ _ <| seq fun _ h2 => mv <| stp (v := byteV ((s % 256).toUInt8)) (o_conv rfl (byte4 _)) <| mv <| stp (v := .int .u32 (s / 256 : Nat)) (o_shr rfl rfl (by omega) (shr32 (j := 8) (by omega) rfl)) <| stp (v := byteV (((s / 256) % 256).toUInt8)) (o_conv rfl (byte4 _)) <| mv <| stp (v := .int .u32 (s / 65536 : Nat)) (o_shr rfl rfl (by omega) (shr32 (j := 16) (by omega) rfl)) <| stp (v := byteV (((s / 65536) % 256).toUInt8)) (o_conv rfl (byte4 _)) <| mv ?_
 refine stp (v := .int .u32 (s / 16777216 : Nat)) (o_shr rfl rfl (by omega) (shr32 (j := 24) (by omega) rfl)) <| stp (v := byteV (((s / 16777216) % 256).toUInt8)) (o_conv rfl (byte4 _)) <| m_bs hM0 rfl fun b3 w4 (hM4 : Mem w [] w4 [[⟨b3, 5, [byteV ((s % 256).toUInt8), byteV (((s / 256) % 256).toUInt8), byteV (((s / 65536) % 256).toUInt8), byteV (((s / 16777216) % 256).toUInt8)]⟩]]) => mv <| h2 _ _ <| ⟨(.slice (some ⟨b3, 0, none⟩) 4 4), rfl, ?_⟩
 rw [fixed4]
 exact ⟨_, ⟨by simp, .inr ⟨_, 4, [], rfl, rfl, by simp, by simp⟩⟩, hM4⟩
theorem Open_ok (x : Value) (b : List UInt8) (w : World) (hx : RdE byteV w x b) (hl : b.length ≤ 140737488355328) : Calls Try.prog 10 [x].toArray w (Rt fun r w' => ∃ v rs, r = .tuple #[v, .int .i64 (openF b).2] ∧ SlE byteV 5 v (openF b).1 rs ∧ Mem w [] w' [rs]) := by
 have hM0 : Mem w [] w [] := Mem.nil w []
 refine calls_vc mixed Try.func10 rfl C10 (by simp [Try.ntmps10]) <| seq fun _ h1 => mv <| mv <| h1 _ _ <| seq fun _ h2 => mv <| stp (v := .int .i64 (b.length : Nat)) (o_lenR (hx.upd hM0.upd) rfl rfl) <| stp (v := .int .i64 ((b.length : Nat) - 4)) (o_bin rfl rfl (v_sub64 (by omega))) <| mv <| h2 _ _ <| seq fun _ h3 => seq fun _ h4 => mv ?_
 refine bn rfl rfl <| h4 _ _ <| cndP rfl (fun c5 => ?_) (fun c5 => ?_)
 ·refine seq fun _ h6 => mv <| mv <| h6 _ _ <| ⟨(.tuple [.slice none 0 0, .int .i64 11].toArray), rfl, ?_⟩
  have je := open_short (b := b) (by omega)
  exact ⟨_, [], by rw [je], by rw [je]; exact Sl.nil 1 5, (hM0.addNil).keep (by simp)⟩
 refine h3 _ _ <| seq fun _ h7 => seq fun _ h8 => ?_
 intro wd e1 e2 e3 e4
 have hd := Upd.same e1 e2 e3 e4 []
 have hM9 := hM0.pure hd
 clear e1 e2 e3 e4
 refine ⟨(some []), ?_⟩
 show vd _ _ _ _ _ _ _
 refine dmv <| dmv <| dqp (m_slcE 0 (b.length - 4) (hx) rfl (by omega) (by omega) ⟨_, v_int (by omega)⟩ rfl fun u10 hu10 => ?_)
 show vd _ _ _ _ _ _ _
 refine dmv <| dmv <| dqp (m_slcE (b.length - 4) b.length (hx) rfl (by omega) (by omega) rfl ⟨_, v_int (by omega)⟩ fun u11 hu11 => ?_)
 show vd _ _ _ _ _ _ _
 show _ ∧ _
 refine ⟨?_, ?_⟩
 ·show vd _ _ _ _ _ _ _
  refine dl (m_call (Sum_ok _ ((b.take (b.length - 4)).drop 0) wd ((hu10.upd hM9.upd)) (by first | omega | (simp; done) | (simp; omega))) rfl fun v12 w12 ⟨hr12, hu12⟩ => ?_)
  have hM12 : Mem w [] w12 [] := hM9.pure hu12
  subst hr12
  have hcl12 := crcN_lt 0 ((b.take (b.length - 4)).drop 0)
  refine ⟨(fun b hb => by cases hb), ?_⟩
  show _ ∧ _
  refine ⟨?_, ?_⟩
  ·show vd _ _ _ _ _ _ _
   refine dl (m_call (four_ok (crcN 0 ((b.take (b.length - 4)).drop 0)) (by first | assumption | exact crcN_lt _ _ | omega) w12) rfl fun v13 w13 ⟨rs13, hs13, hm13⟩ => ?_)
   have hM13 : Mem w [] w13 [rs13] := hM12.add hm13
   refine ⟨(fun b hb => by cases hb), ?_⟩
   show _ ∧ _
   refine ⟨?_, ?_⟩
   ·show vd _ _ _ _ _ _ _
    refine dl (m_b2s rfl (hs13.rd hM13 (i := 0) rfl) <| ⟨(fun b hb => by cases hb), dl (m_b2s rfl ((hu11.upd hM13.upd)) <| ⟨(fun b hb => by cases hb), dq (v := .bool (decide (¬ (fixed 4 (crcN 0 ((b.take (b.length - 4)).drop 0))) = ((b.take b.length).drop (b.length - 4))))) (o_sne rfl rfl rfl) <| h8 _ _ <| cndP rfl (fun hsT => ?_) (fun hsF => ?_)⟩)⟩)
    ·refine seq fun _ h15 => mv <| mv <| h15 _ _ <| ⟨(.tuple [.slice none 0 0, .int .i64 10].toArray), rfl, ?_⟩
     have je := open_sum (b := b) (by omega) (by simpa using hsT)
     exact ⟨_, [], by rw [je], by rw [je]; exact Sl.nil 1 5, (hM13.addNil).keep (by simp)⟩
    refine h7 _ _ <| seq fun _ h16 => m_bs hM13 rfl fun b17 w18 (hM18 : Mem w [] w18 [rs13, [⟨b17, 5, []⟩]]) => mv <| mv <| m_slcE 0 (b.length - 4) (hx) rfl (by omega) (by omega) ⟨_, v_int (by omega)⟩ rfl fun u19 hu19 => ?_
    have hs20 : SlE byteV 5 (.slice (some ⟨b17, 0, none⟩) 0 0) [] [⟨b17, 5, []⟩] := SlE.lit (l := []) rfl
    refine m_appE hM18 (i := 1) rfl hs20 rfl rfl ((hu19.upd hM18.upd)) (by first | omega | (simp; omega)) (by omega) fun v21 w21 r21 (hs21 : SlE byteV 5 v21 ((b.take (b.length - 4)).drop 0) r21) (hM21 : Mem w [] w21 [rs13, r21]) => mv <| mv <| h16 _ _ <| ⟨(.tuple [v21, .int .i64 0].toArray), rfl, ?_⟩
    have je := open_ok (b := b) (by omega) (by simpa using hsF)
    exact ⟨_, _, by rw [je], by rw [je]; simpa using hs21, hM21.keep (by simp)⟩
   show vd _ _ _ _ _ _ _
   refine dl (m_b2s rfl ((hu11.upd hM13.upd)) <| ⟨(fun b hb => by cases hb), dl (m_b2s rfl (hs13.rd hM13 (i := 0) rfl) <| ⟨(fun b hb => by cases hb), dq (v := .bool (decide (¬ (fixed 4 (crcN 0 ((b.take (b.length - 4)).drop 0))) = ((b.take b.length).drop (b.length - 4))))) (o_sne rfl rfl rfl) <| h8 _ _ <| cndP rfl (fun hsT => ?_) (fun hsF => ?_)⟩)⟩)
   ·refine seq fun _ h23 => mv <| mv <| h23 _ _ <| ⟨(.tuple [.slice none 0 0, .int .i64 10].toArray), rfl, ?_⟩
    have je := open_sum (b := b) (by omega) (by simpa using hsT)
    exact ⟨_, [], by rw [je], by rw [je]; exact Sl.nil 1 5, (hM13.addNil).keep (by simp)⟩
   refine h7 _ _ <| seq fun _ h24 => m_bs hM13 rfl fun b25 w26 (hM26 : Mem w [] w26 [rs13, [⟨b25, 5, []⟩]]) => mv <| mv <| m_slcE 0 (b.length - 4) (hx) rfl (by omega) (by omega) ⟨_, v_int (by omega)⟩ rfl fun u27 hu27 => ?_
   have hs28 : SlE byteV 5 (.slice (some ⟨b25, 0, none⟩) 0 0) [] [⟨b25, 5, []⟩] := SlE.lit (l := []) rfl
   refine m_appE hM26 (i := 1) rfl hs28 rfl rfl ((hu27.upd hM26.upd)) (by first | omega | (simp; omega)) (by omega) fun v29 w29 r29 (hs29 : SlE byteV 5 v29 ((b.take (b.length - 4)).drop 0) r29) (hM29 : Mem w [] w29 [rs13, r29]) => mv <| mv <| h24 _ _ <| ⟨(.tuple [v29, .int .i64 0].toArray), rfl, ?_⟩
   have je := open_ok (b := b) (by omega) (by simpa using hsF)
   exact ⟨_, _, by rw [je], by rw [je]; simpa using hs29, hM29.keep (by simp)⟩
  show vd _ _ _ _ _ _ _
  refine dl (m_b2s rfl ((hu11.upd hM12.upd)) <| ⟨(fun b hb => by cases hb), dl (m_call (four_ok (crcN 0 ((b.take (b.length - 4)).drop 0)) (by first | assumption | exact crcN_lt _ _ | omega) w12) rfl fun v30 w30 ⟨rs30, hs30, hm30⟩ => ?_)⟩)
  have hM30 : Mem w [] w30 [rs30] := hM12.add hm30
  refine ⟨(fun b hb => by cases hb), dl (m_b2s rfl (hs30.rd hM30 (i := 0) rfl) <| ⟨(fun b hb => by cases hb), dq (v := .bool (decide (¬ (fixed 4 (crcN 0 ((b.take (b.length - 4)).drop 0))) = ((b.take b.length).drop (b.length - 4))))) (o_sne rfl rfl rfl) <| h8 _ _ <| cndP rfl (fun hsT => ?_) (fun hsF => ?_)⟩)⟩
  ·refine seq fun _ h32 => mv <| mv <| h32 _ _ <| ⟨(.tuple [.slice none 0 0, .int .i64 10].toArray), rfl, ?_⟩
   have je := open_sum (b := b) (by omega) (by simpa using hsT)
   exact ⟨_, [], by rw [je], by rw [je]; exact Sl.nil 1 5, (hM30.addNil).keep (by simp)⟩
  refine h7 _ _ <| seq fun _ h33 => m_bs hM30 rfl fun b34 w35 (hM35 : Mem w [] w35 [rs30, [⟨b34, 5, []⟩]]) => mv <| mv <| m_slcE 0 (b.length - 4) (hx) rfl (by omega) (by omega) ⟨_, v_int (by omega)⟩ rfl fun u36 hu36 => ?_
  have hs37 : SlE byteV 5 (.slice (some ⟨b34, 0, none⟩) 0 0) [] [⟨b34, 5, []⟩] := SlE.lit (l := []) rfl
  refine m_appE hM35 (i := 1) rfl hs37 rfl rfl ((hu36.upd hM35.upd)) (by first | omega | (simp; omega)) (by omega) fun v38 w38 r38 (hs38 : SlE byteV 5 v38 ((b.take (b.length - 4)).drop 0) r38) (hM38 : Mem w [] w38 [rs30, r38]) => mv <| mv <| h33 _ _ <| ⟨(.tuple [v38, .int .i64 0].toArray), rfl, ?_⟩
  have je := open_ok (b := b) (by omega) (by simpa using hsF)
  exact ⟨_, _, by rw [je], by rw [je]; simpa using hs38, hM38.keep (by simp)⟩
 show vd _ _ _ _ _ _ _
 refine dl (m_b2s rfl ((hu11.upd hM9.upd)) <| ⟨(fun b hb => by cases hb), dl (m_call (Sum_ok _ ((b.take (b.length - 4)).drop 0) wd ((hu10.upd hM9.upd)) (by first | omega | (simp; done) | (simp; omega))) rfl fun v39 w39 ⟨hr39, hu39⟩ => ?_)⟩)
 have hM39 : Mem w [] w39 [] := hM9.pure hu39
 subst hr39
 have hcl39 := crcN_lt 0 ((b.take (b.length - 4)).drop 0)
 refine ⟨(fun b hb => by cases hb), dl (m_call (four_ok (crcN 0 ((b.take (b.length - 4)).drop 0)) (by first | assumption | exact crcN_lt _ _ | omega) w39) rfl fun v40 w40 ⟨rs40, hs40, hm40⟩ => ?_)⟩
 have hM40 : Mem w [] w40 [rs40] := hM39.add hm40
 refine ⟨(fun b hb => by cases hb), dl (m_b2s rfl (hs40.rd hM40 (i := 0) rfl) <| ⟨(fun b hb => by cases hb), dq (v := .bool (decide (¬ (fixed 4 (crcN 0 ((b.take (b.length - 4)).drop 0))) = ((b.take b.length).drop (b.length - 4))))) (o_sne rfl rfl rfl) <| h8 _ _ <| cndP rfl (fun hsT => ?_) (fun hsF => ?_)⟩)⟩
 ·refine seq fun _ h42 => mv <| mv <| h42 _ _ <| ⟨(.tuple [.slice none 0 0, .int .i64 10].toArray), rfl, ?_⟩
  have je := open_sum (b := b) (by omega) (by simpa using hsT)
  exact ⟨_, [], by rw [je], by rw [je]; exact Sl.nil 1 5, (hM40.addNil).keep (by simp)⟩
 refine h7 _ _ <| seq fun _ h43 => m_bs hM40 rfl fun b44 w45 (hM45 : Mem w [] w45 [rs40, [⟨b44, 5, []⟩]]) => mv <| mv <| m_slcE 0 (b.length - 4) (hx) rfl (by omega) (by omega) ⟨_, v_int (by omega)⟩ rfl fun u46 hu46 => ?_
 have hs47 : SlE byteV 5 (.slice (some ⟨b44, 0, none⟩) 0 0) [] [⟨b44, 5, []⟩] := SlE.lit (l := []) rfl
 refine m_appE hM45 (i := 1) rfl hs47 rfl rfl ((hu46.upd hM45.upd)) (by first | omega | (simp; omega)) (by omega) fun v48 w48 r48 (hs48 : SlE byteV 5 v48 ((b.take (b.length - 4)).drop 0) r48) (hM48 : Mem w [] w48 [rs40, r48]) => mv <| mv <| h43 _ _ <| ⟨(.tuple [v48, .int .i64 0].toArray), rfl, ?_⟩
 have je := open_ok (b := b) (by omega) (by simpa using hsF)
 exact ⟨_, _, by rw [je], by rw [je]; simpa using hs48, hM48.keep (by simp)⟩
theorem pSeal_ok (x : Value) (b : List UInt8) (w : World) (hx : RdE byteV w x b) (hl : b.length ≤ 140737488352232) : Calls Try.prog 15 [x].toArray w (Rt fun r w' => ∃ rs, SlE byteV 5 r (sealF b) rs ∧ Mem w [] w' [rs]) := by
 have hM0 : Mem w [] w [] := Mem.nil w []
 refine calls_vc mixed Try.func15 rfl C15 (by simp [Try.ntmps15]) <| seq fun _ h1 => mv <| h1 _ _ <| seq fun _ h2 => mv <| stp (v := .int .i64 (b.length : Nat)) (o_lenR (hx.upd hM0.upd) rfl rfl) <| stp (v := .int .i64 ((b.length : Nat) + 4)) (o_bin rfl rfl (v_add64 (by omega))) <| m_mksE (E := byteV) (z := 0) (n := 0) (c := (b.length + 4)) rfl hM0 (v_int (by omega)) (v_int (by omega)) (by omega) (by omega) (by omega) fun v3 w3 r3 hs3 (hM3 : Mem w [] w3 [r3]) => mv <| h2 _ _ <| seq fun _ h4 => mv <| mv ?_
 refine m_appE hM3 (i := 0) rfl hs3 rfl rfl (hx.upd hM3.upd) (by first | omega | (simp; omega)) (by omega) fun v5 w5 r5 (hs5 : SlE byteV 5 v5 ((List.replicate 0 0) ++ b) r5) (hM5 : Mem w [] w5 [r5]) => mv <| h4 _ _ <| seq fun _ h6 => mv <| mv <| m_call (Sum_ok _ b w5 (hx.upd hM5.upd) (by first | omega | (simp; done) | (simp; omega))) rfl fun v7 w7 ⟨hr7, hu7⟩ => ?_
 have hM7 : Mem w [] w7 [r5] := hM5.pure hu7
 subst hr7
 have hcl7 := crcN_lt 0 b
 refine m_call (four_ok (crcN 0 b) (by first | assumption | exact crcN_lt _ _ | omega) w7) rfl fun v8 w8 ⟨rs8, hs8, hm8⟩ => ?_
 have hM8 : Mem w [] w8 [r5, rs8] := hM7.add hm8
 have hfl8 := fixed_length 4 (crcN 0 b)
 refine m_appE hM8 (i := 0) rfl hs5 rfl rfl (hs8.rd hM8 (i := 1) rfl) (by first | omega | (simp; omega)) (by omega) fun v9 w9 r9 (hs9 : SlE byteV 5 v9 (((List.replicate 0 0) ++ b) ++ (fixed 4 (crcN 0 b))) r9) (hM9 : Mem w [] w9 [r9, rs8]) => mv <| h6 _ _ <| ⟨v9, rfl, ⟨_, by unfold sealF; simpa using hs9, hM9.keep (by simp)⟩⟩
end Go.Proofs.Ytifnmbmijljhfaa.E
namespace Go.Proofs.Ytifnmbmijljhfaa.E
open Go
theorem Sl.rdOwn {w : World} {sz n : Nat} {t : TypeId} {v : Value} {cs : List Value} {r : List Ent} (h : Sl sz t v n cs r) (ho : ∀ e ∈ r, Own w e) : Rd w v n cs := by
 rcases h.form with ⟨rfl, rfl, rfl⟩ | ⟨b, cap, tail, rfl, rfl, h1, h2⟩
 ·have := h.len
  simp at this
  subst this
  exact ⟨none, 0, rfl, Nat.le_refl _, rfl, fun _ => rfl⟩
 have ho := ho _ (List.mem_singleton.2 rfl)
 refine ⟨_, cap, rfl, h1, ho.row (l := cs) fun j hj => ?_, fun h => by cases h⟩
 simp [List.getElem?_append_left hj]
theorem Mem.owned {w0 w : World} {S : List Nat} {R : List (List Ent)} {i : Nat} {r : List Ent} (h : Mem w0 S w R) (hi : R[i]? = some r) : ∀ e ∈ r, Own w e := (h.res hi).1
def Nst {β : Type} (Q : β → List Ent → Prop) : List β → List Ent → Prop
 | [], _ => True
 | p :: ps, r => ∃ a b, r.Perm (a ++ b) ∧ Q p a ∧ Nst Q ps b
section
variable {β : Type} {Q Q' : β → List Ent → Prop}
theorem Nst.nil {r : List Ent} : Nst Q [] r := trivial
theorem Nst.perm : ∀ {ps : List β} {r r' : List Ent}, Nst Q ps r → r'.Perm r → Nst Q ps r'
 | [], _, _, _, _ => trivial
 | _ :: _, _, _, ⟨a, b, h1, h2, h3⟩, hp => ⟨a, b, hp.trans h1, h2, h3⟩
theorem Nst.more : ∀ {ps : List β} {r : List Ent} (x : List Ent), Nst Q ps r → Nst Q ps (r ++ x)
 | [], _, _, _ => trivial
 | _ :: _, r, x, ⟨a, b, h1, h2, h3⟩ => ⟨a, b ++ x, by rw [← List.append_assoc]; exact h1.append_right x, h2, h3.more x⟩
theorem Nst.app : ∀ {ps : List β} {r : List Ent} {p : β} {a : List Ent}, Nst Q ps r → Q p a → Nst Q (ps ++ [p]) (r ++ a)
 | [], r, p, a, _, hp => ⟨a, r, List.perm_append_comm, hp, trivial⟩
 | _ :: _, r, p, x, ⟨a, b, h1, h2, h3⟩, hp => ⟨a, b ++ x, by rw [← List.append_assoc]; exact h1.append_right x, h2, h3.app hp⟩
theorem Nst.mono : ∀ {ps : List β} {r : List Ent}, Nst Q ps r → (∀ p a, Q p a → Q' p a) → Nst Q' ps r
 | [], _, _, _ => trivial
 | _ :: _, _, ⟨a, b, h1, h2, h3⟩, hq => ⟨a, b, h1, hq _ _ h2, h3.mono hq⟩
theorem Nst.get : ∀ {ps : List β} {r : List Ent}, Nst Q ps r → ∀ p ∈ ps, ∃ a, (∀ e ∈ a, e ∈ r) ∧ Q p a
 | [], _, _, p, hp => by cases hp
 | x :: ps, r, ⟨a, b, h1, h2, h3⟩, p, hp => by
  rcases List.mem_cons.1 hp with rfl | hp
  ·exact ⟨a, fun e he => h1.symm.subset (List.mem_append_left _ he), h2⟩
  obtain ⟨c, hc, hq⟩ := h3.get p hp
  exact ⟨c, fun e he => h1.symm.subset (List.mem_append_right _ (hc e he)), hq⟩
theorem Nst.open (z : β) : ∀ {ps : List β} {r : List Ent} {i : Nat}, Nst Q ps r → i < ps.length → ∃ a b, r.Perm (a ++ b) ∧ Q (ps.getD i z) a ∧ ∀ p c, Q p c → Nst Q (ps.set i p) (c ++ b)
 | [], _, _, _, hi => by simp at hi
 | x :: ps, r, 0, ⟨a, b, h1, h2, h3⟩, _ => ⟨a, b, h1, h2, fun p c hc => ⟨c, b, List.Perm.refl _, hc, h3⟩⟩
 | x :: ps, r, i + 1, ⟨a, b, h1, h2, h3⟩, hi => by
  obtain ⟨c, d, k1, k2, k3⟩ := h3.open z (i := i) (by simpa using hi)
  refine ⟨c, a ++ d, h1.trans ((k1.append_left a).trans ?_), by simpa using k2, fun p e he => ?_⟩
  ·rw [← List.append_assoc, ← List.append_assoc]; exact (List.perm_append_comm).append_right d
  refine ⟨a, e ++ d, ?_, h2, k3 p e he⟩
  rw [← List.append_assoc, ← List.append_assoc]; exact (List.perm_append_comm).append_right d
theorem Nst.drop : ∀ {ps : List β} {r : List Ent} {p : β} {i : Nat}, Nst Q ps r → Q p [] → Nst Q (ps.set i p) r
 | [], _, _, _, _, _ => trivial
 | x :: ps, r, p, 0, ⟨a, b, h1, h2, h3⟩, hp => ⟨[], r, List.Perm.refl _, hp, (h3.more a).perm (h1.trans List.perm_append_comm)⟩
 | x :: ps, r, p, i + 1, ⟨a, b, h1, h2, h3⟩, hp => ⟨a, b, h1, h2, h3.drop hp⟩
theorem Nst.take : ∀ {ps : List β} {r : List Ent} (k : Nat), Nst Q ps r → Nst Q (ps.take k) r
 | [], _, _, _ => by simp [Nst]
 | x :: ps, r, 0, _ => by simp [Nst]
 | x :: ps, r, k + 1, ⟨a, b, h1, h2, h3⟩ => ⟨a, b, h1, h2, h3.take k⟩
end
def OwnP {α β : Type} (E : α → Value) (t : TypeId) (fv : β → Value) (fl : β → List α) : β → List Ent → Prop := fun p a => SlE E t (fv p) (fl p) a
section
variable {α : Type} {enc : α → List Value} {sz : Nat} [Enc enc sz]
theorem Rd.blkV_ltS {α : Type} {enc : α → List Value} {sz : Nat} [Enc enc sz] {w : World} {v : Value} {l : List α} (h : RdS enc w v l) (hl : 0 < l.length) : blkV v < w.heap.size := by
 obtain ⟨a, c, rfl, h2, h3, h4⟩ := h.form
 have hp := Enc.pos (enc := enc)
 have hL : 0 < (l.flatMap enc).length := by rw [fm_length]; exact Nat.mul_pos hl hp
 cases a with
 | none => have := h4 rfl; omega
 | some a =>
  obtain ⟨b, o, m⟩ := a
  cases m with
  | some m => simp only [Row] at h3; rw [h3] at hL; simp at hL
  | none =>
   have h5 := h3 0 hL
   rw [List.getElem?_eq_getElem hL] at h5
   exact World.block_lt_of_cell? w ⟨b, o + 0, none⟩ h5
theorem m_idxS3 (z : α) {P : Program} {r : List MI} {f : Fr} {w wr : World} {K : Fr → World → Prop} {d : Nat} {x i : Operand} {u : Value} {l : List α} {j : Nat} {k : IntKind} (h : RdS enc w u l) (h0 : RdS enc wr u l) (hx : ev f x = u) (hi : ev f i = .int k j) (hj : j < l.length)
 (hk : ∀ b o, Cells wr b o (enc (l.getD j z)) → b = blkV u → vr P r (upd f d (.pointer (some ⟨b, o, none⟩))) w K) : vr P (.p none d (.idx sz x i) :: r) f w K := by
 show pe (.idx sz x i) f (fun v => vr P r (upd f d v) w K)
 have hp := Enc.pos (enc := enc)
 have hfl := fm_length (enc := enc) l
 obtain ⟨a, c, rfl, h2, h3, h4⟩ := h.form
 obtain ⟨a0, c0, e, h20, h30, h40⟩ := h0.form
 cases e
 show kslice (ev f x) _; rw [hx]; show anyint (ev f i) _; rw [hi]; refine ⟨⟨by omega, by omega⟩, ?_⟩
 cases a with
 | none => have := h4 rfl; omega
 | some a =>
  obtain ⟨b, o, m⟩ := a
  cases m with
  | some m =>
   simp only [Row] at h3
   rw [h3, List.length_nil] at hfl
   have := Nat.mul_pos (show 0 < l.length by omega) hp; omega
  | none =>
   refine hk _ _ (fun q hq => ?_) rfl
   rw [Enc.len (enc := enc)] at hq
   have hle : j * sz + sz ≤ l.length * sz := by
    have := Nat.mul_le_mul_right sz hj
    rwa [Nat.succ_mul] at this
   have h5 := h30 (j * sz + q) (by rw [hfl]; omega)
   rw [Int.toNat_natCast, ← fm_get z hj hq, ← h5]
   congr 2; omega
end
theorem m_appSU {α : Type} {enc : α → List Value} {sz : Nat} [Enc enc sz] {P : Program} {r : List MI} {f : Fr} {w w0 : World} {K : Fr → World → Prop} {v : Value} {S : List Nat} {R : List (List Ent)} {t : TypeId} {bytes : Nat} {zs : List Value} {x y : Operand} {l m : List α} {u : Value} {i c : Nat} {rs : List Ent} (hM : Mem w0 S w R) (hi : R[i]? = some rs) (hs : SlS enc sz t v l rs) (hx : ev f x = v) (hy : ev f y = u) (hu : RdS enc w u m) (hz : zs.length = sz) (hb : (l.length + m.length) * bytes ≤ 175921860444160) (hb0 : 0 < bytes ∧ bytes < 65536)
 (h : ∀ v' w' r', SlS enc sz t v' (l ++ m) r' → Upd (ids rs) w w' → Mem w0 S w' (R.set i r') → vr P r (upd f c v') w' K) : vr P (.l none (some c) (.app t bytes sz zs x y) :: r) f w K :=
 m_appS' (Mem.start (hM.res hi)) (i := 0) rfl hs hx hy hu hz hb hb0 fun v' w' r' h1 h2 => h v' w' r' h1 h2.upd (hM.step i hi h2)
theorem getD_memG {α : Type} (z : α) {l : List α} {i : Nat} (h : i < l.length) : l.getD i z ∈ l := by
 rw [List.getD_eq_getElem?_getD, List.getElem?_eq_getElem h]; exact List.getElem_mem h
end Go.Proofs.Ytifnmbmijljhfaa.E
namespace Go.Proofs.Ytifnmbmijljhfaa.E
open Go
theorem Mem.far {w0 w w' : World} {R : List (List Ent)} {i : Nat} {r : List Ent} (hM : Mem w0 [] w R) (hi : R[i]? = some r) (u : Upd (ids r) w w') : Upd [] w0 w' := by
 have hu := hM.upd
 refine ⟨u.os.trans hu.os, u.tape.trans hu.tape, u.output.trans hu.output, Nat.le_trans hu.size u.size, fun b hb hn => ?_⟩
 rw [u.block b (Nat.lt_of_lt_of_le hb hu.size) (fun hm => Mem.old hM hi hb hm), hu.block b hb hn]
theorem Rd.cells1 {w : World} {v : Value} {n : Nat} {cs : List Value} (h : Rd w v n cs) : v.cells = #[v] := by
 obtain ⟨a, m, c, rfl⟩ := h.isSlice; rfl
theorem Sl.cells1 {sz n : Nat} {t : TypeId} {v : Value} {cs : List Value} {r : List Ent} (h : Sl sz t v n cs r) : v.cells = #[v] := by
 obtain ⟨a, m, c, rfl⟩ := h.isSlice; rfl
section
variable {P : Program} {r : List MI} {f : Fr} {w w0 : World} {S : List Nat} {R : List (List Ent)} {K : Fr → World → Prop} {d : Nat} {v : Value}
theorem m_cpyE {α : Type} {E : α → Value} [One E] {t : TypeId} {x y : Operand} {l m : List α} {u : Value} {i : Nat} {rs : List Ent} (hM : Mem w0 S w R) (hi : R[i]? = some rs) (hs : SlE E t v l rs) (hx : ev f x = v) (hy : ev f y = u) (hu : RdE E w u m)
 (h : ∀ w' r', SlE E t v (m.take l.length ++ l.drop m.length) r' → Mem w0 S w' (R.set i r') → vr P r (upd f d (.int .i64 ((min m.length l.length : Nat) : Int))) w' K) : vr P (.l none (some d) (.cpy 1 x y) :: r) f w K := by
 obtain ⟨a, c, hu1, h2, h3, h4⟩ := hu.form
 have hsrc : Src w u (min m.length l.length) 1 ((m.take l.length).map E) := by
  rw [hu1]
  refine ⟨?_, ?_⟩
  ·rw [List.length_map, List.length_take]
   cases a with
   | none => simp [h4 rfl]
   | some a => simp [Nat.min_comm]
  cases a with
  | none =>
   have := h4 rfl
   show (m.take l.length).map E = []
   rw [List.length_eq_zero_iff.1 this]; simp
  | some a =>
   obtain ⟨b, o, q⟩ := a
   cases q with
   | some q =>
    simp only [Row] at h3 ⊢
    have hm : m = [] := by simpa using h3
    rw [hm]; simp
   | none =>
    intro j hj
    rw [List.length_map, List.length_take] at hj
    rw [h3 j (by rw [List.length_map]; omega), List.getElem?_map, List.getElem?_map, List.getElem?_take_of_lt (by omega)]
 show kslice (ev f x) _
 rw [hx]
 rcases hs.form with ⟨rfl, h0, rfl⟩ | ⟨b, cap, tail, rfl, rfl, h1, h2'⟩
 ·have hl : l = [] := List.length_eq_zero_iff.1 h0
  subst hl
  have key : ∀ y' : Value, y' = u → lenN y' fun k => ∃ new, Src w y' (min k ([] : List α).length) 1 new ∧ vr P r (putO f (some d) (.int .i64 ((min k ([] : List α).length : Nat) : Int))) w K := by
   intro y' e
   rw [e]
   refine hu.lenN ⟨_, hsrc, ?_⟩
   have e9 : m.take ([] : List α).length ++ ([] : List α).drop m.length = [] := by simp
   have hn : SlE E t (.slice none 0 0) (m.take ([] : List α).length ++ ([] : List α).drop m.length) [] := by rw [e9]; exact Sl.nil 1 t
   exact h w [] hn (hM.step i hi (Mem.start (hM.res hi)))
  exact key _ hy
 have ho := hM.at hi (j := 0) rfl
 have hlen : 0 + ((m.take l.length).map E).length ≤ (l.map E ++ tail).length := by
  rw [List.length_map, List.length_take, List.length_append, List.length_map]; omega
 have fin : vr P r (putO f (some d) (.int .i64 ((min m.length l.length : Nat) : Int))) (World.stores w b 0 ((m.take l.length).map E)) K := by
  have hM':= hM.step i hi (mem_stores ho 0 ((m.take l.length).map E))
  rw [splice_eq _ _ _ hlen] at hM'
  have e : (l.map E ++ tail).take 0 ++ (m.take l.length).map E ++ (l.map E ++ tail).drop (0 + ((m.take l.length).map E).length) = (m.take l.length ++ l.drop m.length).map E ++ tail := by
   rw [List.take_zero, List.nil_append, Nat.zero_add, List.length_map, List.length_take, List.drop_append, List.length_map, List.map_append, List.append_assoc]
   congr 1
   rcases Nat.lt_or_ge m.length l.length with q | q
   ·rw [Nat.min_eq_right (by omega), show m.length - l.length = 0 by omega, List.drop_zero, List.map_drop]
   rw [Nat.min_eq_left (by omega), Nat.sub_self, List.drop_zero, List.drop_eq_nil_of_le (by simp), List.drop_eq_nil_of_le (by omega)]; rfl
  rw [e] at hM'
  have hl9 : (m.take l.length ++ l.drop m.length).length = l.length := by
   rw [List.length_append, List.length_take, List.length_drop]; omega
  refine h _ _ ⟨by simp, .inr ⟨b, cap, tail, by rw [hl9], rfl, by rw [hl9]; exact h1, by rw [hl9]; exact h2'⟩⟩ hM'
 have key : ∀ y' : Value, y' = u → lenN y' fun k => ∃ new, Src w y' (min k l.length) 1 new ∧ (Writable w b 0 new.length ∧ oneCells new ∧ vr P r (putO f (some d) (.int .i64 ((min k l.length : Nat) : Int))) (World.stores w b 0 new) K) := by
  intro y' e
  rw [e]
  refine hu.lenN ⟨_, hsrc, ho.writable hlen, one_elems _, fin⟩
 exact key _ hy
theorem m_slcM {w1 : World} {α : Type} {E : α → Value} {x yl yh ym : Operand} {k1 k2 k3 : IntKind} {u : Value} {l : List α} (A B : Nat) (h : RdE E w1 u l) (hx : ev f x = u) (hB : B ≤ l.length) (hA : A ≤ B)
 (hl : ev f yl = .int k1 A) (hh : ev f yh = .int k2 B) (hm : ev f ym = .int k3 B)
 (hk : ∀ v', RdE E w1 v' ((l.take B).drop A) → vr P r (upd f d v') w K) : vr P (.p none d (.slc 1 x (some yl) (some yh) (some ym)) :: r) f w K := by
 obtain ⟨a, c, rfl, h2, h3, h4⟩ := h.form
 have h' : Rd w1 (.slice a B B) B ((l.map E).take (B * 1)) := by
  refine ⟨a, B, rfl, Nat.le_refl _, ?_, fun e => by have := h4 e; omega⟩
  cases a with
  | none =>
   have : l = [] := List.length_eq_zero_iff.1 (h4 rfl)
   subst this; simp [Row]
  | some a =>
   obtain ⟨b, o, q⟩ := a
   cases q with
   | some q =>
    simp only [Row] at h3 ⊢
    rw [h3]; simp
   | none =>
    intro j hj
    rw [List.length_take, List.length_map] at hj
    rw [h3 j (by rw [List.length_map]; omega), List.getElem?_take_of_lt (by omega)]
 have key := Rd.sub h' (by rw [List.length_take, List.length_map]; omega) (Nat.le_refl B) hA (by omega : 0 < 1)
 show kslice (ev f x) _
 rw [hx]
 show bnd (some (ev f ym)) c c fun m => bnd (some (ev f yh)) l.length m fun hb => bnd (some (ev f yl)) 0 hb fun l' => vr P r (upd f d (.slice (cutAt 1 a l' m) (hb - l') (m - l'))) w K
 refine bndS hm ⟨by omega, by omega⟩ ?_
 rw [Int.toNat_natCast]
 refine bndS hh ⟨by omega, by omega⟩ ?_
 rw [Int.toNat_natCast]
 refine bndS hl ⟨by omega, by omega⟩ ?_
 rw [Int.toNat_natCast]
 refine hk _ ?_
 have e : ((l.take B).drop A).length = B - A := by simp; omega
 show Rd w1 _ _ _
 rw [e]
 simp only [Nat.mul_one] at key
 rw [List.take_take, Nat.min_self, ← List.map_take, ← List.map_drop] at key
 exact key
end
end Go.Proofs.Ytifnmbmijljhfaa.E
namespace Go.Proofs.Ytifnmbmijljhfaa.E
open Go
structure SubS {α : Type} (enc : α → List Value) (u : Value) (l : List α) (rs : List Ent) : Prop where
 rd : ∀ w, (∀ e ∈ rs, Own w e) → RdS enc w u l
 blk : 0 < l.length → blkV u ∈ ids rs
theorem SubS.apart {α : Type} {enc : α → List Value} {u : Value} {l : List α} {rs rk : List Ent} {w0 w : World} {S : List Nat} {R : List (List Ent)} {i k : Nat} (h : SubS enc u l rs) (hM : Mem w0 S w R) (hi : R[i]? = some rs) (hk : R[k]? = some rk) (hn : i ≠ k) (hl : 0 < l.length) : blkV u ∉ ids rk := by
 obtain ⟨e, he, hb⟩ := List.mem_map.1 (h.blk hl)
 obtain ⟨j, hj⟩ := List.mem_iff_getElem?.1 he
 rw [← hb]
 exact hM.apart (i := i) (j := j) (k := k) hi hj hk hn
theorem SubS.eqL {α : Type} {enc : α → List Value} {u : Value} {l m : List α} {rs : List Ent} (h : SubS enc u l rs) (e : l = m) : SubS enc u m rs := e ▸ h
theorem SlS.sub {α : Type} {enc : α → List Value} {sz : Nat} {t : TypeId} {u : Value} {l : List α} {rs : List Ent} (h : SlS enc sz t u l rs) : SubS enc u l rs := by
 refine ⟨fun w ho => Sl.rdOwn h ho, fun hl => ?_⟩
 rcases h.form with ⟨_, h, _⟩ | ⟨b, c, tl, rfl, rfl, _, _⟩
 ·omega
 simp [ids, blkV]
theorem SubS.mono {α : Type} {enc : α → List Value} {u : Value} {l : List α} {rs rs' : List Ent} (h : SubS enc u l rs) (hs : ∀ e ∈ rs, e ∈ rs') : SubS enc u l rs' :=
 ⟨fun w ho => h.rd w fun e he => ho e (hs e he), fun hl => by
  obtain ⟨e, he, hb⟩ := List.mem_map.1 (h.blk hl)
  exact List.mem_map.2 ⟨e, hs e he, hb⟩⟩
theorem own2 {w : World} {a b : List Ent} (ha : ∀ e ∈ a, Own w e) (hb : ∀ e ∈ b, Own w e) : ∀ e ∈ a ++ b, Own w e := fun e he => by
 rcases List.mem_append.1 he with h | h
 ·exact ha e h
 exact hb e h
section
variable {P : Program} {r : List MI} {f : Fr} {w w0 : World} {S : List Nat} {R : List (List Ent)} {K : Fr → World → Prop} {d : Nat}
theorem m_slcSubH {α : Type} {enc : α → List Value} {sz : Nat} [Enc enc sz] {x y : Operand} {u : Value} {l : List α} {rs : List Ent} {k : IntKind} (B : Nat) (h : SubS enc u l rs) (ho : ∀ e ∈ rs, Own w e) (hx : ev f x = u) (hB : B ≤ l.length) (hy : ev f y = .int k B)
 (hk : ∀ v', SubS enc v' (l.take B) rs → vr P r (upd f d v') w K) : vr P (.p none d (.slc sz x none (some y) none) :: r) f w K := by
 obtain ⟨a, c, hu, hc, hrow, hnil⟩ := (h.rd w ho).form
 subst hu
 have key : SubS enc (.slice (cutAt sz a 0 c) (B - 0) (c - 0)) (l.take B) rs := by
  refine ⟨fun w' ho' => ?_, fun hl => ?_⟩
  ·have h2 := Rd.sub (h.rd w' ho') (fm_length l) hB (Nat.zero_le _) (Enc.pos (enc := enc))
   show Rd w' _ (l.take B).length _
   rw [List.length_take, Nat.min_eq_left hB, ← fm_take]
   rw [Nat.zero_mul, List.drop_zero] at h2
   exact h2
  rw [List.length_take] at hl
  have hb := h.blk (by omega)
  cases a with
  | none => have := hnil rfl; omega
  | some a =>
   obtain ⟨b, o, m⟩ := a
   cases m with
   | none =>
    show blkV (.slice (if c = 0 then some ⟨b, o, none⟩ else some ⟨b, o + 0 * sz, none⟩) _ _) ∈ _
    by_cases e : c = 0
    ·rw [if_pos e]; exact hb
    rw [if_neg e]; exact hb
   | some m =>
    have hp := Enc.pos (enc := enc)
    have hL : 0 < (l.flatMap enc).length := by rw [fm_length]; exact Nat.mul_pos (by omega) hp
    simp only [Row] at hrow; rw [hrow] at hL; simp at hL
 have h5 := hk _ key
 show kslice (ev f x) _; rw [hx]
 show bnd (some (ev f y)) l.length c fun h => bnd none 0 h fun l' => vr P r (upd f d (.slice (cutAt sz a l' c) (h - l') (c - l'))) w K
 refine bndS hy ⟨by omega, by omega⟩ (bndN ?_)
 rw [Int.toNat_natCast]; exact h5
end
end Go.Proofs.Ytifnmbmijljhfaa.E
namespace Go.Proofs.Ytifnmbmijljhfaa.E
open Go
theorem Gr.base {α : Type} {E : α → Value} {t : TypeId} {a x : Value} {p l : List α} {r : List Ent} (h : Gr E t a x p l r) : ∃ ra, ra.Sublist r ∧ SlE E t a p ra := by
 rcases h with ⟨b, cap, tail, h1, h2, h3, h4, h5⟩ | ⟨rx, ra, rfl, h1, h2⟩
 ·exact ⟨r, List.Sublist.refl _, by simp, .inr ⟨b, cap, l.map E ++ tail, h1, by rw [h3]; simp, by simp at h4; omega, by simp at h5 h4 ⊢; omega⟩⟩
 exact ⟨ra, List.sublist_append_right _ _, h2⟩
section
variable {α : Type} {enc : α → List Value} {sz : Nat} [Enc enc sz]
def GrS (enc : α → List Value) (sz : Nat) (t : TypeId) (a x : Value) (p l : List α) (r : List Ent) : Prop :=
 (∃ b cap tail, a = .slice (some ⟨b, 0, none⟩) p.length cap ∧ x = .slice (some ⟨b, 0, none⟩) (p ++ l).length cap ∧ r = [⟨b, t, (p ++ l).flatMap enc ++ tail⟩] ∧ (p ++ l).length ≤ cap ∧ tail.length = (cap - (p ++ l).length) * sz) ∨
 ∃ rx ra, r = rx ++ ra ∧ SlS enc sz t x (p ++ l) rx ∧ SlS enc sz t a p ra
omit [Enc enc sz] in
theorem GrS.zero {t : TypeId} {a : Value} {p : List α} {r : List Ent} (h : SlS enc sz t a p r) : GrS enc sz t a a p [] r := by
 rcases h.form with ⟨h1, h2, h3⟩ | ⟨b, cap, tail, h1, h2, h3, h4⟩
 ·subst h3
  exact .inr ⟨[], [], rfl, by simpa using h, h⟩
 exact .inl ⟨b, cap, tail, h1, by simpa using h1, by simpa using h2, by simpa using h3, by simpa using h4⟩
omit [Enc enc sz] in
theorem GrS.slice {t : TypeId} {a x : Value} {p l : List α} {r : List Ent} (h : GrS enc sz t a x p l r) : ∃ ad c, x = .slice ad (p ++ l).length c := by
 rcases h with ⟨b, cap, tail, h1, h2, h3, h4, h5⟩ | ⟨rx, ra, rfl, h1, h2⟩
 ·exact ⟨_, _, h2⟩
 rcases h1.form with ⟨h, h0, _⟩ | ⟨b, cap, tail, h, _⟩
 ·exact ⟨none, 0, by rw [h, h0]⟩
 exact ⟨_, _, h⟩
theorem GrS.base {t : TypeId} {a x : Value} {p l : List α} {r : List Ent} (h : GrS enc sz t a x p l r) : ∃ ra, ra.Sublist r ∧ SlS enc sz t a p ra := by
 rcases h with ⟨b, cap, tail, h1, h2, h3, h4, h5⟩ | ⟨rx, ra, rfl, h1, h2⟩
 ·refine ⟨r, List.Sublist.refl _, fm_length p, .inr ⟨b, cap, l.flatMap enc ++ tail, h1, by rw [h3]; simp [List.flatMap_append], by rw [List.length_append] at h4; omega, ?_⟩⟩
  rw [List.length_append, fm_length, h5, ← Nat.add_mul]
  congr 1
  rw [List.length_append] at h4 ⊢; omega
 exact ⟨ra, List.sublist_append_right _ _, h2⟩
variable {P : Program} {r : List MI} {f : Fr} {w w0 : World} {K : Fr → World → Prop} {d : Nat} {v : Value} {S : List Nat} {R : List (List Ent)} {t : TypeId}
end
end Go.Proofs.Ytifnmbmijljhfaa.E
namespace Go.Proofs.Ytifnmbmijljhfaa.E
open Go
section
variable {α : Type} {enc : α → List Value} {sz : Nat} [Enc enc sz]
def TlS (enc : α → List Value) (sz : Nat) (t : TypeId) (a x : Value) (p l : List α) (r : List Ent) : Prop :=
 (∃ b cap tail, a = .slice (some ⟨b, 0, none⟩) p.length cap ∧ p.length < cap ∧ x = .slice (some ⟨b, p.length * sz, none⟩) l.length (cap - p.length) ∧ r = [⟨b, t, (p ++ l).flatMap enc ++ tail⟩] ∧ (p ++ l).length ≤ cap ∧ tail.length = (cap - (p ++ l).length) * sz) ∨
 (l = [] ∧ (∃ ad, x = .slice ad 0 0) ∧ SlS enc sz t a p r) ∨
 ∃ rx ra, r = rx ++ ra ∧ SlS enc sz t x l rx ∧ SlS enc sz t a p ra
omit [Enc enc sz] in
theorem TlS.of {t : TypeId} {a : Option Addr} {n c : Nat} {p : List α} {r : List Ent} (h : SlS enc sz t (.slice a n c) p r) (hn : n = p.length) : TlS enc sz t (.slice a n c) (.slice (cutAt sz a n c) (n - n) (c - n)) p [] r := by
 rw [Nat.sub_self]
 rcases h.form with ⟨h1, h2, h3⟩ | ⟨b, cap, tail, h1, h2, h3, h4⟩
 ·injection h1 with e1 e2 e3
  subst e1 e2 e3
  exact .inr (.inl ⟨rfl, ⟨_, rfl⟩, h⟩)
 injection h1 with e1 e2 e3
 subst e1 e3
 by_cases e : c = n
 ·subst e
  rw [Nat.sub_self]
  exact .inr (.inl ⟨rfl, ⟨_, rfl⟩, h⟩)
 refine .inl ⟨b, c, tail, by rw [hn], by omega, ?_, by simpa using h2, by simpa using h3, by simpa using h4⟩
 show Value.slice (if c = n then _ else some ⟨b, 0 + n * sz, none⟩) 0 (c - n) = _
 rw [if_neg e, Nat.zero_add, hn]; rfl
omit [Enc enc sz] in
theorem TlS.slice {t : TypeId} {a x : Value} {p l : List α} {r : List Ent} (h : TlS enc sz t a x p l r) : ∃ ad c, x = .slice ad l.length c := by
 rcases h with ⟨b, cap, tail, h1, h0, h2, h3, h4, h5⟩ | ⟨rfl, ⟨ad, h⟩, _⟩ | ⟨rx, ra, rfl, h1, h2⟩
 ·exact ⟨_, _, h2⟩
 ·exact ⟨_, _, h⟩
 rcases h1.form with ⟨h, h0, _⟩ | ⟨b, cap, tail, h, _⟩
 ·exact ⟨none, 0, by rw [h, h0]⟩
 exact ⟨_, _, h⟩
theorem TlS.base {t : TypeId} {a x : Value} {p l : List α} {r : List Ent} (h : TlS enc sz t a x p l r) : ∃ ra, ra.Sublist r ∧ SlS enc sz t a p ra := by
 rcases h with ⟨b, cap, tail, h1, h0, h2, h3, h4, h5⟩ | ⟨_, _, h⟩ | ⟨rx, ra, rfl, h1, h2⟩
 ·refine ⟨r, List.Sublist.refl _, fm_length p, .inr ⟨b, cap, l.flatMap enc ++ tail, h1, by rw [h3]; simp [List.flatMap_append], by omega, ?_⟩⟩
  rw [List.length_append, fm_length, h5, ← Nat.add_mul]
  congr 1
  rw [List.length_append] at h4 ⊢; omega
 ·exact ⟨r, List.Sublist.refl _, h⟩
 exact ⟨ra, List.sublist_append_right _ _, h2⟩
variable {P : Program} {r : List MI} {f : Fr} {w w0 : World} {K : Fr → World → Prop} {d : Nat} {v : Value} {S : List Nat} {R : List (List Ent)} {t : TypeId}
end
end Go.Proofs.Ytifnmbmijljhfaa.E
namespace Go.Proofs.Ytifnmbmijljhfaa.E
open Go
def wrB (a k v : List UInt8) : List UInt8 := putI (common a k : Nat) ++ putI ((k.length : Nat) - (common a k : Nat) : Int) ++ putI (v.length : Nat) ++ k.drop (common a k) ++ v
def szB (R : Nat) (bytes n : Nat) : Nat := if n = 0 then 0 else bytes + 4 * ((n + R - 1) / R) + 8
theorem wrB_len {a k v : List UInt8} (hk : k.length ≤ 1024) (hv : v.length ≤ 1024) : (wrB a k v).length ≤ 27 + k.length + v.length ∧ 3 ≤ (wrB a k v).length := by
 unfold wrB
 have hc := common_le a k
 have h1 := putI_len (v := ((common a k : Nat) : Int)) (by omega)
 have h2 := putI_len (v := ((k.length : Nat) - (common a k : Nat) : Int)) (by omega)
 have h3 := putI_len (v := ((v.length : Nat) : Int)) (by omega)
 have g1 := putI_pos (v := ((common a k : Nat) : Int)) (by omega)
 have g2 := putI_pos (v := ((k.length : Nat) - (common a k : Nat) : Int)) (by omega)
 have g3 := putI_pos (v := ((v.length : Nat) : Int)) (by omega)
 simp only [List.length_append, List.length_drop]
 omega
def BldS (bb R M : Nat) (raw : List UInt8) (st : List Int) (last : List UInt8) (n : Nat) (r : List Ent) : Prop := ∃ vr vs rr rs, r = ⟨bb, 98, [.int .i64 (R : Nat), .int .i64 (M : Nat), vr, vs, .string (str last), .int .i64 (n : Nat)]⟩ :: (rr ++ rs) ∧ SlE byteV 5 vr raw rr ∧ SlE i64V 3 vs st rs
def ahd (R n : Nat) (last : List UInt8) : List UInt8 := if n % R = 0 then [] else last
def addE (R M : Nat) (raw last : List UInt8) (n : Nat) (k v : List UInt8) : Int := if 1024 < k.length ∨ 1024 < v.length then 2 else if 0 < n ∧ cmp k last < 0 then 61 else if 0 < n ∧ M < szB R (raw.length + (wrB (ahd R n last) k v).length) (n + 1) then 62 else 0
theorem written_ok (a k v : List UInt8) (w : World) (ha : a.length ≤ 1024) (hk : k.length ≤ 1024) (hv : v.length ≤ 1024) : Calls Try.prog 46 [.string (str a), .string (str k), .string (str v)].toArray w (Rt fun r w' => ∃ rs, SlE byteV 5 r (wrB a k v) rs ∧ Mem w [] w' [rs]) := by
 have hM0 : Mem w [] w [] := Mem.nil w []
 have hcl := common_le a k
 refine calls_vc mixed Try.func46 rfl C46 (by simp [Try.ntmps46]) <| seq fun _ h1 => mv <| h1 _ _ <| seq fun _ h2 => mv <| mv <| m_call (Common_ok a k w (by first | omega | (simp; done) | (simp; omega)) (by first | omega | (simp; done) | (simp; omega))) rfl fun v3 w3 ⟨hr3, hu3⟩ => ?_
 have hM3 : Mem w [] w3 [] := hM0.pure hu3
 subst hr3
 refine mv <| h2 _ _ <| seq fun _ h4 => mv <| m_call (Put_ok (common a k : Nat) (by simp only [inK]; omega) w3) rfl fun v5 w5 ⟨rs5, hs5, hm5⟩ => ?_
 have hM5 : Mem w [] w5 [rs5] := hM3.add hm5
 have hn5 := putI_len (v := (common a k : Nat)) (by omega)
 refine mv <| h4 _ _ <| seq fun _ h6 => mv <| mv <| stp (v := .int .i64 (k.length : Nat)) (o_lens rfl rfl) <| mv <| stp (v := .int .i64 ((k.length : Nat) - (common a k : Nat))) (o_bin rfl rfl (v_sub64 (by omega))) <| m_call (Put_ok ((k.length : Nat) - (common a k : Nat)) (by simp only [inK]; omega) w5) rfl fun v7 w7 ⟨rs7, hs7, hm7⟩ => ?_
 have hM7 : Mem w [] w7 [rs5, rs7] := hM5.add hm7
 have hn7 := putI_len (v := (k.length : Nat) - (common a k : Nat)) (by omega)
 refine m_appE hM7 (i := 0) rfl hs5 rfl rfl (hs7.rd hM7 (i := 1) rfl) (by first | omega | (simp; omega)) (by omega) fun v8 w8 r8 (hs8 : SlE byteV 5 v8 ((putI (common a k : Nat)) ++ (putI ((k.length : Nat) - (common a k : Nat)))) r8) (hM8 : Mem w [] w8 [r8, rs7]) => mv <| h6 _ _ <| seq fun _ h9 => mv <| mv <| stp (v := .int .i64 (v.length : Nat)) (o_lens rfl rfl) <| m_call (Put_ok (v.length : Nat) (by simp only [inK]; omega) w8) rfl fun v10 w10 ⟨rs10, hs10, hm10⟩ => ?_
 have hM10 : Mem w [] w10 [r8, rs7, rs10] := hM8.add hm10
 have hn10 := putI_len (v := (v.length : Nat)) (by omega)
 refine m_appE hM10 (i := 0) rfl hs8 rfl rfl (hs10.rd hM10 (i := 2) rfl) (by first | omega | (simp; omega)) (by omega) fun v11 w11 r11 (hs11 : SlE byteV 5 v11 (((putI (common a k : Nat)) ++ (putI ((k.length : Nat) - (common a k : Nat)))) ++ (putI (v.length : Nat))) r11) (hM11 : Mem w [] w11 [r11, rs7, rs10]) => mv <| h9 _ _ <| seq fun _ h12 => mv <| mv <| mv <| stp (v := .string (str ((k.take k.length).drop (common a k)))) (o_slcs (a := common a k) (b := k.length) rfl (by omega) rfl ⟨_, rfl⟩ rfl) <| m_appS hM11 (i := 0) rfl hs11 rfl rfl (by first | omega | (simp; omega)) fun v13 w13 r13 (hs13 : SlE byteV 5 v13 ((((putI (common a k : Nat)) ++ (putI ((k.length : Nat) - (common a k : Nat)))) ++ (putI (v.length : Nat))) ++ ((k.take k.length).drop (common a k))) r13) (hM13 : Mem w [] w13 [r13, rs7, rs10]) => mv <| h12 _ _ <| seq fun _ h14 => mv <| mv ?_
 refine m_appS hM13 (i := 0) rfl hs13 rfl rfl (by first | omega | (simp; omega)) fun v15 w15 r15 (hs15 : SlE byteV 5 v15 (((((putI (common a k : Nat)) ++ (putI ((k.length : Nat) - (common a k : Nat)))) ++ (putI (v.length : Nat))) ++ ((k.take k.length).drop (common a k))) ++ v) r15) (hM15 : Mem w [] w15 [r15, rs7, rs10]) => mv <| h14 _ _ <| ⟨v15, rfl, ⟨_, by unfold wrB; simpa using hs15, hM15.keep (by simp)⟩⟩
theorem size_ok (bb R : Nat) (cs : List Value) (bytes n : Nat) (w : World) (ho : Own w ⟨bb, 98, .int .i64 (R : Nat) :: cs⟩) (hR : 1 ≤ R ∧ R ≤ 64) (hb : bytes ≤ 1000000) (hn : n ≤ 1000000) : Calls Try.prog 47 [.pointer (some ⟨bb, 0, none⟩), .int .i64 (bytes : Nat), .int .i64 (n : Nat)].toArray w (Rt fun r w' => r = .int .i64 ((szB R bytes n : Nat) : Int) ∧ Upd [] w w') := by
 have hM0 : Mem w [] w [] := Mem.nil w []
 obtain ⟨q, hqe⟩ : ∃ q, q = (n + R - 1) / R := ⟨_, rfl⟩
 have hq : q ≤ n + R - 1 := by rw [hqe]; exact Nat.div_le_self _ _
 refine calls_vc mixed Try.func47 rfl C47 (by simp [Try.ntmps47]) <| seq fun _ h1 => mv <| h1 _ _ <| seq fun _ h2 => seq fun _ h3 => mv <| bn rfl rfl <| h3 _ _ <| cndP rfl (fun c4 => ?_) (fun c4 => ?_)
 ·refine seq fun _ h5 => mv <| h5 _ _ <| ⟨(.int .i64 0), rfl, ⟨by unfold szB; rw [if_pos (by omega)]; rfl, hM0.upd⟩⟩
 refine h2 _ _ <| seq fun _ h6 => ?_
 intro wd e1 e2 e3 e4
 have hd := Upd.same e1 e2 e3 e4 []
 have hM7 := hM0.pure hd
 clear e1 e2 e3 e4
 refine ⟨none, ?_⟩
 show vd _ _ _ _ _ _ _
 refine dmv <| dmv <| dmv <| dq (v := .pointer (some ⟨bb, 0, none⟩)) (o_nilchk rfl rfl) <| dfa rfl <| dmv <| dq (v := .pointer (some ⟨bb, 0, none⟩)) (o_nilchk rfl rfl) <| dfa rfl <| dqld rfl (trivial) (v := .int .i64 (R : Nat)) ((ho.upd hM7.upd (by simp)).cell 0) <| dl (ld (v := .int .i64 (R : Nat)) rfl ((ho.upd hM7.upd (by simp)).cell 0) <| ⟨rfl, dq (v := .int .i64 ((n : Nat) + (R : Nat))) (o_bin rfl rfl (v_add64 (by omega))) <| dq (v := .int .i64 (((n : Nat) + (R : Nat)) - 1)) (o_bin rfl rfl (v_sub64 (by omega))) <| dq (v := .int .i64 (q : Nat)) (o_quo rfl rfl (by omega) ((v_quo (by omega) (by omega) (by simp only [inK]; omega)).trans (v_int (by rw [hqe, show ((n : Int) + (R : Int) - 1) = ((n + R - 1 : Nat) : Int) by omega]; rfl)))) <| dq (v := .int .i64 (4 * (q : Nat))) (o_bin rfl rfl (v_mul64 (by omega))) <| dq (v := .int .i64 ((bytes : Nat) + (4 * (q : Nat)))) (o_bin rfl rfl (v_add64 (by omega))) <| dq (v := .int .i64 (((bytes : Nat) + (4 * (q : Nat))) + 8)) (o_bin rfl rfl (v_add64 (by omega))) <| dmv <| h6 _ _ <| ⟨(.int .i64 (((bytes : Nat) + (4 * (q : Nat))) + 8)), rfl, ⟨by unfold szB; rw [if_neg (by omega), ← hqe]; exact v_int (by omega), hM7.upd⟩⟩⟩)
end Go.Proofs.Ytifnmbmijljhfaa.E
namespace Go.Proofs.Ytifnmbmijljhfaa.E
open Go
theorem NewBuilder_ok (R M : Nat) (w : World) (hR : 1 ≤ R ∧ R ≤ 64) (hM : 64 ≤ M ∧ M ≤ 65536) : Calls Try.prog 18 [.int .i64 (R : Nat), .int .i64 (M : Nat)].toArray w (Rt fun r w' => ∃ bb rs, r = .tuple #[.pointer (some ⟨bb, 0, none⟩), .int .i64 0] ∧ BldS bb R M [] [] [] 0 rs ∧ Mem w [] w' [rs]) := by
 have hM0 : Mem w [] w [] := Mem.nil w []
 refine calls_vc mixed Try.func18 rfl C18 (by simp [Try.ntmps18]) <| seq fun _ h1 => mv <| mv <| h1 _ _ <| seq fun _ h2 => seq fun _ h3 => mv <| bn rfl rfl <| mv <| splitP rfl (fun c4 => absurd c4 (by omega)) (fun c4 => gmv rfl <| gbn rfl rfl rfl <| pkF rfl ?_)
 refine mv <| splitP rfl (fun c5 => absurd c5 (by omega)) (fun c5 => gmv rfl <| gbn rfl rfl rfl <| pkF rfl <| mv <| splitP rfl (fun c6 => absurd c6 (by omega)) (fun c6 => gmv rfl <| gbn rfl rfl rfl <| pkF rfl <| h3 _ _ <| cndP rfl (fun c7 => absurd c7 (by omega)) (fun c7 => h2 _ _ <| seq fun _ h8 => ?_)))
 refine mv <| mv <| stp (v := .agg ([.int .i64 (R : Nat), .int .i64 (M : Nat), .slice none 0 0, .slice none 0 0, .string (str ([])), .int .i64 0] : List Value).toArray) (o_bld rfl rfl) <| m_bx (v := .agg ([.int .i64 (R : Nat), .int .i64 (M : Nat), .slice none 0 0, .slice none 0 0, .string (str ([])), .int .i64 0] : List Value).toArray) hM0 rfl rfl fun b9 w10 (hM10 : Mem w [] w10 [[⟨b9, 98, [.int .i64 (R : Nat), .int .i64 (M : Nat), .slice none 0 0, .slice none 0 0, .string (str ([])), .int .i64 0]⟩]]) => mv <| mv <| h8 _ _ <| ⟨(.tuple [.pointer (some ⟨b9, 0, none⟩), .int .i64 0].toArray), rfl, ⟨_, _, rfl, ⟨_, _, [], [], rfl, Sl.nil 1 5, Sl.nil 1 3⟩, hM10.keep (by simp)⟩⟩
end Go.Proofs.Ytifnmbmijljhfaa.E
