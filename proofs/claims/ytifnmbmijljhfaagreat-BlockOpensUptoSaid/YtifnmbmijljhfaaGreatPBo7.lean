/- Part 7 of the proof of what the last of these files says. -/
import Derived.Test.YtifnmbmijljhfaaGreatPBo6
import Derived.KernelRfl
namespace Go.Proofs.YtifnmbmijljhfaaGreat.E
open Go
theorem mixed : Tryz.prog.follows .mixedOrders = true := by kernel_rfl
noncomputable def M4 : MC := (.seq (.reg [.p none 6 (.mv (.const (.bool false)))]) (.seq (.reg [.p none 19 (.mv (.tmp 0)),.l none (some 20) (.call 17 [(.tmp 19)]),.p none 7 (.mv (.tmp 20))]) (.seq (.reg [.p none 22 (.mv (.tmp 7)),.p none 23 (.mv (.tmp 1)),.l none (some 24) (.call 18 [(.tmp 22),(.tmp 23)]),.p none 21 (.mv (.tmp 24)),.p none 25 (.ext 0 (.tmp 21)),.p none 26 (.ext 1 (.tmp 21)),.p none 8 (.mv (.tmp 25)),.p none 9 (.mv (.tmp 26))]) (.seq (.reg [.p none 28 (.mv (.tmp 0)),.p none 29 (.mv (.tmp 1)),.l none (some 30) (.call 19 [(.tmp 28),(.tmp 29)]),.p none 27 (.mv (.tmp 30)),.p none 31 (.ext 0 (.tmp 27)),.p none 32 (.ext 1 (.tmp 27)),.p none 10 (.mv (.tmp 31)),.p none 11 (.mv (.tmp 32))]) (.seq (.seq (.reg [.p none 33 (.mv (.tmp 9)),.p none 34 (.mv (.tmp 11)),.p none 35 (.bin .neq .i64 (.tmp 33) (.tmp 34)),.p none 36 (.mv (.tmp 35)),.split 36,.p (some (36,false)) 37 (.mv (.tmp 8)),.p (some (36,false)) 38 (.isnil false 0 (.tmp 37)),.p (some (36,false)) 39 (.mv (.tmp 10)),.p (some (36,false)) 40 (.isnil false 0 (.tmp 39)),.p (some (36,false)) 41 (.beq true (.tmp 38) (.tmp 40)),.p none 42 (.pick (.tmp 36) (.const (.bool true)) (.tmp 41)),.p none 43 (.mv (.tmp 42)),.split 43,.p (some (43,false)) 44 (.mv (.tmp 7)),.p (some (43,false)) 45 (.mv (.tmp 0)),.l (some (43,false)) (some 46) (.call 20 [(.tmp 44),(.tmp 45)]),.p (some (43,false)) 47 (.not (.tmp 46)),.p none 48 (.pick (.tmp 43) (.const (.bool true)) (.tmp 47)),.p none 49 (.mv (.tmp 48)),.split 49,.p (some (49,false)) 50 (.mv (.tmp 8)),.p (some (49,false)) 51 (.mv (.tmp 10)),.p (some (49,false)) 52 (.mv (.tmp 2)),.l (some (49,false)) (some 53) (.call 21 [(.tmp 50),(.tmp 51),(.tmp 52)]),.p (some (49,false)) 54 (.not (.tmp 53)),.p none 55 (.pick (.tmp 49) (.const (.bool true)) (.tmp 54))]) (.cond (.tmp 55) (.seq (.reg [.p none 6 (.mv (.const (.bool false)))]) .ret) .skip)) (.seq (.seq (.reg [.p none 12 (.mv (.const (.int .i64 0)))]) (.block 0 (.loop (.seq (.seq (.reg [.p none 56 (.mv (.tmp 12)),.p none 57
 (.mv (.tmp 7)),.p none 58 (.len (.tmp 57)),.p none 59 (.bin .lss .i64 (.tmp 56) (.tmp 58))]) (.cond (.tmp 59) .skip (.exit 0))) (.seq (.block 1 (.reg [.p none 62 (.mv (.tmp 7)),.p none 63 (.mv (.tmp 12)),.p none 64 (.idx 1 (.tmp 62) (.tmp 63)),.l none none (.st 1 (.tmp 64) (.const (.int .u8 3)))])) (.reg [.p none 60 (.mv (.tmp 12)),.p none 61 (.bin .add .i64 (.tmp 60) (.const (.int .i64 1))),.p none 12 (.mv (.tmp 61))])))))) (.seq (.reg [.l none (some 65) (.bs 5 0 1 [] []),.p none 66 (.mv (.tmp 7)),.l none (some 67) (.app 5 1 1 [(.int .u8 0)] (.tmp 65) (.tmp 66)),.p none 13 (.mv (.tmp 67))]) (.seq (.reg [.p none 69 (.mv (.tmp 7)),.p none 70 (.mv (.tmp 1)),.l none (some 71) (.call 18 [(.tmp 69),(.tmp 70)]),.p none 68 (.mv (.tmp 71)),.p none 72 (.ext 0 (.tmp 68)),.p none 73 (.ext 1 (.tmp 68)),.p none 14 (.mv (.tmp 72)),.p none 15 (.mv (.tmp 73))]) (.seq (.reg [.p none 75 (.mv (.tmp 13)),.p none 76 (.mv (.tmp 1)),.l none (some 77) (.call 19 [(.tmp 75),(.tmp 76)]),.p none 74 (.mv (.tmp 77)),.p none 78 (.ext 0 (.tmp 74)),.p none 79 (.ext 1 (.tmp 74)),.p none 16 (.mv (.tmp 78)),.p none 17 (.mv (.tmp 79))]) (.seq (.reg [.p none 80 (.mv (.tmp 8)),.p none 81 (.mv (.tmp 10)),.p none 82 (.mv (.tmp 2)),.l none (some 83) (.call 21 [(.tmp 80),(.tmp 81),(.tmp 82)]),.p none 18 (.mv (.tmp 83))]) (.seq (.reg [.p none 84 (.mv (.tmp 18)),.p none 85 (.mv (.tmp 84)),.split 85,.p (some (85,true)) 86 (.mv (.tmp 15)),.p (some (85,true)) 87 (.mv (.tmp 17)),.p (some (85,true)) 88 (.bin .eql .i64 (.tmp 86) (.tmp 87)),.p none 89 (.pick (.tmp 85) (.tmp 88) (.const (.bool false))),.p none 90 (.mv (.tmp 89)),.split 90,.p (some (90,true)) 91 (.mv (.tmp 14)),.p (some (90,true)) 92 (.isnil false 0 (.tmp 91)),.p (some (90,true)) 93 (.mv (.tmp 16)),.p (some (90,true)) 94 (.isnil false 0 (.tmp 93)),.p (some (90,true)) 95 (.beq false (.tmp 92) (.tmp 94)),.p none 96 (.pick (.tmp 90) (.tmp 95) (.const (.bool false))),.p none 97 (.mv (.tmp 96)),.split 97,.p (some (97,true)) 98 (.mv (.tmp 7)),.p (some
 (97,true)) 99 (.mv (.tmp 13)),.l (some (97,true)) (some 100) (.call 15 [(.tmp 98),(.tmp 99)]),.p none 101 (.pick (.tmp 97) (.tmp 100) (.const (.bool false))),.p none 102 (.mv (.tmp 101)),.split 102,.p (some (102,true)) 103 (.mv (.tmp 14)),.p (some (102,true)) 104 (.mv (.tmp 16)),.p (some (102,true)) 105 (.mv (.tmp 2)),.l (some (102,true)) (some 106) (.call 21 [(.tmp 103),(.tmp 104),(.tmp 105)]),.p none 107 (.pick (.tmp 102) (.tmp 106) (.const (.bool false))),.p none 108 (.mv (.tmp 107)),.split 108,.p (some (108,true)) 109 (.mv (.tmp 8)),.p (some (108,true)) 110 (.mv (.tmp 10)),.p (some (108,true)) 111 (.mv (.tmp 2)),.l (some (108,true)) (some 112) (.call 21 [(.tmp 109),(.tmp 110),(.tmp 111)]),.p none 113 (.pick (.tmp 108) (.tmp 112) (.const (.bool false))),.p none 6 (.mv (.tmp 113))]) .ret)))))))))))
theorem C4 : compile Tryz.prog 114 (Tryz.f4.body.getD .skip) = some M4 := by kernel_rfl
noncomputable def M18 : MC := (.seq (.reg [.p none 4 (.mv (.const (.pointer none))),.p none 5 (.mv (.const (.int .i64 0)))]) (.seq (.seq (.reg [.p none 12 (.mv (.tmp 1)),.p none 13 (.bin .lss .i64 (.tmp 12) (.const (.int .i64 1))),.p none 14 (.mv (.tmp 13)),.split 14,.p (some (14,false)) 15 (.mv (.tmp 1)),.p (some (14,false)) 16 (.bin .gtr .i64 (.tmp 15) (.const (.int .i64 65536))),.p none 17 (.pick (.tmp 14) (.const (.bool true)) (.tmp 16))]) (.cond (.tmp 17) (.seq (.reg [.p none 4 (.mv (.const (.pointer none))),.p none 5 (.mv (.const (.int .i64 3)))]) .ret) .skip)) (.seq (.reg [.p none 19 (.mv (.tmp 0)),.l none (some 20) (.call 35 [(.tmp 19)]),.p none 18 (.mv (.tmp 20)),.p none 21 (.ext 0 (.tmp 18)),.p none 22 (.ext 1 (.tmp 18)),.p none 6 (.mv (.tmp 21)),.p none 7 (.mv (.tmp 22))]) (.seq (.seq (.reg [.p none 23 (.mv (.tmp 7)),.p none 24 (.bin .neq .i64 (.tmp 23) (.const (.int .i64 0)))]) (.cond (.tmp 24) (.seq (.reg [.p none 25 (.mv (.tmp 7)),.p none 4 (.mv (.const (.pointer none))),.p none 5 (.mv (.tmp 25))]) .ret) .skip)) (.seq (.seq (.reg [.p none 26 (.mv (.tmp 6)),.p none 27 (.len (.tmp 26)),.p none 28 (.bin .eql .i64 (.tmp 27) (.const (.int .i64 0)))]) (.cond (.tmp 28) (.seq (.reg [.p none 4 (.mv (.const (.pointer none))),.p none 5 (.mv (.const (.int .i64 60)))]) .ret) .skip)) (.seq (.dreg (.line [.qp 0 none 29 (.mv (.tmp 6)),.qp 1 none 30 (.mv (.tmp 6)),.qp 2 none 31 (.len (.tmp 30)),.qp 3 none 32 (.bin .sub .i64 (.tmp 31) (.const (.int .i64 1))),.qp 4 none 33 (.slc 1 (.tmp 29) none (some (.tmp 32)) none),.qp 5 none 34 (.mv (.tmp 6)),.qp 6 none 35 (.mv (.tmp 6)),.qp 7 none 36 (.len (.tmp 35)),.qp 8 none 37 (.bin .sub .i64 (.tmp 36) (.const (.int .i64 1))),.qp 9 none 38 (.idx 1 (.tmp 34) (.tmp 37)),.qp 12 none 8 (.mv (.tmp 33)),.l 10 none (some 39) (.ld none (.tmp 38)),.qp 11 none 40 (.conv .i64 (.tmp 39)),.qp 13 none 9 (.mv (.tmp 40))])) (.seq (.seq (.reg [.p none 41 (.mv (.tmp 9)),.l none (some 42) (.call 29 []),.p none 43 (.mv (.const (.int .i64 3))),.p
 none 44 (.bin .geq .i64 (.tmp 41) (.tmp 43)),.p none 45 (.mv (.tmp 44)),.split 45,.p (some (45,false)) 46 (.mv (.tmp 8)),.p (some (45,false)) 47 (.len (.tmp 46)),.p (some (45,false)) 48 (.bin .mul .i64 (.const (.int .i64 64)) (.tmp 47)),.p (some (45,false)) 49 (.mv (.tmp 1)),.p (some (45,false)) 50 (.bin .lss .i64 (.tmp 48) (.tmp 49)),.p none 51 (.pick (.tmp 45) (.const (.bool true)) (.tmp 50))]) (.cond (.tmp 51) (.seq (.reg [.p none 4 (.mv (.const (.pointer none))),.p none 5 (.mv (.const (.int .i64 60)))]) .ret) .skip)) (.seq (.reg [.l none (some 53) (.call 29 []),.p none 54 (.mv (.tmp 9)),.p none 55 (.idxv 3 2 true (.tmp 53) (.tmp 54)),.p none 56 (.fld 1 none (.tmp 55)),.p none 57 (.mv (.tmp 8)),.p none 58 (.mv (.tmp 1)),.l none (some 59) (.callv (.tmp 56) [(.tmp 57),(.tmp 58)]),.p none 52 (.mv (.tmp 59)),.p none 60 (.ext 0 (.tmp 52)),.p none 61 (.ext 1 (.tmp 52)),.p none 10 (.mv (.tmp 60)),.p none 7 (.mv (.tmp 61))]) (.seq (.seq (.reg [.p none 62 (.mv (.tmp 7)),.p none 63 (.bin .neq .i64 (.tmp 62) (.const (.int .i64 0)))]) (.cond (.tmp 63) (.seq (.reg [.p none 4 (.mv (.const (.pointer none))),.p none 5 (.mv (.const (.int .i64 60)))]) .ret) .skip)) (.seq (.seq (.reg [.p none 64 (.mv (.tmp 10)),.l none (some 65) (.call 36 [(.tmp 64)]),.p none 11 (.mv (.tmp 65))]) (.seq (.reg [.p none 66 (.mv (.tmp 11)),.p none 67 (.isnil true 0 (.tmp 66))]) (.cond (.tmp 67) (.seq (.reg [.p none 68 (.mv (.tmp 11)),.p none 4 (.mv (.tmp 68)),.p none 5 (.mv (.const (.int .i64 0)))]) .ret) .skip))) (.seq (.reg [.p none 4 (.mv (.const (.pointer none))),.p none 5 (.mv (.const (.int .i64 60)))]) .ret)))))))))))
theorem C18 : compile Tryz.prog 69 (Tryz.f18.body.getD .skip) = some M18 := by kernel_rfl
noncomputable def M22 : MC := (.seq (.reg [.p none 4 (.mv (.const (.int .i64 0)))]) (.seq (.seq (.reg [.p none 6 (.mv (.tmp 0)),.p none 7 (.lens (.tmp 6)),.p none 8 (.mv (.tmp 1)),.p none 9 (.lens (.tmp 8)),.p none 10 (.mm false .i64 (.tmp 7) [(.tmp 9)]),.p none 11 (.mv (.const (.int .i64 0)))]) (.block 0 (.loop (.seq (.reg [.p none 12 (.bin .lss .i64 (.tmp 11) (.tmp 10))]) (.seq (.cond (.tmp 12) .skip (.exit 0)) (.seq (.block 1 (.seq (.reg [.p none 13 (.mv (.tmp 11)),.p none 5 (.mv (.tmp 13))]) (.block 2 (.seq (.dreg (.line [.qp 0 none 15 (.mv (.tmp 0)),.qp 1 none 16 (.mv (.tmp 5)),.qp 2 none 17 (.idxs (.tmp 15) (.tmp 16)),.qp 3 none 18 (.mv (.tmp 1)),.qp 4 none 19 (.mv (.tmp 5)),.qp 5 none 20 (.idxs (.tmp 18) (.tmp 19)),.qp 6 none 21 (.bin .lss .u8 (.tmp 17) (.tmp 20)),.qp 7 none 14 (.mv (.tmp 21))])) (.cond (.tmp 14) (.seq (.reg [.p none 4 (.mv (.const (.int .i64 (-1))))]) .ret) (.seq (.dreg (.line [.qp 0 none 23 (.mv (.tmp 0)),.qp 1 none 24 (.mv (.tmp 5)),.qp 2 none 25 (.idxs (.tmp 23) (.tmp 24)),.qp 3 none 26 (.mv (.tmp 1)),.qp 4 none 27 (.mv (.tmp 5)),.qp 5 none 28 (.idxs (.tmp 26) (.tmp 27)),.qp 6 none 29 (.bin .gtr .u8 (.tmp 25) (.tmp 28)),.qp 7 none 22 (.mv (.tmp 29))])) (.cond (.tmp 22) (.seq (.reg [.p none 4 (.mv (.const (.int .i64 1)))]) .ret) .skip))))))) (.reg [.p none 30 (.bin .add .i64 (.tmp 11) (.const (.int .i64 1))),.p none 11 (.mv (.tmp 30))]))))))) (.seq (.block 3 (.seq (.reg [.p none 32 (.mv (.tmp 0)),.p none 33 (.lens (.tmp 32)),.p none 34 (.mv (.tmp 1)),.p none 35 (.lens (.tmp 34)),.p none 36 (.bin .lss .i64 (.tmp 33) (.tmp 35)),.p none 31 (.mv (.tmp 36))]) (.cond (.tmp 31) (.seq (.reg [.p none 4 (.mv (.const (.int .i64 (-1))))]) .ret) (.seq (.reg [.p none 38 (.mv (.tmp 0)),.p none 39 (.lens (.tmp 38)),.p none 40 (.mv (.tmp 1)),.p none 41 (.lens (.tmp 40)),.p none 42 (.bin .gtr .i64 (.tmp 39) (.tmp 41)),.p none 37 (.mv (.tmp 42))]) (.cond (.tmp 37) (.seq (.reg [.p none 4 (.mv (.const (.int .i64 1)))]) .ret) .skip))))) (.seq (.reg [.p none 4
 (.mv (.const (.int .i64 0)))]) .ret))))
theorem C22 : compile Tryz.prog 43 (Tryz.f22.body.getD .skip) = some M22 := by kernel_rfl
noncomputable def M29 : MC := (.seq (.reg [.l none (some 0) (.al 65 [.nilFunc,.nilFunc,.nilFunc,.nilFunc,.nilFunc,.nilFunc])]) (.seq (.reg [.p none 1 (.bld [.nilFunc,.nilFunc] [(0,1,(.func 51)),(1,1,(.func 52))]),.p none 2 (.bld [.nilFunc,.nilFunc] [(0,1,(.func 53)),(1,1,(.func 54))]),.p none 3 (.bld [.nilFunc,.nilFunc] [(0,1,(.func 55)),(1,1,(.func 56))]),.p none 4 (.bld [.nilFunc,.nilFunc,.nilFunc,.nilFunc,.nilFunc,.nilFunc] [(0,2,(.tmp 1)),(2,2,(.tmp 2)),(4,2,(.tmp 3))]),.l none none (.st 6 (.tmp 0) (.tmp 4))]) .ret))
theorem C29 : compile Tryz.prog 5 (Tryz.f29.body.getD .skip) = some M29 := by kernel_rfl
noncomputable def M35 : MC := (.seq (.reg [.p none 2 (.mv (.const (.slice none 0 0))),.p none 3 (.mv (.const (.int .i64 0)))]) (.seq (.reg [.p none 5 (.mv (.tmp 0)),.p none 6 (.len (.tmp 5)),.p none 7 (.bin .sub .i64 (.tmp 6) (.const (.int .i64 4))),.p none 4 (.mv (.tmp 7))]) (.seq (.seq (.reg [.p none 8 (.mv (.tmp 4)),.p none 9 (.bin .lss .i64 (.tmp 8) (.const (.int .i64 0)))]) (.cond (.tmp 9) (.seq (.reg [.p none 2 (.mv (.const (.slice none 0 0))),.p none 3 (.mv (.const (.int .i64 11)))]) .ret) .skip)) (.seq (.seq (.dreg (.fork [.qp 0 none 10 (.mv (.tmp 0)),.qp 1 none 11 (.mv (.tmp 4)),.qp 2 none 12 (.slc 1 (.tmp 10) none (some (.tmp 11)) none),.qp 6 none 16 (.mv (.tmp 0)),.qp 7 none 17 (.mv (.tmp 4)),.qp 8 none 18 (.slc 1 (.tmp 16) (some (.tmp 17)) none none)] (.fork [.l 3 none (some 13) (.call 58 [(.tmp 12)])] (.fork [.l 4 none (some 14) (.call 57 [(.tmp 13)])] (.line [.l 5 none (some 15) (.b2s (.tmp 14)),.l 9 none (some 19) (.b2s (.tmp 18)),.qp 10 none 20 (.sbin .neq (.tmp 15) (.tmp 19))]) (.line [.l 9 none (some 19) (.b2s (.tmp 18)),.l 5 none (some 15) (.b2s (.tmp 14)),.qp 10 none 20 (.sbin .neq (.tmp 15) (.tmp 19))])) (.line [.l 9 none (some 19) (.b2s (.tmp 18)),.l 4 none (some 14) (.call 57 [(.tmp 13)]),.l 5 none (some 15) (.b2s (.tmp 14)),.qp 10 none 20 (.sbin .neq (.tmp 15) (.tmp 19))])) (.line [.l 9 none (some 19) (.b2s (.tmp 18)),.l 3 none (some 13) (.call 58 [(.tmp 12)]),.l 4 none (some 14) (.call 57 [(.tmp 13)]),.l 5 none (some 15) (.b2s (.tmp 14)),.qp 10 none 20 (.sbin .neq (.tmp 15) (.tmp 19))]))) (.cond (.tmp 20) (.seq (.reg [.p none 2 (.mv (.const (.slice none 0 0))),.p none 3 (.mv (.const (.int .i64 10)))]) .ret) .skip)) (.seq (.reg [.l none (some 21) (.bs 5 0 1 [] []),.p none 22 (.mv (.tmp 0)),.p none 23 (.mv (.tmp 4)),.p none 24 (.slc 1 (.tmp 22) none (some (.tmp 23)) none),.l none (some 25) (.app 5 1 1 [(.int .u8 0)] (.tmp 21) (.tmp 24)),.p none 2 (.mv (.tmp 25)),.p none 3 (.mv (.const (.int .i64 0)))]) .ret)))))
theorem C35 : compile Tryz.prog 26 (Tryz.f35.body.getD .skip) = some M35 := by kernel_rfl
noncomputable def M36 : MC := (.seq (.reg [.p none 2 (.mv (.const (.pointer none)))]) (.seq (.seq (.reg [.p none 13 (.mv (.tmp 0)),.p none 14 (.len (.tmp 13)),.p none 15 (.bin .lss .i64 (.tmp 14) (.const (.int .i64 8)))]) (.cond (.tmp 15) (.seq (.reg [.p none 2 (.mv (.const (.pointer none)))]) .ret) .skip)) (.seq (.reg [.p none 16 (.mv (.tmp 0)),.p none 17 (.len (.tmp 16)),.p none 18 (.bin .sub .i64 (.tmp 17) (.const (.int .i64 8))),.p none 3 (.mv (.tmp 18))]) (.seq (.reg [.p none 19 (.mv (.tmp 0)),.p none 20 (.mv (.tmp 3)),.p none 21 (.mv (.tmp 3)),.p none 22 (.bin .add .i64 (.tmp 21) (.const (.int .i64 4))),.p none 23 (.slc 1 (.tmp 19) (some (.tmp 20)) (some (.tmp 22)) none),.l none (some 24) (.call 67 [(.tmp 23)]),.p none 25 (.conv .i64 (.tmp 24)),.p none 4 (.mv (.tmp 25))]) (.seq (.reg [.p none 26 (.mv (.tmp 0)),.p none 27 (.mv (.tmp 3)),.p none 28 (.bin .add .i64 (.tmp 27) (.const (.int .i64 4))),.p none 29 (.slc 1 (.tmp 26) (some (.tmp 28)) none none),.l none (some 30) (.call 67 [(.tmp 29)]),.p none 31 (.conv .i64 (.tmp 30)),.p none 5 (.mv (.tmp 31))]) (.seq (.seq (.reg [.p none 32 (.mv (.tmp 4)),.p none 33 (.bin .lss .i64 (.tmp 32) (.const (.int .i64 1))),.p none 34 (.mv (.tmp 33)),.split 34,.p (some (34,false)) 35 (.mv (.tmp 4)),.p (some (34,false)) 36 (.bin .gtr .i64 (.tmp 35) (.const (.int .i64 64))),.p none 37 (.pick (.tmp 34) (.const (.bool true)) (.tmp 36)),.p none 38 (.mv (.tmp 37)),.split 38,.p (some (38,false)) 39 (.mv (.tmp 5)),.p (some (38,false)) 40 (.bin .lss .i64 (.tmp 39) (.const (.int .i64 1))),.p none 41 (.pick (.tmp 38) (.const (.bool true)) (.tmp 40)),.p none 42 (.mv (.tmp 41)),.split 42,.p (some (42,false)) 43 (.mv (.tmp 5)),.p (some (42,false)) 44 (.mv (.tmp 3)),.p (some (42,false)) 45 (.div .quo .i64 (.tmp 44) (.const (.int .i64 3))),.p (some (42,false)) 46 (.bin .gtr .i64 (.tmp 43) (.tmp 45)),.p none 47 (.pick (.tmp 42) (.const (.bool true)) (.tmp 46))]) (.cond (.tmp 47) (.seq (.reg [.p none 2 (.mv (.const (.pointer none)))]) .ret)
 .skip)) (.seq (.reg [.p none 48 (.mv (.tmp 3)),.p none 49 (.mv (.tmp 5)),.p none 50 (.mv (.tmp 4)),.p none 51 (.bin .add .i64 (.tmp 49) (.tmp 50)),.p none 52 (.bin .sub .i64 (.tmp 51) (.const (.int .i64 1))),.p none 53 (.mv (.tmp 4)),.p none 54 (.div .quo .i64 (.tmp 52) (.tmp 53)),.p none 55 (.bin .mul .i64 (.const (.int .i64 4)) (.tmp 54)),.p none 56 (.bin .sub .i64 (.tmp 48) (.tmp 55)),.p none 6 (.mv (.tmp 56))]) (.seq (.seq (.reg [.p none 57 (.mv (.tmp 6)),.p none 58 (.bin .lss .i64 (.tmp 57) (.const (.int .i64 0)))]) (.cond (.tmp 58) (.seq (.reg [.p none 2 (.mv (.const (.pointer none)))]) .ret) .skip)) (.seq (.reg [.p none 59 (.mv (.tmp 4)),.p none 60 (.bld [(.int .i64 0),(.slice none 0 0)] [(0,1,(.tmp 59))]),.l none (some 61) (.bx 101 (.tmp 60)),.p none 7 (.mv (.tmp 61))]) (.seq (.reg [.p none 62 (.mv (.tmp 0)),.p none 63 (.mv (.tmp 6)),.p none 64 (.slc 1 (.tmp 62) none (some (.tmp 63)) none),.l none (some 65) (.call 68 [(.tmp 64)]),.p none 66 (.bld [(.pointer none),(.string ⟨#[]⟩)] [(0,1,(.tmp 65))]),.l none (some 8) (.al 105 [(.pointer none),(.string ⟨#[]⟩)]),.l none none (.st 2 (.tmp 8) (.tmp 66))]) (.seq (.seq (.reg [.p none 67 (.mv (.tmp 5)),.p none 68 (.mv (.const (.int .i64 0)))]) (.block 0 (.loop (.seq (.reg [.p none 69 (.bin .lss .i64 (.tmp 68) (.tmp 67))]) (.seq (.cond (.tmp 69) .skip (.exit 0)) (.seq (.block 1 (.seq (.reg [.p none 70 (.mv (.tmp 68)),.p none 9 (.mv (.tmp 70))]) (.seq (.seq (.reg [.p none 71 (.mv (.tmp 9)),.p none 72 (.mv (.tmp 4)),.p none 73 (.div .rem .i64 (.tmp 71) (.tmp 72)),.p none 74 (.bin .eql .i64 (.tmp 73) (.const (.int .i64 0)))]) (.cond (.tmp 74) (.seq (.reg [.p none 75 (.mv (.tmp 6)),.p none 76 (.mv (.tmp 9)),.p none 77 (.mv (.tmp 4)),.p none 78 (.div .quo .i64 (.tmp 76) (.tmp 77)),.p none 79 (.bin .mul .i64 (.const (.int .i64 4)) (.tmp 78)),.p none 80 (.bin .add .i64 (.tmp 75) (.tmp 79)),.p none 10 (.mv (.tmp 80))]) (.seq (.dreg (.line [.qp 0 none 81 (.mv (.tmp 0)),.qp 1 none 82 (.mv (.tmp 10)),.qp 2 none 83 (.mv (.tmp
 10)),.qp 3 none 84 (.bin .add .i64 (.tmp 83) (.const (.int .i64 4))),.qp 4 none 85 (.slc 1 (.tmp 81) (some (.tmp 82)) (some (.tmp 84)) none),.qp 6 none 87 (.mv (.tmp 6)),.qp 7 none 88 (.fa 0 (.tmp 8)),.ql 8 none 89 none (.tmp 88),.l 5 none (some 86) (.call 67 [(.tmp 85)]),.l 9 none (some 90) (.call 69 [(.tmp 89)]),.qp 10 none 91 (.bin .sub .i64 (.tmp 87) (.tmp 90)),.qp 11 none 92 (.conv .u64 (.tmp 91)),.qp 12 none 93 (.bin .neq .u64 (.tmp 86) (.tmp 92))])) (.cond (.tmp 93) (.seq (.reg [.p none 2 (.mv (.const (.pointer none)))]) .ret) .skip))) .skip)) (.seq (.reg [.p none 95 (.mv (.tmp 9)),.p none 96 (.mv (.tmp 4)),.p none 97 (.div .rem .i64 (.tmp 95) (.tmp 96)),.p none 98 (.bin .eql .i64 (.tmp 97) (.const (.int .i64 0))),.p none 99 (.mv (.tmp 9)),.p none 100 (.bin .eql .i64 (.tmp 99) (.const (.int .i64 0))),.l none (some 101) (.call 70 [(.tmp 8),(.tmp 98),(.tmp 100)]),.p none 94 (.mv (.tmp 101)),.p none 102 (.ext 0 (.tmp 94)),.p none 103 (.ext 1 (.tmp 94)),.l none (some 11) (.al 107 [(.string ⟨#[]⟩),(.string ⟨#[]⟩)]),.l none none (.st 2 (.tmp 11) (.tmp 102)),.p none 12 (.mv (.tmp 103))]) (.seq (.seq (.reg [.p none 104 (.mv (.tmp 12)),.p none 105 (.not (.tmp 104))]) (.cond (.tmp 105) (.seq (.reg [.p none 2 (.mv (.const (.pointer none)))]) .ret) .skip)) (.dreg (.fork [.qp 0 none 106 (.mv (.tmp 7)),.qp 1 none 107 (.mv (.tmp 7)),.qp 2 none 108 (.nilchk (.tmp 107)),.qp 3 none 109 (.fa 1 (.tmp 108)),.ql 5 none 111 (some 2) (.tmp 11)] (.line [.l 4 none (some 110) (.ld none (.tmp 109)),.l 6 none (some 112) (.bs 107 1 2 [(.string ⟨#[]⟩),(.string ⟨#[]⟩)] [(0,2,(.tmp 111))]),.l 7 none (some 113) (.app 107 32 2 [(.string ⟨#[]⟩),(.string ⟨#[]⟩)] (.tmp 110) (.tmp 112)),.qp 8 none 114 (.nilchk (.tmp 106)),.qp 9 none 115 (.fa 1 (.tmp 114)),.l 10 none none (.st 1 (.tmp 115) (.tmp 113))]) (.line [.l 6 none (some 112) (.bs 107 1 2 [(.string ⟨#[]⟩),(.string ⟨#[]⟩)] [(0,2,(.tmp 111))]),.l 4 none (some 110) (.ld none (.tmp 109)),.l 7 none (some 113) (.app 107 32 2 [(.string
 ⟨#[]⟩),(.string ⟨#[]⟩)] (.tmp 110) (.tmp 112)),.qp 8 none 114 (.nilchk (.tmp 106)),.qp 9 none 115 (.fa 1 (.tmp 114)),.l 10 none none (.st 1 (.tmp 115) (.tmp 113))])))))))) (.reg [.p none 116 (.bin .add .i64 (.tmp 68) (.const (.int .i64 1))),.p none 68 (.mv (.tmp 116))]))))))) (.seq (.seq (.reg [.p none 117 (.fa 0 (.tmp 8)),.l none (some 118) (.ld none (.tmp 117)),.l none (some 119) (.call 71 [(.tmp 118)]),.p none 120 (.fld 0 none (.tmp 119)),.p none 121 (.bin .neq .i64 (.tmp 120) (.const (.int .i64 0)))]) (.cond (.tmp 121) (.seq (.reg [.p none 2 (.mv (.const (.pointer none)))]) .ret) .skip)) (.seq (.reg [.p none 122 (.mv (.tmp 7)),.p none 2 (.mv (.tmp 122))]) .ret)))))))))))))
theorem C36 : compile Tryz.prog 123 (Tryz.f36.body.getD .skip) = some M36 := by kernel_rfl
noncomputable def M47 : MC := (.seq (.reg [.p none 4 (.mv (.const (.int .i64 0)))]) (.seq (.seq (.reg [.p none 6 (.mv (.tmp 0)),.p none 7 (.lens (.tmp 6)),.p none 8 (.mv (.tmp 1)),.p none 9 (.lens (.tmp 8)),.p none 10 (.mm false .i64 (.tmp 7) [(.tmp 9)]),.p none 11 (.mv (.const (.int .i64 0)))]) (.block 0 (.loop (.seq (.reg [.p none 12 (.bin .lss .i64 (.tmp 11) (.tmp 10))]) (.seq (.cond (.tmp 12) .skip (.exit 0)) (.seq (.block 1 (.seq (.reg [.p none 13 (.mv (.tmp 11)),.p none 5 (.mv (.tmp 13))]) (.seq (.dreg (.line [.qp 0 none 14 (.mv (.tmp 0)),.qp 1 none 15 (.mv (.tmp 5)),.qp 2 none 16 (.idxs (.tmp 14) (.tmp 15)),.qp 3 none 17 (.mv (.tmp 1)),.qp 4 none 18 (.mv (.tmp 5)),.qp 5 none 19 (.idxs (.tmp 17) (.tmp 18)),.qp 6 none 20 (.bin .neq .u8 (.tmp 16) (.tmp 19))])) (.cond (.tmp 20) (.seq (.reg [.p none 21 (.mv (.tmp 5)),.p none 4 (.mv (.tmp 21))]) .ret) .skip)))) (.reg [.p none 22 (.bin .add .i64 (.tmp 11) (.const (.int .i64 1))),.p none 11 (.mv (.tmp 22))]))))))) (.seq (.reg [.p none 23 (.mv (.tmp 0)),.p none 24 (.lens (.tmp 23)),.p none 25 (.mv (.tmp 1)),.p none 26 (.lens (.tmp 25)),.p none 27 (.mm false .i64 (.tmp 24) [(.tmp 26)]),.p none 4 (.mv (.tmp 27))]) .ret)))
theorem C47 : compile Tryz.prog 28 (Tryz.f47.body.getD .skip) = some M47 := by kernel_rfl
noncomputable def M52 : MC := (.seq (.reg [.p none 4 (.mv (.const (.slice none 0 0))),.p none 5 (.mv (.const (.int .i64 0)))]) (.seq (.seq (.reg [.p none 6 (.mv (.tmp 0)),.p none 7 (.len (.tmp 6)),.p none 8 (.mv (.tmp 1)),.p none 9 (.bin .neq .i64 (.tmp 7) (.tmp 8))]) (.cond (.tmp 9) (.seq (.reg [.p none 4 (.mv (.const (.slice none 0 0))),.p none 5 (.mv (.const (.int .i64 60)))]) .ret) .skip)) (.seq (.reg [.p none 10 (.mv (.tmp 0)),.p none 4 (.mv (.tmp 10)),.p none 5 (.mv (.const (.int .i64 0)))]) .ret)))
theorem C52 : compile Tryz.prog 11 (Tryz.f52.body.getD .skip) = some M52 := by kernel_rfl
noncomputable def M54 : MC := (.seq (.reg [.p none 4 (.mv (.const (.slice none 0 0))),.p none 5 (.mv (.const (.int .i64 0)))]) (.seq (.seq (.reg [.p none 7 (.mv (.tmp 1)),.p none 8 (.bin .lss .i64 (.tmp 7) (.const (.int .i64 0))),.p none 9 (.mv (.tmp 8)),.split 9,.p (some (9,false)) 10 (.mv (.tmp 1)),.p (some (9,false)) 11 (.bin .gtr .i64 (.tmp 10) (.const (.int .i64 65536))),.p none 12 (.pick (.tmp 9) (.const (.bool true)) (.tmp 11))]) (.cond (.tmp 12) (.seq (.reg [.p none 4 (.mv (.const (.slice none 0 0))),.p none 5 (.mv (.const (.int .i64 3)))]) .ret) .skip)) (.seq (.reg [.l none (some 6) (.al 31 [(.slice none 0 0)])]) (.seq (.seq (.reg [.p none 13 (.mv (.tmp 0)),.p none 14 (.mv (.tmp 1)),.p none 15 (.mkf (.func 84) [] [(.tmp 6)]),.l none (some 16) (.call 83 [(.tmp 13),(.tmp 14),(.tmp 15)]),.p none 17 (.not (.tmp 16))]) (.cond (.tmp 17) (.seq (.reg [.p none 4 (.mv (.const (.slice none 0 0))),.p none 5 (.mv (.const (.int .i64 30)))]) .ret) .skip)) (.seq (.reg [.l none (some 18) (.ld none (.tmp 6)),.p none 4 (.mv (.tmp 18)),.p none 5 (.mv (.const (.int .i64 0)))]) .ret)))))
theorem C54 : compile Tryz.prog 19 (Tryz.f54.body.getD .skip) = some M54 := by kernel_rfl
noncomputable def M56 : MC := (.seq (.reg [.p none 4 (.mv (.const (.slice none 0 0))),.p none 5 (.mv (.const (.int .i64 0)))]) (.seq (.seq (.reg [.p none 10 (.mv (.tmp 1)),.p none 11 (.bin .lss .i64 (.tmp 10) (.const (.int .i64 0))),.p none 12 (.mv (.tmp 11)),.split 12,.p (some (12,false)) 13 (.mv (.tmp 1)),.p (some (12,false)) 14 (.bin .gtr .i64 (.tmp 13) (.const (.int .i64 65536))),.p none 15 (.pick (.tmp 12) (.const (.bool true)) (.tmp 14))]) (.cond (.tmp 15) (.seq (.reg [.p none 4 (.mv (.const (.slice none 0 0))),.p none 5 (.mv (.const (.int .i64 3)))]) .ret) .skip)) (.seq (.reg [.p none 16 (.mv (.tmp 0)),.l none (some 17) (.call 68 [(.tmp 16)]),.p none 6 (.mv (.tmp 17))]) (.seq (.reg [.p none 19 (.mv (.tmp 6)),.l none (some 20) (.call 90 [(.tmp 19)]),.p none 18 (.mv (.tmp 20)),.p none 21 (.ext 0 (.tmp 18)),.p none 22 (.ext 1 (.tmp 18)),.p none 7 (.mv (.tmp 21)),.p none 8 (.mv (.tmp 22))]) (.seq (.seq (.reg [.p none 23 (.mv (.tmp 8)),.p none 24 (.not (.tmp 23))]) (.cond (.tmp 24) (.seq (.reg [.p none 4 (.mv (.const (.slice none 0 0))),.p none 5 (.mv (.const (.int .i64 40)))]) .ret) .skip)) (.seq (.reg [.p none 26 (.mv (.tmp 7)),.p none 27 (.mv (.tmp 6)),.p none 28 (.mv (.tmp 6)),.l none (some 29) (.call 69 [(.tmp 28)]),.l none (some 30) (.call 92 [(.tmp 27),(.tmp 29)]),.p none 31 (.mv (.tmp 1)),.l none (some 32) (.call 91 [(.tmp 26),(.tmp 30),(.tmp 31)]),.p none 25 (.mv (.tmp 32)),.p none 33 (.ext 0 (.tmp 25)),.p none 34 (.ext 1 (.tmp 25)),.p none 9 (.mv (.tmp 33)),.p none 8 (.mv (.tmp 34))]) (.seq (.seq (.reg [.p none 35 (.mv (.tmp 8)),.p none 36 (.not (.tmp 35))]) (.cond (.tmp 36) (.seq (.reg [.p none 4 (.mv (.const (.slice none 0 0))),.p none 5 (.mv (.const (.int .i64 40)))]) .ret) .skip)) (.seq (.reg [.p none 37 (.mv (.tmp 9)),.p none 4 (.mv (.tmp 37)),.p none 5 (.mv (.const (.int .i64 0)))]) .ret))))))))
theorem C56 : compile Tryz.prog 38 (Tryz.f56.body.getD .skip) = some M56 := by kernel_rfl
noncomputable def M57 : MC := (.seq (.reg [.p none 2 (.mv (.const (.slice none 0 0)))]) (.seq (.reg [.p none 3 (.mv (.tmp 0)),.p none 4 (.conv .u8 (.tmp 3)),.p none 5 (.mv (.tmp 0)),.p none 6 (.shf .shr (.tmp 5) (.const (.int .u64 8))),.p none 7 (.conv .u8 (.tmp 6)),.p none 8 (.mv (.tmp 0)),.p none 9 (.shf .shr (.tmp 8) (.const (.int .u64 16))),.p none 10 (.conv .u8 (.tmp 9)),.p none 11 (.mv (.tmp 0)),.p none 12 (.shf .shr (.tmp 11) (.const (.int .u64 24))),.p none 13 (.conv .u8 (.tmp 12)),.l none (some 14) (.bs 5 4 1 [(.int .u8 0),(.int .u8 0),(.int .u8 0),(.int .u8 0)] [(0,1,(.tmp 4)),(1,1,(.tmp 7)),(2,1,(.tmp 10)),(3,1,(.tmp 13))]),.p none 2 (.mv (.tmp 14))]) .ret))
theorem C57 : compile Tryz.prog 15 (Tryz.f57.body.getD .skip) = some M57 := by kernel_rfl
noncomputable def M58 : MC := (.seq (.reg [.p none 2 (.mv (.const (.int .u32 0)))]) (.seq (.reg [.p none 3 (.mv (.tmp 0)),.l none (some 4) (.call 93 [(.const (.int .u32 0)),(.tmp 3)]),.p none 2 (.mv (.tmp 4))]) .ret))
theorem C58 : compile Tryz.prog 5 (Tryz.f58.body.getD .skip) = some M58 := by kernel_rfl
noncomputable def M67 : MC := (.seq (.reg [.p none 2 (.mv (.const (.int .u64 0)))]) (.seq (.reg [.p none 3 (.mv (.const (.int .u64 0)))]) (.seq (.seq (.reg [.p none 5 (.mv (.tmp 0)),.p none 6 (.len (.tmp 5)),.p none 7 (.mm false .i64 (.tmp 6) [(.const (.int .i64 8))]),.p none 8 (.mv (.const (.int .i64 0)))]) (.block 0 (.loop (.seq (.reg [.p none 9 (.bin .lss .i64 (.tmp 8) (.tmp 7))]) (.seq (.cond (.tmp 9) .skip (.exit 0)) (.seq (.block 1 (.seq (.reg [.p none 10 (.mv (.tmp 8)),.p none 4 (.mv (.tmp 10))]) (.reg [.p none 11 (.mv (.tmp 3)),.p none 12 (.mv (.tmp 0)),.p none 13 (.mv (.tmp 4)),.p none 14 (.idx 1 (.tmp 12) (.tmp 13)),.l none (some 15) (.ld none (.tmp 14)),.p none 16 (.conv .u64 (.tmp 15)),.p none 17 (.mv (.tmp 4)),.p none 18 (.bin .mul .i64 (.const (.int .i64 8)) (.tmp 17)),.p none 19 (.shf .shl (.tmp 16) (.tmp 18)),.p none 20 (.bin .or .u64 (.tmp 11) (.tmp 19)),.p none 3 (.mv (.tmp 20))]))) (.reg [.p none 21 (.bin .add .i64 (.tmp 8) (.const (.int .i64 1))),.p none 8 (.mv (.tmp 21))]))))))) (.seq (.reg [.p none 22 (.mv (.tmp 3)),.p none 2 (.mv (.tmp 22))]) .ret))))
theorem C67 : compile Tryz.prog 23 (Tryz.f67.body.getD .skip) = some M67 := by kernel_rfl
noncomputable def M68 : MC := (.seq (.reg [.p none 2 (.mv (.const (.pointer none)))]) (.seq (.reg [.p none 3 (.mv (.tmp 0)),.l none (some 4) (.app 5 1 1 [(.int .u8 0)] (.const (.slice none 0 0)) (.tmp 3)),.p none 5 (.bld [(.slice none 0 0),(.int .i64 0),(.int .i64 0)] [(0,1,(.tmp 4))]),.l none (some 6) (.bx 150 (.tmp 5)),.p none 2 (.mv (.tmp 6))]) .ret))
theorem C68 : compile Tryz.prog 7 (Tryz.f68.body.getD .skip) = some M68 := by kernel_rfl
noncomputable def M69 : MC := (.seq (.reg [.p none 2 (.mv (.const (.int .i64 0)))]) (.seq (.seq (.reg [.p none 3 (.mv (.tmp 0)),.p none 4 (.isnil false 0 (.tmp 3)),.p none 5 (.mv (.tmp 4)),.split 5,.p (some (5,false)) 6 (.mv (.tmp 0)),.p (some (5,false)) 7 (.nilchk (.tmp 6)),.p (some (5,false)) 8 (.fa 2 (.tmp 7)),.l (some (5,false)) (some 9) (.ld none (.tmp 8)),.p (some (5,false)) 10 (.bin .neq .i64 (.tmp 9) (.const (.int .i64 0))),.p none 11 (.pick (.tmp 5) (.const (.bool true)) (.tmp 10))]) (.cond (.tmp 11) (.seq (.reg [.p none 2 (.mv (.const (.int .i64 0)))]) .ret) .skip)) (.seq (.dreg (.line [.qp 0 none 12 (.mv (.tmp 0)),.qp 1 none 13 (.nilchk (.tmp 12)),.qp 2 none 14 (.fa 0 (.tmp 13)),.qp 5 none 17 (.mv (.tmp 0)),.qp 6 none 18 (.nilchk (.tmp 17)),.qp 7 none 19 (.fa 1 (.tmp 18)),.ql 8 none 20 none (.tmp 19),.l 3 none (some 15) (.ld none (.tmp 14)),.qp 4 none 16 (.len (.tmp 15)),.qp 9 none 21 (.bin .sub .i64 (.tmp 16) (.tmp 20)),.qp 10 none 2 (.mv (.tmp 21))])) .ret)))
theorem C69 : compile Tryz.prog 22 (Tryz.f69.body.getD .skip) = some M69 := by kernel_rfl
noncomputable def M70 : MC := (.seq (.reg [.l none (some 6) (.al 107 [(.string ⟨#[]⟩),(.string ⟨#[]⟩)]),.p none 7 (.mv (.const (.bool false)))]) (.seq (.reg [.p none 14 (.mv (.tmp 0)),.p none 15 (.nilchk (.tmp 14)),.p none 16 (.fa 0 (.tmp 15)),.l none (some 17) (.ld none (.tmp 16)),.l none (some 18) (.call 104 [(.tmp 17),(.const (.int .i64 1024))]),.p none 8 (.mv (.tmp 18))]) (.seq (.reg [.p none 19 (.mv (.tmp 0)),.p none 20 (.nilchk (.tmp 19)),.p none 21 (.fa 0 (.tmp 20)),.l none (some 22) (.ld none (.tmp 21)),.l none (some 23) (.call 104 [(.tmp 22),(.const (.int .i64 1024))]),.p none 9 (.mv (.tmp 23))]) (.seq (.reg [.p none 24 (.mv (.tmp 0)),.p none 25 (.nilchk (.tmp 24)),.p none 26 (.fa 0 (.tmp 25)),.l none (some 27) (.ld none (.tmp 26)),.l none (some 28) (.call 104 [(.tmp 27),(.const (.int .i64 1024))]),.p none 10 (.mv (.tmp 28))]) (.seq (.reg [.p none 29 (.mv (.tmp 0)),.p none 30 (.nilchk (.tmp 29)),.p none 31 (.fa 0 (.tmp 30)),.l none (some 32) (.ld none (.tmp 31)),.p none 33 (.mv (.tmp 9)),.l none (some 34) (.call 92 [(.tmp 32),(.tmp 33)]),.l none (some 35) (.b2s (.tmp 34)),.p none 11 (.mv (.tmp 35))]) (.seq (.reg [.p none 36 (.mv (.tmp 0)),.p none 37 (.nilchk (.tmp 36)),.p none 38 (.fa 0 (.tmp 37)),.l none (some 39) (.ld none (.tmp 38)),.p none 40 (.mv (.tmp 10)),.l none (some 41) (.call 92 [(.tmp 39),(.tmp 40)]),.l none (some 42) (.b2s (.tmp 41)),.p none 43 (.bld [(.string ⟨#[]⟩),(.string ⟨#[]⟩)] [(1,1,(.tmp 42))]),.l none (some 12) (.al 107 [(.string ⟨#[]⟩),(.string ⟨#[]⟩)]),.l none none (.st 2 (.tmp 12) (.tmp 43))]) (.seq (.seq (.reg [.p none 44 (.mv (.tmp 0)),.p none 45 (.nilchk (.tmp 44)),.p none 46 (.fa 0 (.tmp 45)),.l none (some 47) (.ld none (.tmp 46)),.l none (some 48) (.call 71 [(.tmp 47)]),.l none (some 13) (.al 111 [(.int .i64 0),(.int .i64 0)]),.l none none (.st 2 (.tmp 13) (.tmp 48))]) (.seq (.reg [.p none 49 (.fa 0 (.tmp 13)),.l none (some 50) (.ld none (.tmp 49)),.p none 51 (.bin .neq .i64 (.tmp 50) (.const (.int .i64 0))),.p none 52 (.mv
 (.tmp 51)),.split 52,.p (some (52,true)) 53 (.fa 0 (.tmp 13)),.l (some (52,true)) (some 54) (.ld none (.tmp 53)),.p (some (52,true)) 55 (.bin .neq .i64 (.tmp 54) (.const (.int .i64 22))),.p none 56 (.pick (.tmp 52) (.tmp 55) (.const (.bool false)))]) (.cond (.tmp 56) (.seq (.reg [.p none 57 (.bld [(.string ⟨#[]⟩),(.string ⟨#[]⟩)] []),.l none none (.st 2 (.tmp 6) (.tmp 57)),.p none 7 (.mv (.const (.bool false)))]) .ret) .skip))) (.seq (.seq (.reg [.p none 58 (.mv (.tmp 1)),.p none 59 (.mv (.tmp 58)),.split 59,.p (some (59,true)) 60 (.mv (.tmp 8)),.p (some (59,true)) 61 (.bin .neq .i64 (.tmp 60) (.const (.int .i64 0))),.p none 62 (.pick (.tmp 59) (.tmp 61) (.const (.bool false))),.p none 63 (.mv (.tmp 62)),.split 63,.p (some (63,false)) 64 (.mv (.tmp 8)),.p (some (63,false)) 65 (.mv (.tmp 0)),.p (some (63,false)) 66 (.nilchk (.tmp 65)),.p (some (63,false)) 67 (.fa 1 (.tmp 66)),.l (some (63,false)) (some 68) (.ld none (.tmp 67)),.p (some (63,false)) 69 (.lens (.tmp 68)),.p (some (63,false)) 70 (.bin .gtr .i64 (.tmp 64) (.tmp 69)),.p none 71 (.pick (.tmp 63) (.const (.bool true)) (.tmp 70)),.p none 72 (.mv (.tmp 71)),.split 72,.p (some (72,false)) 73 (.mv (.tmp 8)),.p (some (72,false)) 74 (.mv (.tmp 9)),.p (some (72,false)) 75 (.bin .add .i64 (.tmp 73) (.tmp 74)),.p (some (72,false)) 76 (.bin .gtr .i64 (.tmp 75) (.const (.int .i64 1024))),.p none 77 (.pick (.tmp 72) (.const (.bool true)) (.tmp 76))]) (.cond (.tmp 77) (.seq (.reg [.p none 78 (.bld [(.string ⟨#[]⟩),(.string ⟨#[]⟩)] []),.l none none (.st 2 (.tmp 6) (.tmp 78)),.p none 7 (.mv (.const (.bool false)))]) .ret) .skip)) (.seq (.reg [.p none 79 (.mv (.tmp 0)),.p none 80 (.nilchk (.tmp 79)),.p none 81 (.fa 1 (.tmp 80)),.l none (some 82) (.ld none (.tmp 81)),.p none 83 (.mv (.tmp 8)),.p none 84 (.slcs (.tmp 82) none (some (.tmp 83))),.p none 85 (.mv (.tmp 11)),.p none 86 (.sbin .add (.tmp 84) (.tmp 85)),.p none 87 (.fa 0 (.tmp 12)),.l none none (.st 1 (.tmp 87) (.tmp 86))]) (.seq (.seq (.dreg (.line [.qp 0 none 88
 (.mv (.tmp 2)),.qp 1 none 89 (.not (.tmp 88)),.qp 2 none 90 (.mv (.tmp 89)),.split 90,.qp 3 (some (90,true)) 91 (.fa 0 (.tmp 12)),.qp 5 (some (90,true)) 93 (.mv (.tmp 0)),.qp 6 (some (90,true)) 94 (.nilchk (.tmp 93)),.qp 7 (some (90,true)) 95 (.fa 1 (.tmp 94)),.ql 8 (some (90,true)) 96 none (.tmp 95),.l 4 (some (90,true)) (some 92) (.ld none (.tmp 91)),.l 9 (some (90,true)) (some 97) (.call 22 [(.tmp 92),(.tmp 96)]),.qp 10 (some (90,true)) 98 (.bin .lss .i64 (.tmp 97) (.const (.int .i64 0))),.qp 11 none 99 (.pick (.tmp 90) (.tmp 98) (.const (.bool false))),.qp 12 none 100 (.mv (.tmp 99)),.split 100,.qp 13 (some (100,false)) 101 (.mv (.tmp 1)),.qp 14 (some (100,false)) 102 (.not (.tmp 101)),.qp 15 (some (100,false)) 103 (.mv (.tmp 102)),.split 103,.qp 16 (some (103,true)) 104 (.mv (.tmp 0)),.qp 17 (some (103,true)) 105 (.nilchk (.tmp 104)),.qp 18 (some (103,true)) 106 (.fa 1 (.tmp 105)),.qp 20 (some (103,true)) 108 (.fa 0 (.tmp 12)),.qp 23 (some (103,true)) 111 (.mv (.tmp 8)),.ql 21 (some (103,true)) 109 none (.tmp 108),.l 19 (some (103,true)) (some 107) (.ld none (.tmp 106)),.l 22 (some (103,true)) (some 110) (.call 47 [(.tmp 107),(.tmp 109)]),.qp 24 (some (103,true)) 112 (.bin .neq .i64 (.tmp 110) (.tmp 111)),.qp 25 (some (100,false)) 113 (.pick (.tmp 103) (.tmp 112) (.const (.bool false))),.qp 26 none 114 (.pick (.tmp 100) (.const (.bool true)) (.tmp 113))])) (.cond (.tmp 114) (.seq (.reg [.p none 115 (.bld [(.string ⟨#[]⟩),(.string ⟨#[]⟩)] []),.l none none (.st 2 (.tmp 6) (.tmp 115)),.p none 7 (.mv (.const (.bool false)))]) .ret) .skip)) (.seq (.reg [.p none 116 (.mv (.tmp 0)),.p none 117 (.fa 0 (.tmp 12)),.l none (some 118) (.ld none (.tmp 117)),.p none 119 (.nilchk (.tmp 116)),.p none 120 (.fa 1 (.tmp 119)),.l none none (.st 1 (.tmp 120) (.tmp 118))]) (.seq (.reg [.l none (some 121) (.ld (some 2) (.tmp 12)),.l none none (.st 2 (.tmp 6) (.tmp 121)),.p none 7 (.mv (.const (.bool true)))]) .ret))))))))))))
theorem C70 : compile Tryz.prog 122 (Tryz.f70.body.getD .skip) = some M70 := by kernel_rfl
noncomputable def M71 : MC := (.seq (.reg [.l none (some 2) (.al 111 [(.int .i64 0),(.int .i64 0)])]) (.seq (.block 0 (.seq (.reg [.p none 4 (.mv (.tmp 0)),.p none 5 (.isnil false 0 (.tmp 4)),.p none 3 (.mv (.tmp 5))]) (.cond (.tmp 3) (.seq (.reg [.p none 6 (.bld [(.int .i64 0),(.int .i64 0)] [(0,1,(.const (.int .i64 1)))]),.l none none (.st 2 (.tmp 2) (.tmp 6))]) .ret) (.seq (.reg [.p none 8 (.mv (.tmp 0)),.p none 9 (.nilchk (.tmp 8)),.p none 10 (.fa 2 (.tmp 9)),.l none (some 11) (.ld none (.tmp 10)),.p none 12 (.bin .neq .i64 (.tmp 11) (.const (.int .i64 0))),.p none 7 (.mv (.tmp 12))]) (.cond (.tmp 7) (.seq (.dreg (.line [.qp 0 none 13 (.mv (.tmp 0)),.qp 1 none 14 (.nilchk (.tmp 13)),.qp 2 none 15 (.fa 2 (.tmp 14)),.qp 4 none 17 (.mv (.tmp 0)),.qp 5 none 18 (.nilchk (.tmp 17)),.qp 6 none 19 (.fa 1 (.tmp 18)),.ql 7 none 20 none (.tmp 19),.l 3 none (some 16) (.ld none (.tmp 15)),.qp 8 none 21 (.bld [(.int .i64 0),(.int .i64 0)] [(0,1,(.tmp 16)),(1,1,(.tmp 20))]),.l 9 none none (.st 2 (.tmp 2) (.tmp 21))])) .ret) (.seq (.dreg (.line [.qp 0 none 23 (.mv (.tmp 0)),.qp 1 none 24 (.nilchk (.tmp 23)),.qp 2 none 25 (.fa 1 (.tmp 24)),.qp 4 none 27 (.mv (.tmp 0)),.qp 5 none 28 (.nilchk (.tmp 27)),.qp 6 none 29 (.fa 0 (.tmp 28)),.ql 7 none 30 none (.tmp 29),.qp 8 none 31 (.len (.tmp 30)),.l 3 none (some 26) (.ld none (.tmp 25)),.qp 9 none 32 (.bin .lss .i64 (.tmp 26) (.tmp 31)),.qp 10 none 22 (.mv (.tmp 32))])) (.cond (.tmp 22) (.seq (.reg [.p none 33 (.mv (.tmp 0)),.p none 34 (.nilchk (.tmp 33)),.p none 35 (.fa 1 (.tmp 34)),.l none (some 36) (.ld none (.tmp 35)),.p none 37 (.bld [(.int .i64 0),(.int .i64 0)] [(0,1,(.const (.int .i64 22))),(1,1,(.tmp 36))]),.l none none (.st 2 (.tmp 2) (.tmp 37))]) .ret) .skip))))))) (.seq (.reg [.p none 38 (.bld [(.int .i64 0),(.int .i64 0)] []),.l none none (.st 2 (.tmp 2) (.tmp 38))]) .ret)))
theorem C71 : compile Tryz.prog 39 (Tryz.f71.body.getD .skip) = some M71 := by kernel_rfl
noncomputable def M83 : MC := (.seq (.reg [.p none 6 (.mv (.const (.bool false)))]) (.seq (.reg [.p none 13 (.mv (.tmp 0)),.l none (some 14) (.call 68 [(.tmp 13)]),.p none 7 (.mv (.tmp 14))]) (.seq (.reg [.p none 8 (.mv (.const (.int .i64 0)))]) (.seq (.block 0 (.loop (.seq (.seq (.reg [.p none 15 (.mv (.tmp 7)),.l none (some 16) (.call 69 [(.tmp 15)]),.p none 17 (.bin .gtr .i64 (.tmp 16) (.const (.int .i64 0)))]) (.cond (.tmp 17) .skip (.exit 0))) (.block 1 (.seq (.reg [.p none 18 (.mv (.tmp 1)),.p none 19 (.mv (.tmp 8)),.p none 20 (.bin .sub .i64 (.tmp 18) (.tmp 19)),.p none 9 (.mv (.tmp 20))]) (.seq (.reg [.p none 21 (.mv (.tmp 7)),.p none 22 (.mv (.tmp 9)),.l none (some 23) (.call 104 [(.tmp 21),(.tmp 22)]),.p none 10 (.mv (.tmp 23))]) (.seq (.reg [.p none 24 (.mv (.tmp 7)),.p none 25 (.mv (.tmp 10)),.l none (some 26) (.call 92 [(.tmp 24),(.tmp 25)]),.p none 27 (.bld [(.slice none 0 0),(.int .i64 0),(.int .i64 0)] [(0,1,(.tmp 26))]),.l none (some 11) (.al 125 [(.slice none 0 0),(.int .i64 0),(.int .i64 0)]),.l none none (.st 3 (.tmp 11) (.tmp 27))]) (.seq (.reg [.p none 28 (.mv (.tmp 8)),.p none 29 (.fa 0 (.tmp 11)),.l none (some 30) (.ld none (.tmp 29)),.p none 31 (.len (.tmp 30)),.p none 32 (.bin .add .i64 (.tmp 28) (.tmp 31)),.p none 8 (.mv (.tmp 32))]) (.seq (.seq (.reg [.p none 33 (.mv (.tmp 7)),.l none (some 34) (.call 69 [(.tmp 33)]),.p none 35 (.bin .gtr .i64 (.tmp 34) (.const (.int .i64 0)))]) (.cond (.tmp 35) (.seq (.reg [.p none 36 (.mv (.tmp 7)),.l none (some 37) (.call 104 [(.tmp 36),(.const (.int .i64 255))]),.p none 38 (.bin .add .i64 (.tmp 37) (.const (.int .i64 4))),.p none 39 (.fa 2 (.tmp 11)),.l none none (.st 1 (.tmp 39) (.tmp 38))]) (.reg [.p none 40 (.mv (.tmp 7)),.p none 41 (.mv (.tmp 8)),.p none 42 (.mm false .i64 (.const (.int .i64 32768)) [(.tmp 41)]),.l none (some 43) (.call 104 [(.tmp 40),(.tmp 42)]),.p none 44 (.fa 1 (.tmp 11)),.l none none (.st 1 (.tmp 44) (.tmp 43))])) .skip)) (.seq (.seq (.reg [.p none 45 (.mv (.tmp 7)),.l none
 (some 46) (.call 71 [(.tmp 45)]),.l none (some 12) (.al 111 [(.int .i64 0),(.int .i64 0)]),.l none none (.st 2 (.tmp 12) (.tmp 46))]) (.seq (.reg [.p none 47 (.fa 0 (.tmp 12)),.l none (some 48) (.ld none (.tmp 47)),.p none 49 (.bin .neq .i64 (.tmp 48) (.const (.int .i64 0))),.p none 50 (.mv (.tmp 49)),.split 50,.p (some (50,true)) 51 (.fa 0 (.tmp 12)),.l (some (50,true)) (some 52) (.ld none (.tmp 51)),.p (some (50,true)) 53 (.bin .neq .i64 (.tmp 52) (.const (.int .i64 22))),.p none 54 (.pick (.tmp 50) (.tmp 53) (.const (.bool false)))]) (.cond (.tmp 54) (.seq (.reg [.p none 6 (.mv (.const (.bool false)))]) .ret) .skip))) (.seq (.seq (.dreg (.line [.qp 1 none 56 (.mv (.tmp 8)),.qp 2 none 57 (.mv (.tmp 7)),.ql 0 none 55 (some 3) (.tmp 11),.l 3 none (some 58) (.call 69 [(.tmp 57)]),.qp 4 none 59 (.bin .eql .i64 (.tmp 58) (.const (.int .i64 0))),.l 5 none (some 60) (.call 112 [(.tmp 55),(.tmp 56),(.tmp 59)]),.qp 6 none 61 (.not (.tmp 60)),.qp 7 none 62 (.mv (.tmp 61)),.split 62,.qp 8 (some (62,false)) 63 (.mv (.tmp 8)),.qp 9 (some (62,false)) 64 (.fa 2 (.tmp 11)),.qp 12 (some (62,false)) 67 (.mv (.tmp 1)),.l 10 (some (62,false)) (some 65) (.ld none (.tmp 64)),.qp 11 (some (62,false)) 66 (.bin .add .i64 (.tmp 63) (.tmp 65)),.qp 13 (some (62,false)) 68 (.bin .gtr .i64 (.tmp 66) (.tmp 67)),.qp 14 none 69 (.pick (.tmp 62) (.const (.bool true)) (.tmp 68)),.qp 15 none 70 (.mv (.tmp 69)),.split 70,.l 16 (some (70,false)) (some 71) (.ld (some 3) (.tmp 11)),.l 17 (some (70,false)) (some 72) (.call 111 [(.tmp 71)]),.qp 18 (some (70,false)) 73 (.mv (.tmp 72)),.split 73,.qp 19 (some (73,true)) 74 (.mv (.tmp 8)),.qp 20 (some (73,true)) 75 (.mv (.tmp 1)),.qp 21 (some (73,true)) 76 (.bin .neq .i64 (.tmp 74) (.tmp 75)),.qp 22 (some (70,false)) 77 (.pick (.tmp 73) (.tmp 76) (.const (.bool false))),.qp 23 none 78 (.pick (.tmp 70) (.const (.bool true)) (.tmp 77))])) (.cond (.tmp 78) (.seq (.reg [.p none 6 (.mv (.const (.bool false)))]) .ret) .skip)) (.seq (.reg [.p none 79 (.mv (.tmp
 8)),.p none 80 (.fa 2 (.tmp 11)),.l none (some 81) (.ld none (.tmp 80)),.p none 82 (.bin .add .i64 (.tmp 79) (.tmp 81)),.p none 8 (.mv (.tmp 82))]) (.reg [.p none 83 (.mv (.tmp 2)),.l none (some 84) (.ld (some 3) (.tmp 11)),.l none (some 85) (.callv (.tmp 83) [(.tmp 84)])]))))))))))))) (.seq (.reg [.p none 86 (.mv (.tmp 8)),.p none 87 (.mv (.tmp 1)),.p none 88 (.bin .eql .i64 (.tmp 86) (.tmp 87)),.p none 89 (.mv (.tmp 88)),.split 89,.p (some (89,true)) 90 (.mv (.tmp 7)),.l (some (89,true)) (some 91) (.call 71 [(.tmp 90)]),.p (some (89,true)) 92 (.fld 0 none (.tmp 91)),.p (some (89,true)) 93 (.bin .eql .i64 (.tmp 92) (.const (.int .i64 0))),.p none 94 (.pick (.tmp 89) (.tmp 93) (.const (.bool false))),.p none 6 (.mv (.tmp 94))]) .ret)))))
theorem C83 : compile Tryz.prog 95 (Tryz.f83.body.getD .skip) = some M83 := by kernel_rfl
noncomputable def M84 : MC := (.seq (.reg [.l none (some 2) (.bx 125 (.tmp 0))]) (.dreg (.line [.qp 1 none 4 (.fa 0 (.tmp 2)),.qp 4 none 7 (.fa 1 (.tmp 2)),.qp 6 none 9 (.fa 2 (.tmp 2)),.ql 7 none 10 none (.tmp 9),.ql 5 none 8 none (.tmp 7),.ql 2 none 5 none (.tmp 4),.l 0 none (some 3) (.ld none (.tmp 1)),.l 3 none (some 6) (.app 5 1 1 [(.int .u8 0)] (.tmp 3) (.tmp 5)),.l 8 none (some 11) (.call 85 [(.tmp 6),(.tmp 8),(.tmp 10)]),.l 9 none none (.st 1 (.tmp 1) (.tmp 11))])))
theorem C84 : compile Tryz.prog 12 (Tryz.f84.body.getD .skip) = some M84 := by kernel_rfl
noncomputable def M85 : MC := (.seq (.reg [.p none 6 (.mv (.const (.slice none 0 0)))]) (.seq (.seq (.reg [.p none 7 (.mv (.tmp 2)),.p none 8 (.mv (.const (.int .i64 0)))]) (.block 0 (.loop (.seq (.reg [.p none 9 (.bin .lss .i64 (.tmp 8) (.tmp 7))]) (.seq (.cond (.tmp 9) .skip (.exit 0)) (.seq (.block 1 (.reg [.p none 10 (.mv (.tmp 0)),.p none 11 (.mv (.tmp 0)),.p none 12 (.mv (.tmp 0)),.p none 13 (.len (.tmp 12)),.p none 14 (.mv (.tmp 1)),.p none 15 (.bin .sub .i64 (.tmp 13) (.tmp 14)),.p none 16 (.idx 1 (.tmp 11) (.tmp 15)),.l none (some 17) (.ld none (.tmp 16)),.l none (some 18) (.bs 5 1 1 [(.int .u8 0)] [(0,1,(.tmp 17))]),.l none (some 19) (.app 5 1 1 [(.int .u8 0)] (.tmp 10) (.tmp 18)),.p none 0 (.mv (.tmp 19))])) (.reg [.p none 20 (.bin .add .i64 (.tmp 8) (.const (.int .i64 1))),.p none 8 (.mv (.tmp 20))]))))))) (.seq (.reg [.p none 21 (.mv (.tmp 0)),.p none 6 (.mv (.tmp 21))]) .ret)))
theorem C85 : compile Tryz.prog 22 (Tryz.f85.body.getD .skip) = some M85 := by kernel_rfl
noncomputable def M90 : MC := (.seq (.reg [.p none 2 (.mv (.const (.slice none 0 0))),.p none 3 (.mv (.const (.bool false)))]) (.seq (.reg [.p none 4 (.mv (.const (.slice none 0 0)))]) (.seq (.reg [.p none 5 (.mv (.const (.int .i64 (-1))))]) (.seq (.block 0 (.loop (.block 1 (.seq (.reg [.p none 9 (.mv (.tmp 0)),.l none (some 10) (.call 104 [(.tmp 9),(.const (.int .i64 256))]),.p none 6 (.mv (.tmp 10))]) (.seq (.seq (.reg [.p none 11 (.mv (.tmp 6)),.p none 12 (.bin .eql .i64 (.tmp 11) (.const (.int .i64 0)))]) (.cond (.tmp 12) (.exit 0) .skip)) (.seq (.reg [.p none 13 (.mv (.tmp 0)),.l none (some 14) (.call 118 [(.tmp 13),(.const (.int .i64 1))]),.p none 15 (.conv .i64 (.tmp 14)),.p none 7 (.mv (.tmp 15))]) (.seq (.seq (.reg [.p none 16 (.mv (.tmp 7)),.p none 17 (.bin .gtr .i64 (.tmp 16) (.const (.int .i64 15))),.p none 18 (.mv (.tmp 17)),.split 18,.p (some (18,false)) 19 (.mv (.tmp 7)),.p (some (18,false)) 20 (.mv (.tmp 5)),.p (some (18,false)) 21 (.bin .eql .i64 (.tmp 19) (.tmp 20)),.p none 22 (.pick (.tmp 18) (.const (.bool true)) (.tmp 21)),.p none 23 (.mv (.tmp 22)),.split 23,.p (some (23,false)) 24 (.mv (.tmp 4)),.p (some (23,false)) 25 (.len (.tmp 24)),.p (some (23,false)) 26 (.mv (.tmp 6)),.p (some (23,false)) 27 (.bin .add .i64 (.tmp 25) (.tmp 26)),.p (some (23,false)) 28 (.bin .gtr .i64 (.tmp 27) (.const (.int .i64 256))),.p none 29 (.pick (.tmp 23) (.const (.bool true)) (.tmp 28))]) (.cond (.tmp 29) (.seq (.reg [.p none 2 (.mv (.const (.slice none 0 0))),.p none 3 (.mv (.const (.bool false)))]) .ret) .skip)) (.seq (.seq (.reg [.p none 30 (.mv (.tmp 6)),.p none 31 (.mv (.const (.int .i64 0)))]) (.block 2 (.loop (.seq (.reg [.p none 32 (.bin .lss .i64 (.tmp 31) (.tmp 30))]) (.seq (.cond (.tmp 32) .skip (.exit 2)) (.seq (.block 3 (.reg [.p none 33 (.mv (.tmp 4)),.p none 34 (.mv (.tmp 7)),.l none (some 35) (.bs 3 1 1 [(.int .i64 0)] [(0,1,(.tmp 34))]),.l none (some 36) (.app 3 8 1 [(.int .i64 0)] (.tmp 33) (.tmp 35)),.p none 4 (.mv (.tmp 36))])) (.reg [.p
 none 37 (.bin .add .i64 (.tmp 31) (.const (.int .i64 1))),.p none 31 (.mv (.tmp 37))]))))))) (.reg [.p none 38 (.mv (.tmp 7)),.p none 5 (.mv (.tmp 38))]))))))))) (.seq (.reg [.p none 39 (.mv (.tmp 0)),.l none (some 40) (.call 71 [(.tmp 39)]),.p none 41 (.fld 0 none (.tmp 40)),.p none 8 (.mv (.tmp 41))]) (.seq (.reg [.p none 42 (.mv (.tmp 4)),.p none 43 (.mv (.tmp 5)),.p none 44 (.bin .neq .i64 (.tmp 43) (.const (.int .i64 0))),.p none 45 (.mv (.tmp 44)),.split 45,.p (some (45,true)) 46 (.mv (.tmp 8)),.p (some (45,true)) 47 (.bin .eql .i64 (.tmp 46) (.const (.int .i64 0))),.p (some (45,true)) 48 (.mv (.tmp 47)),.split 48,.p (some (48,false)) 49 (.mv (.tmp 8)),.p (some (48,false)) 50 (.bin .eql .i64 (.tmp 49) (.const (.int .i64 22))),.p (some (45,true)) 51 (.pick (.tmp 48) (.const (.bool true)) (.tmp 50)),.p none 52 (.pick (.tmp 45) (.tmp 51) (.const (.bool false))),.p none 2 (.mv (.tmp 42)),.p none 3 (.mv (.tmp 52))]) .ret))))))
theorem C90 : compile Tryz.prog 53 (Tryz.f90.body.getD .skip) = some M90 := by kernel_rfl
noncomputable def M91 : MC := (.seq (.reg [.p none 6 (.mv (.const (.slice none 0 0))),.p none 7 (.mv (.const (.bool false)))]) (.seq (.reg [.p none 18 (.mv (.tmp 0)),.l none (some 19) (.call 117 [(.tmp 18)]),.p none 17 (.mv (.tmp 19)),.p none 20 (.ext 0 (.tmp 17)),.p none 21 (.ext 1 (.tmp 17)),.p none 22 (.ext 2 (.tmp 17)),.l none (some 9) (.al 171 (List.replicate 16 (.int .i64 0))),.p none 8 (.mv (.tmp 20)),.l none none (.st 16 (.tmp 9) (.tmp 21)),.p none 10 (.mv (.tmp 22))]) (.seq (.seq (.reg [.p none 23 (.mv (.tmp 10)),.p none 24 (.not (.tmp 23)),.p none 25 (.mv (.tmp 24)),.split 25,.p (some (25,false)) 26 (.mv (.tmp 2)),.p (some (25,false)) 27 (.mv (.tmp 1)),.p (some (25,false)) 28 (.len (.tmp 27)),.p (some (25,false)) 29 (.bin .mul .i64 (.const (.int .i64 8)) (.tmp 28)),.p (some (25,false)) 30 (.bin .gtr .i64 (.tmp 26) (.tmp 29)),.p none 31 (.pick (.tmp 25) (.const (.bool true)) (.tmp 30))]) (.cond (.tmp 31) (.seq (.reg [.p none 6 (.mv (.const (.slice none 0 0))),.p none 7 (.mv (.const (.bool false)))]) .ret) .skip)) (.seq (.reg [.p none 32 (.mv (.tmp 2)),.l none (some 33) (.mks 5 1 1 [(.int .u8 0)] (.const (.int .i64 0)) (.tmp 32)),.p none 11 (.mv (.tmp 33))]) (.seq (.reg [.p none 12 (.mv (.const (.int .i64 0)))]) (.seq (.seq (.reg [.p none 34 (.mv (.tmp 2)),.p none 35 (.mv (.const (.int .i64 0)))]) (.block 0 (.loop (.seq (.reg [.p none 36 (.bin .lss .i64 (.tmp 35) (.tmp 34))]) (.seq (.cond (.tmp 36) .skip (.exit 0)) (.seq (.block 1 (.seq (.reg [.p none 13 (.mv (.const (.int .i64 0))),.p none 14 (.mv (.const (.int .i64 0))),.p none 15 (.mv (.const (.int .i64 0)))]) (.seq (.reg [.p none 16 (.mv (.const (.int .i64 1)))]) (.block 2 (.loop (.seq (.block 3 (.seq (.seq (.reg [.p none 39 (.mv (.tmp 16)),.p none 40 (.bin .gtr .i64 (.tmp 39) (.const (.int .i64 15))),.p none 41 (.mv (.tmp 40)),.split 41,.p (some (41,false)) 42 (.mv (.tmp 12)),.p (some (41,false)) 43 (.mv (.tmp 1)),.p (some (41,false)) 44 (.len (.tmp 43)),.p (some (41,false)) 45 (.bin .mul .i64 (.const
 (.int .i64 8)) (.tmp 44)),.p (some (41,false)) 46 (.bin .eql .i64 (.tmp 42) (.tmp 45)),.p none 47 (.pick (.tmp 41) (.const (.bool true)) (.tmp 46))]) (.cond (.tmp 47) (.seq (.reg [.p none 6 (.mv (.const (.slice none 0 0))),.p none 7 (.mv (.const (.bool false)))]) .ret) .skip)) (.seq (.reg [.p none 48 (.mv (.tmp 13)),.p none 49 (.shf .shl (.tmp 48) (.const (.int .u64 1))),.p none 50 (.mv (.tmp 1)),.p none 51 (.mv (.tmp 12)),.p none 52 (.div .quo .i64 (.tmp 51) (.const (.int .i64 8))),.p none 53 (.idx 1 (.tmp 50) (.tmp 52)),.l none (some 54) (.ld none (.tmp 53)),.p none 55 (.mv (.tmp 12)),.p none 56 (.div .rem .i64 (.tmp 55) (.const (.int .i64 8))),.p none 57 (.shf .shr (.tmp 54) (.tmp 56)),.p none 58 (.bin .and .u8 (.tmp 57) (.const (.int .u8 1))),.p none 59 (.conv .i64 (.tmp 58)),.p none 60 (.bin .or .i64 (.tmp 49) (.tmp 59)),.p none 13 (.mv (.tmp 60))]) (.seq (.reg [.p none 61 (.mv (.tmp 12)),.p none 62 (.bin .add .i64 (.tmp 61) (.const (.int .i64 1))),.p none 12 (.mv (.tmp 62))]) (.seq (.reg [.p none 63 (.mv (.tmp 14)),.p none 64 (.shf .shl (.tmp 63) (.const (.int .u64 1))),.p none 14 (.mv (.tmp 64))]) (.seq (.seq (.reg [.p none 65 (.mv (.tmp 13)),.p none 66 (.mv (.tmp 14)),.p none 67 (.bin .sub .i64 (.tmp 65) (.tmp 66)),.p none 68 (.mv (.tmp 16)),.p none 69 (.idxa 16 1 (.tmp 9) (.tmp 68)),.l none (some 70) (.ld none (.tmp 69)),.p none 71 (.bin .lss .i64 (.tmp 67) (.tmp 70))]) (.cond (.tmp 71) (.seq (.reg [.p none 72 (.mv (.tmp 11)),.p none 73 (.mv (.tmp 8)),.p none 74 (.mv (.tmp 15)),.p none 75 (.mv (.tmp 13)),.p none 76 (.bin .add .i64 (.tmp 74) (.tmp 75)),.p none 77 (.mv (.tmp 14)),.p none 78 (.bin .sub .i64 (.tmp 76) (.tmp 77)),.p none 79 (.idx 1 (.tmp 73) (.tmp 78)),.l none (some 80) (.ld none (.tmp 79)),.p none 81 (.conv .u8 (.tmp 80)),.l none (some 82) (.bs 5 1 1 [(.int .u8 0)] [(0,1,(.tmp 81))]),.l none (some 83) (.app 5 1 1 [(.int .u8 0)] (.tmp 72) (.tmp 82)),.p none 11 (.mv (.tmp 83))]) (.exit 2)) .skip)) (.seq (.reg [.p none 84 (.mv (.tmp 14)),.p none
 85 (.mv (.tmp 16)),.p none 86 (.idxa 16 1 (.tmp 9) (.tmp 85)),.l none (some 87) (.ld none (.tmp 86)),.p none 88 (.bin .add .i64 (.tmp 84) (.tmp 87)),.p none 14 (.mv (.tmp 88))]) (.reg [.p none 89 (.mv (.tmp 15)),.p none 90 (.mv (.tmp 16)),.p none 91 (.idxa 16 1 (.tmp 9) (.tmp 90)),.l none (some 92) (.ld none (.tmp 91)),.p none 93 (.bin .add .i64 (.tmp 89) (.tmp 92)),.p none 15 (.mv (.tmp 93))])))))))) (.reg [.p none 37 (.mv (.tmp 16)),.p none 38 (.bin .add .i64 (.tmp 37) (.const (.int .i64 1))),.p none 16 (.mv (.tmp 38))]))))))) (.reg [.p none 94 (.bin .add .i64 (.tmp 35) (.const (.int .i64 1))),.p none 35 (.mv (.tmp 94))]))))))) (.seq (.seq (.reg [.p none 95 (.mv (.tmp 12)),.p none 96 (.bin .add .i64 (.tmp 95) (.const (.int .i64 7))),.p none 97 (.div .quo .i64 (.tmp 96) (.const (.int .i64 8))),.p none 98 (.mv (.tmp 1)),.p none 99 (.len (.tmp 98)),.p none 100 (.bin .neq .i64 (.tmp 97) (.tmp 99)),.p none 101 (.mv (.tmp 100)),.split 101,.p (some (101,false)) 102 (.mv (.tmp 12)),.p (some (101,false)) 103 (.div .rem .i64 (.tmp 102) (.const (.int .i64 8))),.p (some (101,false)) 104 (.bin .neq .i64 (.tmp 103) (.const (.int .i64 0))),.p (some (101,false)) 105 (.mv (.tmp 104)),.split 105,.p (some (105,true)) 106 (.mv (.tmp 1)),.p (some (105,true)) 107 (.mv (.tmp 12)),.p (some (105,true)) 108 (.div .quo .i64 (.tmp 107) (.const (.int .i64 8))),.p (some (105,true)) 109 (.idx 1 (.tmp 106) (.tmp 108)),.l (some (105,true)) (some 110) (.ld none (.tmp 109)),.p (some (105,true)) 111 (.mv (.tmp 12)),.p (some (105,true)) 112 (.div .rem .i64 (.tmp 111) (.const (.int .i64 8))),.p (some (105,true)) 113 (.shf .shr (.tmp 110) (.tmp 112)),.p (some (105,true)) 114 (.bin .neq .u8 (.tmp 113) (.const (.int .u8 0))),.p (some (101,false)) 115 (.pick (.tmp 105) (.tmp 114) (.const (.bool false))),.p none 116 (.pick (.tmp 101) (.const (.bool true)) (.tmp 115))]) (.cond (.tmp 116) (.seq (.reg [.p none 6 (.mv (.const (.slice none 0 0))),.p none 7 (.mv (.const (.bool false)))]) .ret) .skip)) (.seq
 (.reg [.p none 117 (.mv (.tmp 11)),.p none 6 (.mv (.tmp 117)),.p none 7 (.mv (.const (.bool true)))]) .ret))))))))
theorem C91 : compile Tryz.prog 118 (Tryz.f91.body.getD .skip) = some M91 := by kernel_rfl
noncomputable def M92 : MC := (.seq (.reg [.l none (some 3) (.bx 3 (.tmp 1)),.p none 4 (.mv (.const (.slice none 0 0)))]) (.seq (.reg [.l none (some 5) (.al 31 [(.slice none 0 0)])]) (.seq (.reg [.p none 6 (.mv (.tmp 0)),.p none 7 (.mkf (.func 120) [] [(.tmp 3),(.tmp 5)]),.l none (some 8) (.call 119 [(.tmp 6),(.tmp 7)])]) (.seq (.reg [.l none (some 9) (.ld none (.tmp 5)),.p none 4 (.mv (.tmp 9))]) .ret))))
theorem C92 : compile Tryz.prog 10 (Tryz.f92.body.getD .skip) = some M92 := by kernel_rfl
noncomputable def M93 : MC := (.seq (.reg [.p none 4 (.mv (.const (.int .u32 0)))]) (.seq (.reg [.p none 9 (.mv (.tmp 0)),.p none 10 (.bin .xor .u32 (.const (.int .u32 4294967295)) (.tmp 9)),.p none 5 (.mv (.tmp 10))]) (.seq (.reg [.l none (some 11) (.call 121 []),.l none (some 6) (.al 177 (List.replicate 16 (.int .u32 0))),.l none none (.st 16 (.tmp 6) (.tmp 11))]) (.seq (.seq (.reg [.p none 12 (.mv (.tmp 1)),.p none 13 (.len (.tmp 12)),.p none 14 (.mv (.const (.int .i64 0)))]) (.block 0 (.loop (.seq (.reg [.p none 15 (.bin .lss .i64 (.tmp 14) (.tmp 13))]) (.seq (.cond (.tmp 15) .skip (.exit 0)) (.seq (.block 1 (.seq (.reg [.p none 16 (.idx 1 (.tmp 12) (.tmp 14)),.l none (some 17) (.ld none (.tmp 16)),.p none 8 (.mv (.tmp 17))]) (.seq (.reg [.p none 18 (.mv (.tmp 5)),.p none 19 (.mv (.tmp 8)),.p none 20 (.conv .u32 (.tmp 19)),.p none 21 (.bin .xor .u32 (.tmp 18) (.tmp 20)),.p none 5 (.mv (.tmp 21))]) (.seq (.reg [.p none 22 (.mv (.tmp 5)),.p none 23 (.shf .shr (.tmp 22) (.const (.int .u64 4))),.p none 24 (.mv (.tmp 5)),.p none 25 (.bin .and .u32 (.tmp 24) (.const (.int .u32 15))),.p none 26 (.idxa 16 1 (.tmp 6) (.tmp 25)),.l none (some 27) (.ld none (.tmp 26)),.p none 28 (.bin .xor .u32 (.tmp 23) (.tmp 27)),.p none 5 (.mv (.tmp 28))]) (.reg [.p none 29 (.mv (.tmp 5)),.p none 30 (.shf .shr (.tmp 29) (.const (.int .u64 4))),.p none 31 (.mv (.tmp 5)),.p none 32 (.bin .and .u32 (.tmp 31) (.const (.int .u32 15))),.p none 33 (.idxa 16 1 (.tmp 6) (.tmp 32)),.l none (some 34) (.ld none (.tmp 33)),.p none 35 (.bin .xor .u32 (.tmp 30) (.tmp 34)),.p none 5 (.mv (.tmp 35))]))))) (.reg [.p none 36 (.bin .add .i64 (.tmp 14) (.const (.int .i64 1))),.p none 14 (.mv (.tmp 36))]))))))) (.seq (.reg [.p none 37 (.mv (.tmp 5)),.p none 38 (.bin .xor .u32 (.const (.int .u32 4294967295)) (.tmp 37)),.p none 4 (.mv (.tmp 38))]) .ret)))))
theorem C93 : compile Tryz.prog 39 (Tryz.f93.body.getD .skip) = some M93 := by kernel_rfl
noncomputable def M104 : MC := (.seq (.reg [.l none (some 3) (.bx 2 (.tmp 1)),.p none 4 (.mv (.const (.int .i64 0)))]) (.seq (.reg [.l none (some 5) (.al 2 [(.int .i64 0)])]) (.seq (.reg [.p none 6 (.mv (.tmp 0)),.p none 7 (.mkf (.func 124) [] [(.tmp 3),(.tmp 5)]),.l none (some 8) (.call 119 [(.tmp 6),(.tmp 7)])]) (.seq (.reg [.l none (some 9) (.ld none (.tmp 5)),.p none 4 (.mv (.tmp 9))]) .ret))))
theorem C104 : compile Tryz.prog 10 (Tryz.f104.body.getD .skip) = some M104 := by kernel_rfl
noncomputable def M111 : MC := (.seq (.reg [.l none (some 1) (.bx 125 (.tmp 0)),.p none 2 (.mv (.const (.bool false)))]) (.seq (.reg [.p none 3 (.fa 1 (.tmp 1)),.l none (some 4) (.ld none (.tmp 3)),.p none 5 (.bin .eql .i64 (.tmp 4) (.const (.int .i64 0))),.p none 6 (.mv (.tmp 5)),.split 6,.p (some (6,true)) 7 (.fa 2 (.tmp 1)),.l (some (6,true)) (some 8) (.ld none (.tmp 7)),.p (some (6,true)) 9 (.bin .eql .i64 (.tmp 8) (.const (.int .i64 0))),.p none 10 (.pick (.tmp 6) (.tmp 9) (.const (.bool false))),.p none 2 (.mv (.tmp 10))]) .ret))
theorem C111 : compile Tryz.prog 11 (Tryz.f111.body.getD .skip) = some M111 := by kernel_rfl
noncomputable def M112 : MC := (.seq (.reg [.l none (some 3) (.bx 125 (.tmp 0)),.p none 6 (.mv (.const (.bool false)))]) (.seq (.seq (.reg [.l none (some 7) (.ld (some 3) (.tmp 3)),.l none (some 8) (.call 111 [(.tmp 7)])]) (.cond (.tmp 8) (.seq (.reg [.p none 9 (.mv (.tmp 2)),.p none 10 (.mv (.tmp 9)),.split 10,.p (some (10,true)) 11 (.fa 0 (.tmp 3)),.l (some (10,true)) (some 12) (.ld none (.tmp 11)),.p (some (10,true)) 13 (.len (.tmp 12)),.p (some (10,true)) 14 (.bin .gtr .i64 (.tmp 13) (.const (.int .i64 0))),.p none 15 (.pick (.tmp 10) (.tmp 14) (.const (.bool false))),.p none 6 (.mv (.tmp 15))]) .ret) .skip)) (.seq (.reg [.p none 16 (.fa 2 (.tmp 3)),.l none (some 17) (.ld none (.tmp 16)),.p none 18 (.bin .geq .i64 (.tmp 17) (.const (.int .i64 4))),.p none 19 (.mv (.tmp 18)),.split 19,.p (some (19,true)) 20 (.fa 2 (.tmp 3)),.l (some (19,true)) (some 21) (.ld none (.tmp 20)),.p (some (19,true)) 22 (.bin .leq .i64 (.tmp 21) (.const (.int .i64 259))),.p none 23 (.pick (.tmp 19) (.tmp 22) (.const (.bool false))),.p none 24 (.mv (.tmp 23)),.split 24,.p (some (24,true)) 25 (.fa 1 (.tmp 3)),.l (some (24,true)) (some 26) (.ld none (.tmp 25)),.p (some (24,true)) 27 (.bin .geq .i64 (.tmp 26) (.const (.int .i64 1))),.p none 28 (.pick (.tmp 24) (.tmp 27) (.const (.bool false))),.p none 29 (.mv (.tmp 28)),.split 29,.p (some (29,true)) 30 (.fa 1 (.tmp 3)),.l (some (29,true)) (some 31) (.ld none (.tmp 30)),.p (some (29,true)) 32 (.mv (.tmp 1)),.p (some (29,true)) 33 (.mm false .i64 (.const (.int .i64 32768)) [(.tmp 32)]),.p (some (29,true)) 34 (.bin .leq .i64 (.tmp 31) (.tmp 33)),.p none 35 (.pick (.tmp 29) (.tmp 34) (.const (.bool false))),.p none 6 (.mv (.tmp 35))]) .ret)))
theorem C112 : compile Tryz.prog 36 (Tryz.f112.body.getD .skip) = some M112 := by kernel_rfl
noncomputable def M117 : MC := (.seq (.reg [.p none 2 (.mv (.const (.slice none 0 0))),.l none (some 3) (.al 171 (List.replicate 16 (.int .i64 0))),.p none 4 (.mv (.const (.bool false)))]) (.seq (.reg [.p none 5 (.mv (.const (.slice none 0 0)))]) (.seq (.reg [.l none (some 6) (.al 171 (List.replicate 16 (.int .i64 0)))]) (.seq (.reg [.p none 7 (.mv (.const (.int .i64 32768)))]) (.seq (.seq (.reg [.p none 8 (.mv (.const (.int .i64 1)))]) (.block 0 (.loop (.seq (.seq (.reg [.p none 11 (.mv (.tmp 8)),.p none 12 (.bin .leq .i64 (.tmp 11) (.const (.int .i64 15)))]) (.cond (.tmp 12) .skip (.exit 0))) (.seq (.block 1 (.seq (.reg [.p none 15 (.mv (.tmp 0)),.p none 16 (.len (.tmp 15)),.p none 17 (.mv (.const (.int .i64 0)))]) (.block 2 (.loop (.seq (.reg [.p none 18 (.bin .lss .i64 (.tmp 17) (.tmp 16))]) (.seq (.cond (.tmp 18) .skip (.exit 2)) (.seq (.block 3 (.seq (.reg [.p none 19 (.mv (.tmp 17)),.p none 20 (.idx 1 (.tmp 15) (.tmp 17)),.l none (some 21) (.ld none (.tmp 20)),.p none 9 (.mv (.tmp 19)),.p none 10 (.mv (.tmp 21))]) (.seq (.reg [.p none 22 (.mv (.tmp 10)),.p none 23 (.mv (.tmp 8)),.p none 24 (.bin .eql .i64 (.tmp 22) (.tmp 23))]) (.cond (.tmp 24) (.seq (.reg [.p none 25 (.mv (.tmp 5)),.p none 26 (.mv (.tmp 9)),.l none (some 27) (.bs 3 1 1 [(.int .i64 0)] [(0,1,(.tmp 26))]),.l none (some 28) (.app 3 8 1 [(.int .i64 0)] (.tmp 25) (.tmp 27)),.p none 5 (.mv (.tmp 28))]) (.seq (.reg [.p none 29 (.mv (.tmp 8)),.p none 30 (.idxa 16 1 (.tmp 6) (.tmp 29)),.l none (some 31) (.ld none (.tmp 30)),.p none 32 (.bin .add .i64 (.tmp 31) (.const (.int .i64 1))),.p none 33 (.idxa 16 1 (.tmp 6) (.tmp 29)),.l none none (.st 1 (.tmp 33) (.tmp 32))]) (.reg [.p none 34 (.mv (.tmp 7)),.p none 35 (.mv (.tmp 8)),.p none 36 (.bin .sub .i64 (.const (.int .i64 15)) (.tmp 35)),.p none 37 (.shf .shl (.const (.int .i64 1)) (.tmp 36)),.p none 38 (.bin .sub .i64 (.tmp 34) (.tmp 37)),.p none 7 (.mv (.tmp 38))]))) .skip)))) (.reg [.p none 39 (.bin .add .i64 (.tmp 17) (.const (.int .i64 1))),.p
 none 17 (.mv (.tmp 39))])))))))) (.reg [.p none 13 (.mv (.tmp 8)),.p none 14 (.bin .add .i64 (.tmp 13) (.const (.int .i64 1))),.p none 8 (.mv (.tmp 14))])))))) (.seq (.dreg (.line [.qp 0 none 40 (.mv (.tmp 5)),.qp 2 none 42 (.mv (.tmp 7)),.qp 3 none 43 (.bin .geq .i64 (.tmp 42) (.const (.int .i64 0))),.qp 4 none 2 (.mv (.tmp 40)),.l 1 none (some 41) (.ld (some 16) (.tmp 6)),.l 5 none none (.st 16 (.tmp 3) (.tmp 41)),.qp 6 none 4 (.mv (.tmp 43))])) .ret))))))
theorem C117 : compile Tryz.prog 44 (Tryz.f117.body.getD .skip) = some M117 := by kernel_rfl
noncomputable def M118 : MC := (.seq (.reg [.l none (some 3) (.bx 3 (.tmp 1)),.p none 4 (.mv (.const (.int .u64 0)))]) (.seq (.reg [.l none (some 5) (.al 60 [(.int .u64 0)])]) (.seq (.reg [.p none 6 (.mv (.tmp 0)),.p none 7 (.mkf (.func 131) [] [(.tmp 3),(.tmp 5)]),.l none (some 8) (.call 119 [(.tmp 6),(.tmp 7)])]) (.seq (.reg [.l none (some 9) (.ld none (.tmp 5)),.p none 4 (.mv (.tmp 9))]) .ret))))
theorem C118 : compile Tryz.prog 10 (Tryz.f118.body.getD .skip) = some M118 := by kernel_rfl
noncomputable def M119 : MC := (.seq (.seq (.reg [.p none 6 (.mv (.tmp 0)),.p none 7 (.isnil false 0 (.tmp 6)),.p none 8 (.mv (.tmp 7)),.split 8,.p (some (8,false)) 9 (.mv (.tmp 0)),.p (some (8,false)) 10 (.nilchk (.tmp 9)),.p (some (8,false)) 11 (.fa 2 (.tmp 10)),.l (some (8,false)) (some 12) (.ld none (.tmp 11)),.p (some (8,false)) 13 (.bin .neq .i64 (.tmp 12) (.const (.int .i64 0))),.p none 14 (.pick (.tmp 8) (.const (.bool true)) (.tmp 13))]) (.cond (.tmp 14) .ret .skip)) (.seq (.dreg (.line [.qp 0 none 16 (.mv (.tmp 1)),.qp 1 none 17 (.mv (.tmp 0)),.qp 2 none 18 (.nilchk (.tmp 17)),.qp 3 none 19 (.fa 0 (.tmp 18)),.qp 5 none 21 (.mv (.tmp 0)),.qp 6 none 22 (.nilchk (.tmp 21)),.qp 7 none 23 (.fa 1 (.tmp 22)),.ql 8 none 24 none (.tmp 23),.l 4 none (some 20) (.ld none (.tmp 19)),.qp 9 none 25 (.slc 1 (.tmp 20) (some (.tmp 24)) none none),.l 10 none (some 26) (.callv (.tmp 16) [(.tmp 25)]),.qp 11 none 15 (.mv (.tmp 26)),.qp 12 none 27 (.ext 0 (.tmp 15)),.qp 13 none 28 (.ext 1 (.tmp 15)),.qp 14 none 4 (.mv (.tmp 27)),.qp 15 none 5 (.mv (.tmp 28))])) (.seq (.seq (.reg [.p none 29 (.mv (.tmp 5)),.p none 30 (.bin .neq .i64 (.tmp 29) (.const (.int .i64 0)))]) (.cond (.tmp 30) (.seq (.reg [.p none 31 (.mv (.tmp 0)),.p none 32 (.mv (.tmp 5)),.p none 33 (.nilchk (.tmp 31)),.p none 34 (.fa 2 (.tmp 33)),.l none none (.st 1 (.tmp 34) (.tmp 32))]) .ret) .skip)) (.reg [.p none 35 (.mv (.tmp 0)),.p none 36 (.nilchk (.tmp 35)),.p none 37 (.fa 1 (.tmp 36)),.l none (some 38) (.ld none (.tmp 37)),.p none 39 (.mv (.tmp 4)),.p none 40 (.bin .add .i64 (.tmp 38) (.tmp 39)),.p none 41 (.nilchk (.tmp 35)),.p none 42 (.fa 1 (.tmp 41)),.l none none (.st 1 (.tmp 42) (.tmp 40))]))))
theorem C119 : compile Tryz.prog 43 (Tryz.f119.body.getD .skip) = some M119 := by kernel_rfl
noncomputable def M120 : MC := (.seq (.reg [.p none 4 (.mv (.const (.int .i64 0))),.p none 5 (.mv (.const (.int .i64 0)))]) (.seq (.block 0 (.seq (.reg [.l none (some 7) (.ld none (.tmp 1)),.p none 8 (.bin .lss .i64 (.tmp 7) (.const (.int .i64 0))),.p none 6 (.mv (.tmp 8))]) (.cond (.tmp 6) (.seq (.reg [.p none 4 (.mv (.const (.int .i64 0))),.p none 5 (.mv (.const (.int .i64 23)))]) .ret) (.seq (.reg [.l none (some 10) (.ld none (.tmp 1)),.p none 11 (.mv (.tmp 0)),.p none 12 (.len (.tmp 11)),.p none 13 (.bin .gtr .i64 (.tmp 10) (.tmp 12)),.p none 9 (.mv (.tmp 13))]) (.cond (.tmp 9) (.seq (.reg [.p none 4 (.mv (.const (.int .i64 0))),.p none 5 (.mv (.const (.int .i64 20)))]) .ret) .skip))))) (.seq (.dreg (.line [.qp 1 none 15 (.mv (.tmp 0)),.ql 2 none 16 none (.tmp 1),.qp 3 none 17 (.slc 1 (.tmp 15) none (some (.tmp 16)) none),.l 0 none (some 14) (.ld none (.tmp 2)),.l 4 none (some 18) (.app 5 1 1 [(.int .u8 0)] (.tmp 14) (.tmp 17)),.l 5 none none (.st 1 (.tmp 2) (.tmp 18))])) (.seq (.reg [.l none (some 19) (.ld none (.tmp 1)),.p none 4 (.mv (.tmp 19)),.p none 5 (.mv (.const (.int .i64 0)))]) .ret))))
theorem C120 : compile Tryz.prog 20 (Tryz.f120.body.getD .skip) = some M120 := by kernel_rfl
noncomputable def M121 : MC := (.seq (.reg [.l none (some 0) (.al 177 (List.replicate 16 (.int .u32 0)))]) (.seq (.reg [.l none (some 1) (.al 177 (List.replicate 16 (.int .u32 0)))]) (.seq (.seq (.reg [.p none 4 (.mv (.const (.int .i64 0)))]) (.block 0 (.loop (.seq (.reg [.p none 5 (.bin .lss .i64 (.tmp 4) (.const (.int .i64 16)))]) (.seq (.cond (.tmp 5) .skip (.exit 0)) (.seq (.block 1 (.seq (.reg [.p none 6 (.mv (.tmp 4)),.p none 2 (.mv (.tmp 6))]) (.seq (.reg [.p none 7 (.mv (.tmp 2)),.p none 8 (.conv .u32 (.tmp 7)),.p none 3 (.mv (.tmp 8))]) (.seq (.seq (.reg [.p none 9 (.mv (.const (.int .i64 0)))]) (.block 2 (.loop (.seq (.reg [.p none 10 (.bin .lss .i64 (.tmp 9) (.const (.int .i64 4)))]) (.seq (.cond (.tmp 10) .skip (.exit 2)) (.seq (.block 3 (.reg [.p none 11 (.mv (.tmp 3)),.l none (some 12) (.call 132 [(.tmp 11)]),.p none 3 (.mv (.tmp 12))])) (.reg [.p none 13 (.bin .add .i64 (.tmp 9) (.const (.int .i64 1))),.p none 9 (.mv (.tmp 13))]))))))) (.reg [.p none 14 (.mv (.tmp 2)),.p none 15 (.mv (.tmp 3)),.p none 16 (.idxa 16 1 (.tmp 1) (.tmp 14)),.l none none (.st 1 (.tmp 16) (.tmp 15))]))))) (.reg [.p none 17 (.bin .add .i64 (.tmp 4) (.const (.int .i64 1))),.p none 4 (.mv (.tmp 17))]))))))) (.seq (.reg [.l none (some 18) (.ld (some 16) (.tmp 1)),.l none none (.st 16 (.tmp 0) (.tmp 18))]) .ret))))
theorem C121 : compile Tryz.prog 19 (Tryz.f121.body.getD .skip) = some M121 := by kernel_rfl
noncomputable def M124 : MC := (.seq (.reg [.p none 4 (.mv (.const (.int .i64 0))),.p none 5 (.mv (.const (.int .i64 0)))]) (.seq (.reg [.p none 10 (.mv (.tmp 0)),.l none (some 11) (.call 125 [(.tmp 10)]),.p none 9 (.mv (.tmp 11)),.p none 12 (.ext 0 (.tmp 9)),.p none 13 (.ext 1 (.tmp 9)),.p none 14 (.ext 2 (.tmp 9)),.p none 6 (.mv (.tmp 12)),.p none 7 (.mv (.tmp 13)),.p none 8 (.mv (.tmp 14))]) (.seq (.seq (.reg [.p none 15 (.mv (.tmp 8)),.p none 16 (.bin .eql .i64 (.tmp 15) (.const (.int .i64 0))),.p none 17 (.mv (.tmp 16)),.split 17,.p (some (17,true)) 18 (.mv (.tmp 6)),.l (some (17,true)) (some 19) (.ld none (.tmp 1)),.p (some (17,true)) 20 (.bin .gtr .i64 (.tmp 18) (.tmp 19)),.p none 21 (.pick (.tmp 17) (.tmp 20) (.const (.bool false)))]) (.cond (.tmp 21) (.reg [.p none 8 (.mv (.const (.int .i64 23)))]) .skip)) (.seq (.seq (.reg [.p none 22 (.mv (.tmp 8)),.p none 23 (.bin .eql .i64 (.tmp 22) (.const (.int .i64 0)))]) (.cond (.tmp 23) (.reg [.p none 24 (.mv (.tmp 6)),.l none none (.st 1 (.tmp 2) (.tmp 24))]) .skip)) (.seq (.reg [.p none 25 (.mv (.tmp 7)),.p none 26 (.mv (.tmp 8)),.p none 4 (.mv (.tmp 25)),.p none 5 (.mv (.tmp 26))]) .ret)))))
theorem C124 : compile Tryz.prog 27 (Tryz.f124.body.getD .skip) = some M124 := by kernel_rfl
noncomputable def M125 : MC := (.seq (.reg [.p none 2 (.mv (.const (.int .i64 0))),.p none 3 (.mv (.const (.int .i64 0))),.p none 4 (.mv (.const (.int .i64 0)))]) (.seq (.reg [.p none 5 (.mv (.const (.int .i64 0)))]) (.seq (.seq (.reg [.p none 8 (.mv (.tmp 0)),.p none 9 (.len (.tmp 8)),.p none 10 (.mv (.const (.int .i64 0)))]) (.block 0 (.loop (.seq (.reg [.p none 11 (.bin .lss .i64 (.tmp 10) (.tmp 9))]) (.seq (.cond (.tmp 11) .skip (.exit 0)) (.seq (.block 1 (.seq (.reg [.p none 12 (.mv (.tmp 10)),.p none 13 (.idx 1 (.tmp 8) (.tmp 10)),.l none (some 14) (.ld none (.tmp 13)),.p none 6 (.mv (.tmp 12)),.p none 7 (.mv (.tmp 14))]) (.seq (.seq (.reg [.p none 15 (.mv (.tmp 6)),.p none 16 (.bin .eql .i64 (.tmp 15) (.const (.int .i64 8))),.p none 17 (.mv (.tmp 16)),.split 17,.p (some (17,true)) 18 (.mv (.tmp 7)),.p (some (17,true)) 19 (.bin .geq .u8 (.tmp 18) (.const (.int .u8 128))),.p none 20 (.pick (.tmp 17) (.tmp 19) (.const (.bool false)))]) (.cond (.tmp 20) (.seq (.reg [.p none 2 (.mv (.const (.int .i64 0))),.p none 3 (.mv (.const (.int .i64 0))),.p none 4 (.mv (.const (.int .i64 21)))]) .ret) .skip)) (.seq (.reg [.p none 21 (.mv (.tmp 5)),.p none 22 (.mv (.tmp 7)),.p none 23 (.bin .and .u8 (.tmp 22) (.const (.int .u8 127))),.p none 24 (.conv .i64 (.tmp 23)),.p none 25 (.mv (.tmp 6)),.p none 26 (.bin .mul .i64 (.const (.int .i64 7)) (.tmp 25)),.p none 27 (.shf .shl (.tmp 24) (.tmp 26)),.p none 28 (.bin .or .i64 (.tmp 21) (.tmp 27)),.p none 5 (.mv (.tmp 28))]) (.seq (.reg [.p none 29 (.mv (.tmp 7)),.p none 30 (.bin .lss .u8 (.tmp 29) (.const (.int .u8 128)))]) (.cond (.tmp 30) (.seq (.seq (.reg [.p none 31 (.mv (.tmp 7)),.p none 32 (.bin .eql .u8 (.tmp 31) (.const (.int .u8 0))),.p none 33 (.mv (.tmp 32)),.split 33,.p (some (33,true)) 34 (.mv (.tmp 6)),.p (some (33,true)) 35 (.bin .gtr .i64 (.tmp 34) (.const (.int .i64 0))),.p none 36 (.pick (.tmp 33) (.tmp 35) (.const (.bool false)))]) (.cond (.tmp 36) (.seq (.reg [.p none 2 (.mv (.const (.int .i64 0))),.p none 3
 (.mv (.const (.int .i64 0))),.p none 4 (.mv (.const (.int .i64 21)))]) .ret) .skip)) (.seq (.reg [.p none 37 (.mv (.tmp 5)),.p none 38 (.mv (.tmp 6)),.p none 39 (.bin .add .i64 (.tmp 38) (.const (.int .i64 1))),.p none 2 (.mv (.tmp 37)),.p none 3 (.mv (.tmp 39)),.p none 4 (.mv (.const (.int .i64 0)))]) .ret)) .skip)))))) (.reg [.p none 40 (.bin .add .i64 (.tmp 10) (.const (.int .i64 1))),.p none 10 (.mv (.tmp 40))]))))))) (.seq (.reg [.p none 2 (.mv (.const (.int .i64 0))),.p none 3 (.mv (.const (.int .i64 0))),.p none 4 (.mv (.const (.int .i64 20)))]) .ret))))
theorem C125 : compile Tryz.prog 41 (Tryz.f125.body.getD .skip) = some M125 := by kernel_rfl
noncomputable def M131 : MC := (.seq (.reg [.p none 4 (.mv (.const (.int .i64 0))),.p none 5 (.mv (.const (.int .i64 0)))]) (.seq (.block 0 (.seq (.reg [.l none (some 7) (.ld none (.tmp 1)),.p none 8 (.bin .lss .i64 (.tmp 7) (.const (.int .i64 1))),.p none 9 (.mv (.tmp 8)),.split 9,.l (some (9,false)) (some 10) (.ld none (.tmp 1)),.p (some (9,false)) 11 (.bin .gtr .i64 (.tmp 10) (.const (.int .i64 8))),.p none 12 (.pick (.tmp 9) (.const (.bool true)) (.tmp 11)),.p none 6 (.mv (.tmp 12))]) (.cond (.tmp 6) (.seq (.reg [.p none 4 (.mv (.const (.int .i64 0))),.p none 5 (.mv (.const (.int .i64 23)))]) .ret) (.seq (.reg [.l none (some 14) (.ld none (.tmp 1)),.p none 15 (.mv (.tmp 0)),.p none 16 (.len (.tmp 15)),.p none 17 (.bin .gtr .i64 (.tmp 14) (.tmp 16)),.p none 13 (.mv (.tmp 17))]) (.cond (.tmp 13) (.seq (.reg [.p none 4 (.mv (.const (.int .i64 0))),.p none 5 (.mv (.const (.int .i64 20)))]) .ret) .skip))))) (.seq (.reg [.p none 18 (.mv (.tmp 0)),.l none (some 19) (.ld none (.tmp 1)),.p none 20 (.slc 1 (.tmp 18) none (some (.tmp 19)) none),.l none (some 21) (.call 67 [(.tmp 20)]),.l none none (.st 1 (.tmp 2) (.tmp 21))]) (.seq (.reg [.l none (some 22) (.ld none (.tmp 1)),.p none 4 (.mv (.tmp 22)),.p none 5 (.mv (.const (.int .i64 0)))]) .ret))))
theorem C131 : compile Tryz.prog 23 (Tryz.f131.body.getD .skip) = some M131 := by kernel_rfl
noncomputable def M132 : MC := (.seq (.reg [.p none 2 (.mv (.const (.int .u32 0)))]) (.seq (.seq (.reg [.p none 3 (.mv (.tmp 0)),.p none 4 (.bin .and .u32 (.tmp 3) (.const (.int .u32 1))),.p none 5 (.bin .eql .u32 (.tmp 4) (.const (.int .u32 1)))]) (.cond (.tmp 5) (.seq (.reg [.p none 6 (.mv (.tmp 0)),.p none 7 (.shf .shr (.tmp 6) (.const (.int .u64 1))),.p none 8 (.bin .xor .u32 (.tmp 7) (.const (.int .u32 2197175160))),.p none 2 (.mv (.tmp 8))]) .ret) .skip)) (.seq (.reg [.p none 9 (.mv (.tmp 0)),.p none 10 (.shf .shr (.tmp 9) (.const (.int .u64 1))),.p none 2 (.mv (.tmp 10))]) .ret)))
theorem C132 : compile Tryz.prog 11 (Tryz.f132.body.getD .skip) = some M132 := by kernel_rfl
noncomputable def M19 : MC := (.seq (.reg [.p none 4 (.mv (.const (.pointer none))),.p none 5 (.mv (.const (.int .i64 0)))]) (.seq (.seq (.reg [.p none 13 (.mv (.tmp 1)),.p none 14 (.bin .lss .i64 (.tmp 13) (.const (.int .i64 1))),.p none 15 (.mv (.tmp 14)),.split 15,.p (some (15,false)) 16 (.mv (.tmp 1)),.p (some (15,false)) 17 (.bin .gtr .i64 (.tmp 16) (.const (.int .i64 65536))),.p none 18 (.pick (.tmp 15) (.const (.bool true)) (.tmp 17))]) (.cond (.tmp 18) (.seq (.reg [.p none 4 (.mv (.const (.pointer none))),.p none 5 (.mv (.const (.int .i64 3)))]) .ret) .skip)) (.seq (.reg [.p none 20 (.mv (.tmp 0)),.l none (some 21) (.call 37 [(.tmp 20)]),.p none 19 (.mv (.tmp 21)),.p none 22 (.ext 0 (.tmp 19)),.p none 23 (.ext 1 (.tmp 19)),.p none 6 (.mv (.tmp 22)),.p none 7 (.mv (.tmp 23))]) (.seq (.seq (.reg [.p none 24 (.mv (.tmp 7)),.p none 25 (.bin .neq .i64 (.tmp 24) (.const (.int .i64 0)))]) (.cond (.tmp 25) (.seq (.reg [.p none 26 (.mv (.tmp 7)),.p none 4 (.mv (.const (.pointer none))),.p none 5 (.mv (.tmp 26))]) .ret) .skip)) (.seq (.seq (.reg [.p none 27 (.mv (.tmp 6)),.p none 28 (.len (.tmp 27)),.p none 29 (.bin .eql .i64 (.tmp 28) (.const (.int .i64 0)))]) (.cond (.tmp 29) (.seq (.reg [.p none 4 (.mv (.const (.pointer none))),.p none 5 (.mv (.const (.int .i64 60)))]) .ret) .skip)) (.seq (.reg [.p none 30 (.mv (.tmp 6)),.p none 31 (.mv (.tmp 6)),.p none 32 (.len (.tmp 31)),.p none 33 (.bin .sub .i64 (.tmp 32) (.const (.int .i64 1))),.p none 34 (.slc 1 (.tmp 30) none (some (.tmp 33)) none),.p none 8 (.mv (.tmp 34))]) (.seq (.seq (.reg [.p none 35 (.mv (.tmp 8)),.p none 36 (.len (.tmp 35)),.p none 37 (.bin .mul .i64 (.const (.int .i64 64)) (.tmp 36)),.p none 38 (.mv (.tmp 1)),.p none 39 (.bin .lss .i64 (.tmp 37) (.tmp 38))]) (.cond (.tmp 39) (.seq (.reg [.p none 4 (.mv (.const (.pointer none))),.p none 5 (.mv (.const (.int .i64 60)))]) .ret) .skip)) (.seq (.reg [.p none 41 (.mv (.tmp 8)),.p none 42 (.mv (.tmp 6)),.p none 43 (.mv (.tmp 6)),.p none 44 (.len (.tmp
 43)),.p none 45 (.bin .sub .i64 (.tmp 44) (.const (.int .i64 1))),.p none 46 (.idx 1 (.tmp 42) (.tmp 45)),.l none (some 47) (.ld none (.tmp 46)),.p none 48 (.mv (.tmp 1)),.l none (some 49) (.call 38 [(.tmp 41),(.tmp 47),(.tmp 48)]),.p none 40 (.mv (.tmp 49)),.p none 50 (.ext 0 (.tmp 40)),.p none 51 (.ext 1 (.tmp 40)),.p none 9 (.mv (.tmp 50)),.p none 10 (.mv (.tmp 51))]) (.seq (.seq (.reg [.p none 52 (.mv (.tmp 10)),.p none 53 (.not (.tmp 52))]) (.cond (.tmp 53) (.seq (.reg [.p none 4 (.mv (.const (.pointer none))),.p none 5 (.mv (.const (.int .i64 60)))]) .ret) .skip)) (.seq (.reg [.p none 55 (.mv (.tmp 9)),.l none (some 56) (.call 39 [(.tmp 55)]),.p none 54 (.mv (.tmp 56)),.p none 57 (.ext 0 (.tmp 54)),.p none 58 (.ext 1 (.tmp 54)),.p none 11 (.mv (.tmp 57)),.p none 12 (.mv (.tmp 58))]) (.seq (.seq (.reg [.p none 59 (.mv (.tmp 12)),.p none 60 (.not (.tmp 59))]) (.cond (.tmp 60) (.seq (.reg [.p none 4 (.mv (.const (.pointer none))),.p none 5 (.mv (.const (.int .i64 60)))]) .ret) .skip)) (.seq (.reg [.p none 61 (.mv (.tmp 11)),.p none 62 (.bld [(.slice none 0 0)] [(0,1,(.tmp 61))]),.l none (some 63) (.bx 75 (.tmp 62)),.p none 4 (.mv (.tmp 63)),.p none 5 (.mv (.const (.int .i64 0)))]) .ret))))))))))))
theorem C19 : compile Tryz.prog 64 (Tryz.f19.body.getD .skip) = some M19 := by kernel_rfl
noncomputable def M25 : MC := (.seq (.reg [.p none 4 (.mv (.const (.int .i64 0)))]) (.seq (.reg [.p none 6 (.mv (.tmp 0)),.p none 7 (.mv (.tmp 1)),.l none (some 8) (.call 49 [(.tmp 6),(.tmp 7)]),.p none 5 (.mv (.tmp 8))]) (.seq (.block 0 (.seq (.reg [.p none 10 (.mv (.tmp 5)),.p none 11 (.mv (.tmp 0)),.p none 12 (.lens (.tmp 11)),.p none 13 (.bin .eql .i64 (.tmp 10) (.tmp 12)),.p none 14 (.mv (.tmp 13)),.split 14,.p (some (14,true)) 15 (.mv (.tmp 5)),.p (some (14,true)) 16 (.mv (.tmp 1)),.p (some (14,true)) 17 (.lens (.tmp 16)),.p (some (14,true)) 18 (.bin .eql .i64 (.tmp 15) (.tmp 17)),.p none 19 (.pick (.tmp 14) (.tmp 18) (.const (.bool false))),.p none 9 (.mv (.tmp 19))]) (.cond (.tmp 9) (.seq (.reg [.p none 4 (.mv (.const (.int .i64 0)))]) .ret) (.seq (.reg [.p none 21 (.mv (.tmp 5)),.p none 22 (.mv (.tmp 0)),.p none 23 (.lens (.tmp 22)),.p none 24 (.bin .eql .i64 (.tmp 21) (.tmp 23)),.p none 20 (.mv (.tmp 24))]) (.cond (.tmp 20) (.seq (.reg [.p none 4 (.mv (.const (.int .i64 (-1))))]) .ret) (.seq (.reg [.p none 26 (.mv (.tmp 5)),.p none 27 (.mv (.tmp 1)),.p none 28 (.lens (.tmp 27)),.p none 29 (.bin .eql .i64 (.tmp 26) (.tmp 28)),.p none 25 (.mv (.tmp 29))]) (.cond (.tmp 25) (.seq (.reg [.p none 4 (.mv (.const (.int .i64 1)))]) .ret) (.seq (.dreg (.line [.qp 0 none 31 (.mv (.tmp 0)),.qp 1 none 32 (.mv (.tmp 5)),.qp 2 none 33 (.idxs (.tmp 31) (.tmp 32)),.qp 3 none 34 (.mv (.tmp 1)),.qp 4 none 35 (.mv (.tmp 5)),.qp 5 none 36 (.idxs (.tmp 34) (.tmp 35)),.qp 6 none 37 (.bin .lss .u8 (.tmp 33) (.tmp 36)),.qp 7 none 30 (.mv (.tmp 37))])) (.cond (.tmp 30) (.seq (.reg [.p none 4 (.mv (.const (.int .i64 (-1))))]) .ret) .skip))))))))) (.seq (.reg [.p none 4 (.mv (.const (.int .i64 1)))]) .ret))))
theorem C25 : compile Tryz.prog 38 (Tryz.f25.body.getD .skip) = some M25 := by kernel_rfl
noncomputable def M31 : MC := (.seq (.reg [.p none 4 (.mv (.const (.slice none 0 0)))]) (.seq (.reg [.p none 5 (.mv (.const (.slice none 0 0))),.p none 6 (.mv (.const (.slice none 0 0)))]) (.seq (.seq (.reg [.p none 7 (.mv (.const (.int .i64 0)))]) (.block 0 (.loop (.seq (.seq (.reg [.p none 9 (.mv (.tmp 7)),.p none 10 (.mv (.tmp 0)),.p none 11 (.len (.tmp 10)),.p none 12 (.bin .lss .i64 (.tmp 9) (.tmp 11))]) (.cond (.tmp 12) .skip (.exit 0))) (.seq (.block 1 (.seq (.reg [.p none 8 (.mv (.const (.int .i64 0)))]) (.seq (.seq (.reg [.p none 15 (.mv (.tmp 7)),.p none 16 (.mv (.tmp 1)),.p none 17 (.div .rem .i64 (.tmp 15) (.tmp 16)),.p none 18 (.bin .eql .i64 (.tmp 17) (.const (.int .i64 0)))]) (.cond (.tmp 18) (.reg [.p none 19 (.mv (.tmp 6)),.p none 20 (.mv (.tmp 5)),.p none 21 (.len (.tmp 20)),.p none 22 (.conv .u64 (.tmp 21)),.l none (some 23) (.call 59 [(.tmp 22),(.const (.int .i64 4))]),.l none (some 24) (.app 5 1 1 [(.int .u8 0)] (.tmp 19) (.tmp 23)),.p none 6 (.mv (.tmp 24))]) (.dreg (.line [.qp 0 none 25 (.mv (.tmp 0)),.qp 1 none 26 (.mv (.tmp 7)),.qp 2 none 27 (.bin .sub .i64 (.tmp 26) (.const (.int .i64 1))),.qp 3 none 28 (.idx 2 (.tmp 25) (.tmp 27)),.qp 4 none 29 (.fa 0 (.tmp 28)),.qp 6 none 31 (.mv (.tmp 0)),.qp 7 none 32 (.mv (.tmp 7)),.qp 8 none 33 (.idx 2 (.tmp 31) (.tmp 32)),.qp 9 none 34 (.fa 0 (.tmp 33)),.ql 10 none 35 none (.tmp 34),.l 5 none (some 30) (.ld none (.tmp 29)),.l 11 none (some 36) (.call 49 [(.tmp 30),(.tmp 35)]),.qp 12 none 8 (.mv (.tmp 36))])))) (.seq (.reg [.p none 37 (.mv (.tmp 5)),.p none 38 (.mv (.tmp 8)),.l none (some 39) (.call 50 [(.tmp 38)]),.l none (some 40) (.app 5 1 1 [(.int .u8 0)] (.tmp 37) (.tmp 39)),.p none 5 (.mv (.tmp 40))]) (.seq (.reg [.p none 41 (.mv (.tmp 5)),.p none 42 (.mv (.tmp 0)),.p none 43 (.mv (.tmp 7)),.p none 44 (.idx 2 (.tmp 42) (.tmp 43)),.p none 45 (.fa 0 (.tmp 44)),.l none (some 46) (.ld none (.tmp 45)),.p none 47 (.lens (.tmp 46)),.p none 48 (.mv (.tmp 8)),.p none 49 (.bin .sub .i64 (.tmp 47) (.tmp
 48)),.l none (some 50) (.call 50 [(.tmp 49)]),.l none (some 51) (.app 5 1 1 [(.int .u8 0)] (.tmp 41) (.tmp 50)),.p none 5 (.mv (.tmp 51))]) (.seq (.reg [.p none 52 (.mv (.tmp 5)),.p none 53 (.mv (.tmp 0)),.p none 54 (.mv (.tmp 7)),.p none 55 (.idx 2 (.tmp 53) (.tmp 54)),.p none 56 (.fa 1 (.tmp 55)),.l none (some 57) (.ld none (.tmp 56)),.p none 58 (.lens (.tmp 57)),.l none (some 59) (.call 50 [(.tmp 58)]),.l none (some 60) (.app 5 1 1 [(.int .u8 0)] (.tmp 52) (.tmp 59)),.p none 5 (.mv (.tmp 60))]) (.seq (.reg [.p none 61 (.mv (.tmp 5)),.p none 62 (.mv (.tmp 0)),.p none 63 (.mv (.tmp 7)),.p none 64 (.idx 2 (.tmp 62) (.tmp 63)),.p none 65 (.fa 0 (.tmp 64)),.l none (some 66) (.ld none (.tmp 65)),.p none 67 (.mv (.tmp 8)),.p none 68 (.slcs (.tmp 66) (some (.tmp 67)) none),.l none (some 69) (.s2b 5 (.tmp 68)),.l none (some 70) (.app 5 1 1 [(.int .u8 0)] (.tmp 61) (.tmp 69)),.p none 5 (.mv (.tmp 70))]) (.reg [.p none 71 (.mv (.tmp 5)),.p none 72 (.mv (.tmp 0)),.p none 73 (.mv (.tmp 7)),.p none 74 (.idx 2 (.tmp 72) (.tmp 73)),.p none 75 (.fa 1 (.tmp 74)),.l none (some 76) (.ld none (.tmp 75)),.l none (some 77) (.s2b 5 (.tmp 76)),.l none (some 78) (.app 5 1 1 [(.int .u8 0)] (.tmp 71) (.tmp 77)),.p none 5 (.mv (.tmp 78))])))))))) (.reg [.p none 13 (.mv (.tmp 7)),.p none 14 (.bin .add .i64 (.tmp 13) (.const (.int .i64 1))),.p none 7 (.mv (.tmp 14))])))))) (.seq (.reg [.p none 79 (.mv (.tmp 5)),.p none 80 (.mv (.tmp 6)),.l none (some 81) (.app 5 1 1 [(.int .u8 0)] (.tmp 79) (.tmp 80)),.p none 5 (.mv (.tmp 81))]) (.seq (.reg [.p none 82 (.mv (.tmp 5)),.p none 83 (.mv (.tmp 1)),.p none 84 (.conv .u64 (.tmp 83)),.l none (some 85) (.call 59 [(.tmp 84),(.const (.int .i64 4))]),.l none (some 86) (.app 5 1 1 [(.int .u8 0)] (.tmp 82) (.tmp 85)),.p none 5 (.mv (.tmp 86))]) (.seq (.reg [.p none 87 (.mv (.tmp 5)),.p none 88 (.mv (.tmp 0)),.p none 89 (.len (.tmp 88)),.p none 90 (.conv .u64 (.tmp 89)),.l none (some 91) (.call 59 [(.tmp 90),(.const (.int .i64 4))]),.l none (some 92) (.app
 5 1 1 [(.int .u8 0)] (.tmp 87) (.tmp 91)),.p none 4 (.mv (.tmp 92))]) .ret))))))
theorem C31 : compile Tryz.prog 93 (Tryz.f31.body.getD .skip) = some M31 := by kernel_rfl
noncomputable def M34 : MC := (.seq (.reg [.p none 2 (.mv (.const (.slice none 0 0)))]) (.seq (.reg [.l none (some 5) (.bs 5 0 1 [] []),.p none 6 (.mv (.tmp 0)),.l none (some 7) (.app 5 1 1 [(.int .u8 0)] (.tmp 5) (.tmp 6)),.p none 3 (.mv (.tmp 7))]) (.seq (.reg [.p none 8 (.mv (.tmp 0)),.l none (some 9) (.call 66 [(.tmp 8)]),.p none 4 (.mv (.tmp 9))]) (.seq (.reg [.p none 10 (.mv (.tmp 3)),.p none 11 (.mv (.tmp 4)),.p none 12 (.conv .u8 (.tmp 11)),.p none 13 (.mv (.tmp 4)),.p none 14 (.shf .shr (.tmp 13) (.const (.int .u64 8))),.p none 15 (.conv .u8 (.tmp 14)),.p none 16 (.mv (.tmp 4)),.p none 17 (.shf .shr (.tmp 16) (.const (.int .u64 16))),.p none 18 (.conv .u8 (.tmp 17)),.p none 19 (.mv (.tmp 4)),.p none 20 (.shf .shr (.tmp 19) (.const (.int .u64 24))),.p none 21 (.conv .u8 (.tmp 20)),.l none (some 22) (.bs 5 4 1 [(.int .u8 0),(.int .u8 0),(.int .u8 0),(.int .u8 0)] [(0,1,(.tmp 12)),(1,1,(.tmp 15)),(2,1,(.tmp 18)),(3,1,(.tmp 21))]),.l none (some 23) (.app 5 1 1 [(.int .u8 0)] (.tmp 10) (.tmp 22)),.p none 2 (.mv (.tmp 23))]) .ret))))
theorem C34 : compile Tryz.prog 24 (Tryz.f34.body.getD .skip) = some M34 := by kernel_rfl
noncomputable def M37 : MC := (.seq (.reg [.p none 2 (.mv (.const (.slice none 0 0))),.p none 3 (.mv (.const (.int .i64 0)))]) (.seq (.seq (.reg [.p none 6 (.mv (.tmp 0)),.p none 7 (.len (.tmp 6)),.p none 8 (.bin .lss .i64 (.tmp 7) (.const (.int .i64 4)))]) (.cond (.tmp 8) (.seq (.reg [.p none 2 (.mv (.const (.slice none 0 0))),.p none 3 (.mv (.const (.int .i64 11)))]) .ret) .skip)) (.seq (.reg [.l none (some 9) (.bs 5 0 1 [] []),.p none 10 (.mv (.tmp 0)),.p none 11 (.mv (.tmp 0)),.p none 12 (.len (.tmp 11)),.p none 13 (.bin .sub .i64 (.tmp 12) (.const (.int .i64 4))),.p none 14 (.slc 1 (.tmp 10) none (some (.tmp 13)) none),.l none (some 15) (.app 5 1 1 [(.int .u8 0)] (.tmp 9) (.tmp 14)),.p none 4 (.mv (.tmp 15))]) (.seq (.reg [.p none 16 (.mv (.tmp 4)),.l none (some 17) (.call 34 [(.tmp 16)]),.p none 5 (.mv (.tmp 17))]) (.seq (.seq (.reg [.p none 18 (.mv (.tmp 5)),.p none 19 (.mv (.tmp 0)),.l none (some 20) (.call 72 [(.tmp 18),(.tmp 19)]),.p none 21 (.not (.tmp 20))]) (.cond (.tmp 21) (.seq (.reg [.p none 2 (.mv (.const (.slice none 0 0))),.p none 3 (.mv (.const (.int .i64 10)))]) .ret) .skip)) (.seq (.reg [.p none 22 (.mv (.tmp 4)),.p none 2 (.mv (.tmp 22)),.p none 3 (.mv (.const (.int .i64 0)))]) .ret))))))
theorem C37 : compile Tryz.prog 23 (Tryz.f37.body.getD .skip) = some M37 := by kernel_rfl
noncomputable def M38 : MC := (.seq (.reg [.p none 6 (.mv (.const (.slice none 0 0))),.p none 7 (.mv (.const (.bool false)))]) (.seq (.seq (.reg [.p none 12 (.mv (.tmp 1))]) (.block 0 (.seq (.reg [.p none 14 (.bin .eql .u8 (.tmp 12) (.const (.int .u8 0))),.p none 13 (.mv (.tmp 14))]) (.cond (.tmp 13) (.seq (.reg [.p none 15 (.mv (.tmp 0)),.p none 16 (.mv (.tmp 0)),.p none 17 (.len (.tmp 16)),.p none 18 (.mv (.tmp 2)),.p none 19 (.bin .eql .i64 (.tmp 17) (.tmp 18)),.p none 6 (.mv (.tmp 15)),.p none 7 (.mv (.tmp 19))]) .ret) (.seq (.reg [.p none 21 (.bin .eql .u8 (.tmp 12) (.const (.int .u8 1))),.p none 20 (.mv (.tmp 21))]) (.cond (.tmp 20) (.seq (.reg [.p none 23 (.mv (.tmp 0)),.p none 24 (.mv (.tmp 2)),.l none (some 25) (.call 73 [(.tmp 23),(.tmp 24)]),.p none 22 (.mv (.tmp 25)),.p none 26 (.ext 0 (.tmp 22)),.p none 27 (.ext 1 (.tmp 22)),.p none 8 (.mv (.tmp 26)),.p none 9 (.mv (.tmp 27))]) (.seq (.reg [.p none 28 (.mv (.tmp 8)),.p none 29 (.mv (.tmp 9)),.p none 30 (.bin .eql .i64 (.tmp 29) (.const (.int .i64 0))),.p none 6 (.mv (.tmp 28)),.p none 7 (.mv (.tmp 30))]) .ret)) (.seq (.reg [.p none 32 (.bin .eql .u8 (.tmp 12) (.const (.int .u8 2))),.p none 31 (.mv (.tmp 32))]) (.cond (.tmp 31) (.seq (.reg [.p none 34 (.mv (.tmp 0)),.p none 35 (.mv (.tmp 2)),.l none (some 36) (.call 74 [(.tmp 34),(.tmp 35)]),.p none 33 (.mv (.tmp 36)),.p none 37 (.ext 0 (.tmp 33)),.p none 38 (.ext 1 (.tmp 33)),.p none 10 (.mv (.tmp 37)),.p none 11 (.mv (.tmp 38))]) (.seq (.reg [.p none 39 (.mv (.tmp 10)),.p none 40 (.mv (.tmp 11)),.p none 41 (.bin .eql .i64 (.tmp 40) (.const (.int .i64 0))),.p none 6 (.mv (.tmp 39)),.p none 7 (.mv (.tmp 41))]) .ret)) .skip)))))))) (.seq (.reg [.p none 6 (.mv (.const (.slice none 0 0))),.p none 7 (.mv (.const (.bool false)))]) .ret)))
theorem C38 : compile Tryz.prog 42 (Tryz.f38.body.getD .skip) = some M38 := by kernel_rfl
noncomputable def M39 : MC := (.seq (.reg [.p none 2 (.mv (.const (.slice none 0 0))),.p none 3 (.mv (.const (.bool false)))]) (.seq (.seq (.reg [.p none 9 (.mv (.tmp 0)),.p none 10 (.len (.tmp 9)),.p none 11 (.bin .lss .i64 (.tmp 10) (.const (.int .i64 8)))]) (.cond (.tmp 11) (.seq (.reg [.p none 2 (.mv (.const (.slice none 0 0))),.p none 3 (.mv (.const (.bool false)))]) .ret) .skip)) (.seq (.reg [.p none 12 (.mv (.tmp 0)),.p none 13 (.mv (.tmp 0)),.p none 14 (.len (.tmp 13)),.p none 15 (.bin .sub .i64 (.tmp 14) (.const (.int .i64 8))),.p none 16 (.mv (.tmp 0)),.p none 17 (.len (.tmp 16)),.p none 18 (.bin .sub .i64 (.tmp 17) (.const (.int .i64 4))),.p none 19 (.slc 1 (.tmp 12) (some (.tmp 15)) (some (.tmp 18)) none),.l none (some 20) (.call 75 [(.tmp 19)]),.p none 4 (.mv (.tmp 20))]) (.seq (.reg [.p none 21 (.mv (.tmp 0)),.p none 22 (.mv (.tmp 0)),.p none 23 (.len (.tmp 22)),.p none 24 (.bin .sub .i64 (.tmp 23) (.const (.int .i64 4))),.p none 25 (.slc 1 (.tmp 21) (some (.tmp 24)) none none),.l none (some 26) (.call 75 [(.tmp 25)]),.p none 5 (.mv (.tmp 26))]) (.seq (.seq (.reg [.p none 27 (.mv (.tmp 4)),.p none 28 (.bin .lss .u64 (.tmp 27) (.const (.int .u64 1))),.p none 29 (.mv (.tmp 28)),.split 29,.p (some (29,false)) 30 (.mv (.tmp 4)),.p (some (29,false)) 31 (.bin .gtr .u64 (.tmp 30) (.const (.int .u64 64))),.p none 32 (.pick (.tmp 29) (.const (.bool true)) (.tmp 31)),.p none 33 (.mv (.tmp 32)),.split 33,.p (some (33,false)) 34 (.mv (.tmp 5)),.p (some (33,false)) 35 (.bin .lss .u64 (.tmp 34) (.const (.int .u64 1))),.p none 36 (.pick (.tmp 33) (.const (.bool true)) (.tmp 35)),.p none 37 (.mv (.tmp 36)),.split 37,.p (some (37,false)) 38 (.mv (.tmp 5)),.p (some (37,false)) 39 (.mv (.tmp 0)),.p (some (37,false)) 40 (.len (.tmp 39)),.p (some (37,false)) 41 (.conv .u64 (.tmp 40)),.p (some (37,false)) 42 (.bin .gtr .u64 (.tmp 38) (.tmp 41)),.p none 43 (.pick (.tmp 37) (.const (.bool true)) (.tmp 42))]) (.cond (.tmp 43) (.seq (.reg [.p none 2 (.mv (.const (.slice none 0
 0))),.p none 3 (.mv (.const (.bool false)))]) .ret) .skip)) (.seq (.reg [.p none 45 (.mv (.tmp 0)),.p none 46 (.mv (.tmp 0)),.p none 47 (.len (.tmp 46)),.p none 48 (.bin .sub .i64 (.tmp 47) (.const (.int .i64 8))),.p none 49 (.slc 1 (.tmp 45) none (some (.tmp 48)) none),.p none 50 (.mv (.tmp 5)),.p none 51 (.conv .i64 (.tmp 50)),.l none (some 52) (.call 76 [(.tmp 49),(.tmp 51)]),.p none 44 (.mv (.tmp 52)),.p none 53 (.ext 0 (.tmp 44)),.p none 54 (.ext 1 (.tmp 44)),.p none 6 (.mv (.tmp 53)),.p none 7 (.mv (.tmp 54))]) (.seq (.seq (.reg [.p none 55 (.mv (.tmp 7)),.p none 56 (.not (.tmp 55))]) (.cond (.tmp 56) (.seq (.reg [.p none 2 (.mv (.const (.slice none 0 0))),.p none 3 (.mv (.const (.bool false)))]) .ret) .skip)) (.seq (.seq (.reg [.p none 8 (.mv (.const (.int .i64 1)))]) (.block 0 (.loop (.seq (.seq (.reg [.p none 57 (.mv (.tmp 8)),.p none 58 (.mv (.tmp 6)),.p none 59 (.len (.tmp 58)),.p none 60 (.bin .lss .i64 (.tmp 57) (.tmp 59))]) (.cond (.tmp 60) .skip (.exit 0))) (.seq (.block 1 (.seq (.dreg (.line [.qp 0 none 63 (.mv (.tmp 6)),.qp 1 none 64 (.mv (.tmp 8)),.qp 2 none 65 (.idx 2 (.tmp 63) (.tmp 64)),.qp 3 none 66 (.fa 0 (.tmp 65)),.qp 5 none 68 (.mv (.tmp 6)),.qp 6 none 69 (.mv (.tmp 8)),.qp 7 none 70 (.bin .sub .i64 (.tmp 69) (.const (.int .i64 1))),.qp 8 none 71 (.idx 2 (.tmp 68) (.tmp 70)),.qp 9 none 72 (.fa 0 (.tmp 71)),.ql 10 none 73 none (.tmp 72),.l 4 none (some 67) (.ld none (.tmp 66)),.l 11 none (some 74) (.call 25 [(.tmp 67),(.tmp 73)]),.qp 12 none 75 (.bin .lss .i64 (.tmp 74) (.const (.int .i64 0)))])) (.cond (.tmp 75) (.seq (.reg [.p none 2 (.mv (.const (.slice none 0 0))),.p none 3 (.mv (.const (.bool false)))]) .ret) .skip))) (.reg [.p none 61 (.mv (.tmp 8)),.p none 62 (.bin .add .i64 (.tmp 61) (.const (.int .i64 1))),.p none 8 (.mv (.tmp 62))])))))) (.seq (.dreg (.fork [.qp 0 none 76 (.mv (.tmp 6)),.qp 1 none 77 (.mv (.tmp 6)),.qp 2 none 78 (.mv (.tmp 4)),.qp 3 none 79 (.conv .i64 (.tmp 78)),.qp 6 none 82 (.mv (.tmp 0))] (.fork [.l 4 none
 (some 80) (.call 31 [(.tmp 77),(.tmp 79)]),.qp 9 none 2 (.mv (.tmp 76))] (.line [.l 5 none (some 81) (.b2s (.tmp 80)),.l 7 none (some 83) (.b2s (.tmp 82)),.qp 8 none 84 (.sbin .eql (.tmp 81) (.tmp 83)),.qp 10 none 3 (.mv (.tmp 84))]) (.line [.l 7 none (some 83) (.b2s (.tmp 82)),.l 5 none (some 81) (.b2s (.tmp 80)),.qp 8 none 84 (.sbin .eql (.tmp 81) (.tmp 83)),.qp 10 none 3 (.mv (.tmp 84))])) (.line [.l 7 none (some 83) (.b2s (.tmp 82)),.l 4 none (some 80) (.call 31 [(.tmp 77),(.tmp 79)]),.qp 9 none 2 (.mv (.tmp 76)),.l 5 none (some 81) (.b2s (.tmp 80)),.qp 8 none 84 (.sbin .eql (.tmp 81) (.tmp 83)),.qp 10 none 3 (.mv (.tmp 84))]))) .ret)))))))))
theorem C39 : compile Tryz.prog 85 (Tryz.f39.body.getD .skip) = some M39 := by kernel_rfl
noncomputable def M49 : MC := (.seq (.reg [.p none 4 (.mv (.const (.int .i64 0)))]) (.seq (.reg [.p none 5 (.mv (.const (.int .i64 0)))]) (.seq (.block 0 (.loop (.seq (.seq (.dreg (.line [.qp 0 none 6 (.mv (.tmp 5)),.qp 1 none 7 (.mv (.tmp 0)),.qp 2 none 8 (.lens (.tmp 7)),.qp 3 none 9 (.bin .lss .i64 (.tmp 6) (.tmp 8)),.qp 4 none 10 (.mv (.tmp 9)),.split 10,.qp 5 (some (10,true)) 11 (.mv (.tmp 5)),.qp 6 (some (10,true)) 12 (.mv (.tmp 1)),.qp 7 (some (10,true)) 13 (.lens (.tmp 12)),.qp 8 (some (10,true)) 14 (.bin .lss .i64 (.tmp 11) (.tmp 13)),.qp 9 none 15 (.pick (.tmp 10) (.tmp 14) (.const (.bool false))),.qp 10 none 16 (.mv (.tmp 15)),.split 16,.qp 11 (some (16,true)) 17 (.mv (.tmp 0)),.qp 12 (some (16,true)) 18 (.mv (.tmp 5)),.qp 13 (some (16,true)) 19 (.idxs (.tmp 17) (.tmp 18)),.qp 14 (some (16,true)) 20 (.mv (.tmp 1)),.qp 15 (some (16,true)) 21 (.mv (.tmp 5)),.qp 16 (some (16,true)) 22 (.idxs (.tmp 20) (.tmp 21)),.qp 17 (some (16,true)) 23 (.bin .eql .u8 (.tmp 19) (.tmp 22)),.qp 18 none 24 (.pick (.tmp 16) (.tmp 23) (.const (.bool false)))])) (.cond (.tmp 24) .skip (.exit 0))) (.block 1 (.reg [.p none 25 (.mv (.tmp 5)),.p none 26 (.bin .add .i64 (.tmp 25) (.const (.int .i64 1))),.p none 5 (.mv (.tmp 26))]))))) (.seq (.reg [.p none 27 (.mv (.tmp 5)),.p none 4 (.mv (.tmp 27))]) .ret))))
theorem C49 : compile Tryz.prog 28 (Tryz.f49.body.getD .skip) = some M49 := by kernel_rfl
noncomputable def M50 : MC := (.seq (.reg [.p none 2 (.mv (.const (.slice none 0 0)))]) (.seq (.reg [.p none 3 (.mv (.const (.slice none 0 0)))]) (.seq (.seq (.reg [.p none 4 (.mv (.tmp 0)),.p none 5 (.bin .lss .i64 (.tmp 4) (.const (.int .i64 0)))]) (.cond (.tmp 5) (.seq (.reg [.p none 6 (.mv (.tmp 3)),.p none 2 (.mv (.tmp 6))]) .ret) .skip)) (.seq (.block 0 (.loop (.seq (.seq (.reg [.p none 7 (.mv (.tmp 0)),.p none 8 (.bin .geq .i64 (.tmp 7) (.const (.int .i64 128)))]) (.cond (.tmp 8) .skip (.exit 0))) (.block 1 (.seq (.reg [.p none 9 (.mv (.tmp 3)),.p none 10 (.mv (.tmp 0)),.p none 11 (.div .rem .i64 (.tmp 10) (.const (.int .i64 128))),.p none 12 (.bin .add .i64 (.tmp 11) (.const (.int .i64 128))),.p none 13 (.conv .u8 (.tmp 12)),.l none (some 14) (.bs 5 1 1 [(.int .u8 0)] [(0,1,(.tmp 13))]),.l none (some 15) (.app 5 1 1 [(.int .u8 0)] (.tmp 9) (.tmp 14)),.p none 3 (.mv (.tmp 15))]) (.reg [.p none 16 (.mv (.tmp 0)),.p none 17 (.div .quo .i64 (.tmp 16) (.const (.int .i64 128))),.p none 0 (.mv (.tmp 17))])))))) (.seq (.reg [.p none 18 (.mv (.tmp 3)),.p none 19 (.mv (.tmp 0)),.p none 20 (.conv .u8 (.tmp 19)),.l none (some 21) (.bs 5 1 1 [(.int .u8 0)] [(0,1,(.tmp 20))]),.l none (some 22) (.app 5 1 1 [(.int .u8 0)] (.tmp 18) (.tmp 21)),.p none 3 (.mv (.tmp 22))]) (.seq (.reg [.p none 23 (.mv (.tmp 3)),.p none 2 (.mv (.tmp 23))]) .ret))))))
theorem C50 : compile Tryz.prog 24 (Tryz.f50.body.getD .skip) = some M50 := by kernel_rfl
noncomputable def M59 : MC := (.seq (.reg [.p none 4 (.mv (.const (.slice none 0 0)))]) (.seq (.reg [.p none 5 (.mv (.const (.slice none 0 0)))]) (.seq (.seq (.reg [.p none 7 (.mv (.tmp 1)),.p none 8 (.bin .lss .i64 (.tmp 7) (.const (.int .i64 1))),.p none 9 (.mv (.tmp 8)),.split 9,.p (some (9,false)) 10 (.mv (.tmp 1)),.p (some (9,false)) 11 (.bin .gtr .i64 (.tmp 10) (.const (.int .i64 8))),.p none 12 (.pick (.tmp 9) (.const (.bool true)) (.tmp 11))]) (.cond (.tmp 12) (.seq (.reg [.p none 13 (.mv (.tmp 5)),.p none 4 (.mv (.tmp 13))]) .ret) .skip)) (.seq (.seq (.reg [.p none 6 (.mv (.const (.int .i64 0)))]) (.block 0 (.loop (.seq (.seq (.reg [.p none 14 (.mv (.tmp 6)),.p none 15 (.mv (.tmp 1)),.p none 16 (.bin .lss .i64 (.tmp 14) (.tmp 15))]) (.cond (.tmp 16) .skip (.exit 0))) (.seq (.block 1 (.seq (.reg [.p none 19 (.mv (.tmp 5)),.p none 20 (.mv (.tmp 0)),.p none 21 (.div .rem .u64 (.tmp 20) (.const (.int .u64 256))),.p none 22 (.conv .u8 (.tmp 21)),.l none (some 23) (.bs 5 1 1 [(.int .u8 0)] [(0,1,(.tmp 22))]),.l none (some 24) (.app 5 1 1 [(.int .u8 0)] (.tmp 19) (.tmp 23)),.p none 5 (.mv (.tmp 24))]) (.reg [.p none 25 (.mv (.tmp 0)),.p none 26 (.div .quo .u64 (.tmp 25) (.const (.int .u64 256))),.p none 0 (.mv (.tmp 26))]))) (.reg [.p none 17 (.mv (.tmp 6)),.p none 18 (.bin .add .i64 (.tmp 17) (.const (.int .i64 1))),.p none 6 (.mv (.tmp 18))])))))) (.seq (.reg [.p none 27 (.mv (.tmp 5)),.p none 4 (.mv (.tmp 27))]) .ret)))))
theorem C59 : compile Tryz.prog 28 (Tryz.f59.body.getD .skip) = some M59 := by kernel_rfl
noncomputable def M63 : MC := (.seq (.reg [.p none 2 (.mv (.const (.slice none 0 0))),.p none 3 (.mv (.const (.int .i64 0)))]) (.seq (.seq (.reg [.p none 9 (.mv (.tmp 0)),.p none 10 (.len (.tmp 9)),.p none 11 (.bin .gtr .i64 (.tmp 10) (.const (.int .i64 256)))]) (.cond (.tmp 11) (.seq (.reg [.p none 2 (.mv (.const (.slice none 0 0))),.p none 3 (.mv (.const (.int .i64 2)))]) .ret) .skip)) (.seq (.seq (.reg [.p none 4 (.mv (.const (.int .i64 0)))]) (.block 0 (.loop (.seq (.seq (.reg [.p none 12 (.mv (.tmp 4)),.p none 13 (.mv (.tmp 0)),.p none 14 (.len (.tmp 13)),.p none 15 (.bin .lss .i64 (.tmp 12) (.tmp 14))]) (.cond (.tmp 15) .skip (.exit 0))) (.seq (.block 1 (.seq (.reg [.p none 18 (.mv (.tmp 0)),.p none 19 (.mv (.tmp 4)),.p none 20 (.idx 1 (.tmp 18) (.tmp 19)),.l none (some 21) (.ld none (.tmp 20)),.p none 22 (.bin .lss .i64 (.tmp 21) (.const (.int .i64 0))),.p none 23 (.mv (.tmp 22)),.split 23,.p (some (23,false)) 24 (.mv (.tmp 0)),.p (some (23,false)) 25 (.mv (.tmp 4)),.p (some (23,false)) 26 (.idx 1 (.tmp 24) (.tmp 25)),.l (some (23,false)) (some 27) (.ld none (.tmp 26)),.p (some (23,false)) 28 (.bin .gtr .i64 (.tmp 27) (.const (.int .i64 15))),.p none 29 (.pick (.tmp 23) (.const (.bool true)) (.tmp 28))]) (.cond (.tmp 29) (.seq (.reg [.p none 2 (.mv (.const (.slice none 0 0))),.p none 3 (.mv (.const (.int .i64 3)))]) .ret) .skip))) (.reg [.p none 16 (.mv (.tmp 4)),.p none 17 (.bin .add .i64 (.tmp 16) (.const (.int .i64 1))),.p none 4 (.mv (.tmp 17))])))))) (.seq (.seq (.reg [.p none 30 (.mv (.tmp 0)),.l none (some 31) (.call 102 [(.tmp 30)]),.p none 32 (.bin .gtr .i64 (.tmp 31) (.const (.int .i64 32768)))]) (.cond (.tmp 32) (.seq (.reg [.p none 2 (.mv (.const (.slice none 0 0))),.p none 3 (.mv (.const (.int .i64 41)))]) .ret) .skip)) (.seq (.reg [.p none 33 (.mv (.tmp 0)),.p none 34 (.len (.tmp 33)),.l none (some 35) (.mks 131 16 2 [(.int .i64 0),(.int .u32 0)] (.tmp 34) (.tmp 34)),.p none 5 (.mv (.tmp 35))]) (.seq (.reg [.p none 6 (.mv (.const (.int .u32
 0)))]) (.seq (.seq (.reg [.p none 7 (.mv (.const (.int .i64 1)))]) (.block 2 (.loop (.seq (.seq (.reg [.p none 36 (.mv (.tmp 7)),.p none 37 (.bin .leq .i64 (.tmp 36) (.const (.int .i64 15)))]) (.cond (.tmp 37) .skip (.exit 2))) (.seq (.block 3 (.seq (.reg [.p none 40 (.mv (.tmp 6)),.p none 41 (.bin .mul .u32 (.tmp 40) (.const (.int .u32 2))),.p none 6 (.mv (.tmp 41))]) (.seq (.reg [.p none 8 (.mv (.const (.int .i64 0)))]) (.block 4 (.loop (.seq (.seq (.reg [.p none 42 (.mv (.tmp 8)),.p none 43 (.mv (.tmp 0)),.p none 44 (.len (.tmp 43)),.p none 45 (.bin .lss .i64 (.tmp 42) (.tmp 44))]) (.cond (.tmp 45) .skip (.exit 4))) (.seq (.block 5 (.seq (.reg [.p none 48 (.mv (.tmp 0)),.p none 49 (.mv (.tmp 8)),.p none 50 (.idx 1 (.tmp 48) (.tmp 49)),.l none (some 51) (.ld none (.tmp 50)),.p none 52 (.mv (.tmp 7)),.p none 53 (.bin .eql .i64 (.tmp 51) (.tmp 52))]) (.cond (.tmp 53) (.seq (.reg [.p none 54 (.mv (.tmp 5)),.p none 55 (.mv (.tmp 8)),.p none 56 (.mv (.tmp 7)),.p none 57 (.mv (.tmp 6)),.p none 58 (.bld [(.int .i64 0),(.int .u32 0)] [(0,1,(.tmp 56)),(1,1,(.tmp 57))]),.p none 59 (.idx 2 (.tmp 54) (.tmp 55)),.l none none (.st 2 (.tmp 59) (.tmp 58))]) (.reg [.p none 60 (.mv (.tmp 6)),.p none 61 (.bin .add .u32 (.tmp 60) (.const (.int .u32 1))),.p none 6 (.mv (.tmp 61))])) .skip))) (.reg [.p none 46 (.mv (.tmp 8)),.p none 47 (.bin .add .i64 (.tmp 46) (.const (.int .i64 1))),.p none 8 (.mv (.tmp 47))])))))))) (.reg [.p none 38 (.mv (.tmp 7)),.p none 39 (.bin .add .i64 (.tmp 38) (.const (.int .i64 1))),.p none 7 (.mv (.tmp 39))])))))) (.seq (.reg [.p none 62 (.mv (.tmp 5)),.p none 2 (.mv (.tmp 62)),.p none 3 (.mv (.const (.int .i64 0)))]) .ret))))))))
theorem C63 : compile Tryz.prog 63 (Tryz.f63.body.getD .skip) = some M63 := by kernel_rfl
noncomputable def M66 : MC := (.seq (.reg [.p none 2 (.mv (.const (.int .u32 0)))]) (.seq (.reg [.p none 3 (.mv (.tmp 0)),.l none (some 4) (.call 103 [(.const (.int .u32 0)),(.tmp 3)]),.p none 2 (.mv (.tmp 4))]) .ret))
theorem C66 : compile Tryz.prog 5 (Tryz.f66.body.getD .skip) = some M66 := by kernel_rfl
noncomputable def M72 : MC := (.seq (.reg [.p none 4 (.mv (.const (.bool false)))]) (.seq (.seq (.reg [.p none 6 (.mv (.tmp 0)),.p none 7 (.len (.tmp 6)),.p none 8 (.mv (.tmp 1)),.p none 9 (.len (.tmp 8)),.p none 10 (.bin .neq .i64 (.tmp 7) (.tmp 9))]) (.cond (.tmp 10) (.seq (.reg [.p none 4 (.mv (.const (.bool false)))]) .ret) .skip)) (.seq (.seq (.reg [.p none 5 (.mv (.const (.int .i64 0)))]) (.block 0 (.loop (.seq (.seq (.reg [.p none 11 (.mv (.tmp 5)),.p none 12 (.mv (.tmp 0)),.p none 13 (.len (.tmp 12)),.p none 14 (.bin .lss .i64 (.tmp 11) (.tmp 13))]) (.cond (.tmp 14) .skip (.exit 0))) (.seq (.block 1 (.seq (.dreg (.line [.qp 0 none 17 (.mv (.tmp 0)),.qp 1 none 18 (.mv (.tmp 5)),.qp 2 none 19 (.idx 1 (.tmp 17) (.tmp 18)),.qp 4 none 21 (.mv (.tmp 1)),.qp 5 none 22 (.mv (.tmp 5)),.qp 6 none 23 (.idx 1 (.tmp 21) (.tmp 22)),.ql 7 none 24 none (.tmp 23),.l 3 none (some 20) (.ld none (.tmp 19)),.qp 8 none 25 (.bin .neq .u8 (.tmp 20) (.tmp 24))])) (.cond (.tmp 25) (.seq (.reg [.p none 4 (.mv (.const (.bool false)))]) .ret) .skip))) (.reg [.p none 15 (.mv (.tmp 5)),.p none 16 (.bin .add .i64 (.tmp 15) (.const (.int .i64 1))),.p none 5 (.mv (.tmp 16))])))))) (.seq (.reg [.p none 4 (.mv (.const (.bool true)))]) .ret))))
theorem C72 : compile Tryz.prog 26 (Tryz.f72.body.getD .skip) = some M72 := by kernel_rfl
noncomputable def M73 : MC := (.seq (.reg [.p none 4 (.mv (.const (.slice none 0 0))),.p none 5 (.mv (.const (.int .i64 0)))]) (.seq (.reg [.p none 9 (.mv (.tmp 0)),.p none 10 (.mv (.tmp 1)),.l none (some 11) (.call 105 [(.tmp 9),(.tmp 10)]),.p none 8 (.mv (.tmp 11)),.p none 12 (.ext 0 (.tmp 8)),.p none 13 (.ext 1 (.tmp 8)),.p none 6 (.mv (.tmp 12)),.p none 7 (.mv (.tmp 13))]) (.seq (.seq (.reg [.p none 14 (.mv (.tmp 7)),.p none 15 (.bin .neq .i64 (.tmp 14) (.const (.int .i64 0)))]) (.cond (.tmp 15) (.seq (.reg [.p none 16 (.mv (.tmp 7)),.p none 4 (.mv (.const (.slice none 0 0))),.p none 5 (.mv (.tmp 16))]) .ret) .skip)) (.seq (.reg [.p none 17 (.mv (.tmp 6)),.l none (some 18) (.call 94 [(.tmp 17)]),.p none 19 (.ext 0 (.tmp 18)),.p none 20 (.ext 1 (.tmp 18)),.p none 4 (.mv (.tmp 19)),.p none 5 (.mv (.tmp 20))]) .ret))))
theorem C73 : compile Tryz.prog 21 (Tryz.f73.body.getD .skip) = some M73 := by kernel_rfl
noncomputable def M74 : MC := (.seq (.reg [.p none 4 (.mv (.const (.slice none 0 0))),.p none 5 (.mv (.const (.int .i64 0)))]) (.seq (.seq (.reg [.p none 17 (.mv (.tmp 1)),.p none 18 (.bin .lss .i64 (.tmp 17) (.const (.int .i64 0))),.p none 19 (.mv (.tmp 18)),.split 19,.p (some (19,false)) 20 (.mv (.tmp 1)),.p (some (19,false)) 21 (.bin .gtr .i64 (.tmp 20) (.const (.int .i64 65536))),.p none 22 (.pick (.tmp 19) (.const (.bool true)) (.tmp 21))]) (.cond (.tmp 22) (.seq (.reg [.p none 4 (.mv (.const (.slice none 0 0))),.p none 5 (.mv (.const (.int .i64 3)))]) .ret) .skip)) (.seq (.reg [.p none 24 (.mv (.tmp 0)),.l none (some 25) (.call 106 [(.tmp 24)]),.p none 23 (.mv (.tmp 25)),.p none 26 (.ext 0 (.tmp 23)),.p none 27 (.ext 1 (.tmp 23)),.p none 28 (.ext 2 (.tmp 23)),.p none 6 (.mv (.tmp 26)),.p none 7 (.mv (.tmp 27)),.p none 8 (.mv (.tmp 28))]) (.seq (.seq (.reg [.p none 29 (.mv (.tmp 8)),.p none 30 (.not (.tmp 29))]) (.cond (.tmp 30) (.seq (.reg [.p none 4 (.mv (.const (.slice none 0 0))),.p none 5 (.mv (.const (.int .i64 40)))]) .ret) .skip)) (.seq (.reg [.p none 32 (.mv (.tmp 6)),.l none (some 33) (.call 63 [(.tmp 32)]),.p none 31 (.mv (.tmp 33)),.p none 34 (.ext 0 (.tmp 31)),.p none 35 (.ext 1 (.tmp 31)),.p none 9 (.mv (.tmp 34)),.p none 10 (.mv (.tmp 35))]) (.seq (.seq (.reg [.p none 36 (.mv (.tmp 10)),.p none 37 (.bin .neq .i64 (.tmp 36) (.const (.int .i64 0)))]) (.cond (.tmp 37) (.seq (.reg [.p none 4 (.mv (.const (.slice none 0 0))),.p none 5 (.mv (.const (.int .i64 40)))]) .ret) .skip)) (.seq (.reg [.p none 38 (.mv (.tmp 0)),.p none 39 (.mv (.tmp 7)),.p none 40 (.slc 1 (.tmp 38) (some (.tmp 39)) none none),.p none 11 (.mv (.tmp 40))]) (.seq (.reg [.p none 12 (.mv (.const (.int .i64 0)))]) (.seq (.reg [.p none 13 (.mv (.const (.slice none 0 0)))]) (.seq (.block 0 (.loop (.seq (.seq (.reg [.p none 41 (.mv (.tmp 13)),.p none 42 (.len (.tmp 41)),.p none 43 (.mv (.tmp 1)),.p none 44 (.bin .lss .i64 (.tmp 42) (.tmp 43))]) (.cond (.tmp 44) .skip (.exit 0)))
 (.block 1 (.seq (.reg [.p none 14 (.mv (.const (.int .u32 0)))]) (.seq (.reg [.p none 15 (.mv (.const (.int .i64 (-1))))]) (.seq (.seq (.reg [.p none 16 (.mv (.const (.int .i64 1)))]) (.block 2 (.loop (.seq (.seq (.reg [.p none 45 (.mv (.tmp 16)),.p none 46 (.bin .leq .i64 (.tmp 45) (.const (.int .i64 15))),.p none 47 (.mv (.tmp 46)),.split 47,.p (some (47,true)) 48 (.mv (.tmp 15)),.p (some (47,true)) 49 (.bin .lss .i64 (.tmp 48) (.const (.int .i64 0))),.p none 50 (.pick (.tmp 47) (.tmp 49) (.const (.bool false)))]) (.cond (.tmp 50) .skip (.exit 2))) (.seq (.block 3 (.seq (.seq (.reg [.p none 53 (.mv (.tmp 12)),.p none 54 (.mv (.tmp 11)),.p none 55 (.len (.tmp 54)),.p none 56 (.bin .mul .i64 (.const (.int .i64 8)) (.tmp 55)),.p none 57 (.bin .geq .i64 (.tmp 53) (.tmp 56))]) (.cond (.tmp 57) (.seq (.reg [.p none 4 (.mv (.const (.slice none 0 0))),.p none 5 (.mv (.const (.int .i64 40)))]) .ret) .skip)) (.seq (.reg [.p none 58 (.mv (.tmp 14)),.p none 59 (.bin .mul .u32 (.tmp 58) (.const (.int .u32 2))),.p none 60 (.mv (.tmp 11)),.p none 61 (.mv (.tmp 12)),.l none (some 62) (.call 107 [(.tmp 60),(.tmp 61)]),.p none 63 (.bin .add .u32 (.tmp 59) (.tmp 62)),.p none 14 (.mv (.tmp 63))]) (.seq (.reg [.p none 64 (.mv (.tmp 12)),.p none 65 (.bin .add .i64 (.tmp 64) (.const (.int .i64 1))),.p none 12 (.mv (.tmp 65))]) (.reg [.p none 66 (.mv (.tmp 9)),.p none 67 (.mv (.tmp 16)),.p none 68 (.mv (.tmp 14)),.l none (some 69) (.call 108 [(.tmp 66),(.tmp 67),(.tmp 68)]),.p none 15 (.mv (.tmp 69))]))))) (.reg [.p none 51 (.mv (.tmp 16)),.p none 52 (.bin .add .i64 (.tmp 51) (.const (.int .i64 1))),.p none 16 (.mv (.tmp 52))])))))) (.seq (.seq (.reg [.p none 70 (.mv (.tmp 15)),.p none 71 (.bin .lss .i64 (.tmp 70) (.const (.int .i64 0)))]) (.cond (.tmp 71) (.seq (.reg [.p none 4 (.mv (.const (.slice none 0 0))),.p none 5 (.mv (.const (.int .i64 40)))]) .ret) .skip)) (.reg [.p none 72 (.mv (.tmp 13)),.p none 73 (.mv (.tmp 15)),.p none 74 (.conv .u8 (.tmp 73)),.l none (some 75) (.bs 5 1
 1 [(.int .u8 0)] [(0,1,(.tmp 74))]),.l none (some 76) (.app 5 1 1 [(.int .u8 0)] (.tmp 72) (.tmp 75)),.p none 13 (.mv (.tmp 76))]))))))))) (.seq (.seq (.reg [.p none 77 (.mv (.tmp 11)),.p none 78 (.len (.tmp 77)),.p none 79 (.mv (.tmp 12)),.p none 80 (.bin .add .i64 (.tmp 79) (.const (.int .i64 7))),.p none 81 (.div .quo .i64 (.tmp 80) (.const (.int .i64 8))),.p none 82 (.bin .neq .i64 (.tmp 78) (.tmp 81))]) (.cond (.tmp 82) (.seq (.reg [.p none 4 (.mv (.const (.slice none 0 0))),.p none 5 (.mv (.const (.int .i64 40)))]) .ret) .skip)) (.seq (.block 4 (.loop (.seq (.seq (.reg [.p none 83 (.mv (.tmp 12)),.p none 84 (.mv (.tmp 11)),.p none 85 (.len (.tmp 84)),.p none 86 (.bin .mul .i64 (.const (.int .i64 8)) (.tmp 85)),.p none 87 (.bin .lss .i64 (.tmp 83) (.tmp 86))]) (.cond (.tmp 87) .skip (.exit 4))) (.block 5 (.seq (.seq (.reg [.p none 88 (.mv (.tmp 11)),.p none 89 (.mv (.tmp 12)),.l none (some 90) (.call 107 [(.tmp 88),(.tmp 89)]),.p none 91 (.bin .neq .u32 (.tmp 90) (.const (.int .u32 0)))]) (.cond (.tmp 91) (.seq (.reg [.p none 4 (.mv (.const (.slice none 0 0))),.p none 5 (.mv (.const (.int .i64 40)))]) .ret) .skip)) (.reg [.p none 92 (.mv (.tmp 12)),.p none 93 (.bin .add .i64 (.tmp 92) (.const (.int .i64 1))),.p none 12 (.mv (.tmp 93))])))))) (.seq (.reg [.p none 94 (.mv (.tmp 13)),.p none 4 (.mv (.tmp 94)),.p none 5 (.mv (.const (.int .i64 0)))]) .ret)))))))))))))
theorem C74 : compile Tryz.prog 95 (Tryz.f74.body.getD .skip) = some M74 := by kernel_rfl
noncomputable def M75 : MC := (.seq (.reg [.p none 2 (.mv (.const (.int .u64 0)))]) (.seq (.reg [.p none 3 (.mv (.const (.int .u64 0)))]) (.seq (.reg [.p none 4 (.mv (.const (.int .u64 1)))]) (.seq (.seq (.reg [.p none 5 (.mv (.const (.int .i64 0)))]) (.block 0 (.loop (.seq (.seq (.reg [.p none 6 (.mv (.tmp 5)),.p none 7 (.mv (.tmp 0)),.p none 8 (.len (.tmp 7)),.p none 9 (.bin .lss .i64 (.tmp 6) (.tmp 8)),.p none 10 (.mv (.tmp 9)),.split 10,.p (some (10,true)) 11 (.mv (.tmp 5)),.p (some (10,true)) 12 (.bin .lss .i64 (.tmp 11) (.const (.int .i64 8))),.p none 13 (.pick (.tmp 10) (.tmp 12) (.const (.bool false)))]) (.cond (.tmp 13) .skip (.exit 0))) (.seq (.block 1 (.seq (.reg [.p none 16 (.mv (.tmp 3)),.p none 17 (.mv (.tmp 0)),.p none 18 (.mv (.tmp 5)),.p none 19 (.idx 1 (.tmp 17) (.tmp 18)),.l none (some 20) (.ld none (.tmp 19)),.p none 21 (.conv .u64 (.tmp 20)),.p none 22 (.mv (.tmp 4)),.p none 23 (.bin .mul .u64 (.tmp 21) (.tmp 22)),.p none 24 (.bin .add .u64 (.tmp 16) (.tmp 23)),.p none 3 (.mv (.tmp 24))]) (.reg [.p none 25 (.mv (.tmp 4)),.p none 26 (.bin .mul .u64 (.tmp 25) (.const (.int .u64 256))),.p none 4 (.mv (.tmp 26))]))) (.reg [.p none 14 (.mv (.tmp 5)),.p none 15 (.bin .add .i64 (.tmp 14) (.const (.int .i64 1))),.p none 5 (.mv (.tmp 15))])))))) (.seq (.reg [.p none 27 (.mv (.tmp 3)),.p none 2 (.mv (.tmp 27))]) .ret)))))
theorem C75 : compile Tryz.prog 28 (Tryz.f75.body.getD .skip) = some M75 := by kernel_rfl
noncomputable def M76 : MC := (.seq (.reg [.p none 4 (.mv (.const (.slice none 0 0))),.p none 5 (.mv (.const (.bool false)))]) (.seq (.reg [.p none 6 (.mv (.const (.slice none 0 0)))]) (.seq (.reg [.p none 7 (.mv (.const (.string ⟨#[]⟩)))]) (.seq (.reg [.p none 8 (.mv (.const (.int .i64 0)))]) (.seq (.seq (.reg [.p none 9 (.mv (.const (.int .i64 0)))]) (.block 0 (.loop (.seq (.seq (.reg [.p none 16 (.mv (.tmp 9)),.p none 17 (.mv (.tmp 1)),.p none 18 (.bin .lss .i64 (.tmp 16) (.tmp 17))]) (.cond (.tmp 18) .skip (.exit 0))) (.seq (.block 1 (.seq (.reg [.p none 22 (.mv (.tmp 0)),.p none 23 (.mv (.tmp 8)),.p none 24 (.mv (.tmp 7)),.p none 25 (.lens (.tmp 24)),.l none (some 26) (.call 109 [(.tmp 22),(.tmp 23),(.tmp 25)]),.p none 21 (.mv (.tmp 26)),.p none 27 (.ext 0 (.tmp 21)),.p none 28 (.ext 1 (.tmp 21)),.p none 10 (.mv (.tmp 27)),.p none 11 (.mv (.tmp 28))]) (.seq (.seq (.reg [.p none 29 (.mv (.tmp 10)),.p none 30 (.bin .lss .i64 (.tmp 29) (.const (.int .i64 0)))]) (.cond (.tmp 30) (.seq (.reg [.p none 4 (.mv (.const (.slice none 0 0))),.p none 5 (.mv (.const (.bool false)))]) .ret) .skip)) (.seq (.reg [.p none 32 (.mv (.tmp 0)),.p none 33 (.mv (.tmp 11)),.p none 34 (.mv (.tmp 10)),.p none 35 (.bin .sub .i64 (.const (.int .i64 1024)) (.tmp 34)),.l none (some 36) (.call 109 [(.tmp 32),(.tmp 33),(.tmp 35)]),.p none 31 (.mv (.tmp 36)),.p none 37 (.ext 0 (.tmp 31)),.p none 38 (.ext 1 (.tmp 31)),.p none 12 (.mv (.tmp 37)),.p none 13 (.mv (.tmp 38))]) (.seq (.seq (.reg [.p none 39 (.mv (.tmp 12)),.p none 40 (.bin .lss .i64 (.tmp 39) (.const (.int .i64 0)))]) (.cond (.tmp 40) (.seq (.reg [.p none 4 (.mv (.const (.slice none 0 0))),.p none 5 (.mv (.const (.bool false)))]) .ret) .skip)) (.seq (.reg [.p none 42 (.mv (.tmp 0)),.p none 43 (.mv (.tmp 13)),.l none (some 44) (.call 109 [(.tmp 42),(.tmp 43),(.const (.int .i64 1024))]),.p none 41 (.mv (.tmp 44)),.p none 45 (.ext 0 (.tmp 41)),.p none 46 (.ext 1 (.tmp 41)),.p none 14 (.mv (.tmp 45)),.p none 15 (.mv (.tmp 46))]) (.seq
 (.seq (.reg [.p none 47 (.mv (.tmp 14)),.p none 48 (.bin .lss .i64 (.tmp 47) (.const (.int .i64 0))),.p none 49 (.mv (.tmp 48)),.split 49,.p (some (49,false)) 50 (.mv (.tmp 12)),.p (some (49,false)) 51 (.mv (.tmp 14)),.p (some (49,false)) 52 (.bin .add .i64 (.tmp 50) (.tmp 51)),.p (some (49,false)) 53 (.mv (.tmp 0)),.p (some (49,false)) 54 (.len (.tmp 53)),.p (some (49,false)) 55 (.mv (.tmp 15)),.p (some (49,false)) 56 (.bin .sub .i64 (.tmp 54) (.tmp 55)),.p (some (49,false)) 57 (.bin .gtr .i64 (.tmp 52) (.tmp 56)),.p none 58 (.pick (.tmp 49) (.const (.bool true)) (.tmp 57))]) (.cond (.tmp 58) (.seq (.reg [.p none 4 (.mv (.const (.slice none 0 0))),.p none 5 (.mv (.const (.bool false)))]) .ret) .skip)) (.seq (.dreg (.line [.qp 0 none 59 (.mv (.tmp 7)),.qp 1 none 60 (.mv (.tmp 10)),.qp 2 none 61 (.slcs (.tmp 59) none (some (.tmp 60))),.qp 3 none 62 (.mv (.tmp 0)),.qp 4 none 63 (.mv (.tmp 15)),.qp 5 none 64 (.mv (.tmp 15)),.qp 6 none 65 (.mv (.tmp 12)),.qp 7 none 66 (.bin .add .i64 (.tmp 64) (.tmp 65)),.qp 8 none 67 (.slc 1 (.tmp 62) (some (.tmp 63)) (some (.tmp 66)) none),.l 9 none (some 68) (.b2s (.tmp 67)),.qp 10 none 69 (.sbin .add (.tmp 61) (.tmp 68)),.qp 11 none 7 (.mv (.tmp 69))])) (.seq (.reg [.p none 70 (.mv (.tmp 6)),.p none 71 (.mv (.tmp 7)),.p none 72 (.mv (.tmp 0)),.p none 73 (.mv (.tmp 15)),.p none 74 (.mv (.tmp 12)),.p none 75 (.bin .add .i64 (.tmp 73) (.tmp 74)),.p none 76 (.mv (.tmp 15)),.p none 77 (.mv (.tmp 12)),.p none 78 (.bin .add .i64 (.tmp 76) (.tmp 77)),.p none 79 (.mv (.tmp 14)),.p none 80 (.bin .add .i64 (.tmp 78) (.tmp 79)),.p none 81 (.slc 1 (.tmp 72) (some (.tmp 75)) (some (.tmp 80)) none),.l none (some 82) (.b2s (.tmp 81)),.p none 83 (.bld [(.string ⟨#[]⟩),(.string ⟨#[]⟩)] [(0,1,(.tmp 71)),(1,1,(.tmp 82))]),.l none (some 84) (.bs 35 1 2 [(.string ⟨#[]⟩),(.string ⟨#[]⟩)] [(0,2,(.tmp 83))]),.l none (some 85) (.app 35 32 2 [(.string ⟨#[]⟩),(.string ⟨#[]⟩)] (.tmp 70) (.tmp 84)),.p none 6 (.mv (.tmp 85))]) (.reg [.p none 86 (.mv (.tmp
 15)),.p none 87 (.mv (.tmp 12)),.p none 88 (.bin .add .i64 (.tmp 86) (.tmp 87)),.p none 89 (.mv (.tmp 14)),.p none 90 (.bin .add .i64 (.tmp 88) (.tmp 89)),.p none 8 (.mv (.tmp 90))])))))))))) (.reg [.p none 19 (.mv (.tmp 9)),.p none 20 (.bin .add .i64 (.tmp 19) (.const (.int .i64 1))),.p none 9 (.mv (.tmp 20))])))))) (.seq (.reg [.p none 91 (.mv (.tmp 6)),.p none 4 (.mv (.tmp 91)),.p none 5 (.mv (.const (.bool true)))]) .ret))))))
theorem C76 : compile Tryz.prog 92 (Tryz.f76.body.getD .skip) = some M76 := by kernel_rfl
noncomputable def M94 : MC := (.seq (.reg [.p none 2 (.mv (.const (.slice none 0 0))),.p none 3 (.mv (.const (.int .i64 0)))]) (.seq (.reg [.p none 4 (.mv (.const (.slice none 0 0)))]) (.seq (.seq (.reg [.p none 5 (.mv (.const (.int .i64 0)))]) (.block 0 (.loop (.seq (.seq (.reg [.p none 10 (.mv (.tmp 5)),.p none 11 (.mv (.tmp 0)),.p none 12 (.len (.tmp 11)),.p none 13 (.bin .lss .i64 (.tmp 10) (.tmp 12))]) (.cond (.tmp 13) .skip (.exit 0))) (.seq (.block 1 (.seq (.reg [.p none 16 (.mv (.tmp 0)),.p none 17 (.mv (.tmp 5)),.p none 18 (.idx 3 (.tmp 16) (.tmp 17)),.l none (some 19) (.ld (some 3) (.tmp 18)),.l none (some 6) (.al 125 [(.slice none 0 0),(.int .i64 0),(.int .i64 0)]),.l none none (.st 3 (.tmp 6) (.tmp 19))]) (.seq (.reg [.l none (some 20) (.ld (some 3) (.tmp 6)),.p none 21 (.mv (.tmp 4)),.p none 22 (.len (.tmp 21)),.p none 23 (.mv (.tmp 5)),.p none 24 (.mv (.tmp 0)),.p none 25 (.len (.tmp 24)),.p none 26 (.bin .sub .i64 (.tmp 25) (.const (.int .i64 1))),.p none 27 (.bin .eql .i64 (.tmp 23) (.tmp 26)),.l none (some 28) (.call 122 [(.tmp 20),(.tmp 22),(.tmp 27)]),.p none 7 (.mv (.tmp 28))]) (.seq (.seq (.reg [.p none 29 (.mv (.tmp 7)),.p none 30 (.not (.tmp 29))]) (.cond (.tmp 30) (.seq (.reg [.p none 2 (.mv (.const (.slice none 0 0))),.p none 3 (.mv (.const (.int .i64 31)))]) .ret) .skip)) (.seq (.seq (.reg [.p none 31 (.mv (.tmp 4)),.p none 32 (.len (.tmp 31)),.p none 33 (.fa 0 (.tmp 6)),.l none (some 34) (.ld none (.tmp 33)),.p none 35 (.len (.tmp 34)),.p none 36 (.bin .add .i64 (.tmp 32) (.tmp 35)),.p none 37 (.fa 2 (.tmp 6)),.l none (some 38) (.ld none (.tmp 37)),.p none 39 (.bin .add .i64 (.tmp 36) (.tmp 38)),.p none 40 (.bin .gtr .i64 (.tmp 39) (.const (.int .i64 65536)))]) (.cond (.tmp 40) (.seq (.reg [.p none 2 (.mv (.const (.slice none 0 0))),.p none 3 (.mv (.const (.int .i64 2)))]) .ret) .skip)) (.seq (.reg [.p none 41 (.mv (.tmp 4)),.p none 42 (.fa 0 (.tmp 6)),.l none (some 43) (.ld none (.tmp 42)),.l none (some 44) (.app 5 1 1 [(.int .u8 0)]
 (.tmp 41) (.tmp 43)),.p none 4 (.mv (.tmp 44))]) (.seq (.reg [.p none 8 (.mv (.const (.int .i64 0)))]) (.block 2 (.loop (.seq (.seq (.reg [.p none 45 (.mv (.tmp 8)),.p none 46 (.fa 2 (.tmp 6)),.l none (some 47) (.ld none (.tmp 46)),.p none 48 (.bin .lss .i64 (.tmp 45) (.tmp 47))]) (.cond (.tmp 48) .skip (.exit 2))) (.seq (.block 3 (.seq (.reg [.p none 51 (.mv (.tmp 4)),.p none 52 (.mv (.tmp 4)),.p none 53 (.len (.tmp 52)),.p none 54 (.fa 1 (.tmp 6)),.l none (some 55) (.ld none (.tmp 54)),.p none 56 (.bin .sub .i64 (.tmp 53) (.tmp 55)),.p none 57 (.idx 1 (.tmp 51) (.tmp 56)),.l none (some 58) (.ld none (.tmp 57)),.p none 9 (.mv (.tmp 58))]) (.reg [.p none 59 (.mv (.tmp 4)),.p none 60 (.mv (.tmp 9)),.l none (some 61) (.bs 5 1 1 [(.int .u8 0)] [(0,1,(.tmp 60))]),.l none (some 62) (.app 5 1 1 [(.int .u8 0)] (.tmp 59) (.tmp 61)),.p none 4 (.mv (.tmp 62))]))) (.reg [.p none 49 (.mv (.tmp 8)),.p none 50 (.bin .add .i64 (.tmp 49) (.const (.int .i64 1))),.p none 8 (.mv (.tmp 50))])))))))))))) (.reg [.p none 14 (.mv (.tmp 5)),.p none 15 (.bin .add .i64 (.tmp 14) (.const (.int .i64 1))),.p none 5 (.mv (.tmp 15))])))))) (.seq (.reg [.p none 63 (.mv (.tmp 4)),.p none 2 (.mv (.tmp 63)),.p none 3 (.mv (.const (.int .i64 0)))]) .ret))))
theorem C94 : compile Tryz.prog 64 (Tryz.f94.body.getD .skip) = some M94 := by kernel_rfl
noncomputable def M102 : MC := (.seq (.reg [.p none 2 (.mv (.const (.int .i64 0)))]) (.seq (.reg [.p none 3 (.mv (.const (.int .i64 0)))]) (.seq (.seq (.reg [.p none 4 (.mv (.const (.int .i64 0)))]) (.block 0 (.loop (.seq (.seq (.reg [.p none 5 (.mv (.tmp 4)),.p none 6 (.mv (.tmp 0)),.p none 7 (.len (.tmp 6)),.p none 8 (.bin .lss .i64 (.tmp 5) (.tmp 7))]) (.cond (.tmp 8) .skip (.exit 0))) (.seq (.block 1 (.seq (.reg [.p none 11 (.mv (.tmp 0)),.p none 12 (.mv (.tmp 4)),.p none 13 (.idx 1 (.tmp 11) (.tmp 12)),.l none (some 14) (.ld none (.tmp 13)),.p none 15 (.bin .gtr .i64 (.tmp 14) (.const (.int .i64 0)))]) (.cond (.tmp 15) (.reg [.p none 16 (.mv (.tmp 3)),.p none 17 (.mv (.tmp 0)),.p none 18 (.mv (.tmp 4)),.p none 19 (.idx 1 (.tmp 17) (.tmp 18)),.l none (some 20) (.ld none (.tmp 19)),.p none 21 (.bin .sub .i64 (.const (.int .i64 15)) (.tmp 20)),.p none 22 (.shf .shl (.const (.int .i64 1)) (.tmp 21)),.p none 23 (.bin .add .i64 (.tmp 16) (.tmp 22)),.p none 3 (.mv (.tmp 23))]) .skip))) (.reg [.p none 9 (.mv (.tmp 4)),.p none 10 (.bin .add .i64 (.tmp 9) (.const (.int .i64 1))),.p none 4 (.mv (.tmp 10))])))))) (.seq (.reg [.p none 24 (.mv (.tmp 3)),.p none 2 (.mv (.tmp 24))]) .ret))))
theorem C102 : compile Tryz.prog 25 (Tryz.f102.body.getD .skip) = some M102 := by kernel_rfl
noncomputable def M103 : MC := (.seq (.reg [.p none 4 (.mv (.const (.int .u32 0)))]) (.seq (.reg [.p none 8 (.mv (.tmp 0)),.p none 9 (.bin .xor .u32 (.const (.int .u32 4294967295)) (.tmp 8)),.p none 5 (.mv (.tmp 9))]) (.seq (.seq (.reg [.p none 6 (.mv (.const (.int .i64 0)))]) (.block 0 (.loop (.seq (.seq (.reg [.p none 10 (.mv (.tmp 6)),.p none 11 (.mv (.tmp 1)),.p none 12 (.len (.tmp 11)),.p none 13 (.bin .lss .i64 (.tmp 10) (.tmp 12))]) (.cond (.tmp 13) .skip (.exit 0))) (.seq (.block 1 (.seq (.reg [.p none 16 (.mv (.tmp 5)),.p none 17 (.mv (.tmp 1)),.p none 18 (.mv (.tmp 6)),.p none 19 (.idx 1 (.tmp 17) (.tmp 18)),.l none (some 20) (.ld none (.tmp 19)),.p none 21 (.conv .u32 (.tmp 20)),.p none 22 (.bin .xor .u32 (.tmp 16) (.tmp 21)),.p none 5 (.mv (.tmp 22))]) (.seq (.reg [.p none 7 (.mv (.const (.int .i64 0)))]) (.block 2 (.loop (.seq (.seq (.reg [.p none 23 (.mv (.tmp 7)),.p none 24 (.bin .lss .i64 (.tmp 23) (.const (.int .i64 8)))]) (.cond (.tmp 24) .skip (.exit 2))) (.seq (.block 3 (.reg [.p none 27 (.mv (.tmp 5)),.l none (some 28) (.call 123 [(.tmp 27)]),.p none 5 (.mv (.tmp 28))])) (.reg [.p none 25 (.mv (.tmp 7)),.p none 26 (.bin .add .i64 (.tmp 25) (.const (.int .i64 1))),.p none 7 (.mv (.tmp 26))])))))))) (.reg [.p none 14 (.mv (.tmp 6)),.p none 15 (.bin .add .i64 (.tmp 14) (.const (.int .i64 1))),.p none 6 (.mv (.tmp 15))])))))) (.seq (.reg [.p none 29 (.mv (.tmp 5)),.p none 30 (.bin .xor .u32 (.const (.int .u32 4294967295)) (.tmp 29)),.p none 4 (.mv (.tmp 30))]) .ret))))
theorem C103 : compile Tryz.prog 31 (Tryz.f103.body.getD .skip) = some M103 := by kernel_rfl
noncomputable def M105 : MC := (.seq (.reg [.p none 4 (.mv (.const (.slice none 0 0))),.p none 5 (.mv (.const (.int .i64 0)))]) (.seq (.seq (.reg [.p none 17 (.mv (.tmp 1)),.p none 18 (.bin .lss .i64 (.tmp 17) (.const (.int .i64 0))),.p none 19 (.mv (.tmp 18)),.split 19,.p (some (19,false)) 20 (.mv (.tmp 1)),.p (some (19,false)) 21 (.bin .gtr .i64 (.tmp 20) (.const (.int .i64 65536))),.p none 22 (.pick (.tmp 19) (.const (.bool true)) (.tmp 21))]) (.cond (.tmp 22) (.seq (.reg [.p none 4 (.mv (.const (.slice none 0 0))),.p none 5 (.mv (.const (.int .i64 3)))]) .ret) .skip)) (.seq (.reg [.p none 6 (.mv (.const (.slice none 0 0)))]) (.seq (.reg [.p none 7 (.mv (.const (.int .i64 0)))]) (.seq (.reg [.p none 8 (.mv (.const (.int .i64 0)))]) (.seq (.block 0 (.loop (.seq (.seq (.reg [.p none 23 (.mv (.tmp 8)),.p none 24 (.mv (.tmp 1)),.p none 25 (.bin .lss .i64 (.tmp 23) (.tmp 24))]) (.cond (.tmp 25) .skip (.exit 0))) (.block 1 (.seq (.reg [.l none (some 9) (.al 125 [(.slice none 0 0),(.int .i64 0),(.int .i64 0)])]) (.seq (.reg [.p none 27 (.mv (.tmp 0)),.p none 28 (.mv (.tmp 7)),.l none (some 29) (.call 126 [(.tmp 27),(.tmp 28)]),.p none 26 (.mv (.tmp 29)),.p none 30 (.ext 0 (.tmp 26)),.p none 31 (.ext 1 (.tmp 26)),.p none 10 (.mv (.tmp 30)),.p none 11 (.mv (.tmp 31))]) (.seq (.seq (.reg [.p none 32 (.mv (.tmp 10)),.p none 33 (.bin .lss .i64 (.tmp 32) (.const (.int .i64 0))),.p none 34 (.mv (.tmp 33)),.split 34,.p (some (34,false)) 35 (.mv (.tmp 10)),.p (some (34,false)) 36 (.mv (.tmp 0)),.p (some (34,false)) 37 (.len (.tmp 36)),.p (some (34,false)) 38 (.mv (.tmp 11)),.p (some (34,false)) 39 (.bin .sub .i64 (.tmp 37) (.tmp 38)),.p (some (34,false)) 40 (.bin .gtr .i64 (.tmp 35) (.tmp 39)),.p none 41 (.pick (.tmp 34) (.const (.bool true)) (.tmp 40)),.p none 42 (.mv (.tmp 41)),.split 42,.p (some (42,false)) 43 (.mv (.tmp 8)),.p (some (42,false)) 44 (.mv (.tmp 10)),.p (some (42,false)) 45 (.bin .add .i64 (.tmp 43) (.tmp 44)),.p (some (42,false)) 46 (.mv (.tmp 1)),.p (some
 (42,false)) 47 (.bin .gtr .i64 (.tmp 45) (.tmp 46)),.p none 48 (.pick (.tmp 42) (.const (.bool true)) (.tmp 47))]) (.cond (.tmp 48) (.seq (.reg [.p none 4 (.mv (.const (.slice none 0 0))),.p none 5 (.mv (.const (.int .i64 30)))]) .ret) .skip)) (.seq (.reg [.l none (some 49) (.bs 5 0 1 [] []),.p none 50 (.mv (.tmp 0)),.p none 51 (.mv (.tmp 11)),.p none 52 (.mv (.tmp 11)),.p none 53 (.mv (.tmp 10)),.p none 54 (.bin .add .i64 (.tmp 52) (.tmp 53)),.p none 55 (.slc 1 (.tmp 50) (some (.tmp 51)) (some (.tmp 54)) none),.l none (some 56) (.app 5 1 1 [(.int .u8 0)] (.tmp 49) (.tmp 55)),.p none 57 (.fa 0 (.tmp 9)),.l none none (.st 1 (.tmp 57) (.tmp 56))]) (.seq (.reg [.p none 58 (.mv (.tmp 11)),.p none 59 (.mv (.tmp 10)),.p none 60 (.bin .add .i64 (.tmp 58) (.tmp 59)),.p none 7 (.mv (.tmp 60))]) (.seq (.reg [.p none 61 (.mv (.tmp 8)),.p none 62 (.mv (.tmp 10)),.p none 63 (.bin .add .i64 (.tmp 61) (.tmp 62)),.p none 8 (.mv (.tmp 63))]) (.seq (.seq (.reg [.p none 64 (.mv (.tmp 8)),.p none 65 (.mv (.tmp 1)),.p none 66 (.bin .lss .i64 (.tmp 64) (.tmp 65))]) (.cond (.tmp 66) (.seq (.reg [.p none 68 (.mv (.tmp 0)),.p none 69 (.mv (.tmp 7)),.l none (some 70) (.call 126 [(.tmp 68),(.tmp 69)]),.p none 67 (.mv (.tmp 70)),.p none 71 (.ext 0 (.tmp 67)),.p none 72 (.ext 1 (.tmp 67)),.p none 12 (.mv (.tmp 71)),.p none 13 (.mv (.tmp 72))]) (.seq (.seq (.reg [.p none 73 (.mv (.tmp 12)),.p none 74 (.bin .lss .i64 (.tmp 73) (.const (.int .i64 0)))]) (.cond (.tmp 74) (.seq (.reg [.p none 4 (.mv (.const (.slice none 0 0))),.p none 5 (.mv (.const (.int .i64 30)))]) .ret) .skip)) (.seq (.reg [.p none 76 (.mv (.tmp 0)),.p none 77 (.mv (.tmp 13)),.l none (some 78) (.call 126 [(.tmp 76),(.tmp 77)]),.p none 75 (.mv (.tmp 78)),.p none 79 (.ext 0 (.tmp 75)),.p none 80 (.ext 1 (.tmp 75)),.p none 14 (.mv (.tmp 79)),.p none 15 (.mv (.tmp 80))]) (.seq (.seq (.reg [.p none 81 (.mv (.tmp 14)),.p none 82 (.bin .lss .i64 (.tmp 81) (.const (.int .i64 0))),.p none 83 (.mv (.tmp 82)),.split 83,.p (some
 (83,false)) 84 (.mv (.tmp 8)),.p (some (83,false)) 85 (.mv (.tmp 12)),.p (some (83,false)) 86 (.bin .add .i64 (.tmp 84) (.tmp 85)),.p (some (83,false)) 87 (.bin .add .i64 (.tmp 86) (.const (.int .i64 4))),.p (some (83,false)) 88 (.mv (.tmp 1)),.p (some (83,false)) 89 (.bin .gtr .i64 (.tmp 87) (.tmp 88)),.p none 90 (.pick (.tmp 83) (.const (.bool true)) (.tmp 89))]) (.cond (.tmp 90) (.seq (.reg [.p none 4 (.mv (.const (.slice none 0 0))),.p none 5 (.mv (.const (.int .i64 30)))]) .ret) .skip)) (.seq (.reg [.p none 91 (.mv (.tmp 12)),.p none 92 (.bin .add .i64 (.tmp 91) (.const (.int .i64 4))),.p none 93 (.fa 2 (.tmp 9)),.l none none (.st 1 (.tmp 93) (.tmp 92))]) (.seq (.reg [.p none 94 (.mv (.tmp 14)),.p none 95 (.fa 1 (.tmp 9)),.l none none (.st 1 (.tmp 95) (.tmp 94))]) (.seq (.reg [.p none 96 (.mv (.tmp 15)),.p none 7 (.mv (.tmp 96))]) (.reg [.p none 97 (.mv (.tmp 8)),.p none 98 (.fa 2 (.tmp 9)),.l none (some 99) (.ld none (.tmp 98)),.p none 100 (.bin .add .i64 (.tmp 97) (.tmp 99)),.p none 8 (.mv (.tmp 100))])))))))) .skip)) (.seq (.reg [.l none (some 101) (.ld (some 3) (.tmp 9)),.p none 102 (.mv (.tmp 8)),.p none 103 (.mv (.tmp 10)),.p none 104 (.bin .sub .i64 (.tmp 102) (.tmp 103)),.p none 105 (.fa 2 (.tmp 9)),.l none (some 106) (.ld none (.tmp 105)),.p none 107 (.bin .sub .i64 (.tmp 104) (.tmp 106)),.p none 108 (.mv (.tmp 8)),.p none 109 (.mv (.tmp 1)),.p none 110 (.bin .eql .i64 (.tmp 108) (.tmp 109)),.l none (some 111) (.call 122 [(.tmp 101),(.tmp 107),(.tmp 110)]),.p none 16 (.mv (.tmp 111))]) (.seq (.seq (.reg [.p none 112 (.mv (.tmp 16)),.p none 113 (.not (.tmp 112))]) (.cond (.tmp 113) (.seq (.reg [.p none 4 (.mv (.const (.slice none 0 0))),.p none 5 (.mv (.const (.int .i64 30)))]) .ret) .skip)) (.reg [.p none 114 (.mv (.tmp 6)),.l none (some 115) (.ld (some 3) (.tmp 9)),.l none (some 116) (.bs 125 1 3 [(.slice none 0 0),(.int .i64 0),(.int .i64 0)] [(0,3,(.tmp 115))]),.l none (some 117) (.app 125 40 3 [(.slice none 0 0),(.int .i64 0),(.int .i64 0)] (.tmp
 114) (.tmp 116)),.p none 6 (.mv (.tmp 117))])))))))))))))) (.seq (.seq (.reg [.p none 118 (.mv (.tmp 7)),.p none 119 (.mv (.tmp 0)),.p none 120 (.len (.tmp 119)),.p none 121 (.bin .neq .i64 (.tmp 118) (.tmp 120))]) (.cond (.tmp 121) (.seq (.reg [.p none 4 (.mv (.const (.slice none 0 0))),.p none 5 (.mv (.const (.int .i64 30)))]) .ret) .skip)) (.seq (.reg [.p none 122 (.mv (.tmp 6)),.p none 4 (.mv (.tmp 122)),.p none 5 (.mv (.const (.int .i64 0)))]) .ret))))))))
theorem C105 : compile Tryz.prog 123 (Tryz.f105.body.getD .skip) = some M105 := by kernel_rfl
noncomputable def M106 : MC := (.seq (.reg [.p none 2 (.mv (.const (.slice none 0 0))),.p none 3 (.mv (.const (.int .i64 0))),.p none 4 (.mv (.const (.bool false)))]) (.seq (.reg [.p none 5 (.mv (.const (.slice none 0 0)))]) (.seq (.reg [.p none 6 (.mv (.const (.int .i64 0)))]) (.seq (.block 0 (.loop (.seq (.seq (.reg [.p none 12 (.mv (.tmp 6)),.p none 13 (.mv (.tmp 0)),.p none 14 (.len (.tmp 13)),.p none 15 (.bin .lss .i64 (.tmp 12) (.tmp 14)),.p none 16 (.mv (.tmp 15)),.split 16,.p (some (16,true)) 17 (.mv (.tmp 0)),.p (some (16,true)) 18 (.mv (.tmp 6)),.p (some (16,true)) 19 (.idx 1 (.tmp 17) (.tmp 18)),.l (some (16,true)) (some 20) (.ld none (.tmp 19)),.p (some (16,true)) 21 (.bin .neq .u8 (.tmp 20) (.const (.int .u8 0))),.p none 22 (.pick (.tmp 16) (.tmp 21) (.const (.bool false)))]) (.cond (.tmp 22) .skip (.exit 0))) (.block 1 (.seq (.reg [.p none 24 (.mv (.tmp 0)),.p none 25 (.mv (.tmp 6)),.p none 26 (.slc 1 (.tmp 24) (some (.tmp 25)) none none),.l none (some 27) (.call 127 [(.tmp 26)]),.p none 23 (.mv (.tmp 27)),.p none 28 (.ext 0 (.tmp 23)),.p none 29 (.ext 1 (.tmp 23)),.p none 30 (.ext 2 (.tmp 23)),.p none 7 (.mv (.tmp 28)),.p none 8 (.mv (.tmp 29)),.p none 9 (.mv (.tmp 30))]) (.seq (.seq (.reg [.p none 31 (.mv (.tmp 9)),.p none 32 (.bin .neq .i64 (.tmp 31) (.const (.int .i64 0))),.p none 33 (.mv (.tmp 32)),.split 33,.p (some (33,false)) 34 (.mv (.tmp 7)),.p (some (33,false)) 35 (.bin .lss .i64 (.tmp 34) (.const (.int .i64 1))),.p none 36 (.pick (.tmp 33) (.const (.bool true)) (.tmp 35)),.p none 37 (.mv (.tmp 36)),.split 37,.p (some (37,false)) 38 (.mv (.tmp 7)),.p (some (37,false)) 39 (.mv (.tmp 5)),.p (some (37,false)) 40 (.len (.tmp 39)),.p (some (37,false)) 41 (.bin .sub .i64 (.const (.int .i64 256)) (.tmp 40)),.p (some (37,false)) 42 (.bin .gtr .i64 (.tmp 38) (.tmp 41)),.p none 43 (.pick (.tmp 37) (.const (.bool true)) (.tmp 42)),.p none 44 (.mv (.tmp 43)),.split 44,.p (some (44,false)) 45 (.mv (.tmp 6)),.p (some (44,false)) 46 (.mv (.tmp 8)),.p
 (some (44,false)) 47 (.bin .add .i64 (.tmp 45) (.tmp 46)),.p (some (44,false)) 48 (.mv (.tmp 0)),.p (some (44,false)) 49 (.len (.tmp 48)),.p (some (44,false)) 50 (.bin .geq .i64 (.tmp 47) (.tmp 49)),.p none 51 (.pick (.tmp 44) (.const (.bool true)) (.tmp 50))]) (.cond (.tmp 51) (.seq (.reg [.p none 2 (.mv (.const (.slice none 0 0))),.p none 3 (.mv (.const (.int .i64 0))),.p none 4 (.mv (.const (.bool false)))]) .ret) .skip)) (.seq (.reg [.p none 52 (.mv (.tmp 0)),.p none 53 (.mv (.tmp 6)),.p none 54 (.mv (.tmp 8)),.p none 55 (.bin .add .i64 (.tmp 53) (.tmp 54)),.p none 56 (.idx 1 (.tmp 52) (.tmp 55)),.l none (some 57) (.ld none (.tmp 56)),.p none 58 (.conv .i64 (.tmp 57)),.p none 10 (.mv (.tmp 58))]) (.seq (.seq (.reg [.p none 59 (.mv (.tmp 10)),.p none 60 (.bin .gtr .i64 (.tmp 59) (.const (.int .i64 15))),.p none 61 (.mv (.tmp 60)),.split 61,.p (some (61,false)) 62 (.mv (.tmp 5)),.p (some (61,false)) 63 (.len (.tmp 62)),.p (some (61,false)) 64 (.bin .gtr .i64 (.tmp 63) (.const (.int .i64 0))),.p (some (61,false)) 65 (.mv (.tmp 64)),.split 65,.p (some (65,true)) 66 (.mv (.tmp 5)),.p (some (65,true)) 67 (.mv (.tmp 5)),.p (some (65,true)) 68 (.len (.tmp 67)),.p (some (65,true)) 69 (.bin .sub .i64 (.tmp 68) (.const (.int .i64 1))),.p (some (65,true)) 70 (.idx 1 (.tmp 66) (.tmp 69)),.l (some (65,true)) (some 71) (.ld none (.tmp 70)),.p (some (65,true)) 72 (.mv (.tmp 10)),.p (some (65,true)) 73 (.bin .eql .i64 (.tmp 71) (.tmp 72)),.p (some (61,false)) 74 (.pick (.tmp 65) (.tmp 73) (.const (.bool false))),.p none 75 (.pick (.tmp 61) (.const (.bool true)) (.tmp 74))]) (.cond (.tmp 75) (.seq (.reg [.p none 2 (.mv (.const (.slice none 0 0))),.p none 3 (.mv (.const (.int .i64 0))),.p none 4 (.mv (.const (.bool false)))]) .ret) .skip)) (.seq (.seq (.reg [.p none 11 (.mv (.const (.int .i64 0)))]) (.block 2 (.loop (.seq (.seq (.reg [.p none 76 (.mv (.tmp 11)),.p none 77 (.mv (.tmp 7)),.p none 78 (.bin .lss .i64 (.tmp 76) (.tmp 77))]) (.cond (.tmp 78) .skip (.exit 2))) (.seq
 (.block 3 (.reg [.p none 81 (.mv (.tmp 5)),.p none 82 (.mv (.tmp 10)),.l none (some 83) (.bs 3 1 1 [(.int .i64 0)] [(0,1,(.tmp 82))]),.l none (some 84) (.app 3 8 1 [(.int .i64 0)] (.tmp 81) (.tmp 83)),.p none 5 (.mv (.tmp 84))])) (.reg [.p none 79 (.mv (.tmp 11)),.p none 80 (.bin .add .i64 (.tmp 79) (.const (.int .i64 1))),.p none 11 (.mv (.tmp 80))])))))) (.reg [.p none 85 (.mv (.tmp 6)),.p none 86 (.mv (.tmp 8)),.p none 87 (.bin .add .i64 (.tmp 85) (.tmp 86)),.p none 88 (.bin .add .i64 (.tmp 87) (.const (.int .i64 1))),.p none 6 (.mv (.tmp 88))])))))))))) (.seq (.seq (.reg [.p none 89 (.mv (.tmp 6)),.p none 90 (.mv (.tmp 0)),.p none 91 (.len (.tmp 90)),.p none 92 (.bin .geq .i64 (.tmp 89) (.tmp 91)),.p none 93 (.mv (.tmp 92)),.split 93,.p (some (93,false)) 94 (.mv (.tmp 5)),.p (some (93,false)) 95 (.len (.tmp 94)),.p (some (93,false)) 96 (.bin .gtr .i64 (.tmp 95) (.const (.int .i64 0))),.p (some (93,false)) 97 (.mv (.tmp 96)),.split 97,.p (some (97,true)) 98 (.mv (.tmp 5)),.p (some (97,true)) 99 (.mv (.tmp 5)),.p (some (97,true)) 100 (.len (.tmp 99)),.p (some (97,true)) 101 (.bin .sub .i64 (.tmp 100) (.const (.int .i64 1))),.p (some (97,true)) 102 (.idx 1 (.tmp 98) (.tmp 101)),.l (some (97,true)) (some 103) (.ld none (.tmp 102)),.p (some (97,true)) 104 (.bin .eql .i64 (.tmp 103) (.const (.int .i64 0))),.p (some (93,false)) 105 (.pick (.tmp 97) (.tmp 104) (.const (.bool false))),.p none 106 (.pick (.tmp 93) (.const (.bool true)) (.tmp 105))]) (.cond (.tmp 106) (.seq (.reg [.p none 2 (.mv (.const (.slice none 0 0))),.p none 3 (.mv (.const (.int .i64 0))),.p none 4 (.mv (.const (.bool false)))]) .ret) .skip)) (.seq (.reg [.p none 107 (.mv (.tmp 5)),.p none 108 (.mv (.tmp 6)),.p none 109 (.bin .add .i64 (.tmp 108) (.const (.int .i64 1))),.p none 2 (.mv (.tmp 107)),.p none 3 (.mv (.tmp 109)),.p none 4 (.mv (.const (.bool true)))]) .ret))))))
theorem C106 : compile Tryz.prog 110 (Tryz.f106.body.getD .skip) = some M106 := by kernel_rfl
noncomputable def M107 : MC := (.seq (.reg [.p none 4 (.mv (.const (.int .u32 0)))]) (.seq (.reg [.p none 5 (.mv (.tmp 0)),.p none 6 (.mv (.tmp 1)),.p none 7 (.div .quo .i64 (.tmp 6) (.const (.int .i64 8))),.p none 8 (.idx 1 (.tmp 5) (.tmp 7)),.l none (some 9) (.ld none (.tmp 8)),.p none 10 (.mv (.tmp 1)),.p none 11 (.div .rem .i64 (.tmp 10) (.const (.int .i64 8))),.p none 12 (.shf .shr (.tmp 9) (.tmp 11)),.p none 13 (.conv .u32 (.tmp 12)),.p none 14 (.div .rem .u32 (.tmp 13) (.const (.int .u32 2))),.p none 4 (.mv (.tmp 14))]) .ret))
theorem C107 : compile Tryz.prog 15 (Tryz.f107.body.getD .skip) = some M107 := by kernel_rfl
noncomputable def M108 : MC := (.seq (.reg [.p none 6 (.mv (.const (.int .i64 0)))]) (.seq (.seq (.reg [.p none 7 (.mv (.const (.int .i64 0)))]) (.block 0 (.loop (.seq (.seq (.reg [.p none 8 (.mv (.tmp 7)),.p none 9 (.mv (.tmp 0)),.p none 10 (.len (.tmp 9)),.p none 11 (.bin .lss .i64 (.tmp 8) (.tmp 10))]) (.cond (.tmp 11) .skip (.exit 0))) (.seq (.block 1 (.seq (.reg [.p none 14 (.mv (.tmp 0)),.p none 15 (.mv (.tmp 7)),.p none 16 (.idx 2 (.tmp 14) (.tmp 15)),.p none 17 (.fa 0 (.tmp 16)),.l none (some 18) (.ld none (.tmp 17)),.p none 19 (.mv (.tmp 1)),.p none 20 (.bin .eql .i64 (.tmp 18) (.tmp 19)),.p none 21 (.mv (.tmp 20)),.split 21,.p (some (21,true)) 22 (.mv (.tmp 0)),.p (some (21,true)) 23 (.mv (.tmp 7)),.p (some (21,true)) 24 (.idx 2 (.tmp 22) (.tmp 23)),.p (some (21,true)) 25 (.fa 1 (.tmp 24)),.l (some (21,true)) (some 26) (.ld none (.tmp 25)),.p (some (21,true)) 27 (.mv (.tmp 2)),.p (some (21,true)) 28 (.bin .eql .u32 (.tmp 26) (.tmp 27)),.p none 29 (.pick (.tmp 21) (.tmp 28) (.const (.bool false))),.p none 30 (.mv (.tmp 29)),.split 30,.p (some (30,true)) 31 (.mv (.tmp 1)),.p (some (30,true)) 32 (.bin .gtr .i64 (.tmp 31) (.const (.int .i64 0))),.p none 33 (.pick (.tmp 30) (.tmp 32) (.const (.bool false)))]) (.cond (.tmp 33) (.seq (.reg [.p none 34 (.mv (.tmp 7)),.p none 6 (.mv (.tmp 34))]) .ret) .skip))) (.reg [.p none 12 (.mv (.tmp 7)),.p none 13 (.bin .add .i64 (.tmp 12) (.const (.int .i64 1))),.p none 7 (.mv (.tmp 13))])))))) (.seq (.reg [.p none 6 (.mv (.const (.int .i64 (-1))))]) .ret)))
theorem C108 : compile Tryz.prog 35 (Tryz.f108.body.getD .skip) = some M108 := by kernel_rfl
noncomputable def M109 : MC := (.seq (.reg [.p none 6 (.mv (.const (.int .i64 0))),.p none 7 (.mv (.const (.int .i64 0)))]) (.seq (.reg [.p none 12 (.mv (.tmp 0)),.p none 13 (.mv (.tmp 1)),.p none 14 (.slc 1 (.tmp 12) (some (.tmp 13)) none none),.l none (some 15) (.call 127 [(.tmp 14)]),.p none 11 (.mv (.tmp 15)),.p none 16 (.ext 0 (.tmp 11)),.p none 17 (.ext 1 (.tmp 11)),.p none 18 (.ext 2 (.tmp 11)),.p none 8 (.mv (.tmp 16)),.p none 9 (.mv (.tmp 17)),.p none 10 (.mv (.tmp 18))]) (.seq (.seq (.reg [.p none 19 (.mv (.tmp 10)),.p none 20 (.bin .neq .i64 (.tmp 19) (.const (.int .i64 0))),.p none 21 (.mv (.tmp 20)),.split 21,.p (some (21,false)) 22 (.mv (.tmp 8)),.p (some (21,false)) 23 (.mv (.tmp 2)),.p (some (21,false)) 24 (.bin .gtr .i64 (.tmp 22) (.tmp 23)),.p none 25 (.pick (.tmp 21) (.const (.bool true)) (.tmp 24))]) (.cond (.tmp 25) (.seq (.reg [.p none 26 (.mv (.tmp 1)),.p none 6 (.mv (.const (.int .i64 (-1)))),.p none 7 (.mv (.tmp 26))]) .ret) .skip)) (.seq (.reg [.p none 27 (.mv (.tmp 8)),.p none 28 (.mv (.tmp 1)),.p none 29 (.mv (.tmp 9)),.p none 30 (.bin .add .i64 (.tmp 28) (.tmp 29)),.p none 6 (.mv (.tmp 27)),.p none 7 (.mv (.tmp 30))]) .ret))))
theorem C109 : compile Tryz.prog 31 (Tryz.f109.body.getD .skip) = some M109 := by kernel_rfl
noncomputable def M122 : MC := (.seq (.reg [.l none (some 3) (.bx 125 (.tmp 0)),.p none 6 (.mv (.const (.bool false)))]) (.seq (.seq (.reg [.p none 8 (.fa 1 (.tmp 3)),.l none (some 9) (.ld none (.tmp 8)),.p none 10 (.bin .eql .i64 (.tmp 9) (.const (.int .i64 0))),.p none 11 (.mv (.tmp 10)),.split 11,.p (some (11,true)) 12 (.fa 2 (.tmp 3)),.l (some (11,true)) (some 13) (.ld none (.tmp 12)),.p (some (11,true)) 14 (.bin .eql .i64 (.tmp 13) (.const (.int .i64 0))),.p none 15 (.pick (.tmp 11) (.tmp 14) (.const (.bool false)))]) (.cond (.tmp 15) (.seq (.reg [.p none 16 (.mv (.tmp 2)),.p none 17 (.mv (.tmp 16)),.split 17,.p (some (17,true)) 18 (.fa 0 (.tmp 3)),.l (some (17,true)) (some 19) (.ld none (.tmp 18)),.p (some (17,true)) 20 (.len (.tmp 19)),.p (some (17,true)) 21 (.bin .gtr .i64 (.tmp 20) (.const (.int .i64 0))),.p none 22 (.pick (.tmp 17) (.tmp 21) (.const (.bool false))),.p none 6 (.mv (.tmp 22))]) .ret) .skip)) (.seq (.reg [.p none 23 (.mv (.tmp 1)),.p none 24 (.fa 0 (.tmp 3)),.l none (some 25) (.ld none (.tmp 24)),.p none 26 (.len (.tmp 25)),.p none 27 (.bin .add .i64 (.tmp 23) (.tmp 26)),.p none 7 (.mv (.tmp 27))]) (.seq (.reg [.p none 28 (.fa 2 (.tmp 3)),.l none (some 29) (.ld none (.tmp 28)),.p none 30 (.bin .geq .i64 (.tmp 29) (.const (.int .i64 4))),.p none 31 (.mv (.tmp 30)),.split 31,.p (some (31,true)) 32 (.fa 2 (.tmp 3)),.l (some (31,true)) (some 33) (.ld none (.tmp 32)),.p (some (31,true)) 34 (.bin .leq .i64 (.tmp 33) (.const (.int .i64 259))),.p none 35 (.pick (.tmp 31) (.tmp 34) (.const (.bool false))),.p none 36 (.mv (.tmp 35)),.split 36,.p (some (36,true)) 37 (.fa 1 (.tmp 3)),.l (some (36,true)) (some 38) (.ld none (.tmp 37)),.p (some (36,true)) 39 (.bin .geq .i64 (.tmp 38) (.const (.int .i64 1))),.p none 40 (.pick (.tmp 36) (.tmp 39) (.const (.bool false))),.p none 41 (.mv (.tmp 40)),.split 41,.p (some (41,true)) 42 (.fa 1 (.tmp 3)),.l (some (41,true)) (some 43) (.ld none (.tmp 42)),.p (some (41,true)) 44 (.bin .leq .i64 (.tmp 43) (.const (.int
 .i64 32768))),.p none 45 (.pick (.tmp 41) (.tmp 44) (.const (.bool false))),.p none 46 (.mv (.tmp 45)),.split 46,.p (some (46,true)) 47 (.fa 1 (.tmp 3)),.l (some (46,true)) (some 48) (.ld none (.tmp 47)),.p (some (46,true)) 49 (.mv (.tmp 7)),.p (some (46,true)) 50 (.bin .leq .i64 (.tmp 48) (.tmp 49)),.p none 51 (.pick (.tmp 46) (.tmp 50) (.const (.bool false))),.p none 6 (.mv (.tmp 51))]) .ret))))
theorem C122 : compile Tryz.prog 52 (Tryz.f122.body.getD .skip) = some M122 := by kernel_rfl
noncomputable def M123 : MC := (.seq (.reg [.p none 2 (.mv (.const (.int .u32 0)))]) (.seq (.seq (.reg [.p none 3 (.mv (.tmp 0)),.p none 4 (.div .rem .u32 (.tmp 3) (.const (.int .u32 2))),.p none 5 (.bin .eql .u32 (.tmp 4) (.const (.int .u32 1)))]) (.cond (.tmp 5) (.seq (.reg [.p none 6 (.mv (.tmp 0)),.p none 7 (.shf .shr (.tmp 6) (.const (.int .u64 1))),.p none 8 (.bin .xor .u32 (.tmp 7) (.const (.int .u32 2197175160))),.p none 2 (.mv (.tmp 8))]) .ret) .skip)) (.seq (.reg [.p none 9 (.mv (.tmp 0)),.p none 10 (.shf .shr (.tmp 9) (.const (.int .u64 1))),.p none 2 (.mv (.tmp 10))]) .ret)))
theorem C123 : compile Tryz.prog 11 (Tryz.f123.body.getD .skip) = some M123 := by kernel_rfl
noncomputable def M126 : MC := (.seq (.reg [.p none 4 (.mv (.const (.int .i64 0))),.p none 5 (.mv (.const (.int .i64 0)))]) (.seq (.reg [.p none 10 (.mv (.tmp 0)),.p none 11 (.mv (.tmp 1)),.p none 12 (.slc 1 (.tmp 10) (some (.tmp 11)) none none),.l none (some 13) (.call 127 [(.tmp 12)]),.p none 9 (.mv (.tmp 13)),.p none 14 (.ext 0 (.tmp 9)),.p none 15 (.ext 1 (.tmp 9)),.p none 16 (.ext 2 (.tmp 9)),.p none 6 (.mv (.tmp 14)),.p none 7 (.mv (.tmp 15)),.p none 8 (.mv (.tmp 16))]) (.seq (.seq (.reg [.p none 17 (.mv (.tmp 8)),.p none 18 (.bin .neq .i64 (.tmp 17) (.const (.int .i64 0))),.p none 19 (.mv (.tmp 18)),.split 19,.p (some (19,false)) 20 (.mv (.tmp 6)),.p (some (19,false)) 21 (.bin .gtr .i64 (.tmp 20) (.const (.int .i64 65536))),.p none 22 (.pick (.tmp 19) (.const (.bool true)) (.tmp 21))]) (.cond (.tmp 22) (.seq (.reg [.p none 23 (.mv (.tmp 1)),.p none 4 (.mv (.const (.int .i64 (-1)))),.p none 5 (.mv (.tmp 23))]) .ret) .skip)) (.seq (.reg [.p none 24 (.mv (.tmp 6)),.p none 25 (.mv (.tmp 1)),.p none 26 (.mv (.tmp 7)),.p none 27 (.bin .add .i64 (.tmp 25) (.tmp 26)),.p none 4 (.mv (.tmp 24)),.p none 5 (.mv (.tmp 27))]) .ret))))
theorem C126 : compile Tryz.prog 28 (Tryz.f126.body.getD .skip) = some M126 := by kernel_rfl
noncomputable def M127 : MC := (.seq (.reg [.p none 2 (.mv (.const (.int .i64 0))),.p none 3 (.mv (.const (.int .i64 0))),.p none 4 (.mv (.const (.int .i64 0)))]) (.seq (.reg [.p none 5 (.mv (.const (.int .i64 0)))]) (.seq (.reg [.p none 6 (.mv (.const (.int .i64 1)))]) (.seq (.seq (.reg [.p none 7 (.mv (.const (.int .i64 0)))]) (.block 0 (.loop (.seq (.seq (.reg [.p none 9 (.mv (.tmp 7)),.p none 10 (.mv (.tmp 0)),.p none 11 (.len (.tmp 10)),.p none 12 (.bin .lss .i64 (.tmp 9) (.tmp 11))]) (.cond (.tmp 12) .skip (.exit 0))) (.seq (.block 1 (.seq (.reg [.p none 15 (.mv (.tmp 0)),.p none 16 (.mv (.tmp 7)),.p none 17 (.idx 1 (.tmp 15) (.tmp 16)),.l none (some 18) (.ld none (.tmp 17)),.p none 19 (.conv .i64 (.tmp 18)),.p none 20 (.div .rem .i64 (.tmp 19) (.const (.int .i64 128))),.p none 8 (.mv (.tmp 20))]) (.seq (.reg [.p none 21 (.mv (.tmp 5)),.p none 22 (.mv (.tmp 8)),.p none 23 (.mv (.tmp 6)),.p none 24 (.bin .mul .i64 (.tmp 22) (.tmp 23)),.p none 25 (.bin .add .i64 (.tmp 21) (.tmp 24)),.p none 5 (.mv (.tmp 25))]) (.seq (.seq (.reg [.p none 26 (.mv (.tmp 0)),.p none 27 (.mv (.tmp 7)),.p none 28 (.idx 1 (.tmp 26) (.tmp 27)),.l none (some 29) (.ld none (.tmp 28)),.p none 30 (.bin .lss .u8 (.tmp 29) (.const (.int .u8 128)))]) (.cond (.tmp 30) (.seq (.seq (.reg [.p none 31 (.mv (.tmp 7)),.p none 32 (.bin .gtr .i64 (.tmp 31) (.const (.int .i64 0))),.p none 33 (.mv (.tmp 32)),.split 33,.p (some (33,true)) 34 (.mv (.tmp 0)),.p (some (33,true)) 35 (.mv (.tmp 7)),.p (some (33,true)) 36 (.idx 1 (.tmp 34) (.tmp 35)),.l (some (33,true)) (some 37) (.ld none (.tmp 36)),.p (some (33,true)) 38 (.bin .eql .u8 (.tmp 37) (.const (.int .u8 0))),.p none 39 (.pick (.tmp 33) (.tmp 38) (.const (.bool false)))]) (.cond (.tmp 39) (.seq (.reg [.p none 2 (.mv (.const (.int .i64 0))),.p none 3 (.mv (.const (.int .i64 0))),.p none 4 (.mv (.const (.int .i64 21)))]) .ret) .skip)) (.seq (.reg [.p none 40 (.mv (.tmp 5)),.p none 41 (.mv (.tmp 7)),.p none 42 (.bin .add .i64 (.tmp 41) (.const (.int
 .i64 1))),.p none 2 (.mv (.tmp 40)),.p none 3 (.mv (.tmp 42)),.p none 4 (.mv (.const (.int .i64 0)))]) .ret)) .skip)) (.seq (.seq (.reg [.p none 43 (.mv (.tmp 7)),.p none 44 (.bin .eql .i64 (.tmp 43) (.const (.int .i64 8)))]) (.cond (.tmp 44) (.seq (.reg [.p none 2 (.mv (.const (.int .i64 0))),.p none 3 (.mv (.const (.int .i64 0))),.p none 4 (.mv (.const (.int .i64 21)))]) .ret) .skip)) (.reg [.p none 45 (.mv (.tmp 6)),.p none 46 (.bin .mul .i64 (.tmp 45) (.const (.int .i64 128))),.p none 6 (.mv (.tmp 46))])))))) (.reg [.p none 13 (.mv (.tmp 7)),.p none 14 (.bin .add .i64 (.tmp 13) (.const (.int .i64 1))),.p none 7 (.mv (.tmp 14))])))))) (.seq (.reg [.p none 2 (.mv (.const (.int .i64 0))),.p none 3 (.mv (.const (.int .i64 0))),.p none 4 (.mv (.const (.int .i64 20)))]) .ret)))))
theorem C127 : compile Tryz.prog 47 (Tryz.f127.body.getD .skip) = some M127 := by kernel_rfl
noncomputable def M17 : MC := (.seq (.reg [.p none 2 (.mv (.const (.slice none 0 0)))]) (.seq (.reg [.l none (some 4) (.bs 5 0 1 [] []),.p none 5 (.mv (.tmp 0)),.l none (some 6) (.app 5 1 1 [(.int .u8 0)] (.tmp 4) (.tmp 5)),.p none 3 (.mv (.tmp 6))]) (.seq (.reg [.p none 7 (.mv (.tmp 3)),.l none (some 8) (.bs 5 4 1 [(.int .u8 0),(.int .u8 0),(.int .u8 0),(.int .u8 0)] [(0,1,(.const (.int .u8 165))),(1,1,(.const (.int .u8 90))),(2,1,(.const (.int .u8 167))),(3,1,(.const (.int .u8 91)))]),.l none (some 9) (.app 5 1 1 [(.int .u8 0)] (.tmp 7) (.tmp 8)),.p none 3 (.mv (.tmp 9))]) (.seq (.reg [.p none 10 (.mv (.tmp 3)),.p none 11 (.mv (.tmp 0)),.p none 12 (.len (.tmp 11)),.p none 13 (.slc 1 (.tmp 10) none (some (.tmp 12)) none),.p none 2 (.mv (.tmp 13))]) .ret))))
theorem C17 : compile Tryz.prog 14 (Tryz.f17.body.getD .skip) = some M17 := by kernel_rfl
noncomputable def M20 : MC := (.seq (.reg [.p none 4 (.mv (.const (.bool false)))]) (.seq (.reg [.p none 6 (.mv (.tmp 0)),.p none 7 (.mv (.tmp 1)),.p none 8 (.len (.tmp 7)),.p none 9 (.bin .add .i64 (.tmp 8) (.const (.int .i64 4))),.p none 10 (.slc 1 (.tmp 6) none (some (.tmp 9)) none),.p none 5 (.mv (.tmp 10))]) (.seq (.reg [.p none 11 (.mv (.tmp 0)),.p none 12 (.mv (.tmp 1)),.l none (some 13) (.call 15 [(.tmp 11),(.tmp 12)]),.p none 14 (.mv (.tmp 13)),.split 14,.p (some (14,true)) 15 (.mv (.tmp 5)),.p (some (14,true)) 16 (.mv (.tmp 1)),.p (some (14,true)) 17 (.len (.tmp 16)),.p (some (14,true)) 18 (.idx 1 (.tmp 15) (.tmp 17)),.l (some (14,true)) (some 19) (.ld none (.tmp 18)),.p (some (14,true)) 20 (.bin .eql .u8 (.tmp 19) (.const (.int .u8 165))),.p none 21 (.pick (.tmp 14) (.tmp 20) (.const (.bool false))),.p none 22 (.mv (.tmp 21)),.split 22,.p (some (22,true)) 23 (.mv (.tmp 5)),.p (some (22,true)) 24 (.mv (.tmp 1)),.p (some (22,true)) 25 (.len (.tmp 24)),.p (some (22,true)) 26 (.bin .add .i64 (.tmp 25) (.const (.int .i64 1))),.p (some (22,true)) 27 (.idx 1 (.tmp 23) (.tmp 26)),.l (some (22,true)) (some 28) (.ld none (.tmp 27)),.p (some (22,true)) 29 (.bin .eql .u8 (.tmp 28) (.const (.int .u8 90))),.p none 30 (.pick (.tmp 22) (.tmp 29) (.const (.bool false))),.p none 31 (.mv (.tmp 30)),.split 31,.p (some (31,true)) 32 (.mv (.tmp 5)),.p (some (31,true)) 33 (.mv (.tmp 1)),.p (some (31,true)) 34 (.len (.tmp 33)),.p (some (31,true)) 35 (.bin .add .i64 (.tmp 34) (.const (.int .i64 2))),.p (some (31,true)) 36 (.idx 1 (.tmp 32) (.tmp 35)),.l (some (31,true)) (some 37) (.ld none (.tmp 36)),.p (some (31,true)) 38 (.bin .eql .u8 (.tmp 37) (.const (.int .u8 167))),.p none 39 (.pick (.tmp 31) (.tmp 38) (.const (.bool false))),.p none 40 (.mv (.tmp 39)),.split 40,.p (some (40,true)) 41 (.mv (.tmp 5)),.p (some (40,true)) 42 (.mv (.tmp 1)),.p (some (40,true)) 43 (.len (.tmp 42)),.p (some (40,true)) 44 (.bin .add .i64 (.tmp 43) (.const (.int .i64 3))),.p (some (40,true)) 45
 (.idx 1 (.tmp 41) (.tmp 44)),.l (some (40,true)) (some 46) (.ld none (.tmp 45)),.p (some (40,true)) 47 (.bin .eql .u8 (.tmp 46) (.const (.int .u8 91))),.p none 48 (.pick (.tmp 40) (.tmp 47) (.const (.bool false))),.p none 4 (.mv (.tmp 48))]) .ret)))
theorem C20 : compile Tryz.prog 49 (Tryz.f20.body.getD .skip) = some M20 := by kernel_rfl
noncomputable def M15 : MC := (.seq (.reg [.p none 4 (.mv (.const (.bool false)))]) (.seq (.seq (.reg [.p none 6 (.mv (.tmp 0)),.p none 7 (.len (.tmp 6)),.p none 8 (.mv (.tmp 1)),.p none 9 (.len (.tmp 8)),.p none 10 (.bin .neq .i64 (.tmp 7) (.tmp 9))]) (.cond (.tmp 10) (.seq (.reg [.p none 4 (.mv (.const (.bool false)))]) .ret) .skip)) (.seq (.seq (.reg [.p none 5 (.mv (.const (.int .i64 0)))]) (.block 0 (.loop (.seq (.seq (.reg [.p none 11 (.mv (.tmp 5)),.p none 12 (.mv (.tmp 0)),.p none 13 (.len (.tmp 12)),.p none 14 (.bin .lss .i64 (.tmp 11) (.tmp 13))]) (.cond (.tmp 14) .skip (.exit 0))) (.seq (.block 1 (.seq (.dreg (.line [.qp 0 none 17 (.mv (.tmp 0)),.qp 1 none 18 (.mv (.tmp 5)),.qp 2 none 19 (.idx 1 (.tmp 17) (.tmp 18)),.qp 4 none 21 (.mv (.tmp 1)),.qp 5 none 22 (.mv (.tmp 5)),.qp 6 none 23 (.idx 1 (.tmp 21) (.tmp 22)),.ql 7 none 24 none (.tmp 23),.l 3 none (some 20) (.ld none (.tmp 19)),.qp 8 none 25 (.bin .neq .u8 (.tmp 20) (.tmp 24))])) (.cond (.tmp 25) (.seq (.reg [.p none 4 (.mv (.const (.bool false)))]) .ret) .skip))) (.reg [.p none 15 (.mv (.tmp 5)),.p none 16 (.bin .add .i64 (.tmp 15) (.const (.int .i64 1))),.p none 5 (.mv (.tmp 16))])))))) (.seq (.reg [.p none 4 (.mv (.const (.bool true)))]) .ret))))
theorem C15 : compile Tryz.prog 26 (Tryz.f15.body.getD .skip) = some M15 := by kernel_rfl
noncomputable def M40 : MC := (.seq (.reg [.p none 2 (.mv (.const (.int .i64 0)))]) (.seq (.seq (.reg [.p none 3 (.mv (.tmp 0)),.p none 4 (.isnil false 0 (.tmp 3))]) (.cond (.tmp 4) (.seq (.reg [.p none 2 (.mv (.const (.int .i64 0)))]) .ret) .skip)) (.seq (.reg [.p none 5 (.mv (.tmp 0)),.p none 6 (.nilchk (.tmp 5)),.p none 7 (.fa 1 (.tmp 6)),.l none (some 8) (.ld none (.tmp 7)),.p none 9 (.len (.tmp 8)),.p none 2 (.mv (.tmp 9))]) .ret)))
theorem C40 : compile Tryz.prog 10 (Tryz.f40.body.getD .skip) = some M40 := by kernel_rfl
noncomputable def M44 : MC := (.seq (.reg [.p none 4 (.mv (.const (.string ⟨#[]⟩))),.p none 5 (.mv (.const (.string ⟨#[]⟩))),.p none 6 (.mv (.const (.int .i64 0)))]) (.seq (.block 0 (.seq (.reg [.p none 8 (.mv (.tmp 0)),.p none 9 (.isnil false 0 (.tmp 8)),.p none 7 (.mv (.tmp 9))]) (.cond (.tmp 7) (.seq (.reg [.p none 4 (.mv (.const (.string ⟨#[]⟩))),.p none 5 (.mv (.const (.string ⟨#[]⟩))),.p none 6 (.mv (.const (.int .i64 1)))]) .ret) (.seq (.reg [.p none 11 (.mv (.tmp 1)),.p none 12 (.bin .lss .i64 (.tmp 11) (.const (.int .i64 0))),.p none 13 (.mv (.tmp 12)),.split 13,.p (some (13,false)) 14 (.mv (.tmp 1)),.p (some (13,false)) 15 (.mv (.tmp 0)),.p (some (13,false)) 16 (.nilchk (.tmp 15)),.p (some (13,false)) 17 (.fa 1 (.tmp 16)),.l (some (13,false)) (some 18) (.ld none (.tmp 17)),.p (some (13,false)) 19 (.len (.tmp 18)),.p (some (13,false)) 20 (.bin .geq .i64 (.tmp 14) (.tmp 19)),.p none 21 (.pick (.tmp 13) (.const (.bool true)) (.tmp 20)),.p none 10 (.mv (.tmp 21))]) (.cond (.tmp 10) (.seq (.reg [.p none 4 (.mv (.const (.string ⟨#[]⟩))),.p none 5 (.mv (.const (.string ⟨#[]⟩))),.p none 6 (.mv (.const (.int .i64 3)))]) .ret) .skip))))) (.seq (.dreg (.line [.qp 0 none 22 (.mv (.tmp 0)),.qp 1 none 23 (.nilchk (.tmp 22)),.qp 2 none 24 (.fa 1 (.tmp 23)),.qp 4 none 26 (.mv (.tmp 1)),.qp 8 none 30 (.mv (.tmp 0)),.qp 9 none 31 (.nilchk (.tmp 30)),.qp 10 none 32 (.fa 1 (.tmp 31)),.qp 12 none 34 (.mv (.tmp 1)),.ql 11 none 33 none (.tmp 32),.qp 13 none 35 (.idx 2 (.tmp 33) (.tmp 34)),.qp 14 none 36 (.fa 1 (.tmp 35)),.ql 15 none 37 none (.tmp 36),.l 3 none (some 25) (.ld none (.tmp 24)),.qp 5 none 27 (.idx 2 (.tmp 25) (.tmp 26)),.qp 6 none 28 (.fa 0 (.tmp 27)),.l 7 none (some 29) (.ld none (.tmp 28)),.qp 16 none 4 (.mv (.tmp 29)),.qp 17 none 5 (.mv (.tmp 37)),.qp 18 none 6 (.mv (.const (.int .i64 0)))])) .ret)))
theorem C44 : compile Tryz.prog 38 (Tryz.f44.body.getD .skip) = some M44 := by kernel_rfl
noncomputable def M42 : MC := (.seq (.reg [.l none (some 1) (.bx 44 (.tmp 0)),.p none 2 (.mv (.const .nilFunc))]) (.seq (.reg [.p none 3 (.mkf (.func 77) [] [(.tmp 1)]),.p none 2 (.mv (.tmp 3))]) .ret))
theorem C42 : compile Tryz.prog 4 (Tryz.f42.body.getD .skip) = some M42 := by kernel_rfl
noncomputable def M45 : MC := (.seq (.reg [.l none (some 2) (.bx 44 (.tmp 0)),.l none (some 3) (.bx 9 (.tmp 1)),.p none 4 (.mv (.const (.int .i64 0)))]) (.seq (.seq (.reg [.l none (some 10) (.ld none (.tmp 2)),.p none 11 (.isnil false 0 (.tmp 10))]) (.cond (.tmp 11) (.seq (.reg [.p none 4 (.mv (.const (.int .i64 0)))]) .ret) .skip)) (.seq (.reg [.p none 12 (.mkf (.func 78) [] [(.tmp 2),(.tmp 3)]),.p none 5 (.mv (.tmp 12))]) (.seq (.dreg (.line [.qp 18 none 6 (.mv (.const (.int .i64 0))),.ql 12 none 25 none (.tmp 2),.qp 13 none 26 (.nilchk (.tmp 25)),.qp 14 none 27 (.fa 0 (.tmp 26)),.ql 15 none 28 none (.tmp 27),.qp 16 none 29 (.mm true .i64 (.tmp 28) [(.const (.int .i64 1))]),.ql 5 none 18 none (.tmp 2),.qp 6 none 19 (.nilchk (.tmp 18)),.qp 7 none 20 (.fa 0 (.tmp 19)),.ql 8 none 21 none (.tmp 20),.qp 9 none 22 (.mm true .i64 (.tmp 21) [(.const (.int .i64 1))]),.l 0 none (some 13) (.ld none (.tmp 2)),.qp 1 none 14 (.nilchk (.tmp 13)),.qp 2 none 15 (.fa 1 (.tmp 14)),.l 3 none (some 16) (.ld none (.tmp 15)),.qp 4 none 17 (.len (.tmp 16)),.qp 10 none 23 (.bin .add .i64 (.tmp 17) (.tmp 22)),.qp 11 none 24 (.bin .sub .i64 (.tmp 23) (.const (.int .i64 1))),.qp 17 none 30 (.div .quo .i64 (.tmp 24) (.tmp 29)),.qp 19 none 7 (.mv (.tmp 30))])) (.seq (.block 0 (.loop (.seq (.seq (.reg [.p none 31 (.mv (.tmp 6)),.p none 32 (.mv (.tmp 7)),.p none 33 (.bin .lss .i64 (.tmp 31) (.tmp 32))]) (.cond (.tmp 33) .skip (.exit 0))) (.block 1 (.seq (.reg [.p none 34 (.mv (.tmp 6)),.p none 35 (.mv (.tmp 7)),.p none 36 (.bin .add .i64 (.tmp 34) (.tmp 35)),.p none 37 (.div .quo .i64 (.tmp 36) (.const (.int .i64 2))),.p none 8 (.mv (.tmp 37))]) (.seq (.reg [.p none 38 (.mv (.tmp 5)),.p none 39 (.mv (.tmp 8)),.l none (some 40) (.ld none (.tmp 2)),.p none 41 (.nilchk (.tmp 40)),.p none 42 (.fa 0 (.tmp 41)),.l none (some 43) (.ld none (.tmp 42)),.p none 44 (.bin .mul .i64 (.tmp 39) (.tmp 43)),.l none (some 45) (.callv (.tmp 38) [(.tmp 44)])]) (.cond (.tmp 45) (.reg [.p none 46 (.mv (.tmp 8)),.p
 none 47 (.bin .add .i64 (.tmp 46) (.const (.int .i64 1))),.p none 6 (.mv (.tmp 47))]) (.reg [.p none 48 (.mv (.tmp 8)),.p none 7 (.mv (.tmp 48))])))))))) (.seq (.reg [.p none 49 (.mv (.tmp 6)),.p none 50 (.bin .sub .i64 (.tmp 49) (.const (.int .i64 1))),.p none 51 (.mm true .i64 (.tmp 50) [(.const (.int .i64 0))]),.l none (some 52) (.ld none (.tmp 2)),.p none 53 (.nilchk (.tmp 52)),.p none 54 (.fa 0 (.tmp 53)),.l none (some 55) (.ld none (.tmp 54)),.p none 56 (.mm true .i64 (.tmp 55) [(.const (.int .i64 1))]),.p none 57 (.bin .mul .i64 (.tmp 51) (.tmp 56)),.p none 9 (.mv (.tmp 57))]) (.seq .skip (.seq (.block 2 (.loop (.seq (.seq (.reg [.p none 58 (.mv (.tmp 9)),.l none (some 59) (.ld none (.tmp 2)),.p none 60 (.nilchk (.tmp 59)),.p none 61 (.fa 1 (.tmp 60)),.l none (some 62) (.ld none (.tmp 61)),.p none 63 (.len (.tmp 62)),.p none 64 (.bin .lss .i64 (.tmp 58) (.tmp 63))]) (.cond (.tmp 64) .skip (.exit 2))) (.seq (.block 3 (.seq (.reg [.p none 67 (.mv (.tmp 5)),.p none 68 (.mv (.tmp 9)),.l none (some 69) (.callv (.tmp 67) [(.tmp 68)]),.p none 70 (.not (.tmp 69))]) (.cond (.tmp 70) (.exit 2) .skip))) (.reg [.p none 65 (.mv (.tmp 9)),.p none 66 (.bin .add .i64 (.tmp 65) (.const (.int .i64 1))),.p none 9 (.mv (.tmp 66))]))))) (.seq (.reg [.p none 71 (.mv (.tmp 9)),.p none 4 (.mv (.tmp 71))]) .ret)))))))))
theorem C45 : compile Tryz.prog 72 (Tryz.f45.body.getD .skip) = some M45 := by kernel_rfl
noncomputable def M78 : MC := (.seq (.reg [.p none 4 (.mv (.const (.bool false)))]) (.seq (.dreg (.line [.qp 4 none 9 (.mv (.tmp 0)),.ql 8 none 13 none (.tmp 2),.l 0 none (some 5) (.ld none (.tmp 1)),.qp 1 none 6 (.nilchk (.tmp 5)),.qp 2 none 7 (.fa 1 (.tmp 6)),.l 3 none (some 8) (.ld none (.tmp 7)),.qp 5 none 10 (.idx 2 (.tmp 8) (.tmp 9)),.qp 6 none 11 (.fa 0 (.tmp 10)),.l 7 none (some 12) (.ld none (.tmp 11)),.l 9 none (some 14) (.call 22 [(.tmp 12),(.tmp 13)]),.qp 10 none 15 (.bin .lss .i64 (.tmp 14) (.const (.int .i64 0))),.qp 11 none 4 (.mv (.tmp 15))])) .ret))
theorem C78 : compile Tryz.prog 16 (Tryz.f78.body.getD .skip) = some M78 := by kernel_rfl
noncomputable def M41 : MC := (.seq (.reg [.p none 2 (.mv (.const (.int .i64 0)))]) (.seq (.seq (.reg [.p none 3 (.mv (.tmp 0)),.p none 4 (.isnil false 0 (.tmp 3))]) (.cond (.tmp 4) (.seq (.reg [.p none 2 (.mv (.const (.int .i64 0)))]) .ret) .skip)) (.seq (.reg [.p none 5 (.mv (.tmp 0)),.p none 6 (.nilchk (.tmp 5)),.p none 7 (.fa 0 (.tmp 6)),.l none (some 8) (.ld none (.tmp 7)),.p none 9 (.len (.tmp 8)),.p none 2 (.mv (.tmp 9))]) .ret)))
theorem C41 : compile Tryz.prog 10 (Tryz.f41.body.getD .skip) = some M41 := by kernel_rfl
noncomputable def M43 : MC := (.seq (.reg [.p none 4 (.mv (.const (.string ⟨#[]⟩))),.p none 5 (.mv (.const (.string ⟨#[]⟩))),.p none 6 (.mv (.const (.int .i64 0)))]) (.seq (.seq (.reg [.p none 7 (.mv (.tmp 0)),.p none 8 (.isnil false 0 (.tmp 7))]) (.cond (.tmp 8) (.seq (.reg [.p none 4 (.mv (.const (.string ⟨#[]⟩))),.p none 5 (.mv (.const (.string ⟨#[]⟩))),.p none 6 (.mv (.const (.int .i64 1)))]) .ret) .skip)) (.seq (.seq (.reg [.p none 9 (.mv (.tmp 1)),.p none 10 (.bin .lss .i64 (.tmp 9) (.const (.int .i64 0))),.p none 11 (.mv (.tmp 10)),.split 11,.p (some (11,false)) 12 (.mv (.tmp 1)),.p (some (11,false)) 13 (.mv (.tmp 0)),.p (some (11,false)) 14 (.nilchk (.tmp 13)),.p (some (11,false)) 15 (.fa 0 (.tmp 14)),.l (some (11,false)) (some 16) (.ld none (.tmp 15)),.p (some (11,false)) 17 (.len (.tmp 16)),.p (some (11,false)) 18 (.bin .geq .i64 (.tmp 12) (.tmp 17)),.p none 19 (.pick (.tmp 11) (.const (.bool true)) (.tmp 18))]) (.cond (.tmp 19) (.seq (.reg [.p none 4 (.mv (.const (.string ⟨#[]⟩))),.p none 5 (.mv (.const (.string ⟨#[]⟩))),.p none 6 (.mv (.const (.int .i64 3)))]) .ret) .skip)) (.seq (.dreg (.line [.qp 0 none 20 (.mv (.tmp 0)),.qp 1 none 21 (.nilchk (.tmp 20)),.qp 2 none 22 (.fa 0 (.tmp 21)),.qp 4 none 24 (.mv (.tmp 1)),.qp 8 none 28 (.mv (.tmp 0)),.qp 9 none 29 (.nilchk (.tmp 28)),.qp 10 none 30 (.fa 0 (.tmp 29)),.qp 12 none 32 (.mv (.tmp 1)),.ql 11 none 31 none (.tmp 30),.qp 13 none 33 (.idx 2 (.tmp 31) (.tmp 32)),.qp 14 none 34 (.fa 1 (.tmp 33)),.ql 15 none 35 none (.tmp 34),.l 3 none (some 23) (.ld none (.tmp 22)),.qp 5 none 25 (.idx 2 (.tmp 23) (.tmp 24)),.qp 6 none 26 (.fa 0 (.tmp 25)),.l 7 none (some 27) (.ld none (.tmp 26)),.qp 16 none 4 (.mv (.tmp 27)),.qp 17 none 5 (.mv (.tmp 35)),.qp 18 none 6 (.mv (.const (.int .i64 0)))])) .ret))))
theorem C43 : compile Tryz.prog 36 (Tryz.f43.body.getD .skip) = some M43 := by kernel_rfl
noncomputable def M46 : MC := (.seq (.reg [.p none 4 (.mv (.const (.int .i64 0)))]) (.seq (.seq (.reg [.p none 6 (.mv (.tmp 0)),.p none 7 (.isnil false 0 (.tmp 6))]) (.cond (.tmp 7) (.seq (.reg [.p none 4 (.mv (.const (.int .i64 0)))]) .ret) .skip)) (.seq (.reg [.p none 5 (.mv (.const (.int .i64 0)))]) (.seq (.block 0 (.loop (.seq (.seq (.reg [.p none 8 (.mv (.tmp 5)),.p none 9 (.mv (.tmp 0)),.p none 10 (.nilchk (.tmp 9)),.p none 11 (.fa 0 (.tmp 10)),.l none (some 12) (.ld none (.tmp 11)),.p none 13 (.len (.tmp 12)),.p none 14 (.bin .lss .i64 (.tmp 8) (.tmp 13)),.p none 15 (.mv (.tmp 14)),.split 15,.p (some (15,true)) 16 (.mv (.tmp 0)),.p (some (15,true)) 17 (.nilchk (.tmp 16)),.p (some (15,true)) 18 (.fa 0 (.tmp 17)),.l (some (15,true)) (some 19) (.ld none (.tmp 18)),.p (some (15,true)) 20 (.mv (.tmp 5)),.p (some (15,true)) 21 (.idx 2 (.tmp 19) (.tmp 20)),.p (some (15,true)) 22 (.fa 0 (.tmp 21)),.l (some (15,true)) (some 23) (.ld none (.tmp 22)),.p (some (15,true)) 24 (.mv (.tmp 1)),.l (some (15,true)) (some 25) (.call 25 [(.tmp 23),(.tmp 24)]),.p (some (15,true)) 26 (.bin .lss .i64 (.tmp 25) (.const (.int .i64 0))),.p none 27 (.pick (.tmp 15) (.tmp 26) (.const (.bool false)))]) (.cond (.tmp 27) .skip (.exit 0))) (.block 1 (.reg [.p none 28 (.mv (.tmp 5)),.p none 29 (.bin .add .i64 (.tmp 28) (.const (.int .i64 1))),.p none 5 (.mv (.tmp 29))]))))) (.seq (.reg [.p none 30 (.mv (.tmp 5)),.p none 4 (.mv (.tmp 30))]) .ret)))))
theorem C46 : compile Tryz.prog 31 (Tryz.f46.body.getD .skip) = some M46 := by kernel_rfl
end Go.Proofs.YtifnmbmijljhfaaGreat.E
namespace Go.Proofs.YtifnmbmijljhfaaGreat.E
open Go
theorem drop_getD {a : List UInt8} {i : Nat} (h : i < a.length) : a.drop i = a.getD i 0 :: a.drop (i + 1) := by
 rw [List.drop_eq_getElem_cons h, List.getD_eq_getElem?_getD, List.getElem?_eq_getElem h]; rfl
def put (v : Nat) : List UInt8 := if h : v < 128 then [v.toUInt8] else (v % 128 + 128).toUInt8 :: put (v / 128)
termination_by v
def putI (v : Int) : List UInt8 := if v < 0 then [] else put v.toNat
theorem put_lt {v : Nat} (h : v < 128) : put v = [v.toUInt8] := by rw [put]; simp [h]
theorem put_ge {v : Nat} (h : 128 ≤ v) : put v = (v % 128 + 128).toUInt8 :: put (v / 128) := by rw [put]; simp [Nat.not_lt.2 h]
theorem put_len (k : Nat) : ∀ v : Nat, v < 128 ^ (k + 1) → (put v).length ≤ k + 1 := by
 induction k with
 | zero => intro v h; rw [put_lt (by simpa using h)]; simp
 | succ k ih =>
  intro v h
  by_cases h1 : v < 128
  ·rw [put_lt h1]; simp
  rw [put_ge (by omega)]
  have : v / 128 < 128 ^ (k + 1) := by rw [Nat.pow_succ] at h; omega
  have := ih _ this
  simp; omega
theorem putI_len {v : Int} (h : v ≤ 9223372036854775807) : (putI v).length ≤ 9 := by
 unfold putI; split
 ·simp
 exact put_len 8 _ (by simp; omega)
theorem putI_ge {v : Int} (h : 128 ≤ v) : putI v = (v % 128 + 128).toNat.toUInt8 :: putI (v / 128) := by
 unfold putI
 rw [if_neg (by omega), if_neg (by omega), put_ge (by omega)]
 congr 2
 ·omega
 congr 1; omega
theorem putI_lt {v : Int} (h0 : 0 ≤ v) (h : v < 128) : putI v = [v.toNat.toUInt8] := by
 unfold putI
 rw [if_neg (by omega), put_lt (by omega)]
theorem put_pos (v : Nat) : 0 < (put v).length := by rw [put]; split <;> simp
theorem putI_pos {v : Int} (h : 0 ≤ v) : 0 < (putI v).length := by unfold putI; rw [if_neg (by omega)]; exact put_pos _
def fixed (n v : Nat) : List UInt8 := (List.range n).map fun i => (v / 256 ^ i % 256).toUInt8
def fixedI (v n : Int) : List UInt8 := if n < 1 ∨ 8 < n then [] else fixed n.toNat v.toNat
theorem fixedI_none {v n : Int} (h : n < 1 ∨ 8 < n) : fixedI v n = [] := by unfold fixedI; rw [if_pos h]
theorem fixedI_some {v n : Int} (h : ¬ (n < 1 ∨ 8 < n)) : fixedI v n = fixed n.toNat v.toNat := by unfold fixedI; rw [if_neg h]
theorem fixed_length (n v : Nat) : (fixed n v).length = n := by simp [fixed]
theorem fixed_succ (n v : Nat) : fixed (n + 1) v = fixed n v ++ [(v / 256 ^ n % 256).toUInt8] := by simp [fixed, List.range_succ]
theorem byte_mod (m : Nat) : Value.int .u8 ((m : Int) % 256 % 256) = byteV (m % 256).toUInt8 := by
 have e3 : (m : Int) % 256 % 256 = ((m % 256 : Nat) : Int) := by omega
 rw [e3]
 exact byteV_of (by omega) (by omega)
theorem take_succ_eq {a b : List UInt8} {i : Nat} (h : a.take i = b.take i) (ha : i < a.length) (hb : i < b.length) (he : a.getD i 0 = b.getD i 0) : a.take (i + 1) = b.take (i + 1) := by
 rw [List.take_add_one, List.take_add_one, h, List.getElem?_eq_getElem ha, List.getElem?_eq_getElem hb]
 simp only [List.getD_eq_getElem?_getD, List.getElem?_eq_getElem ha, List.getElem?_eq_getElem hb, Option.getD_some] at he
 rw [he]
theorem fixedI_len {v n : Int} : (fixedI v n).length ≤ 8 := by
 unfold fixedI; split
 ·simp
 rw [fixed_length]; omega
def getA : Nat → Nat → List UInt8 → Nat × Nat × Int
 | _, _, [] => (0, 0, 20)
 | i, v, c :: r => if i = 8 ∧ 128 ≤ c.toNat then (0, 0, 21) else if c.toNat < 128 then (if c.toNat = 0 ∧ 0 < i then (0, 0, 21) else (v + c.toNat % 128 * 128 ^ i, i + 1, 0)) else getA (i + 1) (v + c.toNat % 128 * 128 ^ i) r
def get (b : List UInt8) : Nat × Nat × Int := getA 0 0 b
theorem get_far {b : List UInt8} {i v : Nat} (hg : get b = getA i v (b.drop i)) (hi : i < b.length) (h8 : (i : Int) = 8) (hc : (128 : Int) ≤ (b.getD i 0).toNat) : get b = (0, 0, 21) := by
 rw [hg, drop_getD hi, getA, if_pos ⟨by omega, by omega⟩]
theorem get_zero {b : List UInt8} {i v : Nat} (hg : get b = getA i v (b.drop i)) (hi : i < b.length) (h0 : (0 : Int) < i) (hc : ((b.getD i 0).toNat : Int) = 0) : get b = (0, 0, 21) := by
 rw [hg, drop_getD hi, getA, if_neg (by omega), if_pos (by omega), if_pos ⟨by omega, by omega⟩]
theorem get_stop {b : List UInt8} {i v : Nat} (hg : get b = getA i v (b.drop i)) (hi : i < b.length) (hc : ((b.getD i 0).toNat : Int) < 128) (h0 : ¬ ((b.getD i 0).toNat = 0 ∧ 0 < i)) : get b = (v + (b.getD i 0).toNat % 128 * 128 ^ i, i + 1, 0) := by
 rw [hg, drop_getD hi, getA, if_neg (by omega), if_pos (by omega), if_neg h0]
theorem get_more {b : List UInt8} {i v : Nat} (hg : get b = getA i v (b.drop i)) (hi : i < b.length) (h8 : i < 8) (hc : 128 ≤ (b.getD i 0).toNat) : get b = getA (i + 1) (v + (b.getD i 0).toNat % 128 * 128 ^ i) (b.drop (i + 1)) := by
 rw [hg, drop_getD hi, getA, if_neg (by omega), if_neg (by omega)]
theorem get_end {b : List UInt8} {i v : Nat} (hg : get b = getA i v (b.drop i)) (hi : b.length ≤ i) : get b = (0, 0, 20) := by
 rw [hg, List.drop_eq_nil_of_le hi, getA]
abbrev tup3 (t : Nat × Nat × Int) : Value := .tuple [.int .i64 (t.1 : Nat), .int .i64 (t.2.1 : Nat), .int .i64 t.2.2].toArray
theorem ret3 {b : List UInt8} {v n : Nat} {e : Int} (h : get b = (v, n, e)) : (.tuple [.int .i64 (v : Nat), .int .i64 (n : Nat), .int .i64 e].toArray : Value) = tup3 (get b) := by rw [h]
theorem pow_8 {i : Nat} (h : i ≤ 8) : 128 ^ i ≤ 72057594037927936 := Nat.le_trans (Nat.pow_le_pow_right (by omega) h) (by decide)
theorem digit_lt {d i : Nat} (hd : d < 128) : d * 128 ^ i + 128 ^ i ≤ 128 ^ (i + 1) := by
 rw [Nat.pow_succ]
 calc d * 128 ^ i + 128 ^ i = (d + 1) * 128 ^ i := by rw [Nat.add_mul]; omega
  _ ≤ 128 * 128 ^ i := Nat.mul_le_mul_right _ hd
  _ = 128 ^ i * 128 := Nat.mul_comm _ _
theorem digit_bd {d v i : Nat} (hd : d < 128) (hi : i ≤ 8) (hv : v < 128 ^ i) : v + d * 128 ^ i < 128 ^ (i + 1) ∧ v + d * 128 ^ i ≤ 9223372036854775807 ∧ d * 128 ^ i ≤ 9223372036854775807 := by
 have h1 := digit_lt (i := i) hd
 have h2 : 128 ^ (i + 1) ≤ 9223372036854775808 := Nat.le_trans (Nat.pow_le_pow_right (by omega) (show i + 1 ≤ 9 by omega)) (by decide)
 omega
theorem and127 (c : UInt8) : binI .and .u8 (c.toNat : Int) 127 = .int .u8 ((c.toNat % 128 : Nat) : Int) := by
 have hc := c.toNat_lt
 have h := andI_nat (k := .u8) (a := c.toNat) (b := 127) (by simpa [IntKind.bits] using hc) (by decide) (by
  have := Nat.and_le_left (n := c.toNat) (m := 127)
  simp only [inK]; omega)
 rw [show (127 : Nat) = 2 ^ 7 - 1 from rfl, and_low] at h
 exact v_int h
theorem get_shl {d i : Nat} (hd : d < 128) (hi : i ≤ 8) : Value.int .i64 (IntKind.i64.wrap ((d : Int) * 2 ^ min (7 * (i : Int)).toNat IntKind.i64.bits)) = .int .i64 ((d * 128 ^ i : Nat) : Int) := by
 have e : (7 * (i : Int)).toNat = 7 * i := by omega
 have h := shlI_nat (k := .i64) (a := d) (n := 7 * i) (by simp only [IntKind.bits]; omega) (by
  rw [← pow128]; have := (digit_bd (v := 0) hd hi (Nat.pow_pos (by omega))).2.2
  simp only [inK]; omega)
 unfold shlI at h
 rw [Int.toNat_natCast, ← pow128] at h
 rw [e]; exact v_int h
theorem get_or {v d i : Nat} (hd : d < 128) (hi : i ≤ 8) (hv : v < 128 ^ i) : binI .or .i64 (v : Int) ((d * 128 ^ i : Nat) : Int) = .int .i64 ((v + d * 128 ^ i : Nat) : Int) := by
 obtain ⟨h1, h2, h3⟩ := digit_bd hd hi hv
 have e := or_add (v := v) (d := d) (n := 7 * i) (by rw [← pow128]; exact hv)
 rw [← pow128] at e
 have h := orI_nat (k := .i64) (a := v) (b := d * 128 ^ i) (by simp only [IntKind.bits]; omega) (by simp only [IntKind.bits]; omega) (by rw [e]; simp only [inK]; omega)
 rw [e] at h
 exact v_int h
theorem ref_mul {c : UInt8} {i : Nat} (hi : i ≤ 8) : binI .mul .i64 ((c.toNat : Int) % 128) ((128 ^ i : Nat) : Int) = .int .i64 ((c.toNat % 128 * 128 ^ i : Nat) : Int) := by
 have hb := (digit_bd (v := 0) (d := c.toNat % 128) (Nat.mod_lt _ (by omega)) hi (Nat.pow_pos (by omega))).2.2
 have e : ((c.toNat : Int) % 128) * ((128 ^ i : Nat) : Int) = ((c.toNat % 128 * 128 ^ i : Nat) : Int) := by rw [Int.natCast_mul]; rfl
 rw [v_mul64 (by rw [e]; omega), e]
theorem ref_unit {i : Nat} (hi : i < 8) : binI .mul .i64 ((128 ^ i : Nat) : Int) 128 = .int .i64 ((128 ^ (i + 1) : Nat) : Int) := by
 have e : ((128 ^ i : Nat) : Int) * 128 = ((128 ^ (i + 1) : Nat) : Int) := by rw [Nat.pow_succ]; rfl
 have := pow_8 (i := i + 1) (by omega)
 rw [v_mul64 (by rw [e]; generalize 128 ^ (i + 1) = q at this ⊢; omega), e]
theorem m128 (c : UInt8) : c.toNat % 128 < 128 := Nat.mod_lt _ (by omega)
def le : List UInt8 → Nat
 | [] => 0
 | b :: r => b.toNat + 256 * le r
def word (b : List UInt8) : Nat := le (b.take 8)
theorem le_lt : ∀ l : List UInt8, le l < 256 ^ l.length
 | [] => by simp [le]
 | b :: r => by
  have h := le_lt r
  have hb := b.toNat_lt
  simp only [le, List.length_cons, Nat.pow_succ]
  have : 256 * le r + 256 ≤ 256 * 256 ^ r.length := by
   calc 256 * le r + 256 = 256 * (le r + 1) := by omega
    _ ≤ 256 * 256 ^ r.length := Nat.mul_le_mul_left _ h
  omega
theorem le_snoc : ∀ (l : List UInt8) (b : UInt8), le (l ++ [b]) = le l + b.toNat * 256 ^ l.length
 | [], b => by simp [le]
 | c :: r, b => by
  simp only [List.cons_append, le, le_snoc r b, List.length_cons, Nat.pow_succ, Nat.mul_add]
  have : 256 * (b.toNat * 256 ^ r.length) = b.toNat * (256 ^ r.length * 256) := by rw [Nat.mul_comm 256, Nat.mul_assoc]
  omega
theorem take_getD {b : List UInt8} {i : Nat} (h : i < b.length) : b.take (i + 1) = b.take i ++ [b.getD i 0] := by
 rw [List.take_add_one, List.getElem?_eq_getElem h, List.getD_eq_getElem?_getD, List.getElem?_eq_getElem h]; rfl
theorem le_take {b : List UInt8} {i : Nat} (h : i < b.length) : le (b.take (i + 1)) = le (b.take i) + (b.getD i 0).toNat * 256 ^ i := by
 rw [take_getD h, le_snoc]; simp [Nat.min_eq_left (Nat.le_of_lt h)]
theorem le_take_lt {b : List UInt8} {i : Nat} (h : i ≤ b.length) : le (b.take i) < 256 ^ i := by
 have := le_lt (b.take i)
 rwa [List.length_take, Nat.min_eq_left h] at this
theorem pow_256 {i : Nat} (h : i ≤ 8) : 256 ^ i ≤ 18446744073709551616 := Nat.le_trans (Nat.pow_le_pow_right (by omega) h) (by decide)
theorem byte_pow {c : UInt8} {i : Nat} (h : i < 8) : c.toNat * 256 ^ i + 256 ^ i ≤ 18446744073709551616 := by
 have h1 := pow_256 (i := i + 1) (by omega)
 have hc := c.toNat_lt
 rw [Nat.pow_succ] at h1
 have : (c.toNat + 1) * 256 ^ i ≤ 256 * 256 ^ i := Nat.mul_le_mul_right _ hc
 rw [Nat.add_mul] at this; omega
theorem word_shl {c : UInt8} {i : Nat} (hi : i < 8) : Value.int .u64 (IntKind.u64.wrap ((c.toNat : Int) * 2 ^ min (8 * (i : Int)).toNat IntKind.u64.bits)) = .int .u64 ((c.toNat * 256 ^ i : Nat) : Int) := by
 have e : (8 * (i : Int)).toNat = 8 * i := by omega
 have hp : 0 < 256 ^ i := Nat.pow_pos (by omega)
 have hb := byte_pow (c := c) hi
 have h := shlI_nat (k := .u64) (a := c.toNat) (n := 8 * i) (by simp only [IntKind.bits]; omega) (by rw [← pow256]; simp only [inK]; omega)
 unfold shlI at h
 rw [Int.toNat_natCast, ← pow256] at h
 rw [e]; exact v_int h
theorem word_or {b : List UInt8} {i : Nat} (hi : i < 8) (hl : i < b.length) : binI .or .u64 (le (b.take i) : Int) (((b.getD i 0).toNat * 256 ^ i : Nat) : Int) = .int .u64 ((le (b.take (i + 1)) : Nat) : Int) := by
 have h1 := le_take_lt (b := b) (i := i) (by omega)
 have hb := byte_pow (c := b.getD i 0) hi
 have e := or_add (v := le (b.take i)) (d := (b.getD i 0).toNat) (n := 8 * i) (by rw [← pow256]; exact h1)
 rw [← pow256] at e
 have h := orI_nat (k := .u64) (a := le (b.take i)) (b := (b.getD i 0).toNat * 256 ^ i) (by simp only [IntKind.bits]; omega) (by simp only [IntKind.bits]; omega) (by rw [e]; simp only [inK]; omega)
 rw [e] at h
 rw [le_take hl]; exact v_int h
theorem wref_mul {c : UInt8} {i : Nat} (hi : i < 8) : binI .mul .u64 (c.toNat : Int) ((256 ^ i % 18446744073709551616 : Nat) : Int) = .int .u64 ((c.toNat * 256 ^ i : Nat) : Int) := by
 have hb := byte_pow (c := c) hi
 have h1 : 256 ^ i < 18446744073709551616 := Nat.lt_of_lt_of_le (Nat.pow_lt_pow_right (by omega) hi) (by decide)
 rw [Nat.mod_eq_of_lt h1]
 have hp : 0 < 256 ^ i := Nat.pow_pos (by omega)
 show Value.int .u64 (IntKind.u64.wrap _) = _
 rw [← Int.natCast_mul]
 exact v_same (by simp only [inK]; omega)
theorem wref_add {b : List UInt8} {i : Nat} (hi : i < 8) (hl : i < b.length) : binI .add .u64 (le (b.take i) : Int) (((b.getD i 0).toNat * 256 ^ i : Nat) : Int) = .int .u64 ((le (b.take (i + 1)) : Nat) : Int) := by
 have h1 := le_take_lt (b := b) (i := i) (by omega)
 have hb := byte_pow (c := b.getD i 0) hi
 rw [le_take hl]
 show Value.int .u64 (IntKind.u64.wrap _) = _
 rw [← Int.natCast_add]
 exact v_same (by simp only [inK]; omega)
theorem wref_unit (i : Nat) : binI .mul .u64 ((256 ^ i % 18446744073709551616 : Nat) : Int) 256 = .int .u64 ((256 ^ (i + 1) % 18446744073709551616 : Nat) : Int) := by
 show Value.int .u64 (IntKind.u64.wrap _) = _
 rw [wrap_u64, Nat.pow_succ]
 apply v_int
 have : (256 ^ i * 256 % 18446744073709551616 : Nat) = (256 ^ i % 18446744073709551616) * 256 % 18446744073709551616 := by rw [Nat.mod_mul_mod]
 omega
theorem word_end {b : List UInt8} {i : Nat} (hi : i ≤ b.length) (hi8 : i ≤ 8) (h : b.length ≤ i ∨ 8 ≤ i) : le (b.take i) = word b := by
 unfold word
 rcases h with h | h
 ·rw [List.take_of_length_le h, List.take_of_length_le (by omega)]
 rw [show i = 8 by omega]
theorem getA_put (r : List UInt8) : ∀ (n u i v : Nat), u < n → i ≤ 8 → u < 128 ^ (9 - i) → (0 < i → 0 < u) → getA i v (put u ++ r) = (v + u * 128 ^ i, i + (put u).length, 0) := by
 intro n
 induction n with
 | zero => intro u i v h; omega
 | succ n ih =>
  intro u i v hn hi hu h0
  by_cases h1 : u < 128
  ·rw [put_lt h1]
   have e : u.toUInt8.toNat = u := by simp; omega
   simp only [List.cons_append, List.nil_append, getA, e, List.length_singleton]
   rw [if_neg (by omega), if_pos h1, if_neg (by omega), Nat.mod_eq_of_lt h1]
  rw [put_ge (by omega)]
  have e : (u % 128 + 128).toUInt8.toNat = u % 128 + 128 := by simp; omega
  have h8 : i ≠ 8 := by intro h; subst h; simp at hu; omega
  simp only [List.cons_append, getA, e, List.length_cons]
  rw [if_neg (by omega), if_neg (by omega), ih _ _ _ (by omega) (by omega) ?_ (by intro; omega)]
  ·have e2 : (u % 128 + 128) % 128 = u % 128 := by omega
   rw [e2, Nat.pow_succ]
   refine Prod.ext ?_ (Prod.ext ?_ rfl)
   ·simp only
    have : u / 128 * (128 ^ i * 128) = (u / 128 * 128) * 128 ^ i := by rw [Nat.mul_comm (128 ^ i), ← Nat.mul_assoc]
    rw [this, Nat.add_assoc, ← Nat.add_mul]
    congr 2; omega
   simp only; omega
  have : 128 ^ (9 - i) = 128 ^ (9 - (i + 1)) * 128 := by rw [← Nat.pow_succ]; congr 1; omega
  rw [this] at hu; omega
theorem get_put {v : Int} (h0 : 0 ≤ v) (h : v ≤ 9223372036854775807) (r : List UInt8) : get (putI v ++ r) = (v.toNat, (putI v).length, 0) := by
 unfold get putI
 rw [if_neg (by omega), getA_put r (v.toNat + 1) v.toNat 0 0 (by omega) (by omega) (by
  have : (128 : Nat) ^ (9 - 0) = 9223372036854775808 := by decide
  omega) (by omega)]
 simp
theorem getA_inv : ∀ (b : List UInt8) (i v x m : Nat), getA i v b = (x, m, 0) → i ≤ 8 → ∃ u n, b.take n = put u ∧ n ≤ b.length ∧ 1 ≤ n ∧ m = i + n ∧ x = v + u * 128 ^ i ∧ (0 < i → 0 < u)
 | [], i, v, x, m, h, _ => by simp [getA] at h
 | c :: r, i, v, x, m, h, hi => by
  have hc := c.toNat_lt
  simp only [getA] at h
  split at h
  ·simp at h
  rename_i h8
  split at h
  ·rename_i hlt
   split at h
   ·simp at h
   rename_i hz
   simp only [Prod.mk.injEq, and_true] at h
   refine ⟨c.toNat, 1, ?_, by simp, by omega, by omega, ?_, by omega⟩
   ·rw [put_lt hlt]; simp
   rw [← h.1, Nat.mod_eq_of_lt hlt]
  rename_i hge
  obtain ⟨u, n, h1, h2, h3, h4, h5, h6⟩ := getA_inv r _ _ _ _ h (by omega)
  refine ⟨c.toNat % 128 + 128 * u, n + 1, ?_, by simp; omega, by omega, by omega, ?_, by omega⟩
  ·rw [put_ge (by have := h6 (by omega); omega), List.take_succ_cons, h1]
   congr 1
   ·have : (c.toNat % 128 + 128 * u) % 128 + 128 = c.toNat := by omega
    rw [this]; simp
   congr 1; omega
  rw [h5, Nat.pow_succ, Nat.add_mul, Nat.add_assoc]
  congr 2
  rw [Nat.mul_comm (128 ^ i), ← Nat.mul_assoc, Nat.mul_comm u]
theorem getA_err : ∀ (b : List UInt8) (i v : Nat), ((getA i v b).2.2 = 0 ∨ (getA i v b).2.2 = 20 ∨ (getA i v b).2.2 = 21) ∧ (¬ (getA i v b).2.2 = 0 → (getA i v b).1 = 0 ∧ (getA i v b).2.1 = 0)
 | [], i, v => by simp [getA]
 | c :: r, i, v => by
  simp only [getA]
  split
  ·simp
  split
  ·split <;> simp
  exact getA_err r _ _
theorem get_ok {b : List UInt8} (h : (get b).2.2 = 0) : 1 ≤ (get b).2.1 ∧ (get b).2.1 ≤ b.length ∧ putI ((get b).1 : Nat) = b.take (get b).2.1 := by
 obtain ⟨u, n, h1, h2, h3, h4, h5, h6⟩ := getA_inv b 0 0 (get b).1 (get b).2.1 (by rw [← h]; rfl) (by omega)
 simp at h4 h5
 refine ⟨by omega, by omega, ?_⟩
 unfold putI
 rw [if_neg (by omega), h4, h1, h5]; simp
theorem le_fixed (n : Nat) : ∀ v, le (fixed n v) = v % 256 ^ n := by
 induction n with
 | zero => intro v; simp [fixed, le, Nat.mod_one]
 | succ n ih =>
  intro v
  rw [fixed_succ, le_snoc, fixed_length, ih]
  have : (v / 256 ^ n % 256).toUInt8.toNat = v / 256 ^ n % 256 := by simp
  rw [this, Nat.pow_succ, Nat.mod_mul, Nat.mul_comm]
theorem fixed_le : ∀ (b : List UInt8), fixed b.length (le b) = b := by
 intro b
 apply List.ext_getElem (by rw [fixed_length])
 intro i h1 h2
 simp only [fixed, List.getElem_map, List.getElem_range]
 have key : ∀ (l : List UInt8) (i : Nat) (h : i < l.length), le l / 256 ^ i % 256 = l[i].toNat := by
  intro l
  induction l with
  | nil => intro i h; simp at h
  | cons c r ih =>
   intro i h
   have hc := c.toNat_lt
   cases i with
   | zero => simp only [le, Nat.pow_zero, Nat.div_one, List.getElem_cons_zero]; omega
   | succ i =>
    simp only [le, List.getElem_cons_succ, Nat.pow_succ]
    rw [Nat.mul_comm (256 ^ i), ← Nat.div_div_eq_div_mul, show (c.toNat + 256 * le r) / 256 = le r by omega]
    exact ih i (by simpa using h)
 rw [key b i h2]
 simp
theorem fixed_word {b : List UInt8} (h0 : 0 < b.length) (h : b.length ≤ 8) : fixedI (word b : Nat) (b.length : Nat) = b := by
 rw [fixedI_some (by omega), Int.toNat_natCast, Int.toNat_natCast]
 unfold word
 rw [List.take_of_length_le h, fixed_le]
theorem refPut_ok (v : Int) (hv : inK .i64 v) (w : World) : Calls Tryz.prog 50 [.int .i64 v].toArray w (Rt fun r w' => ∃ rs, SlB 5 r (putI v) rs ∧ Mem w [] w' [rs]) := by
 have hM0 : Mem w [] w [] := Mem.nil w []
 simp only [inK] at hv
 refine calls_vc mixed Tryz.func50 rfl C50 (by simp [Tryz.ntmps50]) <| seq fun _ h1 => mv <| h1 _ _ <| seq fun _ h2 => mv <| h2 _ _ <| seq fun _ h3 => seq fun _ h4 => mv <| bn rfl rfl <| h4 _ _ <| cndP rfl (fun c5 => ?_) (fun c5 => ?_)
 ·refine seq fun _ h6 => mv <| mv <| h6 _ _ <| ⟨(.slice none 0 0), rfl, ⟨[], by unfold putI; rw [if_pos (by omega)]; exact Sl.nil 1 5, hM0.addNil⟩⟩
 refine h3 _ _ <| seq fun _ h7 => lp (n := fun _ _ => False) (ι := (Int) × (List UInt8) × (Value) × (List Ent)) (fun ⟨v', p, r, rs⟩ f w' => f 0 = .int .i64 v' ∧ f 3 = r ∧ Mem w [] w' [rs] ∧ (SlB 5 r p rs) ∧ (0 ≤ v' ∧ v' ≤ 9223372036854775807) ∧ (p ++ putI v' = putI v) ∧ (p.length ≤ 9)) (fun ⟨v', p, r, rs⟩ => v'.toNat) (v, [], .slice none 0 0, []) ?_ ?_
 ·exact ⟨vi, rfl, hM0.addNil, Sl.nil 1 5, by omega, by simp, by simp⟩
 rintro ⟨v', p, r, rs⟩ f w8 ⟨e8_0, e8_3, hM8, hs, hv1, hp, hl⟩ K9 h9
 obtain ⟨frm, rfl⟩ := re2 e8_0 e8_3
 refine seq fun _ h10 => seq fun _ h11 => mv <| bn rfl rfl <| h11 _ _ <| cndP rfl (fun c12 => ?_) (fun c12 => ?_)
 ·refine h10 _ _ <| seq fun _ h13 => mv <| mv <| stp (v := .int .i64 (v' % 128)) (o_rem rfl rfl (by omega) (v_rem (by omega))) <| stp (v := .int .i64 ((v' % 128) + 128)) (o_bin rfl rfl (v_add64 (by omega))) <| stp (v := .int .u8 (((v' % 128) + 128) % 256)) (o_conv rfl (v_u8 _)) <| m_app1 (E := byteV) (q := (v' % 128 + 128).toNat.toUInt8) hM8 (i := 0) rfl hs rfl (by simp) (by rw [show (v' % 128 + 128) % 256 = v' % 128 + 128 by omega]; exact byteV_of (by omega) (by omega)) (by omega) (by omega) fun v14 w14 r14 u14 (hs14 : SlE byteV 5 v14 (p ++ [(v' % 128 + 128).toNat.toUInt8]) r14) (hM14 : Mem w [] w14 [r14]) => mv <| h13 _ _ <| mv <| stp (v := .int .i64 (v' / 128)) (o_quo rfl rfl (by omega) (v_quo (by omega) (by omega) (by simp only [inK]; omega))) <| mv <| h9 (v' / 128, p ++ [(v' % 128 + 128).toNat.toUInt8], v14, r14) _ _ ⟨vi, rfl, hM14, hs14, by omega, by rw [← hp, putI_ge (v := v') (by omega), List.append_assoc]; rfl, by have h1 := putI_len hv.2; have h2 := putI_pos (v := v' / 128) (by omega); rw [← hp, putI_ge (v := v') (by omega)] at h1; simp at h1 ⊢; omega⟩ (by (try dsimp only); omega)
 refine h7 _ _ <| seq fun _ h15 => mv <| mv <| stp (v := .int .u8 (v' % 256)) (o_conv rfl (v_u8 _)) <| m_app1 (E := byteV) (q := v'.toNat.toUInt8) hM8 (i := 0) rfl hs rfl (by simp) (by rw [Int.emod_eq_of_lt (by omega) (by omega)]; exact byteV_of (by omega) (by omega)) (by omega) (by omega) fun v16 w16 r16 u16 (hs16 : SlE byteV 5 v16 (p ++ [v'.toNat.toUInt8]) r16) (hM16 : Mem w [] w16 [r16]) => mv <| h15 _ _ <| seq fun _ h17 => mv <| mv <| h17 _ _ <| ⟨v16, rfl, ⟨_, by rw [← hp, putI_lt (by omega) (by omega)]; exact hs16, hM16⟩⟩
theorem Get_ok (x : Value) (b : List UInt8) (w : World) (hx : RdB w x b) (hl : b.length ≤ 1152921504606846976) : Calls Tryz.prog 125 [x].toArray w (Rt fun r w' => r = tup3 (get b) ∧ Upd [] w w') := by
 have hM0 : Mem w [] w [] := Mem.nil w []
 refine calls_vc mixed Tryz.func125 rfl C125 (by simp [Tryz.ntmps125]) <| seq fun _ h1 => mv <| mv <| mv <| h1 _ _ <| seq fun _ h2 => mv <| h2 _ _ <| seq fun _ h3 => seq fun _ h4 => mv <| stp (v := .int .i64 (b.length : Nat)) (o_lenR (hx.upd hM0.upd) rfl rfl) <| mv ?_
 refine h4 _ _ <| lp (n := fun _ _ => False) (ι := (Nat) × (Nat)) (fun ⟨i, v⟩ f w' => f 5 = .int .i64 (v : Nat) ∧ f 8 = x ∧ f 9 = .int .i64 (b.length : Nat) ∧ f 10 = .int .i64 (i : Nat) ∧ Mem w [] w' [] ∧ (i ≤ b.length ∧ i ≤ 8) ∧ (v < 128 ^ i) ∧ (get b = getA i v (b.drop i))) (fun ⟨i, v⟩ => b.length - i) (0, 0) ?_ ?_
 ·exact ⟨vi, rfl, vi, vi, hM0, by omega, by simp, rfl⟩
 rintro ⟨i, v⟩ f w5 ⟨e5_5, e5_8, e5_9, e5_10, hM5, hi, hv, hg⟩ K6 h6
 obtain ⟨frm, rfl⟩ := re4 e5_5 e5_8 e5_9 e5_10
 refine seq fun _ h7 => bn rfl rfl <| h7 _ _ <| seq fun _ h8 => cndP rfl (fun c9 => ?_) (fun c9 => ?_)
 ·refine h8 _ _ <| seq fun _ h10 => seq fun _ h11 => mv <| m_idxE 0 (j := i) (hx.upd hM5.upd) rfl rfl (by omega) fun b12 o12 hp12 => ld (v := byteV (b.getD i 0)) rfl (hp12) <| mv <| mv <| h11 _ _ <| seq fun _ h13 => seq fun _ h14 => mv <| bn rfl rfl <| mv ?_
  refine splitP rfl (fun c15 => ?_) (fun c15 => ?_)
  ·refine gmv rfl <| gbn rfl rfl rfl <| pkT rfl <| h14 _ _ <| cndP rfl (fun c16 => ?_) (fun c16 => ?_)
   ·refine seq fun _ h17 => mv <| mv <| mv <| h17 _ _ <| ⟨(.tuple [.int .i64 0, .int .i64 0, .int .i64 21].toArray), rfl, ⟨ret3 (get_far hg (by omega) (by omega) (by omega)), hM5.upd⟩⟩
   refine h13 _ _ <| seq fun _ h18 => mv <| mv <| stp (v := .int .u8 ((b.getD i 0).toNat % 128 : Nat)) (o_bin rfl rfl (and127 _)) <| stp (v := .int .i64 ((b.getD i 0).toNat % 128 : Nat)) (o_conv rfl (v_same (by simp only [inK]; omega))) <| mv <| stp (v := .int .i64 (7 * (i : Nat))) (o_bin rfl rfl (v_mul64 (by omega))) <| stp (v := .int .i64 ((b.getD i 0).toNat % 128 * 128 ^ i : Nat)) (o_shl rfl rfl (by omega) (get_shl (m128 _) (by omega))) <| stp (v := .int .i64 (v + (b.getD i 0).toNat % 128 * 128 ^ i : Nat)) (o_bin rfl rfl (get_or (m128 _) (by omega) hv)) <| mv <| h18 _ _ <| seq fun _ h19 => mv <| bn rfl rfl <| h19 _ _ <| cndP rfl (fun c20 => ?_) (fun c20 => ?_)
   ·refine seq fun _ h21 => seq fun _ h22 => mv <| bn rfl rfl <| mv <| splitP rfl (fun c23 => ?_) (fun c23 => ?_)
    ·refine gmv rfl <| gbn rfl rfl rfl <| pkT rfl <| h22 _ _ <| cndP rfl (fun c24 => ?_) (fun c24 => ?_)
     ·refine seq fun _ h25 => mv <| mv <| mv <| h25 _ _ <| ⟨(.tuple [.int .i64 0, .int .i64 0, .int .i64 21].toArray), rfl, ⟨ret3 (get_zero hg (by omega) (by omega) (by omega)), hM5.upd⟩⟩
     refine h21 _ _ <| seq fun _ h26 => mv <| mv <| stp (v := .int .i64 ((i : Nat) + 1)) (o_bin rfl rfl (v_add64 (by omega))) <| mv <| mv <| mv <| h26 _ _ <| ⟨(.tuple [.int .i64 (v + (b.getD i 0).toNat % 128 * 128 ^ i : Nat), .int .i64 ((i : Nat) + 1), .int .i64 0].toArray), rfl, ⟨ret3 (get_stop hg (by omega) (by omega) (fun h => by have := h.1; have := h.2; omega)), hM5.upd⟩⟩
    refine gx rfl <| gx rfl <| pkF rfl <| h22 _ _ <| cndF rfl <| h21 _ _ <| seq fun _ h27 => mv <| mv <| stp (v := .int .i64 ((i : Nat) + 1)) (o_bin rfl rfl (v_add64 (by omega))) <| mv <| mv <| mv <| h27 _ _ <| ⟨(.tuple [.int .i64 (v + (b.getD i 0).toNat % 128 * 128 ^ i : Nat), .int .i64 ((i : Nat) + 1), .int .i64 0].toArray), rfl, ⟨ret3 (get_stop hg (by omega) (by omega) (fun h => by have := h.1; have := h.2; omega)), hM5.upd⟩⟩
   refine h10 _ _ <| stp (v := .int .i64 ((i : Nat) + 1)) (o_bin rfl rfl (v_add64 (by omega))) <| mv <| h6 (i + 1, v + (b.getD i 0).toNat % 128 * 128 ^ i) _ _ ⟨vi, rfl, vi, vi, hM5, by omega, (digit_bd (m128 _) (by omega) hv).1, get_more hg (by omega) (by omega) (by omega)⟩ (by (try dsimp only); omega)
  refine gx rfl <| gx rfl <| pkF rfl <| h14 _ _ <| cndF rfl <| h13 _ _ <| seq fun _ h28 => mv <| mv <| stp (v := .int .u8 ((b.getD i 0).toNat % 128 : Nat)) (o_bin rfl rfl (and127 _)) <| stp (v := .int .i64 ((b.getD i 0).toNat % 128 : Nat)) (o_conv rfl (v_same (by simp only [inK]; omega))) <| mv <| stp (v := .int .i64 (7 * (i : Nat))) (o_bin rfl rfl (v_mul64 (by omega))) <| stp (v := .int .i64 ((b.getD i 0).toNat % 128 * 128 ^ i : Nat)) (o_shl rfl rfl (by omega) (get_shl (m128 _) (by omega))) <| stp (v := .int .i64 (v + (b.getD i 0).toNat % 128 * 128 ^ i : Nat)) (o_bin rfl rfl (get_or (m128 _) (by omega) hv)) <| mv <| h28 _ _ <| seq fun _ h29 => mv <| bn rfl rfl <| h29 _ _ <| cndP rfl (fun c30 => ?_) (fun c30 => ?_)
  ·refine seq fun _ h31 => seq fun _ h32 => mv <| bn rfl rfl <| mv <| splitP rfl (fun c33 => ?_) (fun c33 => ?_)
   ·refine gmv rfl <| gbn rfl rfl rfl <| pkT rfl <| h32 _ _ <| cndP rfl (fun c34 => ?_) (fun c34 => ?_)
    ·refine seq fun _ h35 => mv <| mv <| mv <| h35 _ _ <| ⟨(.tuple [.int .i64 0, .int .i64 0, .int .i64 21].toArray), rfl, ⟨ret3 (get_zero hg (by omega) (by omega) (by omega)), hM5.upd⟩⟩
    refine h31 _ _ <| seq fun _ h36 => mv <| mv <| stp (v := .int .i64 ((i : Nat) + 1)) (o_bin rfl rfl (v_add64 (by omega))) <| mv <| mv <| mv <| h36 _ _ <| ⟨(.tuple [.int .i64 (v + (b.getD i 0).toNat % 128 * 128 ^ i : Nat), .int .i64 ((i : Nat) + 1), .int .i64 0].toArray), rfl, ⟨ret3 (get_stop hg (by omega) (by omega) (fun h => by have := h.1; have := h.2; omega)), hM5.upd⟩⟩
   refine gx rfl <| gx rfl <| pkF rfl <| h32 _ _ <| cndF rfl <| h31 _ _ <| seq fun _ h37 => mv <| mv <| stp (v := .int .i64 ((i : Nat) + 1)) (o_bin rfl rfl (v_add64 (by omega))) <| mv <| mv <| mv <| h37 _ _ <| ⟨(.tuple [.int .i64 (v + (b.getD i 0).toNat % 128 * 128 ^ i : Nat), .int .i64 ((i : Nat) + 1), .int .i64 0].toArray), rfl, ⟨ret3 (get_stop hg (by omega) (by omega) (fun h => by have := h.1; have := h.2; omega)), hM5.upd⟩⟩
  refine h10 _ _ <| stp (v := .int .i64 ((i : Nat) + 1)) (o_bin rfl rfl (v_add64 (by omega))) <| mv <| h6 (i + 1, v + (b.getD i 0).toNat % 128 * 128 ^ i) _ _ ⟨vi, rfl, vi, vi, hM5, by omega, (digit_bd (m128 _) (by omega) hv).1, get_more hg (by omega) (by omega) (by omega)⟩ (by (try dsimp only); omega)
 refine h3 _ _ <| seq fun _ h38 => mv <| mv <| mv <| h38 _ _ <| ⟨(.tuple [.int .i64 0, .int .i64 0, .int .i64 20].toArray), rfl, ⟨ret3 (get_end hg (by omega)), hM5.upd⟩⟩
theorem refGet_ok (x : Value) (b : List UInt8) (w : World) (hx : RdB w x b) (hl : b.length ≤ 1152921504606846976) : Calls Tryz.prog 127 [x].toArray w (Rt fun r w' => r = tup3 (get b) ∧ Upd [] w w') := by
 have hM0 : Mem w [] w [] := Mem.nil w []
 refine calls_vc mixed Tryz.func127 rfl C127 (by simp [Tryz.ntmps127]) <| seq fun _ h1 => mv <| mv <| mv <| h1 _ _ <| seq fun _ h2 => mv <| h2 _ _ <| seq fun _ h3 => mv <| h3 _ _ <| seq fun _ h4 => seq fun _ h5 => ?_
 refine mv <| h5 _ _ <| lp (n := fun _ _ => False) (ι := (Nat) × (Nat)) (fun ⟨i, v⟩ f w' => f 0 = x ∧ f 5 = .int .i64 (v : Nat) ∧ f 6 = .int .i64 (128 ^ i : Nat) ∧ f 7 = .int .i64 (i : Nat) ∧ Mem w [] w' [] ∧ (i ≤ b.length ∧ i ≤ 8) ∧ (v < 128 ^ i) ∧ (get b = getA i v (b.drop i))) (fun ⟨i, v⟩ => b.length - i) (0, 0) ?_ ?_
 ·exact ⟨rfl, vi, vi, vi, hM0, by omega, by simp, rfl⟩
 rintro ⟨i, v⟩ f w6 ⟨e6_0, e6_5, e6_6, e6_7, hM6, hi, hv, hg⟩ K7 h7
 obtain ⟨frm, rfl⟩ := re4 e6_0 e6_5 e6_6 e6_7
 refine seq fun _ h8 => seq fun _ h9 => mv <| mv <| stp (v := .int .i64 (b.length : Nat)) (o_lenR (hx.upd hM6.upd) rfl rfl) <| bn rfl rfl <| h9 _ _ <| cndP rfl (fun c10 => ?_) (fun c10 => ?_)
 ·refine h8 _ _ <| seq fun _ h11 => seq fun _ h12 => mv <| mv <| m_idxE 0 (j := i) (hx.upd hM6.upd) rfl rfl (by omega) fun b13 o13 hp13 => ld (v := byteV (b.getD i 0)) rfl (hp13) <| stp (v := .int .i64 ((b.getD i 0).toNat : Int)) (o_conv rfl (v_byteTo (by decide))) <| stp (v := .int .i64 (((b.getD i 0).toNat : Int) % 128)) (o_rem rfl rfl (by omega) (v_rem (by omega))) <| mv <| h12 _ _ <| seq fun _ h14 => mv <| mv ?_
  refine mv <| stp (v := .int .i64 ((b.getD i 0).toNat % 128 * 128 ^ i : Nat)) (o_bin rfl rfl (ref_mul (by omega))) <| stp (v := .int .i64 (v + (b.getD i 0).toNat % 128 * 128 ^ i : Nat)) (o_bin rfl rfl (v_add64 (by have := digit_bd (m128 (b.getD i 0)) (show i ≤ 8 by omega) hv; omega))) <| mv <| h14 _ _ <| seq fun _ h15 => seq fun _ h16 => mv <| mv <| m_idxE 0 (j := i) (hx.upd hM6.upd) rfl rfl (by omega) fun b17 o17 hp17 => ld (v := byteV (b.getD i 0)) rfl (hp17) <| bn rfl rfl <| h16 _ _ <| cndP rfl (fun c18 => ?_) (fun c18 => ?_)
  ·refine seq fun _ h19 => seq fun _ h20 => mv <| bn rfl rfl <| mv <| splitP rfl (fun c21 => ?_) (fun c21 => ?_)
   ·refine gmv rfl <| gmv rfl <| gyes rfl rfl (m_idxE 0 (j := i) (hx.upd hM6.upd) rfl rfl (by omega) fun b22 o22 hp22 => gyesl rfl <| ld (v := byteV (b.getD i 0)) rfl (hp22) <| gbn rfl rfl rfl <| pkT rfl <| h20 _ _ <| cndP rfl (fun c23 => ?_) (fun c23 => ?_))
    ·refine seq fun _ h24 => mv <| mv <| mv <| h24 _ _ <| ⟨(.tuple [.int .i64 0, .int .i64 0, .int .i64 21].toArray), rfl, ⟨ret3 (get_zero hg (by omega) (by omega) (by omega)), hM6.upd⟩⟩
    refine h19 _ _ <| seq fun _ h25 => mv <| mv <| stp (v := .int .i64 ((i : Nat) + 1)) (o_bin rfl rfl (v_add64 (by omega))) <| mv <| mv <| mv <| h25 _ _ <| ⟨(.tuple [.int .i64 (v + (b.getD i 0).toNat % 128 * 128 ^ i : Nat), .int .i64 ((i : Nat) + 1), .int .i64 0].toArray), rfl, ⟨ret3 (get_stop hg (by omega) (by omega) (fun h => by have := h.1; have := h.2; omega)), hM6.upd⟩⟩
   refine gx rfl <| gx rfl <| gx rfl <| gxl rfl <| gx rfl <| pkF rfl <| h20 _ _ <| cndF rfl <| h19 _ _ <| seq fun _ h26 => mv <| mv <| stp (v := .int .i64 ((i : Nat) + 1)) (o_bin rfl rfl (v_add64 (by omega))) <| mv <| mv <| mv <| h26 _ _ <| ⟨(.tuple [.int .i64 (v + (b.getD i 0).toNat % 128 * 128 ^ i : Nat), .int .i64 ((i : Nat) + 1), .int .i64 0].toArray), rfl, ⟨ret3 (get_stop hg (by omega) (by omega) (fun h => by have := h.1; have := h.2; omega)), hM6.upd⟩⟩
  refine h15 _ _ <| seq fun _ h27 => seq fun _ h28 => mv <| bn rfl rfl <| h28 _ _ <| cndP rfl (fun c29 => ?_) (fun c29 => ?_)
  ·refine seq fun _ h30 => mv <| mv <| mv <| h30 _ _ <| ⟨(.tuple [.int .i64 0, .int .i64 0, .int .i64 21].toArray), rfl, ⟨ret3 (get_far hg (by omega) (by omega) (by omega)), hM6.upd⟩⟩
  refine h27 _ _ <| mv <| stp (v := .int .i64 (128 ^ (i + 1) : Nat)) (o_bin rfl rfl (ref_unit (by omega))) <| mv <| h11 _ _ <| mv <| stp (v := .int .i64 ((i : Nat) + 1)) (o_bin rfl rfl (v_add64 (by omega))) <| mv <| h7 (i + 1, v + (b.getD i 0).toNat % 128 * 128 ^ i) _ _ ⟨rfl, vi, vi, vi, hM6, by omega, (digit_bd (m128 _) (by omega) hv).1, get_more hg (by omega) (by omega) (by omega)⟩ (by (try dsimp only); omega)
 refine h4 _ _ <| seq fun _ h31 => mv <| mv <| mv <| h31 _ _ <| ⟨(.tuple [.int .i64 0, .int .i64 0, .int .i64 20].toArray), rfl, ⟨ret3 (get_end hg (by omega)), hM6.upd⟩⟩
theorem refFixed_ok (v n : Int) (hv : inK .u64 v) (hn : inK .i64 n) (w : World) : Calls Tryz.prog 59 [.int .u64 v, .int .i64 n].toArray w (Rt fun r w' => ∃ rs, SlB 5 r (fixedI v n) rs ∧ Mem w [] w' [rs]) := by
 have hM0 : Mem w [] w [] := Mem.nil w []
 simp only [inK] at hv hn
 refine calls_vc mixed Tryz.func59 rfl C59 (by simp [Tryz.ntmps59]) <| seq fun _ h1 => mv <| h1 _ _ <| seq fun _ h2 => mv <| h2 _ _ <| seq fun _ h3 => seq fun _ h4 => mv <| bn rfl rfl <| mv <| splitP rfl (fun c5 => ?_) (fun c5 => ?_)
 ·refine gx rfl <| gx rfl <| pkT rfl <| h4 _ _ <| cndT rfl <| seq fun _ h6 => mv <| mv <| h6 _ _ <| ⟨(.slice none 0 0), rfl, ⟨[], by rw [fixedI_none (by omega)]; exact Sl.nil 1 5, hM0.addNil⟩⟩
 refine gmv rfl <| gbn rfl rfl rfl <| pkF rfl <| h4 _ _ <| cndP rfl (fun c7 => ?_) (fun c7 => ?_)
 ·refine seq fun _ h8 => mv <| mv <| h8 _ _ <| ⟨(.slice none 0 0), rfl, ⟨[], by rw [fixedI_none (by omega)]; exact Sl.nil 1 5, hM0.addNil⟩⟩
 refine h3 _ _ <| seq fun _ h9 => seq fun _ h10 => mv <| h10 _ _ <| lp (n := fun _ _ => False) (ι := (Nat) × (Int) × (Value) × (List Ent)) (fun ⟨i, v', x, r⟩ f w' => f 0 = .int .u64 v' ∧ f 1 = .int .i64 n ∧ f 5 = x ∧ f 6 = .int .i64 (i : Nat) ∧ Mem w [] w' [r] ∧ (SlB 5 x (fixed i v.toNat) r) ∧ (i ≤ n.toNat) ∧ (v' = ((v.toNat / 256 ^ i : Nat) : Int)) ∧ (0 ≤ v' ∧ v' ≤ 18446744073709551615)) (fun ⟨i, v', x, r⟩ => n.toNat - i) (0, v, .slice none 0 0, []) ?_ ?_
 ·exact ⟨vi, vi, rfl, vi, hM0.addNil, Sl.nil 1 5, by omega, by simp; omega, by omega⟩
 rintro ⟨i, v', x, r⟩ f w11 ⟨e11_0, e11_1, e11_5, e11_6, hM11, hs, hi, hv1, hv2⟩ K12 h12
 obtain ⟨frm, rfl⟩ := re4 e11_0 e11_1 e11_5 e11_6
 refine seq fun _ h13 => seq fun _ h14 => mv <| mv <| bn rfl rfl <| h14 _ _ <| cndP rfl (fun c15 => ?_) (fun c15 => ?_)
 ·refine h13 _ _ <| seq fun _ h16 => seq fun _ h17 => mv <| mv <| stp (v := .int .u64 (v' % 256)) (o_rem rfl rfl (by omega) (v_rem (by omega))) <| stp (v := .int .u8 ((v' % 256) % 256)) (o_conv rfl (v_u8 _)) <| m_app1 (E := byteV) (q := (v.toNat / 256 ^ i % 256).toUInt8) hM11 (i := 0) rfl hs rfl (by simp) (by rw [hv1]; exact byte_mod _) (by rw [fixed_length]; omega) (by omega) fun v18 w18 r18 u18 (hs18 : SlE byteV 5 v18 ((fixed i v.toNat) ++ [(v.toNat / 256 ^ i % 256).toUInt8]) r18) (hM18 : Mem w [] w18 [r18]) => mv <| h17 _ _ <| mv <| stp (v := .int .u64 (v' / 256)) (o_quo rfl rfl (by omega) (v_quo (by omega) (by omega) (by simp only [inK]; omega))) <| mv <| h16 _ _ ?_
  refine mv <| stp (v := .int .i64 ((i : Nat) + 1)) (o_bin rfl rfl (v_add64 (by omega))) <| mv <| h12 (i + 1, v' / 256, v18, r18) _ _ ⟨vi, vi, rfl, vi, hM18, by rw [fixed_succ]; exact hs18, by omega, by rw [hv1, Nat.pow_succ, ← Nat.div_div_eq_div_mul]; rfl, by omega⟩ (by (try dsimp only); omega)
 refine h9 _ _ <| seq fun _ h19 => mv <| mv <| h19 _ _ <| ⟨x, rfl, ?_⟩
 have e : i = n.toNat := by omega
 subst e
 exact ⟨_, by rw [fixedI_some (by omega)]; exact hs, hM11⟩
theorem Word_ok (x : Value) (b : List UInt8) (w : World) (hx : RdB w x b) (hl : b.length ≤ 1152921504606846976) : Calls Tryz.prog 67 [x].toArray w (Rt fun r w' => r = .int .u64 ((word b : Nat) : Int) ∧ Upd [] w w') := by
 have hM0 : Mem w [] w [] := Mem.nil w []
 refine calls_vc mixed Tryz.func67 rfl C67 (by simp [Tryz.ntmps67]) <| seq fun _ h1 => mv <| h1 _ _ <| seq fun _ h2 => mv <| h2 _ _ <| seq fun _ h3 => seq fun _ h4 => mv <| stp (v := .int .i64 (b.length : Nat)) (o_lenR (hx.upd hM0.upd) rfl rfl) <| stp (v := .int .i64 (min ((b.length : Nat) : Int) (8 : Int))) (o_mm rfl rfl rfl) <| mv <| h4 _ _ ?_
 refine lp (n := fun _ _ => False) (ι := (Nat)) (fun i f w' => f 0 = x ∧ f 3 = .int .u64 (le (b.take i) : Nat) ∧ f 7 = .int .i64 (min b.length 8 : Nat) ∧ f 8 = .int .i64 (i : Nat) ∧ Mem w [] w' [] ∧ (i ≤ b.length ∧ i ≤ 8)) (fun i => b.length - i) (0) ?_ ?_
 ·exact ⟨rfl, vi, vi, vi, hM0, by omega⟩
 rintro i f w5 ⟨e5_0, e5_3, e5_7, e5_8, hM5, hi⟩ K6 h6
 obtain ⟨frm, rfl⟩ := re4 e5_0 e5_3 e5_7 e5_8
 refine seq fun _ h7 => bn rfl rfl <| h7 _ _ <| seq fun _ h8 => cndP rfl (fun c9 => ?_) (fun c9 => ?_)
 ·refine h8 _ _ <| seq fun _ h10 => seq fun _ h11 => mv <| mv <| h11 _ _ <| mv <| mv <| mv <| m_idxE 0 (j := i) (hx.upd hM5.upd) rfl rfl (by omega) fun b12 o12 hp12 => ld (v := byteV (b.getD i 0)) rfl (hp12) <| stp (v := .int .u64 ((b.getD i 0).toNat : Int)) (o_conv rfl (v_byteTo (by decide))) <| mv <| stp (v := .int .i64 (8 * (i : Nat))) (o_bin rfl rfl (v_mul64 (by omega))) ?_
  refine stp (v := .int .u64 ((b.getD i 0).toNat * 256 ^ i : Nat)) (o_shl rfl rfl (by omega) (word_shl (by omega))) <| stp (v := .int .u64 (le (b.take (i + 1)) : Nat)) (o_bin rfl rfl (word_or (by omega) (by omega))) <| mv <| h10 _ _ <| stp (v := .int .i64 ((i : Nat) + 1)) (o_bin rfl rfl (v_add64 (by omega))) <| mv <| h6 (i + 1) _ _ ⟨rfl, vi, vi, vi, hM5, by omega⟩ (by (try dsimp only); omega)
 refine h3 _ _ <| seq fun _ h13 => mv <| mv <| h13 _ _ <| ⟨(.int .u64 (le (b.take i) : Nat)), rfl, ⟨by rw [word_end (by omega) (by omega) (by omega)], hM5.upd⟩⟩
theorem refWord_ok (x : Value) (b : List UInt8) (w : World) (hx : RdB w x b) (hl : b.length ≤ 1152921504606846976) : Calls Tryz.prog 75 [x].toArray w (Rt fun r w' => r = .int .u64 ((word b : Nat) : Int) ∧ Upd [] w w') := by
 have hM0 : Mem w [] w [] := Mem.nil w []
 refine calls_vc mixed Tryz.func75 rfl C75 (by simp [Tryz.ntmps75]) <| seq fun _ h1 => mv <| h1 _ _ <| seq fun _ h2 => mv <| h2 _ _ <| seq fun _ h3 => mv <| h3 _ _ <| seq fun _ h4 => seq fun _ h5 => mv <| h5 _ _ ?_
 refine lp (n := fun _ _ => False) (ι := (Nat)) (fun i f w' => f 0 = x ∧ f 3 = .int .u64 (le (b.take i) : Nat) ∧ f 4 = .int .u64 (256 ^ i % 18446744073709551616 : Nat) ∧ f 5 = .int .i64 (i : Nat) ∧ Mem w [] w' [] ∧ (i ≤ b.length ∧ i ≤ 8)) (fun i => b.length - i) (0) ?_ ?_
 ·exact ⟨rfl, vi, vi, vi, hM0, by omega⟩
 rintro i f w6 ⟨e6_0, e6_3, e6_4, e6_5, hM6, hi⟩ K7 h7
 obtain ⟨frm, rfl⟩ := re4 e6_0 e6_3 e6_4 e6_5
 refine seq fun _ h8 => seq fun _ h9 => mv <| mv <| stp (v := .int .i64 (b.length : Nat)) (o_lenR (hx.upd hM6.upd) rfl rfl) <| bn rfl rfl <| mv <| splitP rfl (fun c10 => ?_) (fun c10 => ?_)
 ·refine gmv rfl <| gbn rfl rfl rfl <| pkT rfl <| h9 _ _ <| cndP rfl (fun c11 => ?_) (fun c11 => ?_)
  ·refine h8 _ _ <| seq fun _ h12 => seq fun _ h13 => mv <| mv <| mv <| m_idxE 0 (j := i) (hx.upd hM6.upd) rfl rfl (by omega) fun b14 o14 hp14 => ld (v := byteV (b.getD i 0)) rfl (hp14) <| stp (v := .int .u64 ((b.getD i 0).toNat : Int)) (o_conv rfl (v_byteTo (by decide))) <| mv <| stp (v := .int .u64 ((b.getD i 0).toNat * 256 ^ i : Nat)) (o_bin rfl rfl (wref_mul (by omega))) <| stp (v := .int .u64 (le (b.take (i + 1)) : Nat)) (o_bin rfl rfl (wref_add (by omega) (by omega))) <| mv <| h13 _ _ ?_
   refine mv <| stp (v := .int .u64 (256 ^ (i + 1) % 18446744073709551616 : Nat)) (o_bin rfl rfl (wref_unit _)) <| mv <| h12 _ _ <| mv <| stp (v := .int .i64 ((i : Nat) + 1)) (o_bin rfl rfl (v_add64 (by omega))) <| mv <| h7 (i + 1) _ _ ⟨rfl, vi, vi, vi, hM6, by omega⟩ (by (try dsimp only); omega)
  refine h4 _ _ <| seq fun _ h15 => mv <| mv <| h15 _ _ <| ⟨(.int .u64 (le (b.take i) : Nat)), rfl, ⟨by rw [word_end (by omega) (by omega) (by omega)], hM6.upd⟩⟩
 refine gx rfl <| gx rfl <| pkF rfl <| h9 _ _ <| cndF rfl <| h4 _ _ <| seq fun _ h16 => mv <| mv <| h16 _ _ <| ⟨(.int .u64 (le (b.take i) : Nat)), rfl, ⟨by rw [word_end (by omega) (by omega) (by omega)], hM6.upd⟩⟩
def common : List UInt8 → List UInt8 → Nat
 | x :: a, y :: b => if x = y then common a b + 1 else 0
 | _, _ => 0
def cmp : List UInt8 → List UInt8 → Int
 | [], [] => 0
 | [], _ :: _ => -1
 | _ :: _, [] => 1
 | x :: a, y :: b => if x.toNat < y.toNat then -1 else if y.toNat < x.toNat then 1 else cmp a b
theorem cmp_drop (i : Nat) : ∀ {a b : List UInt8}, a.take i = b.take i → i ≤ a.length → i ≤ b.length → cmp a b = cmp (a.drop i) (b.drop i) := by
 induction i with
 | zero => intro a b _ _ _; rfl
 | succ i ih =>
  intro a b h ha hb
  match a, b with
  | [], _ => simp at ha
  | _ :: _, [] => simp at hb
  | x :: a, y :: b =>
   simp only [List.take_succ_cons, List.cons.injEq] at h
   simp only [List.length_cons] at ha hb
   obtain ⟨rfl, h⟩ := h
   simp only [cmp, Nat.lt_irrefl, if_false, List.drop_succ_cons]
   exact ih h (by omega) (by omega)
theorem common_drop (i : Nat) : ∀ {a b : List UInt8}, a.take i = b.take i → i ≤ a.length → i ≤ b.length → common a b = i + common (a.drop i) (b.drop i) := by
 induction i with
 | zero => intro a b _ _ _; simp
 | succ i ih =>
  intro a b h ha hb
  match a, b with
  | [], _ => simp at ha
  | _ :: _, [] => simp at hb
  | x :: a, y :: b =>
   simp only [List.take_succ_cons, List.cons.injEq] at h
   simp only [List.length_cons] at ha hb
   obtain ⟨rfl, h⟩ := h
   simp only [common, if_true, List.drop_succ_cons]
   rw [ih h (by omega) (by omega)]; omega
theorem cmp_lt {a b : List UInt8} {i : Nat} (hp : a.take i = b.take i) (ha : i < a.length) (hb : i < b.length) (h : ((a.getD i 0).toNat : Int) < (b.getD i 0).toNat) : cmp a b = -1 := by
 rw [cmp_drop i hp (by omega) (by omega), drop_getD ha, drop_getD hb, cmp, if_pos (by omega)]
theorem cmp_gt {a b : List UInt8} {i : Nat} (hp : a.take i = b.take i) (ha : i < a.length) (hb : i < b.length) (h : ((b.getD i 0).toNat : Int) < (a.getD i 0).toNat) : cmp a b = 1 := by
 rw [cmp_drop i hp (by omega) (by omega), drop_getD ha, drop_getD hb, cmp, if_neg (by omega), if_pos (by omega)]
theorem cmp_short {a b : List UInt8} {i : Nat} (hp : a.take i = b.take i) (ha : i = a.length) (hb : i < b.length) : cmp a b = -1 := by
 rw [cmp_drop i hp (by omega) (by omega), List.drop_eq_nil_of_le (by omega), drop_getD hb, cmp]
theorem cmp_long {a b : List UInt8} {i : Nat} (hp : a.take i = b.take i) (ha : i < a.length) (hb : i = b.length) : cmp a b = 1 := by
 rw [cmp_drop i hp (by omega) (by omega), show b.drop i = [] from List.drop_eq_nil_of_le (by omega), drop_getD ha, cmp]
theorem cmp_same {a b : List UInt8} {i : Nat} (hp : a.take i = b.take i) (ha : i = a.length) (hb : i = b.length) : cmp a b = 0 := by
 rw [cmp_drop i hp (by omega) (by omega), show b.drop i = [] from List.drop_eq_nil_of_le (by omega), List.drop_eq_nil_of_le (by omega), cmp]
theorem common_at {a b : List UInt8} {i : Nat} (hp : a.take i = b.take i) (ha : i < a.length) (hb : i < b.length) (h : ¬ a.getD i 0 = b.getD i 0) : common a b = i := by
 rw [common_drop i hp (by omega) (by omega), drop_getD ha, drop_getD hb, common, if_neg h]; omega
theorem common_end {a b : List UInt8} {i : Nat} (hp : a.take i = b.take i) (h : i = min a.length b.length) : common a b = i := by
 rw [common_drop i hp (by omega) (by omega)]
 rcases Nat.le_total a.length b.length with h1 | h1
 ·rw [show a.drop i = [] from List.drop_eq_nil_of_le (by omega)]; simp [common]
 rw [show b.drop i = [] from List.drop_eq_nil_of_le (by omega)]
 cases a.drop i <;> simp [common]
theorem common_le : ∀ (a b : List UInt8), common a b ≤ a.length ∧ common a b ≤ b.length ∧ a.take (common a b) = b.take (common a b) ∧ (common a b < a.length → common a b < b.length → ¬ a.getD (common a b) 0 = b.getD (common a b) 0)
 | [], b => by simp [common]
 | x :: a, [] => by simp [common]
 | x :: a, y :: b => by
  obtain ⟨h1, h2, h3, h4⟩ := common_le a b
  by_cases h : x = y
  ·subst h
   simp only [common, if_true, List.length_cons, List.take_succ_cons]
   refine ⟨by omega, by omega, by rw [h3], fun i j => ?_⟩
   simpa using h4 (by omega) (by omega)
  simp [common, h]
theorem gt_of {a b : List UInt8} {n : Nat} (h : n < a.length → n < b.length → ¬ a.getD n 0 = b.getD n 0) (ha : n < a.length) (hb : n < b.length) (hn : ¬ ((a.getD n 0).toNat : Int) < (b.getD n 0).toNat) : ((b.getD n 0).toNat : Int) < (a.getD n 0).toNat := by
 have h1 := h ha hb
 rcases Nat.lt_trichotomy (a.getD n 0).toNat (b.getD n 0).toNat with h2 | h2 | h2
 ·omega
 ·exact absurd (UInt8.toNat_inj.1 h2) h1
 omega
theorem nat_ne {x y : UInt8} (h : ¬ (x.toNat : Int) = (y.toNat : Int)) : ¬ x = y := fun e => h (by rw [e])
theorem cmp_anti : ∀ (a b : List UInt8), cmp b a = - cmp a b
 | [], [] => by simp [cmp]
 | [], _ :: _ => by simp [cmp]
 | _ :: _, [] => by simp [cmp]
 | x :: a, y :: b => by
  simp only [cmp]
  have := cmp_anti a b
  split <;> split <;> first | omega | (split <;> omega)
theorem cmp_trans : ∀ (a b c : List UInt8), (cmp a b ≤ 0 → cmp b c ≤ 0 → cmp a c ≤ 0) ∧ (cmp a b < 0 → cmp b c ≤ 0 → cmp a c < 0)
 | [], b, [] => by
  simp only [cmp]
  cases b <;> simp [cmp]
 | [], b, _ :: _ => by simp [cmp]
 | x :: a, [], c => by simp [cmp]
 | x :: a, y :: b, [] => by simp [cmp]
 | x :: a, y :: b, z :: c => by
  have := cmp_trans a b c
  simp only [cmp]
  refine ⟨?_, ?_⟩
  ·split <;> split <;> split <;> (try split) <;> (try split) <;> (try split) <;> first | omega | (intro h1 h2; exact this.1 h1 h2)
  split <;> split <;> split <;> (try split) <;> (try split) <;> (try split) <;> first | omega | (intro h1 h2; exact this.2 h1 h2)
theorem cmp_ge (a b c : List UInt8) (h1 : 0 ≤ cmp a b) (h2 : 0 ≤ cmp b c) : 0 ≤ cmp a c := by
 have k := (cmp_trans c b a).1
 rw [cmp_anti b c, cmp_anti a b, cmp_anti a c] at k
 have := k (by omega) (by omega)
 omega
theorem Compare_ok (a b : List UInt8) (w : World) (hla : a.length ≤ 1152921504606846976) (hlb : b.length ≤ 1152921504606846976) : Calls Tryz.prog 22 [.string (str a), .string (str b)].toArray w (Rt fun r w' => r = .int .i64 (cmp a b) ∧ Upd [] w w') := by
 have hM0 : Mem w [] w [] := Mem.nil w []
 refine calls_vc mixed Tryz.func22 rfl C22 (by simp [Tryz.ntmps22]) <| seq fun _ h1 => mv <| h1 _ _ <| seq fun _ h2 => seq fun _ h3 => mv <| stp (v := .int .i64 (a.length : Nat)) (o_lens rfl rfl) <| mv <| stp (v := .int .i64 (b.length : Nat)) (o_lens rfl rfl) <| stp (v := .int .i64 (min ((a.length : Nat) : Int) ((b.length : Nat) : Int))) (o_mm rfl rfl rfl) <| mv <| h3 _ _ <| lp (n := fun _ _ => False) (ι := (Nat)) (fun i f w' => f 0 = .string (str a) ∧ f 1 = .string (str b) ∧ f 10 = .int .i64 (min a.length b.length : Nat) ∧ f 11 = .int .i64 (i : Nat) ∧ Mem w [] w' [] ∧ (i ≤ min a.length b.length) ∧ (a.take i = b.take i)) (fun i => min a.length b.length - i) (0) ?_ ?_
 ·exact ⟨by first | rfl | simp [upd], by first | rfl | simp [upd], vi, vi, hM0, by omega, by simp⟩
 rintro i f w4 ⟨e4_0, e4_1, e4_10, e4_11, hM4, hi, hp⟩ K5 h5
 obtain ⟨frm, rfl⟩ := re4 e4_0 e4_1 e4_10 e4_11
 refine seq fun _ h6 => bn rfl rfl <| h6 _ _ <| seq fun _ h7 => cndP rfl (fun c8 => ?_) (fun c8 => ?_)
 ·refine h7 _ _ <| seq fun _ h9 => seq fun _ h10 => mv <| mv <| h10 _ _ <| seq fun _ h11 => ?_
  intro wd e1 e2 e3 e4
  have hd := Upd.same e1 e2 e3 e4 []
  have hM12 := hM4.pure hd
  clear e1 e2 e3 e4
  refine ⟨none, ?_⟩
  show vd _ _ _ _ _ _ _
  refine dmv <| dmv <| dq (v := byteV (a.getD i 0)) (o_idxs rfl rfl (by omega) rfl) <| dmv <| dmv <| dq (v := byteV (b.getD i 0)) (o_idxs rfl rfl (by omega) rfl) <| dbn rfl rfl <| dmv <| h11 _ _ <| cndP rfl (fun c13 => ?_) (fun c13 => ?_)
  ·refine seq fun _ h14 => mv <| h14 _ _ <| ⟨(.int .i64 (-1)), rfl, ⟨by rw [cmp_lt hp (by omega) (by omega) (by omega)], hM12.upd⟩⟩
  refine seq fun _ h15 => ?_
  intro wd e1 e2 e3 e4
  have hd := Upd.same e1 e2 e3 e4 []
  have hM16 := hM12.pure hd
  clear e1 e2 e3 e4
  refine ⟨none, ?_⟩
  show vd _ _ _ _ _ _ _
  refine dmv <| dmv <| dq (v := byteV (a.getD i 0)) (o_idxs rfl rfl (by omega) rfl) <| dmv <| dmv <| dq (v := byteV (b.getD i 0)) (o_idxs rfl rfl (by omega) rfl) <| dbn rfl rfl <| dmv <| h15 _ _ <| cndP rfl (fun c17 => ?_) (fun c17 => ?_)
  ·refine seq fun _ h18 => mv <| h18 _ _ <| ⟨(.int .i64 1), rfl, ⟨by rw [cmp_gt hp (by omega) (by omega) (by omega)], hM16.upd⟩⟩
  refine h9 _ _ <| stp (v := .int .i64 ((i : Nat) + 1)) (o_bin rfl rfl (v_add64 (by omega))) <| mv <| h5 (i + 1) _ _ ⟨by first | rfl | simp [upd], by first | rfl | simp [upd], vi, vi, hM16, by omega, take_succ_eq hp (by omega) (by omega) (u8_eq (by omega))⟩ (by (try dsimp only); omega)
 refine h2 _ _ <| seq fun _ h19 => seq fun _ h20 => mv <| stp (v := .int .i64 (a.length : Nat)) (o_lens rfl rfl) <| mv <| stp (v := .int .i64 (b.length : Nat)) (o_lens rfl rfl) <| bn rfl rfl <| mv <| h20 _ _ <| cndP rfl (fun c21 => ?_) (fun c21 => ?_)
 ·refine seq fun _ h22 => mv <| h22 _ _ <| ⟨(.int .i64 (-1)), rfl, ⟨by rw [cmp_short hp (by omega) (by omega)], hM4.upd⟩⟩
 refine seq fun _ h23 => mv <| stp (v := .int .i64 (a.length : Nat)) (o_lens rfl rfl) <| mv <| stp (v := .int .i64 (b.length : Nat)) (o_lens rfl rfl) <| bn rfl rfl <| mv <| h23 _ _ <| cndP rfl (fun c24 => ?_) (fun c24 => ?_)
 ·refine seq fun _ h25 => mv <| h25 _ _ <| ⟨(.int .i64 1), rfl, ⟨by rw [cmp_long hp (by omega) (by omega)], hM4.upd⟩⟩
 refine h19 _ _ <| seq fun _ h26 => mv <| h26 _ _ <| ⟨(.int .i64 0), rfl, ⟨by rw [cmp_same hp (by omega) (by omega)], hM4.upd⟩⟩
theorem Common_ok (a b : List UInt8) (w : World) (hla : a.length ≤ 1152921504606846976) (hlb : b.length ≤ 1152921504606846976) : Calls Tryz.prog 47 [.string (str a), .string (str b)].toArray w (Rt fun r w' => r = .int .i64 ((common a b : Nat) : Int) ∧ Upd [] w w') := by
 have hM0 : Mem w [] w [] := Mem.nil w []
 refine calls_vc mixed Tryz.func47 rfl C47 (by simp [Tryz.ntmps47]) <| seq fun _ h1 => mv <| h1 _ _ <| seq fun _ h2 => seq fun _ h3 => mv <| stp (v := .int .i64 (a.length : Nat)) (o_lens rfl rfl) <| mv <| stp (v := .int .i64 (b.length : Nat)) (o_lens rfl rfl) <| stp (v := .int .i64 (min ((a.length : Nat) : Int) ((b.length : Nat) : Int))) (o_mm rfl rfl rfl) <| mv <| h3 _ _ <| lp (n := fun _ _ => False) (ι := (Nat)) (fun i f w' => f 0 = .string (str a) ∧ f 1 = .string (str b) ∧ f 10 = .int .i64 (min a.length b.length : Nat) ∧ f 11 = .int .i64 (i : Nat) ∧ Mem w [] w' [] ∧ (i ≤ min a.length b.length) ∧ (a.take i = b.take i)) (fun i => min a.length b.length - i) (0) ?_ ?_
 ·exact ⟨by first | rfl | simp [upd], by first | rfl | simp [upd], vi, vi, hM0, by omega, by simp⟩
 rintro i f w4 ⟨e4_0, e4_1, e4_10, e4_11, hM4, hi, hp⟩ K5 h5
 obtain ⟨frm, rfl⟩ := re4 e4_0 e4_1 e4_10 e4_11
 refine seq fun _ h6 => bn rfl rfl <| h6 _ _ <| seq fun _ h7 => cndP rfl (fun c8 => ?_) (fun c8 => ?_)
 ·refine h7 _ _ <| seq fun _ h9 => seq fun _ h10 => mv <| mv <| h10 _ _ <| seq fun _ h11 => ?_
  intro wd e1 e2 e3 e4
  have hd := Upd.same e1 e2 e3 e4 []
  have hM12 := hM4.pure hd
  clear e1 e2 e3 e4
  refine ⟨none, ?_⟩
  show vd _ _ _ _ _ _ _
  refine dmv <| dmv <| dq (v := byteV (a.getD i 0)) (o_idxs rfl rfl (by omega) rfl) <| dmv <| dmv <| dq (v := byteV (b.getD i 0)) (o_idxs rfl rfl (by omega) rfl) <| dq (v := .bool (decide (¬ ((a.getD i 0).toNat : Int) = ((b.getD i 0).toNat : Int)))) (o_bin rfl rfl v_neq) <| h11 _ _ <| cndP rfl (fun c13 => ?_) (fun c13 => ?_)
  ·refine seq fun _ h14 => mv <| mv <| h14 _ _ <| ⟨(.int .i64 (i : Nat)), rfl, ⟨by rw [common_at hp (by omega) (by omega) (nat_ne (by omega))], hM12.upd⟩⟩
  refine h9 _ _ <| stp (v := .int .i64 ((i : Nat) + 1)) (o_bin rfl rfl (v_add64 (by omega))) <| mv <| h5 (i + 1) _ _ ⟨by first | rfl | simp [upd], by first | rfl | simp [upd], vi, vi, hM12, by omega, take_succ_eq hp (by omega) (by omega) (u8_eq (by omega))⟩ (by (try dsimp only); omega)
 refine h2 _ _ <| seq fun _ h15 => mv <| stp (v := .int .i64 (a.length : Nat)) (o_lens rfl rfl) <| mv <| stp (v := .int .i64 (b.length : Nat)) (o_lens rfl rfl) <| stp (v := .int .i64 (min ((a.length : Nat) : Int) ((b.length : Nat) : Int))) (o_mm rfl rfl rfl) <| mv <| h15 _ _ <| ⟨(.int .i64 (min ((a.length : Nat) : Int) ((b.length : Nat) : Int))), rfl, ⟨by rw [common_end hp (by omega)]; exact v_int (by omega), hM4.upd⟩⟩
theorem refCommon_ok (a b : List UInt8) (w : World) (hla : a.length ≤ 1152921504606846976) (hlb : b.length ≤ 1152921504606846976) : Calls Tryz.prog 49 [.string (str a), .string (str b)].toArray w (Rt fun r w' => r = .int .i64 ((common a b : Nat) : Int) ∧ Upd [] w w') := by
 have hM0 : Mem w [] w [] := Mem.nil w []
 refine calls_vc mixed Tryz.func49 rfl C49 (by simp [Tryz.ntmps49]) <| seq fun _ h1 => mv <| h1 _ _ <| seq fun _ h2 => mv <| h2 _ _ <| seq fun _ h3 => lp (n := fun _ _ => False) (ι := (Nat)) (fun i f w' => f 0 = .string (str a) ∧ f 1 = .string (str b) ∧ f 5 = .int .i64 (i : Nat) ∧ Mem w [] w' [] ∧ (i ≤ min a.length b.length) ∧ (a.take i = b.take i)) (fun i => min a.length b.length - i) (0) ?_ ?_
 ·exact ⟨by first | rfl | simp [upd], by first | rfl | simp [upd], vi, hM0, by omega, by simp⟩
 rintro i f w4 ⟨e4_0, e4_1, e4_5, hM4, hi, hp⟩ K5 h5
 obtain ⟨frm, rfl⟩ := re3 e4_0 e4_1 e4_5
 refine seq fun _ h6 => seq fun _ h7 => ?_
 intro wd e1 e2 e3 e4
 have hd := Upd.same e1 e2 e3 e4 []
 have hM8 := hM4.pure hd
 clear e1 e2 e3 e4
 refine ⟨none, ?_⟩
 show vd _ _ _ _ _ _ _
 refine dmv <| dmv <| dq (v := .int .i64 (a.length : Nat)) (o_lens rfl rfl) <| dbn rfl rfl <| dmv <| dsplitP rfl (fun c9 => ?_) (fun c9 => ?_)
 ·refine dgmv rfl <| dgmv rfl <| dqg rfl (v := .int .i64 (b.length : Nat)) (o_lens rfl rfl) <| dgbn rfl rfl rfl <| dpkT rfl <| dmv <| dsplitP rfl (fun c10 => ?_) (fun c10 => ?_)
  ·refine dgmv rfl <| dgmv rfl <| dqg rfl (v := byteV (a.getD i 0)) (o_idxs rfl rfl (by omega) rfl) <| dgmv rfl <| dgmv rfl <| dqg rfl (v := byteV (b.getD i 0)) (o_idxs rfl rfl (by omega) rfl) <| dgbn rfl rfl rfl <| dpkT rfl <| h7 _ _ <| cndP rfl (fun c11 => ?_) (fun c11 => ?_)
   ·refine h6 _ _ <| mv <| stp (v := .int .i64 ((i : Nat) + 1)) (o_bin rfl rfl (v_add64 (by omega))) <| mv <| h5 (i + 1) _ _ ⟨by first | rfl | simp [upd], by first | rfl | simp [upd], vi, hM8, by omega, take_succ_eq hp (by omega) (by omega) (u8_eq (by omega))⟩ (by (try dsimp only); omega)
   refine h3 _ _ <| seq fun _ h12 => mv <| mv <| h12 _ _ <| ⟨(.int .i64 (i : Nat)), rfl, ⟨by rw [common_at hp (by omega) (by omega) (nat_ne (by omega))], hM8.upd⟩⟩
  refine dx rfl <| dx rfl <| dx rfl <| dx rfl <| dx rfl <| dx rfl <| dx rfl <| dpkF rfl <| h7 _ _ <| cndF rfl <| h3 _ _ <| seq fun _ h13 => mv <| mv <| h13 _ _ <| ⟨(.int .i64 (i : Nat)), rfl, ⟨by rw [common_end hp (by omega)], hM8.upd⟩⟩
 refine dx rfl <| dx rfl <| dx rfl <| dx rfl <| dpkF rfl <| dmv <| dsplitF rfl <| dx rfl <| dx rfl <| dx rfl <| dx rfl <| dx rfl <| dx rfl <| dx rfl <| dpkF rfl <| h7 _ _ <| cndF rfl <| h3 _ _ <| seq fun _ h14 => mv <| mv <| h14 _ _ <| ⟨(.int .i64 (i : Nat)), rfl, ⟨by rw [common_end hp (by omega)], hM8.upd⟩⟩
end Go.Proofs.YtifnmbmijljhfaaGreat.E
namespace Go.Proofs.YtifnmbmijljhfaaGreat.E
open Go
def stepN (x : Nat) : Nat := if x % 2 = 1 then x / 2 ^^^ 2197175160 else x / 2
theorem stepN_lt {x : Nat} (h : x < 4294967296) : stepN x < 4294967296 := by
 unfold stepN
 split
 ·exact Nat.xor_lt_two_pow (n := 32) (by omega) (by omega)
 omega
theorem stepN_xor (a b : Nat) : stepN (a ^^^ b) = stepN a ^^^ stepN b := by
 unfold stepN
 have hd : (a ^^^ b) / 2 = a / 2 ^^^ b / 2 := by
  apply Nat.eq_of_testBit_eq
  intro i
  rw [Nat.testBit_div_two, Nat.testBit_xor, Nat.testBit_xor, Nat.testBit_div_two, Nat.testBit_div_two]
 have hp : ((a ^^^ b) % 2 = 1) ↔ ¬ ((a % 2 = 1) ↔ (b % 2 = 1)) := by
  have h1 : ∀ n : Nat, (n % 2 = 1) ↔ n.testBit 0 = true := fun n => by rw [Nat.testBit_zero]; simp
  rw [h1, h1, h1, Nat.testBit_xor]
  cases a.testBit 0 <;> cases b.testBit 0 <;> simp
 by_cases ha : a % 2 = 1 <;> by_cases hb : b % 2 = 1
 ·rw [if_neg (by rw [hp]; simp [ha, hb]), if_pos ha, if_pos hb, hd]
  rw [Nat.xor_assoc, ← Nat.xor_assoc 2197175160, Nat.xor_comm 2197175160, Nat.xor_assoc, Nat.xor_self, Nat.xor_zero]
 ·rw [if_pos (by rw [hp]; simp [ha, hb]), if_pos ha, if_neg hb, hd, Nat.xor_assoc, Nat.xor_comm (b / 2), ← Nat.xor_assoc]
 ·rw [if_pos (by rw [hp]; simp [ha, hb]), if_neg ha, if_pos hb, hd, Nat.xor_assoc]
 rw [if_neg (by rw [hp]; simp [ha, hb]), if_neg ha, if_neg hb, hd]
def stepK : Nat → Nat → Nat
 | 0, x => x
 | k + 1, x => stepN (stepK k x)
theorem stepK_lt {x : Nat} (h : x < 4294967296) : ∀ k, stepK k x < 4294967296
 | 0 => h
 | k + 1 => stepN_lt (stepK_lt h k)
theorem stepK_xor (k a b : Nat) : stepK k (a ^^^ b) = stepK k a ^^^ stepK k b := by
 induction k with
 | zero => rfl
 | succ k ih => show stepN (stepK k (a ^^^ b)) = _; rw [ih, stepN_xor]; rfl
theorem stepK_add (j k x : Nat) : stepK j (stepK k x) = stepK (j + k) x := by
 induction j with
 | zero => rw [Nat.zero_add]; rfl
 | succ j ih => rw [Nat.succ_add]; show stepN (stepK j (stepK k x)) = stepN (stepK (j + k) x); rw [ih]
theorem stepN_two (z : Nat) : stepN (2 * z) = z := by unfold stepN; rw [if_neg (by omega)]; omega
theorem stepK_hi (y : Nat) : stepK 4 (16 * y) = y := by
 show stepN (stepN (stepN (stepN (16 * y)))) = y
 rw [show 16 * y = 2 * (2 * (2 * (2 * y))) by omega, stepN_two, stepN_two, stepN_two, stepN_two]
theorem split16 (x : Nat) : x = 16 * (x / 16) ^^^ x % 16 := by
 apply Nat.eq_of_testBit_eq
 intro i
 have h := Nat.testBit_two_pow_mul_add (x / 16) (i := 4) (b := x % 16) (by omega) i
 have e : 2 ^ 4 * (x / 16) + x % 16 = x := by omega
 rw [e] at h
 have e2 : 16 * (x / 16) = 2 ^ 4 * (x / 16) := by omega
 rw [h, Nat.testBit_xor, e2, Nat.testBit_two_pow_mul]
 by_cases c : i < 4
 ·rw [if_pos c, decide_eq_false (by omega)]; simp
 rw [if_neg c, decide_eq_true (by omega)]
 have h3 : (x % 16).testBit i = false := Nat.testBit_lt_two_pow (by
  have : 2 ^ 4 ≤ 2 ^ i := Nat.pow_le_pow_right (by omega) (by omega)
  omega)
 rw [h3]; simp
theorem nib (x : Nat) : x / 16 ^^^ stepK 4 (x % 16) = stepK 4 x := by
 conv => rhs; rw [split16 x, stepK_xor, stepK_hi]
def crcX (x : Nat) (b : List UInt8) : Nat := b.foldl (fun x c => stepK 8 (x ^^^ c.toNat)) x
def crcN (s : Nat) (b : List UInt8) : Nat := 4294967295 - crcX (4294967295 - s) b
theorem crcN_lt (s : Nat) (b : List UInt8) : crcN s b < 4294967296 := by unfold crcN; omega
theorem cpl32 {n : Nat} (h : n < 4294967296) : 4294967295 ^^^ n = 4294967295 - n := by
 apply Nat.eq_of_testBit_eq
 intro i
 have h1 := Nat.testBit_two_pow_sub_succ (x := n) (n := 32) (by omega) i
 have h2 := Nat.testBit_two_pow_sub_one 32 i
 have e : (2 : Nat) ^ 32 = 4294967296 := rfl
 rw [e] at h1 h2
 rw [show 4294967296 - (n + 1) = 4294967295 - n by omega] at h1
 rw [show 4294967296 - 1 = 4294967295 from rfl] at h2
 rw [Nat.testBit_xor, h2, h1]
 by_cases c : i < 32
 ·rw [decide_eq_true c]; simp
 rw [decide_eq_false c, Nat.testBit_lt_two_pow (by
  have : 2 ^ 32 ≤ 2 ^ i := Nat.pow_le_pow_right (by omega) (by omega)
  have e : (2 : Nat) ^ 32 = 4294967296 := rfl
  omega)]; simp
theorem xor32 {a b : Nat} (ha : a < 4294967296) (hb : b < 4294967296) : xorI .u32 (a : Int) (b : Int) = ((a ^^^ b : Nat) : Int) :=
 xorI_nat (k := .u32) ha hb (by have := Nat.xor_lt_two_pow (n := 32) (x := a) (y := b) ha hb; simp only [inK]; omega)
theorem xor32_lt {a b : Nat} (ha : a < 4294967296) (hb : b < 4294967296) : a ^^^ b < 4294967296 := Nat.xor_lt_two_pow (n := 32) ha hb
theorem xor32_cpl {n : Nat} (h : n < 4294967296) : xorI .u32 4294967295 (n : Int) = ((4294967295 - n : Nat) : Int) := by
 have := xor32 (a := 4294967295) (b := n) (by omega) h
 rw [cpl32 h] at this
 exact this
theorem shr32 {n j : Nat} {z : Int} (hj : j < 32) (hz : z = (j : Int)) : Value.int .u32 ((n : Int).fdiv (2 ^ min z.toNat IntKind.u32.bits)) = .int .u32 ((n / 2 ^ j : Nat) : Int) := by
 subst hz; exact v_int (shrI_nat (k := .u32) (by simp only [IntKind.bits]; omega))
theorem and32_nat {a b : Nat} (ha : a < 4294967296) (hb : b < 4294967296) : binI .and .u32 (a : Int) (b : Int) = .int .u32 ((a &&& b : Nat) : Int) := by
 show Value.int .u32 (IntKind.u32.wrap (BitVec.ofInt 32 (a : Int) &&& BitVec.ofInt 32 (b : Int)).toNat) = _
 have h4 : a &&& b < 4294967296 := Nat.lt_of_le_of_lt Nat.and_le_left ha
 have e1 : (BitVec.ofInt 32 (a : Int)).toNat = a := by simp; omega
 have e2 : (BitVec.ofInt 32 (b : Int)).toNat = b := by simp; omega
 rw [BitVec.toNat_and, e1, e2, wrap_u32]
 exact v_int (by omega)
theorem and15 {a : Nat} (ha : a < 4294967296) : binI .and .u32 (a : Int) 15 = .int .u32 ((a % 16 : Nat) : Int) := by
 have := and32_nat (a := a) (b := 15) ha (by omega)
 rw [show a &&& 15 = a % 16 from Nat.and_two_pow_sub_one_eq_mod a 4] at this
 exact this
theorem and1 {a : Nat} (ha : a < 4294967296) : binI .and .u32 (a : Int) 1 = .int .u32 ((a % 2 : Nat) : Int) := by
 have := and32_nat (a := a) (b := 1) ha (by omega)
 rw [show a &&& 1 = a % 2 from Nat.and_two_pow_sub_one_eq_mod a 1] at this
 exact this
def tabN (n : Nat) : List Nat := (List.range 16).map fun i => if i < n then stepK 4 i else 0
def tabI (n : Nat) : List Value := (tabN n).map fun (x : Nat) => Value.int .u32 (x : Int)
theorem tabN_length (n : Nat) : (tabN n).length = 16 := by unfold tabN; simp
theorem tabI_length (n : Nat) : (tabI n).length = 16 := by unfold tabI; rw [List.length_map, tabN_length]
theorem tabI_zero : tabI 0 = List.replicate 16 (.int .u32 0) := rfl
theorem tabI_get {j : Nat} (h : j < 16) : (tabI 16)[j]? = some (.int .u32 ((stepK 4 j : Nat) : Int)) := by
 unfold tabI tabN
 rw [List.getElem?_map, List.getElem?_map, List.getElem?_range h]
 show some (Value.int .u32 (((if j < 16 then stepK 4 j else 0 : Nat)) : Int)) = _
 rw [if_pos h]
theorem tabI_set {n : Nat} (h : n < 16) : (tabI n).set n (.int .u32 ((stepK 4 n : Nat) : Int)) = tabI (n + 1) := by
 apply List.ext_getElem?
 intro i
 rw [List.getElem?_set, tabI_length]
 by_cases hi : i < 16
 ·unfold tabI tabN
  rw [List.getElem?_map, List.getElem?_map, List.getElem?_map, List.getElem?_map, List.getElem?_range hi]
  simp only [Option.map_some]
  split
  ·rename_i e; subst e
   rw [if_pos (show n < n + 1 by omega)]
  by_cases c : i < n
  ·rw [if_pos c, if_pos (show i < n + 1 by omega)]
  rw [if_neg c, if_neg (show ¬ i < n + 1 by omega)]
 rw [if_neg (by omega), List.getElem?_eq_none (by rw [tabI_length]; omega), List.getElem?_eq_none (by rw [tabI_length]; omega)]
theorem tabI_one (n : Nat) : oneCells (tabI n) := by
 intro c hc
 obtain ⟨x, _, rfl⟩ := List.mem_map.1 hc
 rfl
theorem crcX_succ {s : Nat} {b : List UInt8} {i : Nat} (h : i < b.length) : crcX s (b.take (i + 1)) = stepK 8 (crcX s (b.take i) ^^^ (b.getD i 0).toNat) := by
 unfold crcX; rw [takeG 0 h, List.foldl_append]; rfl
theorem fixed4 (s : Nat) : fixed 4 s = [(s % 256).toUInt8, (s / 256 % 256).toUInt8, (s / 65536 % 256).toUInt8, (s / 16777216 % 256).toUInt8] := by
 show [(s / 256 ^ 0 % 256).toUInt8, (s / 256 ^ 1 % 256).toUInt8, (s / 256 ^ 2 % 256).toUInt8, (s / 256 ^ 3 % 256).toUInt8] = _
 rw [Nat.pow_zero, Nat.div_one]
theorem byte4 (m : Nat) : Value.int .u8 (IntKind.u8.wrap (m : Int)) = byteV (m % 256).toUInt8 := by
 have := byte_mod m
 rw [Int.emod_emod_of_dvd _ (Int.dvd_refl _)] at this
 rw [wrap_u8]; exact this
def sealF (b : List UInt8) : List UInt8 := b ++ fixed 4 (crcN 0 b)
def openF (b : List UInt8) : List UInt8 × Int := if b.length < 4 then ([], 11) else if fixed 4 (crcN 0 (b.take (b.length - 4))) = b.drop (b.length - 4) then (b.take (b.length - 4), 0) else ([], 10)
theorem open_short {b : List UInt8} (h : b.length < 4) : openF b = ([], 11) := by unfold openF; rw [if_pos h]
theorem open_sum {b : List UInt8} (h : ¬ b.length < 4) (h2 : ¬ fixed 4 (crcN 0 (b.take (b.length - 4))) = b.drop (b.length - 4)) : openF b = ([], 10) := by unfold openF; rw [if_neg h, if_neg h2]
theorem open_ok {b : List UInt8} (h : ¬ b.length < 4) (h2 : fixed 4 (crcN 0 (b.take (b.length - 4))) = b.drop (b.length - 4)) : openF b = (b.take (b.length - 4), 0) := by unfold openF; rw [if_neg h, if_pos h2]
theorem seal_eq {b : List UInt8} (h : ¬ b.length < 4) : (sealF (b.take (b.length - 4)) = b) ↔ fixed 4 (crcN 0 (b.take (b.length - 4))) = b.drop (b.length - 4) := by
 unfold sealF
 constructor
 ·intro h2
  have h3 := congrArg (List.drop (b.length - 4)) h2
  rwa [List.drop_left' (by rw [List.length_take]; omega)] at h3
 intro h2
 rw [h2, List.take_append_drop]
theorem openF_len (b : List UInt8) : (openF b).1.length ≤ b.length := by
 unfold openF
 split
 ·simp
 split
 ·dsimp only; rw [List.length_take]; omega
 simp
theorem step_ok (x : Nat) (hx : x < 4294967296) (w : World) : Calls Tryz.prog 132 [.int .u32 (x : Nat)].toArray w (Rt fun r w' => r = .int .u32 ((stepN x : Nat) : Int) ∧ Upd [] w w') := by
 have hM0 : Mem w [] w [] := Mem.nil w []
 refine calls_vc mixed Tryz.func132 rfl C132 (by simp [Tryz.ntmps132]) <| seq fun _ h1 => mv <| h1 _ _ <| seq fun _ h2 => seq fun _ h3 => mv <| stp (v := .int .u32 (x % 2 : Nat)) (o_bin rfl rfl (and1 hx)) <| bn rfl rfl <| h3 _ _ <| cndP rfl (fun c4 => ?_) (fun c4 => ?_)
 ·refine seq fun _ h5 => mv <| stp (v := .int .u32 (x / 2 : Nat)) (o_shr rfl rfl (by omega) (shr32 (j := 1) (by omega) rfl)) <| stp (v := .int .u32 (x / 2 ^^^ 2197175160 : Nat)) (o_bin rfl rfl (v_int (xor32 (a := x / 2) (b := 2197175160) (by omega) (by omega)))) <| mv <| h5 _ _ <| ⟨(.int .u32 (x / 2 ^^^ 2197175160 : Nat)), rfl, ⟨by unfold stepN; rw [if_pos (by omega)], hM0.upd⟩⟩
 refine h2 _ _ <| seq fun _ h6 => mv <| stp (v := .int .u32 (x / 2 : Nat)) (o_shr rfl rfl (by omega) (shr32 (j := 1) (by omega) rfl)) <| mv <| h6 _ _ <| ⟨(.int .u32 (x / 2 : Nat)), rfl, ⟨by unfold stepN; rw [if_neg (by omega)], hM0.upd⟩⟩
theorem M_ok (x : Nat) (hx : x < 4294967296) (w : World) : Calls Tryz.prog 123 [.int .u32 (x : Nat)].toArray w (Rt fun r w' => r = .int .u32 ((stepN x : Nat) : Int) ∧ Upd [] w w') := by
 have hM0 : Mem w [] w [] := Mem.nil w []
 refine calls_vc mixed Tryz.func123 rfl C123 (by simp [Tryz.ntmps123]) <| seq fun _ h1 => mv <| h1 _ _ <| seq fun _ h2 => seq fun _ h3 => mv <| stp (v := .int .u32 (x % 2 : Nat)) (o_rem rfl rfl (by omega) ((v_rem (Int.natCast_nonneg _)).trans rfl)) <| bn rfl rfl <| h3 _ _ <| cndP rfl (fun c4 => ?_) (fun c4 => ?_)
 ·refine seq fun _ h5 => mv <| stp (v := .int .u32 (x / 2 : Nat)) (o_shr rfl rfl (by omega) (shr32 (j := 1) (by omega) rfl)) <| stp (v := .int .u32 (x / 2 ^^^ 2197175160 : Nat)) (o_bin rfl rfl (v_int (xor32 (a := x / 2) (b := 2197175160) (by omega) (by omega)))) <| mv <| h5 _ _ <| ⟨(.int .u32 (x / 2 ^^^ 2197175160 : Nat)), rfl, ⟨by unfold stepN; rw [if_pos (by omega)], hM0.upd⟩⟩
 refine h2 _ _ <| seq fun _ h6 => mv <| stp (v := .int .u32 (x / 2 : Nat)) (o_shr rfl rfl (by omega) (shr32 (j := 1) (by omega) rfl)) <| mv <| h6 _ _ <| ⟨(.int .u32 (x / 2 : Nat)), rfl, ⟨by unfold stepN; rw [if_neg (by omega)], hM0.upd⟩⟩
set_option maxRecDepth 100000 in
theorem sums_ok (w : World) : Calls Tryz.prog 121 [].toArray w (Rt fun r w' => r = .agg (tabI 16).toArray ∧ Upd [] w w') := by
 have hM0 : Mem w [] w [] := Mem.nil w []
 refine calls_vc mixed Tryz.func121 rfl C121 (by simp [Tryz.ntmps121]) <| seq fun _ h1 => m_al hM0 fun b2 w3 (hM3 : Mem _ _ w3 [[⟨b2, 177, (List.replicate 16 (.int .u32 0))⟩]]) => h1 _ _ <| seq fun _ h4 => m_al hM3 fun b5 w6 (hM6 : Mem _ _ w6 [_, [⟨b5, 177, (List.replicate 16 (.int .u32 0))⟩]]) => h4 _ _ <| seq fun _ h7 => seq fun _ h8 => mv <| h8 _ _ <| lp (n := fun _ _ => False) (ι := (Nat)) (fun i f w' => f 4 = .int .i64 (i : Nat) ∧ f 0 = .pointer (some ⟨b2, 0, none⟩) ∧ f 1 = .pointer (some ⟨b5, 0, none⟩) ∧ Mem w [] w' [[⟨b2, 177, (List.replicate 16 (.int .u32 0))⟩], [⟨b5, 177, tabI i⟩]] ∧ (i ≤ 16)) (fun i => 16 - i) (0) ?_ ?_
 ·exact ⟨vi, rfl, rfl, (by rw [tabI_zero]; exact hM6), by omega⟩
 rintro i f w9 ⟨e9_4, e9_0, e9_1, hM9, hi⟩ K10 h10
 obtain ⟨frm, rfl⟩ := re3 e9_4 e9_0 e9_1
 refine seq fun _ h11 => bn rfl rfl <| h11 _ _ <| seq fun _ h12 => cndP rfl (fun c13 => ?_) (fun c13 => ?_)
 ·refine h12 _ _ <| seq fun _ h14 => seq fun _ h15 => mv <| mv <| h15 _ _ <| seq fun _ h16 => mv <| stp (v := .int .u32 (i : Nat)) (o_conv rfl (by rw [wrap_u32]; exact v_int (by omega))) <| mv <| h16 _ _ <| seq fun _ h17 => seq fun _ h18 => mv ?_
  refine h18 _ _ <| lp (n := fun _ _ => False) (ι := (Nat)) (fun j f w' => f 9 = .int .i64 (j : Nat) ∧ f 3 = .int .u32 (stepK j i : Nat) ∧ f 0 = .pointer (some ⟨b2, 0, none⟩) ∧ f 1 = .pointer (some ⟨b5, 0, none⟩) ∧ f 2 = .int .i64 (i : Nat) ∧ f 4 = .int .i64 (i : Nat) ∧ Mem w [] w' [[⟨b2, 177, (List.replicate 16 (.int .u32 0))⟩], [⟨b5, 177, tabI i⟩]] ∧ (j ≤ 4)) (fun j => 4 - j) (0) ?_ ?_
  ·exact ⟨vi, vi, rfl, rfl, vi, vi, hM9, by omega⟩
  rintro j f w19 ⟨e19_9, e19_3, e19_0, e19_1, e19_2, e19_4, hM19, hj⟩ K20 h20
  obtain ⟨frm, rfl⟩ := re6 e19_9 e19_3 e19_0 e19_1 e19_2 e19_4
  refine seq fun _ h21 => bn rfl rfl <| h21 _ _ <| seq fun _ h22 => cndP rfl (fun c23 => ?_) (fun c23 => ?_)
  ·refine h22 _ _ <| seq fun _ h24 => mv <| m_call (step_ok (stepK j i) (by first | exact stepK_lt (by omega) _ | omega | assumption) w19) rfl fun v25 w25 ⟨hr25, hu25⟩ => ?_
   have hM25 : Mem w [] w25 [[⟨b2, 177, (List.replicate 16 (.int .u32 0))⟩], [⟨b5, 177, tabI i⟩]] := hM19.pure hu25
   subst hr25
   refine mv <| h24 _ _ <| stp (v := .int .i64 ((j : Nat) + 1)) (o_bin rfl rfl (v_add64 (by omega))) <| mv <| h20 (j + 1) _ _ ⟨vi, vi, rfl, rfl, vi, vi, hM25, by omega⟩ (by (try dsimp only); omega)
  refine h17 _ _ <| mv <| mv <| stp (v := .pointer (some ⟨b5, i, none⟩)) (o_idxa rfl rfl (by omega) (v_ptr (by first | (rw [Int.toNat_natCast, Nat.mul_one]; done) | (simp; done) | omega))) <| m_st (v := .int .u32 (stepK j i : Nat)) hM19 (i := 1) rfl rfl rfl rfl (by rw [tabI_length]; omega) fun w26 hm26 => ?_
  have hM26 : Mem w [] w26 [[⟨b2, 177, (List.replicate 16 (.int .u32 0))⟩], [⟨b5, 177, tabI (i + 1)⟩]] := by
   have e : (tabI i).set i (.int .u32 (stepK j i : Nat)) = (tabI (i + 1)) := by rw [show j = 4 by omega]; exact tabI_set (by omega)
   rw [← e]; exact hm26
  refine h14 _ _ <| stp (v := .int .i64 ((i : Nat) + 1)) (o_bin rfl rfl (v_add64 (by omega))) <| mv <| h10 (i + 1) _ _ ⟨vi, rfl, rfl, hM26, by omega⟩ (by (try dsimp only); omega)
 refine h7 _ _ <| seq fun _ h27 => ldA (cs := (tabI i)) rfl (by first | rfl | simp [tabI_length]) ((hM9.at (i := 1) (j := 0) rfl rfl).all) <| m_stA (l := (tabI i)) hM9 (i := 0) rfl rfl rfl (by simp [tabI_length]) (tabI_one _) (by simp) fun w28 hm28 => ?_
 have hM28 : Mem w [] w28 [[⟨b2, 177, (tabI i)⟩], [⟨b5, 177, tabI i⟩]] := by
  have e : splice (List.replicate 16 (.int .u32 0)) 0 (tabI i) = (tabI i) := splice_full (by simp; first | done | (simp [tabI_length]) | omega)
  rw [e] at hm28
  exact hm28
 refine h27 _ _ ?_
 show resV _ _ _ _ _
 refine res_cell (s := some 16) (by kernel_rfl) <| vl_ldA (cs := (tabI i)) rfl (by simp [tabI_length]) (hM28.at (i := 0) (j := 0) rfl rfl).all <| ⟨(.agg (((tabI i)).toArray)), rfl, ?_⟩
 rw [show i = 16 by omega]
 exact ⟨rfl, hM28.upd⟩
theorem Extend_ok (s : Nat) (hs : s < 4294967296) (x : Value) (b : List UInt8) (w : World) (hx : RdE byteV w x b) (hl : b.length ≤ 140737488355328) : Calls Tryz.prog 93 [.int .u32 (s : Nat), x].toArray w (Rt fun r w' => r = .int .u32 ((crcN s b : Nat) : Int) ∧ Upd [] w w') := by
 have hM0 : Mem w [] w [] := Mem.nil w []
 refine calls_vc mixed Tryz.func93 rfl C93 (by simp [Tryz.ntmps93]) <| seq fun _ h1 => mv <| h1 _ _ <| seq fun _ h2 => mv <| stp (v := .int .u32 (4294967295 - s : Nat)) (o_bin rfl rfl (v_int (xor32_cpl (by omega)))) <| mv <| h2 _ _ <| seq fun _ h3 => m_call (sums_ok w) rfl fun v4 w4 ⟨hr4, hu4⟩ => ?_
 have hM4 : Mem _ _ w4 [] := hM0.pure hu4
 subst hr4
 refine m_al hM4 fun b5 w6 (hM6 : Mem _ _ w6 [[⟨b5, 177, (List.replicate 16 (.int .u32 0))⟩]]) => m_stA (l := (tabI 16)) hM6 (i := 0) rfl rfl rfl (by simp [tabI_length]) (tabI_one _) (by simp) fun w7 hm7 => ?_
 have hM7 : Mem w [] w7 [[⟨b5, 177, (tabI 16)⟩]] := by
  have e : splice (List.replicate 16 (.int .u32 0)) 0 (tabI 16) = (tabI 16) := splice_full (by simp; first | done | (simp [tabI_length]) | omega)
  rw [e] at hm7
  exact hm7
 refine h3 _ _ <| seq fun _ h8 => seq fun _ h9 => mv <| stp (v := .int .i64 (b.length : Nat)) (o_lenR (hx.upd hM7.upd) rfl rfl) <| mv <| h9 _ _ <| lp (n := fun _ _ => False) (ι := (Nat) × (Nat)) (fun ⟨i, X⟩ f w' => f 14 = .int .i64 (i : Nat) ∧ f 5 = .int .u32 (X : Nat) ∧ f 6 = .pointer (some ⟨b5, 0, none⟩) ∧ f 12 = x ∧ f 13 = .int .i64 (b.length : Nat) ∧ Mem w [] w' [[⟨b5, 177, (tabI 16)⟩]] ∧ (i ≤ b.length) ∧ (X = crcX (4294967295 - s) (b.take i)) ∧ (X < 4294967296)) (fun ⟨i, X⟩ => b.length - i) (0, 4294967295 - s) ?_ ?_
 ·exact ⟨vi, vi, rfl, rfl, vi, hM7, by omega, rfl, by omega⟩
 rintro ⟨i, X⟩ f w10 ⟨e10_14, e10_5, e10_6, e10_12, e10_13, hM10, hi, hX, hXl⟩ K11 h11
 obtain ⟨frm, rfl⟩ := re5 e10_14 e10_5 e10_6 e10_12 e10_13
 refine seq fun _ h12 => bn rfl rfl <| h12 _ _ <| seq fun _ h13 => cndP rfl (fun c14 => ?_) (fun c14 => ?_)
 ·refine h13 _ _ <| seq fun _ h15 => seq fun _ h16 => ?_
  have hc8 := (b.getD i 0).toNat_lt
  have hY : X ^^^ (b.getD i 0).toNat < 4294967296 := xor32_lt hXl (by omega)
  have hZ := stepK_lt hY 4
  have hN := nib (X ^^^ (b.getD i 0).toNat)
  have hN2 := nib (stepK 4 (X ^^^ (b.getD i 0).toNat))
  have hS := stepK_lt (x := (X ^^^ (b.getD i 0).toNat) % 16) (by omega) 4
  have hS2 := stepK_lt (x := (stepK 4 (X ^^^ (b.getD i 0).toNat)) % 16) (by omega) 4
  refine m_idxE 0 (j := i) (hx.upd hM10.upd) rfl rfl (by omega) fun b17 o17 hp17 => ld (v := byteV (b.getD i 0)) rfl (hp17) <| mv <| h16 _ _ <| seq fun _ h18 => mv <| mv <| stp (v := .int .u32 ((b.getD i 0).toNat : Nat)) (o_conv rfl (by rw [wrap_u32]; exact v_int (by have := (b.getD i 0).toNat_lt; omega))) <| stp (v := .int .u32 ((X ^^^ (b.getD i 0).toNat) : Nat)) (o_bin rfl rfl (v_int (xor32 hXl (by omega)))) <| mv <| h18 _ _ <| seq fun _ h19 => mv <| stp (v := .int .u32 ((X ^^^ (b.getD i 0).toNat) / 16 : Nat)) (o_shr rfl rfl (by omega) (shr32 (j := 4) (by omega) rfl)) ?_
  refine mv <| stp (v := .int .u32 ((X ^^^ (b.getD i 0).toNat) % 16 : Nat)) (o_bin rfl rfl (and15 hY)) <| stp (v := .pointer (some ⟨b5, (X ^^^ (b.getD i 0).toNat) % 16, none⟩)) (o_idxa rfl rfl (by omega) (v_ptr (by first | (rw [Int.toNat_natCast, Nat.mul_one]; done) | (simp; done) | omega))) <| ld (v := .int .u32 (stepK 4 ((X ^^^ (b.getD i 0).toNat) % 16) : Nat)) rfl (((hM10.at (i := 0) (j := 0) rfl rfl).cell _).trans (tabI_get (by omega))) <| stp (v := .int .u32 ((stepK 4 (X ^^^ (b.getD i 0).toNat)) : Nat)) (o_bin rfl rfl ((v_int (xor32 (by omega) hS)).trans (by rw [hN]))) <| mv <| h19 _ _ <| mv <| stp (v := .int .u32 ((stepK 4 (X ^^^ (b.getD i 0).toNat)) / 16 : Nat)) (o_shr rfl rfl (by omega) (shr32 (j := 4) (by omega) rfl)) <| mv <| stp (v := .int .u32 ((stepK 4 (X ^^^ (b.getD i 0).toNat)) % 16 : Nat)) (o_bin rfl rfl (and15 hZ)) <| stp (v := .pointer (some ⟨b5, (stepK 4 (X ^^^ (b.getD i 0).toNat)) % 16, none⟩)) (o_idxa rfl rfl (by omega) (v_ptr (by first | (rw [Int.toNat_natCast, Nat.mul_one]; done) | (simp; done) | omega))) <| ld (v := .int .u32 (stepK 4 ((stepK 4 (X ^^^ (b.getD i 0).toNat)) % 16) : Nat)) rfl (((hM10.at (i := 0) (j := 0) rfl rfl).cell _).trans (tabI_get (by omega))) <| stp (v := .int .u32 (stepK 4 (stepK 4 (X ^^^ (b.getD i 0).toNat)) : Nat)) (o_bin rfl rfl ((v_int (xor32 (by omega) hS2)).trans (by rw [hN2]))) ?_
  refine mv <| h15 _ _ <| stp (v := .int .i64 ((i : Nat) + 1)) (o_bin rfl rfl (v_add64 (by omega))) <| mv <| h11 (i + 1, stepK 4 (stepK 4 (X ^^^ (b.getD i 0).toNat))) _ _ ⟨vi, vi, rfl, rfl, vi, hM10, by omega, by rw [stepK_add, crcX_succ (by omega), ← hX], stepK_lt hZ 4⟩ (by (try dsimp only); omega)
 refine h8 _ _ <| seq fun _ h20 => mv <| stp (v := .int .u32 (4294967295 - X : Nat)) (o_bin rfl rfl (v_int (xor32_cpl hXl))) <| mv <| h20 _ _ <| ⟨(.int .u32 (4294967295 - X : Nat)), rfl, ?_⟩
 have e : b.take i = b := List.take_of_length_le (by omega)
 rw [e] at hX
 exact ⟨by unfold crcN; rw [← hX], hM10.upd⟩
theorem refExtend_ok (s : Nat) (hs : s < 4294967296) (x : Value) (b : List UInt8) (w : World) (hx : RdE byteV w x b) (hl : b.length ≤ 140737488355328) : Calls Tryz.prog 103 [.int .u32 (s : Nat), x].toArray w (Rt fun r w' => r = .int .u32 ((crcN s b : Nat) : Int) ∧ Upd [] w w') := by
 have hM0 : Mem w [] w [] := Mem.nil w []
 refine calls_vc mixed Tryz.func103 rfl C103 (by simp [Tryz.ntmps103]) <| seq fun _ h1 => mv <| h1 _ _ <| seq fun _ h2 => mv <| stp (v := .int .u32 (4294967295 - s : Nat)) (o_bin rfl rfl (v_int (xor32_cpl (by omega)))) <| mv <| h2 _ _ <| seq fun _ h3 => seq fun _ h4 => mv <| h4 _ _ <| lp (n := fun _ _ => False) (ι := (Nat) × (Nat)) (fun ⟨i, X⟩ f w' => f 6 = .int .i64 (i : Nat) ∧ f 5 = .int .u32 (X : Nat) ∧ f 1 = x ∧ Mem w [] w' [] ∧ (i ≤ b.length) ∧ (X = crcX (4294967295 - s) (b.take i)) ∧ (X < 4294967296)) (fun ⟨i, X⟩ => b.length - i) (0, 4294967295 - s) ?_ ?_
 ·exact ⟨vi, vi, rfl, hM0, by omega, rfl, by omega⟩
 rintro ⟨i, X⟩ f w5 ⟨e5_6, e5_5, e5_1, hM5, hi, hX, hXl⟩ K6 h6
 obtain ⟨frm, rfl⟩ := re3 e5_6 e5_5 e5_1
 refine seq fun _ h7 => seq fun _ h8 => mv <| mv <| stp (v := .int .i64 (b.length : Nat)) (o_lenR (hx.upd hM5.upd) rfl rfl) <| bn rfl rfl <| h8 _ _ <| cndP rfl (fun c9 => ?_) (fun c9 => ?_)
 ·refine h7 _ _ <| seq fun _ h10 => seq fun _ h11 => ?_
  have hc8 := (b.getD i 0).toNat_lt
  have hY : X ^^^ (b.getD i 0).toNat < 4294967296 := xor32_lt hXl (by omega)
  have hZ := stepK_lt hY 4
  have hN := nib (X ^^^ (b.getD i 0).toNat)
  have hN2 := nib (stepK 4 (X ^^^ (b.getD i 0).toNat))
  have hS := stepK_lt (x := (X ^^^ (b.getD i 0).toNat) % 16) (by omega) 4
  have hS2 := stepK_lt (x := (stepK 4 (X ^^^ (b.getD i 0).toNat)) % 16) (by omega) 4
  refine mv <| mv <| mv <| m_idxE 0 (j := i) (hx.upd hM5.upd) rfl rfl (by omega) fun b12 o12 hp12 => ld (v := byteV (b.getD i 0)) rfl (hp12) <| stp (v := .int .u32 ((b.getD i 0).toNat : Nat)) (o_conv rfl (by rw [wrap_u32]; exact v_int (by have := (b.getD i 0).toNat_lt; omega))) <| stp (v := .int .u32 ((X ^^^ (b.getD i 0).toNat) : Nat)) (o_bin rfl rfl (v_int (xor32 hXl (by omega)))) <| mv <| h11 _ _ <| seq fun _ h13 => mv <| h13 _ _ <| lp (n := fun _ _ => False) (ι := (Nat)) (fun k f w' => f 7 = .int .i64 (k : Nat) ∧ f 5 = .int .u32 (stepK k (X ^^^ (b.getD i 0).toNat) : Nat) ∧ f 1 = x ∧ f 6 = .int .i64 (i : Nat) ∧ Mem w [] w' [] ∧ (k ≤ 8) ∧ ((X ^^^ (b.getD i 0).toNat) < 4294967296)) (fun k => 8 - k) (0) ?_ ?_
  ·exact ⟨vi, vi, rfl, vi, hM5, by omega, by assumption⟩
  rintro k f w14 ⟨e14_7, e14_5, e14_1, e14_6, hM14, hk, hY⟩ K15 h15
  obtain ⟨frm, rfl⟩ := re4 e14_7 e14_5 e14_1 e14_6
  refine seq fun _ h16 => seq fun _ h17 => mv <| bn rfl rfl <| h17 _ _ <| cndP rfl (fun c18 => ?_) (fun c18 => ?_)
  ·refine h16 _ _ <| seq fun _ h19 => mv <| m_call (M_ok (stepK k (X ^^^ (b.getD i 0).toNat)) (by first | exact stepK_lt (by omega) _ | omega | assumption) w14) rfl fun v20 w20 ⟨hr20, hu20⟩ => ?_
   have hM20 : Mem w [] w20 [] := hM14.pure hu20
   subst hr20
   refine mv <| h19 _ _ <| mv <| stp (v := .int .i64 ((k : Nat) + 1)) (o_bin rfl rfl (v_add64 (by omega))) <| mv <| h15 (k + 1) _ _ ⟨vi, vi, rfl, vi, hM20, by omega, hY⟩ (by (try dsimp only); omega)
  refine h10 _ _ <| mv <| stp (v := .int .i64 ((i : Nat) + 1)) (o_bin rfl rfl (v_add64 (by omega))) <| mv <| h6 (i + 1, stepK k (X ^^^ (b.getD i 0).toNat)) _ _ ⟨vi, vi, rfl, hM14, by omega, by rw [crcX_succ (by omega), ← hX, show k = 8 by omega], stepK_lt hY k⟩ (by (try dsimp only); omega)
 refine h3 _ _ <| seq fun _ h21 => mv <| stp (v := .int .u32 (4294967295 - X : Nat)) (o_bin rfl rfl (v_int (xor32_cpl hXl))) <| mv <| h21 _ _ <| ⟨(.int .u32 (4294967295 - X : Nat)), rfl, ?_⟩
 have e : b.take i = b := List.take_of_length_le (by omega)
 rw [e] at hX
 exact ⟨by unfold crcN; rw [← hX], hM5.upd⟩
end Go.Proofs.YtifnmbmijljhfaaGreat.E
namespace Go.Proofs.YtifnmbmijljhfaaGreat.E
open Go
theorem Sum_ok (x : Value) (b : List UInt8) (w : World) (hx : RdE byteV w x b) (hl : b.length ≤ 140737488355328) : Calls Tryz.prog 58 [x].toArray w (Rt fun r w' => r = .int .u32 ((crcN 0 b : Nat) : Int) ∧ Upd [] w w') := by
 have hM0 : Mem w [] w [] := Mem.nil w []
 refine calls_vc mixed Tryz.func58 rfl C58 (by simp [Tryz.ntmps58]) <| seq fun _ h1 => mv <| h1 _ _ <| seq fun _ h2 => mv <| m_call (Extend_ok 0 (by omega) _ b w (hx.upd hM0.upd) (by first | omega | (simp; done) | (simp; omega))) rfl fun v3 w3 ⟨hr3, hu3⟩ => ?_
 have hM3 : Mem _ _ w3 [] := hM0.pure hu3
 subst hr3
 refine mv <| h2 _ _ <| ⟨(.int .u32 (crcN 0 b : Nat)), rfl, ⟨rfl, hM3.upd⟩⟩
theorem refSum_ok (x : Value) (b : List UInt8) (w : World) (hx : RdE byteV w x b) (hl : b.length ≤ 140737488355328) : Calls Tryz.prog 66 [x].toArray w (Rt fun r w' => r = .int .u32 ((crcN 0 b : Nat) : Int) ∧ Upd [] w w') := by
 have hM0 : Mem w [] w [] := Mem.nil w []
 refine calls_vc mixed Tryz.func66 rfl C66 (by simp [Tryz.ntmps66]) <| seq fun _ h1 => mv <| h1 _ _ <| seq fun _ h2 => mv <| m_call (refExtend_ok 0 (by omega) _ b w (hx.upd hM0.upd) (by first | omega | (simp; done) | (simp; omega))) rfl fun v3 w3 ⟨hr3, hu3⟩ => ?_
 have hM3 : Mem _ _ w3 [] := hM0.pure hu3
 subst hr3
 refine mv <| h2 _ _ <| ⟨(.int .u32 (crcN 0 b : Nat)), rfl, ⟨rfl, hM3.upd⟩⟩
theorem four_ok (s : Nat) (_hs : s < 4294967296) (w : World) : Calls Tryz.prog 57 [.int .u32 (s : Nat)].toArray w (Rt fun r w' => ∃ rs, SlE byteV 5 r (fixed 4 s) rs ∧ Mem w [] w' [rs]) := by
 have hM0 : Mem w [] w [] := Mem.nil w []
 refine calls_vc mixed Tryz.func57 rfl C57 (by simp [Tryz.ntmps57]) <| seq fun _ h1 => mv <| h1 _ _ <| seq fun _ h2 => mv <| stp (v := byteV ((s % 256).toUInt8)) (o_conv rfl (byte4 _)) <| mv <| stp (v := .int .u32 (s / 256 : Nat)) (o_shr rfl rfl (by omega) (shr32 (j := 8) (by omega) rfl)) <| stp (v := byteV (((s / 256) % 256).toUInt8)) (o_conv rfl (byte4 _)) <| mv <| stp (v := .int .u32 (s / 65536 : Nat)) (o_shr rfl rfl (by omega) (shr32 (j := 16) (by omega) rfl)) <| stp (v := byteV (((s / 65536) % 256).toUInt8)) (o_conv rfl (byte4 _)) <| mv ?_
 refine stp (v := .int .u32 (s / 16777216 : Nat)) (o_shr rfl rfl (by omega) (shr32 (j := 24) (by omega) rfl)) <| stp (v := byteV (((s / 16777216) % 256).toUInt8)) (o_conv rfl (byte4 _)) <| m_bs hM0 rfl fun b3 w4 (hM4 : Mem _ _ w4 [[⟨b3, 5, [byteV ((s % 256).toUInt8), byteV (((s / 256) % 256).toUInt8), byteV (((s / 65536) % 256).toUInt8), byteV (((s / 16777216) % 256).toUInt8)]⟩]]) => mv <| h2 _ _ <| ⟨(.slice (some ⟨b3, 0, none⟩) 4 4), rfl, ?_⟩
 rw [fixed4]
 exact ⟨_, ⟨by simp, .inr ⟨_, 4, [], rfl, rfl, by simp, by simp⟩⟩, hM4⟩
theorem Open_ok (x : Value) (b : List UInt8) (w : World) (hx : RdE byteV w x b) (hl : b.length ≤ 140737488355328) : Calls Tryz.prog 35 [x].toArray w (Rt fun r w' => ∃ v rs, r = .tuple #[v, .int .i64 (openF b).2] ∧ SlE byteV 5 v (openF b).1 rs ∧ Mem w [] w' [rs]) := by
 have hM0 : Mem w [] w [] := Mem.nil w []
 refine calls_vc mixed Tryz.func35 rfl C35 (by simp [Tryz.ntmps35]) <| seq fun _ h1 => mv <| mv <| h1 _ _ <| seq fun _ h2 => mv <| stp (v := .int .i64 (b.length : Nat)) (o_lenR (hx.upd hM0.upd) rfl rfl) <| stp (v := .int .i64 ((b.length : Nat) - 4)) (o_bin rfl rfl (v_sub64 (by omega))) <| mv <| h2 _ _ <| seq fun _ h3 => seq fun _ h4 => mv ?_
 refine bn rfl rfl <| h4 _ _ <| cndP rfl (fun c5 => ?_) (fun c5 => ?_)
 ·refine seq fun _ h6 => mv <| mv <| h6 _ _ <| ⟨(.tuple [.slice none 0 0, .int .i64 11].toArray), rfl, ?_⟩
  have je := open_short (b := b) (by omega)
  exact ⟨_, [], by rw [je], by rw [je]; exact Sl.nil 1 5, (hM0.addNil).keep (by simp)⟩
 refine h3 _ _ <| seq fun _ h7 => seq fun _ h8 => ?_
 intro wd e1 e2 e3 e4
 have hd := Upd.same e1 e2 e3 e4 []
 have hM9 := hM0.pure hd
 clear e1 e2 e3 e4
 refine ⟨(some []), ?_⟩
 show vd _ _ _ _ _ _ _
 refine dmv <| dmv <| dqp (m_slcE 0 (b.length - 4) (hx) rfl (by omega) (by omega) ⟨_, v_int (by omega)⟩ rfl fun u10 hu10 => ?_)
 show vd _ _ _ _ _ _ _
 refine dmv <| dmv <| dqp (m_slcE (b.length - 4) b.length (hx) rfl (by omega) (by omega) rfl ⟨_, v_int (by omega)⟩ fun u11 hu11 => ?_)
 show vd _ _ _ _ _ _ _
 show _ ∧ _
 refine ⟨?_, ?_⟩
 ·show vd _ _ _ _ _ _ _
  refine dl (m_call (Sum_ok _ ((b.take (b.length - 4)).drop 0) wd ((hu10.upd hM9.upd)) (by first | omega | (simp; done) | (simp; omega))) rfl fun v12 w12 ⟨hr12, hu12⟩ => ?_)
  have hM12 : Mem w [] w12 [] := hM9.pure hu12
  subst hr12
  have hcl12 := crcN_lt 0 ((b.take (b.length - 4)).drop 0)
  refine ⟨(fun b hb => by cases hb), ?_⟩
  show _ ∧ _
  refine ⟨?_, ?_⟩
  ·show vd _ _ _ _ _ _ _
   refine dl (m_call (four_ok (crcN 0 ((b.take (b.length - 4)).drop 0)) (by first | assumption | exact crcN_lt _ _ | omega) w12) rfl fun v13 w13 ⟨rs13, hs13, hm13⟩ => ?_)
   have hM13 : Mem _ _ w13 [rs13] := hM12.add hm13
   refine ⟨(fun b hb => by cases hb), ?_⟩
   show _ ∧ _
   refine ⟨?_, ?_⟩
   ·show vd _ _ _ _ _ _ _
    refine dl (m_b2s rfl (hs13.rd hM13 (i := 0) rfl) <| ⟨(fun b hb => by cases hb), dl (m_b2s rfl ((hu11.upd hM13.upd)) <| ⟨(fun b hb => by cases hb), dq (v := .bool (decide (¬ (fixed 4 (crcN 0 ((b.take (b.length - 4)).drop 0))) = ((b.take b.length).drop (b.length - 4))))) (o_sne rfl rfl rfl) <| h8 _ _ <| cndP rfl (fun hsT => ?_) (fun hsF => ?_)⟩)⟩)
    ·refine seq fun _ h15 => mv <| mv <| h15 _ _ <| ⟨(.tuple [.slice none 0 0, .int .i64 10].toArray), rfl, ?_⟩
     have je := open_sum (b := b) (by omega) (by simpa using hsT)
     exact ⟨_, [], by rw [je], by rw [je]; exact Sl.nil 1 5, (hM13.addNil).keep (by simp)⟩
    refine h7 _ _ <| seq fun _ h16 => m_bs hM13 rfl fun b17 w18 (hM18 : Mem _ _ w18 [_, [⟨b17, 5, []⟩]]) => mv <| mv <| m_slcE 0 (b.length - 4) (hx) rfl (by omega) (by omega) ⟨_, v_int (by omega)⟩ rfl fun u19 hu19 => ?_
    have hs20 : SlE byteV 5 (.slice (some ⟨b17, 0, none⟩) 0 0) [] [⟨b17, 5, []⟩] := SlE.lit (l := []) rfl
    refine m_appE hM18 (i := 1) rfl hs20 rfl rfl ((hu19.upd hM18.upd)) (by first | omega | (simp; omega)) (by omega) fun v21 w21 r21 (hs21 : SlE byteV 5 v21 ((b.take (b.length - 4)).drop 0) r21) (hM21 : Mem _ _ w21 [_, r21]) => mv <| mv <| h16 _ _ <| ⟨(.tuple [v21, .int .i64 0].toArray), rfl, ?_⟩
    have je := open_ok (b := b) (by omega) (by simpa using hsF)
    exact ⟨_, _, by rw [je], by rw [je]; simpa using hs21, hM21.keep (by simp)⟩
   show vd _ _ _ _ _ _ _
   refine dl (m_b2s rfl ((hu11.upd hM13.upd)) <| ⟨(fun b hb => by cases hb), dl (m_b2s rfl (hs13.rd hM13 (i := 0) rfl) <| ⟨(fun b hb => by cases hb), dq (v := .bool (decide (¬ (fixed 4 (crcN 0 ((b.take (b.length - 4)).drop 0))) = ((b.take b.length).drop (b.length - 4))))) (o_sne rfl rfl rfl) <| h8 _ _ <| cndP rfl (fun hsT => ?_) (fun hsF => ?_)⟩)⟩)
   ·refine seq fun _ h23 => mv <| mv <| h23 _ _ <| ⟨(.tuple [.slice none 0 0, .int .i64 10].toArray), rfl, ?_⟩
    have je := open_sum (b := b) (by omega) (by simpa using hsT)
    exact ⟨_, [], by rw [je], by rw [je]; exact Sl.nil 1 5, (hM13.addNil).keep (by simp)⟩
   refine h7 _ _ <| seq fun _ h24 => m_bs hM13 rfl fun b25 w26 (hM26 : Mem _ _ w26 [_, [⟨b25, 5, []⟩]]) => mv <| mv <| m_slcE 0 (b.length - 4) (hx) rfl (by omega) (by omega) ⟨_, v_int (by omega)⟩ rfl fun u27 hu27 => ?_
   have hs28 : SlE byteV 5 (.slice (some ⟨b25, 0, none⟩) 0 0) [] [⟨b25, 5, []⟩] := SlE.lit (l := []) rfl
   refine m_appE hM26 (i := 1) rfl hs28 rfl rfl ((hu27.upd hM26.upd)) (by first | omega | (simp; omega)) (by omega) fun v29 w29 r29 (hs29 : SlE byteV 5 v29 ((b.take (b.length - 4)).drop 0) r29) (hM29 : Mem _ _ w29 [_, r29]) => mv <| mv <| h24 _ _ <| ⟨(.tuple [v29, .int .i64 0].toArray), rfl, ?_⟩
   have je := open_ok (b := b) (by omega) (by simpa using hsF)
   exact ⟨_, _, by rw [je], by rw [je]; simpa using hs29, hM29.keep (by simp)⟩
  show vd _ _ _ _ _ _ _
  refine dl (m_b2s rfl ((hu11.upd hM12.upd)) <| ⟨(fun b hb => by cases hb), dl (m_call (four_ok (crcN 0 ((b.take (b.length - 4)).drop 0)) (by first | assumption | exact crcN_lt _ _ | omega) w12) rfl fun v30 w30 ⟨rs30, hs30, hm30⟩ => ?_)⟩)
  have hM30 : Mem _ _ w30 [rs30] := hM12.add hm30
  refine ⟨(fun b hb => by cases hb), dl (m_b2s rfl (hs30.rd hM30 (i := 0) rfl) <| ⟨(fun b hb => by cases hb), dq (v := .bool (decide (¬ (fixed 4 (crcN 0 ((b.take (b.length - 4)).drop 0))) = ((b.take b.length).drop (b.length - 4))))) (o_sne rfl rfl rfl) <| h8 _ _ <| cndP rfl (fun hsT => ?_) (fun hsF => ?_)⟩)⟩
  ·refine seq fun _ h32 => mv <| mv <| h32 _ _ <| ⟨(.tuple [.slice none 0 0, .int .i64 10].toArray), rfl, ?_⟩
   have je := open_sum (b := b) (by omega) (by simpa using hsT)
   exact ⟨_, [], by rw [je], by rw [je]; exact Sl.nil 1 5, (hM30.addNil).keep (by simp)⟩
  refine h7 _ _ <| seq fun _ h33 => m_bs hM30 rfl fun b34 w35 (hM35 : Mem _ _ w35 [_, [⟨b34, 5, []⟩]]) => mv <| mv <| m_slcE 0 (b.length - 4) (hx) rfl (by omega) (by omega) ⟨_, v_int (by omega)⟩ rfl fun u36 hu36 => ?_
  have hs37 : SlE byteV 5 (.slice (some ⟨b34, 0, none⟩) 0 0) [] [⟨b34, 5, []⟩] := SlE.lit (l := []) rfl
  refine m_appE hM35 (i := 1) rfl hs37 rfl rfl ((hu36.upd hM35.upd)) (by first | omega | (simp; omega)) (by omega) fun v38 w38 r38 (hs38 : SlE byteV 5 v38 ((b.take (b.length - 4)).drop 0) r38) (hM38 : Mem _ _ w38 [_, r38]) => mv <| mv <| h33 _ _ <| ⟨(.tuple [v38, .int .i64 0].toArray), rfl, ?_⟩
  have je := open_ok (b := b) (by omega) (by simpa using hsF)
  exact ⟨_, _, by rw [je], by rw [je]; simpa using hs38, hM38.keep (by simp)⟩
 show vd _ _ _ _ _ _ _
 refine dl (m_b2s rfl ((hu11.upd hM9.upd)) <| ⟨(fun b hb => by cases hb), dl (m_call (Sum_ok _ ((b.take (b.length - 4)).drop 0) wd ((hu10.upd hM9.upd)) (by first | omega | (simp; done) | (simp; omega))) rfl fun v39 w39 ⟨hr39, hu39⟩ => ?_)⟩)
 have hM39 : Mem w [] w39 [] := hM9.pure hu39
 subst hr39
 have hcl39 := crcN_lt 0 ((b.take (b.length - 4)).drop 0)
 refine ⟨(fun b hb => by cases hb), dl (m_call (four_ok (crcN 0 ((b.take (b.length - 4)).drop 0)) (by first | assumption | exact crcN_lt _ _ | omega) w39) rfl fun v40 w40 ⟨rs40, hs40, hm40⟩ => ?_)⟩
 have hM40 : Mem _ _ w40 [rs40] := hM39.add hm40
 refine ⟨(fun b hb => by cases hb), dl (m_b2s rfl (hs40.rd hM40 (i := 0) rfl) <| ⟨(fun b hb => by cases hb), dq (v := .bool (decide (¬ (fixed 4 (crcN 0 ((b.take (b.length - 4)).drop 0))) = ((b.take b.length).drop (b.length - 4))))) (o_sne rfl rfl rfl) <| h8 _ _ <| cndP rfl (fun hsT => ?_) (fun hsF => ?_)⟩)⟩
 ·refine seq fun _ h42 => mv <| mv <| h42 _ _ <| ⟨(.tuple [.slice none 0 0, .int .i64 10].toArray), rfl, ?_⟩
  have je := open_sum (b := b) (by omega) (by simpa using hsT)
  exact ⟨_, [], by rw [je], by rw [je]; exact Sl.nil 1 5, (hM40.addNil).keep (by simp)⟩
 refine h7 _ _ <| seq fun _ h43 => m_bs hM40 rfl fun b44 w45 (hM45 : Mem _ _ w45 [_, [⟨b44, 5, []⟩]]) => mv <| mv <| m_slcE 0 (b.length - 4) (hx) rfl (by omega) (by omega) ⟨_, v_int (by omega)⟩ rfl fun u46 hu46 => ?_
 have hs47 : SlE byteV 5 (.slice (some ⟨b44, 0, none⟩) 0 0) [] [⟨b44, 5, []⟩] := SlE.lit (l := []) rfl
 refine m_appE hM45 (i := 1) rfl hs47 rfl rfl ((hu46.upd hM45.upd)) (by first | omega | (simp; omega)) (by omega) fun v48 w48 r48 (hs48 : SlE byteV 5 v48 ((b.take (b.length - 4)).drop 0) r48) (hM48 : Mem _ _ w48 [_, r48]) => mv <| mv <| h43 _ _ <| ⟨(.tuple [v48, .int .i64 0].toArray), rfl, ?_⟩
 have je := open_ok (b := b) (by omega) (by simpa using hsF)
 exact ⟨_, _, by rw [je], by rw [je]; simpa using hs48, hM48.keep (by simp)⟩
end Go.Proofs.YtifnmbmijljhfaaGreat.E
namespace Go.Proofs.YtifnmbmijljhfaaGreat.E
open Go
theorem Sl.rdOwn {w : World} {sz n : Nat} {t : TypeId} {v : Value} {cs : List Value} {r : List Ent} (h : Sl sz t v n cs r) (ho : ∀ e ∈ r, Own w e) : Rd w v n cs := by
 rcases h.form with ⟨rfl, rfl, rfl⟩ | ⟨b, cap, tail, rfl, rfl, h1, h2⟩
 ·have := h.len
  simp at this
  subst this
  exact ⟨none, 0, rfl, Nat.le_refl _, rfl, fun _ => rfl⟩
 have ho := ho _ (List.mem_singleton.2 rfl)
 refine ⟨_, cap, rfl, h1, ho.row (l := cs) fun j hj => ?_, fun h => by cases h⟩
 simp [List.getElem?_append_left hj]
theorem Mem.owned {w0 w : World} {S : List Nat} {R : List (List Ent)} {i : Nat} {r : List Ent} (h : Mem w0 S w R) (hi : R[i]? = some r) : ∀ e ∈ r, Own w e := (h.res hi).1
theorem Mem.add2 {w0 w w' : World} {S : List Nat} {R : List (List Ent)} {a b : List Ent} (h : Mem w0 S w R) (l : Mem w [] w' [a, b]) : Mem w0 S w' (R ++ [a, b]) :=
 (h.add (r' := a ++ b) (l.perm (by simp))).perm (by simp)
def Nst {β : Type} (Q : β → List Ent → Prop) : List β → List Ent → Prop
 | [], _ => True
 | p :: ps, r => ∃ a b, r.Perm (a ++ b) ∧ Q p a ∧ Nst Q ps b
section
variable {β : Type} {Q Q' : β → List Ent → Prop}
theorem Nst.nil {r : List Ent} : Nst Q [] r := trivial
theorem Nst.perm : ∀ {ps : List β} {r r' : List Ent}, Nst Q ps r → r'.Perm r → Nst Q ps r'
 | [], _, _, _, _ => trivial
 | _ :: _, _, _, ⟨a, b, h1, h2, h3⟩, hp => ⟨a, b, hp.trans h1, h2, h3⟩
theorem Nst.more : ∀ {ps : List β} {r : List Ent} (x : List Ent), Nst Q ps r → Nst Q ps (r ++ x)
 | [], _, _, _ => trivial
 | _ :: _, r, x, ⟨a, b, h1, h2, h3⟩ => ⟨a, b ++ x, by rw [← List.append_assoc]; exact h1.append_right x, h2, h3.more x⟩
theorem Nst.app : ∀ {ps : List β} {r : List Ent} {p : β} {a : List Ent}, Nst Q ps r → Q p a → Nst Q (ps ++ [p]) (r ++ a)
 | [], r, p, a, _, hp => ⟨a, r, List.perm_append_comm, hp, trivial⟩
 | _ :: _, r, p, x, ⟨a, b, h1, h2, h3⟩, hp => ⟨a, b ++ x, by rw [← List.append_assoc]; exact h1.append_right x, h2, h3.app hp⟩
theorem Nst.mono : ∀ {ps : List β} {r : List Ent}, Nst Q ps r → (∀ p a, Q p a → Q' p a) → Nst Q' ps r
 | [], _, _, _ => trivial
 | _ :: _, _, ⟨a, b, h1, h2, h3⟩, hq => ⟨a, b, h1, hq _ _ h2, h3.mono hq⟩
theorem Nst.get : ∀ {ps : List β} {r : List Ent}, Nst Q ps r → ∀ p ∈ ps, ∃ a, (∀ e ∈ a, e ∈ r) ∧ Q p a
 | [], _, _, p, hp => by cases hp
 | x :: ps, r, ⟨a, b, h1, h2, h3⟩, p, hp => by
  rcases List.mem_cons.1 hp with rfl | hp
  ·exact ⟨a, fun e he => h1.symm.subset (List.mem_append_left _ he), h2⟩
  obtain ⟨c, hc, hq⟩ := h3.get p hp
  exact ⟨c, fun e he => h1.symm.subset (List.mem_append_right _ (hc e he)), hq⟩
theorem Nst.open (z : β) : ∀ {ps : List β} {r : List Ent} {i : Nat}, Nst Q ps r → i < ps.length → ∃ a b, r.Perm (a ++ b) ∧ Q (ps.getD i z) a ∧ ∀ p c, Q p c → Nst Q (ps.set i p) (c ++ b)
 | [], _, _, _, hi => by simp at hi
 | x :: ps, r, 0, ⟨a, b, h1, h2, h3⟩, _ => ⟨a, b, h1, h2, fun p c hc => ⟨c, b, List.Perm.refl _, hc, h3⟩⟩
 | x :: ps, r, i + 1, ⟨a, b, h1, h2, h3⟩, hi => by
  obtain ⟨c, d, k1, k2, k3⟩ := h3.open z (i := i) (by simpa using hi)
  refine ⟨c, a ++ d, h1.trans ((k1.append_left a).trans ?_), by simpa using k2, fun p e he => ?_⟩
  ·rw [← List.append_assoc, ← List.append_assoc]; exact (List.perm_append_comm).append_right d
  refine ⟨a, e ++ d, ?_, h2, k3 p e he⟩
  rw [← List.append_assoc, ← List.append_assoc]; exact (List.perm_append_comm).append_right d
theorem Nst.drop : ∀ {ps : List β} {r : List Ent} {p : β} {i : Nat}, Nst Q ps r → Q p [] → Nst Q (ps.set i p) r
 | [], _, _, _, _, _ => trivial
 | x :: ps, r, p, 0, ⟨a, b, h1, h2, h3⟩, hp => ⟨[], r, List.Perm.refl _, hp, (h3.more a).perm (h1.trans List.perm_append_comm)⟩
 | x :: ps, r, p, i + 1, ⟨a, b, h1, h2, h3⟩, hp => ⟨a, b, h1, h2, h3.drop hp⟩
theorem Nst.take : ∀ {ps : List β} {r : List Ent} (k : Nat), Nst Q ps r → Nst Q (ps.take k) r
 | [], _, _, _ => by simp [Nst]
 | x :: ps, r, 0, _ => by simp [Nst]
 | x :: ps, r, k + 1, ⟨a, b, h1, h2, h3⟩ => ⟨a, b, h1, h2, h3.take k⟩
end
def OwnP {α β : Type} (E : α → Value) (t : TypeId) (fv : β → Value) (fl : β → List α) : β → List Ent → Prop := fun p a => SlE E t (fv p) (fl p) a
theorem Nst.rdE {α β : Type} {E : α → Value} {t : TypeId} {fv : β → Value} {fl : β → List α} {ps : List β} {r : List Ent} {w0 w : World} {S : List Nat} {R : List (List Ent)} {i : Nat} (h : Nst (OwnP E t fv fl) ps r) (hM : Mem w0 S w R) (hi : R[i]? = some r) : ∀ p ∈ ps, RdE E w (fv p) (fl p) := fun p hp => by
 obtain ⟨a, ha, hq⟩ := h.get p hp
 exact Sl.rdOwn hq fun e he => hM.owned hi e (ha e he)
section
variable {α : Type} {enc : α → List Value} {sz : Nat} [Enc enc sz]
theorem Rd.blkV_ltS {α : Type} {enc : α → List Value} {sz : Nat} [Enc enc sz] {w : World} {v : Value} {l : List α} (h : RdS enc w v l) (hl : 0 < l.length) : blkV v < w.heap.size := by
 obtain ⟨a, c, rfl, h2, h3, h4⟩ := h.form
 have hp := Enc.pos (enc := enc)
 have hL : 0 < (l.flatMap enc).length := by rw [fm_length]; exact Nat.mul_pos hl hp
 cases a with
 | none => have := h4 rfl; omega
 | some a =>
  obtain ⟨b, o, m⟩ := a
  cases m with
  | some m => simp only [Row] at h3; rw [h3] at hL; simp at hL
  | none =>
   have h5 := h3 0 hL
   rw [List.getElem?_eq_getElem hL] at h5
   exact World.block_lt_of_cell? w ⟨b, o + 0, none⟩ h5
theorem m_idxS3 (z : α) {P : Program} {r : List MI} {f : Fr} {w wr : World} {K : Fr → World → Prop} {d : Nat} {x i : Operand} {u : Value} {l : List α} {j : Nat} {k : IntKind} (h : RdS enc w u l) (h0 : RdS enc wr u l) (hx : ev f x = u) (hi : ev f i = .int k j) (hj : j < l.length)
 (hk : ∀ b o, Cells wr b o (enc (l.getD j z)) → b = blkV u → vr P r (upd f d (.pointer (some ⟨b, o, none⟩))) w K) : vr P (.p none d (.idx sz x i) :: r) f w K := by
 show pe (.idx sz x i) f (fun v => vr P r (upd f d v) w K)
 have hp := Enc.pos (enc := enc)
 have hfl := fm_length (enc := enc) l
 obtain ⟨a, c, rfl, h2, h3, h4⟩ := h.form
 obtain ⟨a0, c0, e, h20, h30, h40⟩ := h0.form
 cases e
 show kslice (ev f x) _; rw [hx]; show anyint (ev f i) _; rw [hi]; refine ⟨⟨by omega, by omega⟩, ?_⟩
 cases a with
 | none => have := h4 rfl; omega
 | some a =>
  obtain ⟨b, o, m⟩ := a
  cases m with
  | some m =>
   simp only [Row] at h3
   rw [h3, List.length_nil] at hfl
   have := Nat.mul_pos (show 0 < l.length by omega) hp; omega
  | none =>
   refine hk _ _ (fun q hq => ?_) rfl
   rw [Enc.len (enc := enc)] at hq
   have hle : j * sz + sz ≤ l.length * sz := by
    have := Nat.mul_le_mul_right sz hj
    rwa [Nat.succ_mul] at this
   have h5 := h30 (j * sz + q) (by rw [hfl]; omega)
   rw [Int.toNat_natCast, ← fm_get z hj hq, ← h5]
   congr 2; omega
end
theorem m_appSU {α : Type} {enc : α → List Value} {sz : Nat} [Enc enc sz] {P : Program} {r : List MI} {f : Fr} {w w0 : World} {K : Fr → World → Prop} {v : Value} {S : List Nat} {R : List (List Ent)} {t : TypeId} {bytes : Nat} {zs : List Value} {x y : Operand} {l m : List α} {u : Value} {i c : Nat} {rs : List Ent} (hM : Mem w0 S w R) (hi : R[i]? = some rs) (hs : SlS enc sz t v l rs) (hx : ev f x = v) (hy : ev f y = u) (hu : RdS enc w u m) (hz : zs.length = sz) (hb : (l.length + m.length) * bytes ≤ 175921860444160) (hb0 : 0 < bytes ∧ bytes < 65536)
 (h : ∀ v' w' r', SlS enc sz t v' (l ++ m) r' → Upd (ids rs) w w' → Mem w0 S w' (R.set i r') → vr P r (upd f c v') w' K) : vr P (.l none (some c) (.app t bytes sz zs x y) :: r) f w K :=
 m_appS' (Mem.start (hM.res hi)) (i := 0) rfl hs hx hy hu hz hb hb0 fun v' w' r' h1 h2 => h v' w' r' h1 h2.upd (hM.step i hi h2)
theorem getD_memG {α : Type} (z : α) {l : List α} {i : Nat} (h : i < l.length) : l.getD i z ∈ l := by
 rw [List.getD_eq_getElem?_getD, List.getElem?_eq_getElem h]; exact List.getElem_mem h
end Go.Proofs.YtifnmbmijljhfaaGreat.E
namespace Go.Proofs.YtifnmbmijljhfaaGreat.E
open Go
theorem Mem.far {w0 w w' : World} {R : List (List Ent)} {i : Nat} {r : List Ent} (hM : Mem w0 [] w R) (hi : R[i]? = some r) (u : Upd (ids r) w w') : Upd [] w0 w' := by
 have hu := hM.upd
 refine ⟨u.os.trans hu.os, u.tape.trans hu.tape, u.output.trans hu.output, Nat.le_trans hu.size u.size, fun b hb hn => ?_⟩
 rw [u.block b (Nat.lt_of_lt_of_le hb hu.size) (fun hm => Mem.old hM hi hb hm), hu.block b hb hn]
end Go.Proofs.YtifnmbmijljhfaaGreat.E
namespace Go.Proofs.YtifnmbmijljhfaaGreat.E
open Go
structure SubS {α : Type} (enc : α → List Value) (u : Value) (l : List α) (rs : List Ent) : Prop where
 rd : ∀ w, (∀ e ∈ rs, Own w e) → RdS enc w u l
 blk : 0 < l.length → blkV u ∈ ids rs
theorem SubS.apart {α : Type} {enc : α → List Value} {u : Value} {l : List α} {rs rk : List Ent} {w0 w : World} {S : List Nat} {R : List (List Ent)} {i k : Nat} (h : SubS enc u l rs) (hM : Mem w0 S w R) (hi : R[i]? = some rs) (hk : R[k]? = some rk) (hn : i ≠ k) (hl : 0 < l.length) : blkV u ∉ ids rk := by
 obtain ⟨e, he, hb⟩ := List.mem_map.1 (h.blk hl)
 obtain ⟨j, hj⟩ := List.mem_iff_getElem?.1 he
 rw [← hb]
 exact hM.apart (i := i) (j := j) (k := k) hi hj hk hn
theorem SlS.sub {α : Type} {enc : α → List Value} {sz : Nat} {t : TypeId} {u : Value} {l : List α} {rs : List Ent} (h : SlS enc sz t u l rs) : SubS enc u l rs := by
 refine ⟨fun w ho => Sl.rdOwn h ho, fun hl => ?_⟩
 rcases h.form with ⟨_, h, _⟩ | ⟨b, c, tl, rfl, rfl, _, _⟩
 ·omega
 simp [ids, blkV]
theorem SubS.mono {α : Type} {enc : α → List Value} {u : Value} {l : List α} {rs rs' : List Ent} (h : SubS enc u l rs) (hs : ∀ e ∈ rs, e ∈ rs') : SubS enc u l rs' :=
 ⟨fun w ho => h.rd w fun e he => ho e (hs e he), fun hl => by
  obtain ⟨e, he, hb⟩ := List.mem_map.1 (h.blk hl)
  exact List.mem_map.2 ⟨e, hs e he, hb⟩⟩
end Go.Proofs.YtifnmbmijljhfaaGreat.E
namespace Go.Proofs.YtifnmbmijljhfaaGreat.E
open Go
theorem Gr.base {α : Type} {E : α → Value} {t : TypeId} {a x : Value} {p l : List α} {r : List Ent} (h : Gr E t a x p l r) : ∃ ra, ra.Sublist r ∧ SlE E t a p ra := by
 rcases h with ⟨b, cap, tail, h1, h2, h3, h4, h5⟩ | ⟨rx, ra, rfl, h1, h2⟩
 ·exact ⟨r, List.Sublist.refl _, by simp, .inr ⟨b, cap, l.map E ++ tail, h1, by rw [h3]; simp, by simp at h4; omega, by simp at h5 h4 ⊢; omega⟩⟩
 exact ⟨ra, List.sublist_append_right _ _, h2⟩
section
variable {α : Type} {enc : α → List Value} {sz : Nat} [Enc enc sz]
def GrS (enc : α → List Value) (sz : Nat) (t : TypeId) (a x : Value) (p l : List α) (r : List Ent) : Prop :=
 (∃ b cap tail, a = .slice (some ⟨b, 0, none⟩) p.length cap ∧ x = .slice (some ⟨b, 0, none⟩) (p ++ l).length cap ∧ r = [⟨b, t, (p ++ l).flatMap enc ++ tail⟩] ∧ (p ++ l).length ≤ cap ∧ tail.length = (cap - (p ++ l).length) * sz) ∨
 ∃ rx ra, r = rx ++ ra ∧ SlS enc sz t x (p ++ l) rx ∧ SlS enc sz t a p ra
omit [Enc enc sz] in
theorem GrS.zero {t : TypeId} {a : Value} {p : List α} {r : List Ent} (h : SlS enc sz t a p r) : GrS enc sz t a a p [] r := by
 rcases h.form with ⟨h1, h2, h3⟩ | ⟨b, cap, tail, h1, h2, h3, h4⟩
 ·subst h3
  exact .inr ⟨[], [], rfl, by simpa using h, h⟩
 exact .inl ⟨b, cap, tail, h1, by simpa using h1, by simpa using h2, by simpa using h3, by simpa using h4⟩
omit [Enc enc sz] in
theorem GrS.slice {t : TypeId} {a x : Value} {p l : List α} {r : List Ent} (h : GrS enc sz t a x p l r) : ∃ ad c, x = .slice ad (p ++ l).length c := by
 rcases h with ⟨b, cap, tail, h1, h2, h3, h4, h5⟩ | ⟨rx, ra, rfl, h1, h2⟩
 ·exact ⟨_, _, h2⟩
 rcases h1.form with ⟨h, h0, _⟩ | ⟨b, cap, tail, h, _⟩
 ·exact ⟨none, 0, by rw [h, h0]⟩
 exact ⟨_, _, h⟩
theorem GrS.base {t : TypeId} {a x : Value} {p l : List α} {r : List Ent} (h : GrS enc sz t a x p l r) : ∃ ra, ra.Sublist r ∧ SlS enc sz t a p ra := by
 rcases h with ⟨b, cap, tail, h1, h2, h3, h4, h5⟩ | ⟨rx, ra, rfl, h1, h2⟩
 ·refine ⟨r, List.Sublist.refl _, fm_length p, .inr ⟨b, cap, l.flatMap enc ++ tail, h1, by rw [h3]; simp [List.flatMap_append], by rw [List.length_append] at h4; omega, ?_⟩⟩
  rw [List.length_append, fm_length, h5, ← Nat.add_mul]
  congr 1
  rw [List.length_append] at h4 ⊢; omega
 exact ⟨ra, List.sublist_append_right _ _, h2⟩
variable {P : Program} {r : List MI} {f : Fr} {w w0 : World} {K : Fr → World → Prop} {d : Nat} {v : Value} {S : List Nat} {R : List (List Ent)} {t : TypeId}
end
end Go.Proofs.YtifnmbmijljhfaaGreat.E
namespace Go.Proofs.YtifnmbmijljhfaaGreat.E
open Go
section
variable {α : Type} {enc : α → List Value} {sz : Nat} [Enc enc sz]
def TlS (enc : α → List Value) (sz : Nat) (t : TypeId) (a x : Value) (p l : List α) (r : List Ent) : Prop :=
 (∃ b cap tail, a = .slice (some ⟨b, 0, none⟩) p.length cap ∧ p.length < cap ∧ x = .slice (some ⟨b, p.length * sz, none⟩) l.length (cap - p.length) ∧ r = [⟨b, t, (p ++ l).flatMap enc ++ tail⟩] ∧ (p ++ l).length ≤ cap ∧ tail.length = (cap - (p ++ l).length) * sz) ∨
 (l = [] ∧ (∃ ad, x = .slice ad 0 0) ∧ SlS enc sz t a p r) ∨
 ∃ rx ra, r = rx ++ ra ∧ SlS enc sz t x l rx ∧ SlS enc sz t a p ra
omit [Enc enc sz] in
theorem TlS.of {t : TypeId} {a : Option Addr} {n c : Nat} {p : List α} {r : List Ent} (h : SlS enc sz t (.slice a n c) p r) (hn : n = p.length) : TlS enc sz t (.slice a n c) (.slice (cutAt sz a n c) (n - n) (c - n)) p [] r := by
 rw [Nat.sub_self]
 rcases h.form with ⟨h1, h2, h3⟩ | ⟨b, cap, tail, h1, h2, h3, h4⟩
 ·injection h1 with e1 e2 e3
  subst e1 e2 e3
  exact .inr (.inl ⟨rfl, ⟨_, rfl⟩, h⟩)
 injection h1 with e1 e2 e3
 subst e1 e3
 by_cases e : c = n
 ·subst e
  rw [Nat.sub_self]
  exact .inr (.inl ⟨rfl, ⟨_, rfl⟩, h⟩)
 refine .inl ⟨b, c, tail, by rw [hn], by omega, ?_, by simpa using h2, by simpa using h3, by simpa using h4⟩
 show Value.slice (if c = n then _ else some ⟨b, 0 + n * sz, none⟩) 0 (c - n) = _
 rw [if_neg e, Nat.zero_add, hn]; rfl
omit [Enc enc sz] in
theorem TlS.slice {t : TypeId} {a x : Value} {p l : List α} {r : List Ent} (h : TlS enc sz t a x p l r) : ∃ ad c, x = .slice ad l.length c := by
 rcases h with ⟨b, cap, tail, h1, h0, h2, h3, h4, h5⟩ | ⟨rfl, ⟨ad, h⟩, _⟩ | ⟨rx, ra, rfl, h1, h2⟩
 ·exact ⟨_, _, h2⟩
 ·exact ⟨_, _, h⟩
 rcases h1.form with ⟨h, h0, _⟩ | ⟨b, cap, tail, h, _⟩
 ·exact ⟨none, 0, by rw [h, h0]⟩
 exact ⟨_, _, h⟩
theorem TlS.base {t : TypeId} {a x : Value} {p l : List α} {r : List Ent} (h : TlS enc sz t a x p l r) : ∃ ra, ra.Sublist r ∧ SlS enc sz t a p ra := by
 rcases h with ⟨b, cap, tail, h1, h0, h2, h3, h4, h5⟩ | ⟨_, _, h⟩ | ⟨rx, ra, rfl, h1, h2⟩
 ·refine ⟨r, List.Sublist.refl _, fm_length p, .inr ⟨b, cap, l.flatMap enc ++ tail, h1, by rw [h3]; simp [List.flatMap_append], by omega, ?_⟩⟩
  rw [List.length_append, fm_length, h5, ← Nat.add_mul]
  congr 1
  rw [List.length_append] at h4 ⊢; omega
 ·exact ⟨r, List.Sublist.refl _, h⟩
 exact ⟨ra, List.sublist_append_right _ _, h2⟩
variable {P : Program} {r : List MI} {f : Fr} {w w0 : World} {K : Fr → World → Prop} {d : Nat} {v : Value} {S : List Nat} {R : List (List Ent)} {t : TypeId}
end
end Go.Proofs.YtifnmbmijljhfaaGreat.E
namespace Go.Proofs.YtifnmbmijljhfaaGreat.E
open Go
def wrB (a k v : List UInt8) : List UInt8 := putI (common a k : Nat) ++ putI ((k.length : Nat) - (common a k : Nat) : Int) ++ putI (v.length : Nat) ++ k.drop (common a k) ++ v
theorem wrB_len {a k v : List UInt8} (hk : k.length ≤ 1024) (hv : v.length ≤ 1024) : (wrB a k v).length ≤ 27 + k.length + v.length ∧ 3 ≤ (wrB a k v).length := by
 unfold wrB
 have hc := common_le a k
 have h1 := putI_len (v := ((common a k : Nat) : Int)) (by omega)
 have h2 := putI_len (v := ((k.length : Nat) - (common a k : Nat) : Int)) (by omega)
 have h3 := putI_len (v := ((v.length : Nat) : Int)) (by omega)
 have g1 := putI_pos (v := ((common a k : Nat) : Int)) (by omega)
 have g2 := putI_pos (v := ((k.length : Nat) - (common a k : Nat) : Int)) (by omega)
 have g3 := putI_pos (v := ((v.length : Nat) : Int)) (by omega)
 simp only [List.length_append, List.length_drop]
 omega
def ahd (R n : Nat) (last : List UInt8) : List UInt8 := if n % R = 0 then [] else last
end Go.Proofs.YtifnmbmijljhfaaGreat.E
namespace Go.Proofs.YtifnmbmijljhfaaGreat.E
open Go
def CurS (bc : Nat) (b : List UInt8) (a : Nat) (e : Int) (r : List Ent) : Prop := ∃ vb rb, r = ⟨bc, 150, [vb, .int .i64 (a : Nat), .int .i64 e]⟩ :: rb ∧ SlE byteV 5 vb b rb ∧ a ≤ b.length
def numE (l : List UInt8) (m : Int) : Int := if (get l).2.2 = 0 then (if m < ((get l).1 : Int) then 23 else 0) else (get l).2.2
def numV (l : List UInt8) (m : Int) : Int := if numE l m = 0 then (get l).1 else 0
def fixE (l : List UInt8) (n : Int) : Int := if n < 1 ∨ 8 < n then 23 else if (l.length : Int) < n then 20 else 0
def fixV (l : List UInt8) (n : Int) : Nat := if fixE l n = 0 then word (l.take n.toNat) else 0
def tkE (l : List UInt8) (n : Int) : Int := if n < 0 then 23 else if (l.length : Int) < n then 20 else 0
def tkV (l : List UInt8) (n : Int) : List UInt8 := if tkE l n = 0 then l.take n.toNat else []
theorem numE_get {l : List UInt8} {m : Int} (h : numE l m = 0) : (get l).2.2 = 0 := by unfold numE at h; split at h <;> omega
theorem CurS.le {bc : Nat} {b : List UInt8} {a : Nat} {e : Int} {r : List Ent} (h : CurS bc b a e r) : a ≤ b.length := by obtain ⟨_, _, _, _, h⟩ := h; exact h
theorem NewCursor_ok (x : Value) (b : List UInt8) (w : World) (hx : RdE byteV w x b) (hl : b.length ≤ 140737488355328) : Calls Tryz.prog 68 [x].toArray w (Rt fun r w' => ∃ bc rs, r = .pointer (some ⟨bc, 0, none⟩) ∧ CurS bc b 0 0 rs ∧ Mem w [] w' [rs]) := by
 have hM0 : Mem w [] w [] := Mem.nil w []
 refine calls_vc mixed Tryz.func68 rfl C68 (by simp [Tryz.ntmps68]) <| seq fun _ h1 => mv <| h1 _ _ <| seq fun _ h2 => mv ?_
 have hM3 : Mem _ _ w [[]] := hM0.addNil
 have hs3 : SlE byteV 5 (.slice none 0 0) [] [] := Sl.nil 1 5
 refine m_appE hM3 (i := 0) rfl hs3 rfl rfl (hx.upd hM3.upd) (by first | omega | (simp; omega)) (by omega) fun v4 w4 r4 (hs4 : SlE byteV 5 v4 (b) r4) (hM4 : Mem _ _ w4 [r4]) => ?_
 obtain ⟨a5_, n5_, c5_, rfl⟩ := Sl.isSlice hs4
 refine stp (v := .agg ([(.slice a5_ n5_ c5_), .int .i64 0, .int .i64 0] : List Value).toArray) (o_bld rfl rfl) <| m_bx (v := .agg ([(.slice a5_ n5_ c5_), .int .i64 0, .int .i64 0] : List Value).toArray) hM4 rfl rfl fun b6 w7 (hM7 : Mem _ _ w7 [_, [⟨b6, 150, [(.slice a5_ n5_ c5_), .int .i64 0, .int .i64 0]⟩]]) => mv <| h2 _ _ <| ⟨(.pointer (some ⟨b6, 0, none⟩)), rfl, ⟨_, _, rfl, ⟨_, _, rfl, hs4, Nat.zero_le _⟩, hM7.perm (by simp; exact (List.perm_append_singleton _ _).symm)⟩⟩
theorem reads_run (bc : Nat) (b : List UInt8) (a : Nat) (r0 rv : List Ent) (g : FuncId) (caps : List Value) (n : Nat) (er : Int) (T : List Ent → Prop) (w : World) (hc : CurS bc b a 0 r0) (hr : Res w (r0 ++ rv)) (hl : b.length ≤ 140737488355328) (ho : okFn Tryz.prog g = true) (hn : er = 0 → a + n ≤ b.length) (hq : ∀ wc u, RdE byteV wc u (b.drop a) → Res wc rv → Calls Tryz.prog g (u :: caps).toArray wc (Rt fun r w' => r = .tuple #[.int .i64 (n : Nat), .int .i64 er] ∧ ∃ rv', T rv' ∧ Mem wc (ids rv) w' [rv'])) : Calls Tryz.prog 119 [.pointer (some ⟨bc, 0, none⟩), .func (.func g) #[] caps.toArray].toArray w (Rt fun _ w' => ∃ r' rv', CurS bc b (if er = 0 then a + n else a) er r' ∧ T rv' ∧ Mem w (ids (r0 ++ rv)) w' [r', rv']) := by
 obtain ⟨vb, rb, rfl, hb, ha⟩ := hc
 have hM0 : Mem w (ids (⟨bc, 150, [vb, .int .i64 (a : Nat), .int .i64 0]⟩ :: rb ++ rv)) w [[⟨bc, 150, [vb, .int .i64 (a : Nat), .int .i64 0]⟩], rb, rv] := (Mem.start hr).keep (by simp)
 refine calls_vc mixed Tryz.func119 rfl C119 (by simp [Tryz.ntmps119]) <| seq fun _ h1 => seq fun _ h2 => mv <| stp (v := .bool false) (o_isnil rfl rfl) <| mv <| splitF rfl <| gmv rfl <| stg rfl (v := .pointer (some ⟨bc, 0, none⟩)) (o_nilchk rfl rfl) <| gfa rfl rfl <| gyesl rfl <| m_ld (v := .int .i64 0) hM0 (i := 0) (j := 0) rfl rfl rfl rfl <| stg rfl (v := .bool false) (o_bin rfl rfl v_neF) <| pkF rfl ?_
 refine h2 _ _ <| cndF rfl <| h1 _ _ <| seq fun _ h3 => ?_
 intro wd e1 e2 e3 e4
 have hd := Upd.same e1 e2 e3 e4 []
 have hM4 := hM0.pure hd
 clear e1 e2 e3 e4
 refine ⟨(some [bc]), ?_⟩
 show vd _ _ _ _ _ _ _
 refine dmv <| dmv <| dq (v := .pointer (some ⟨bc, 0, none⟩)) (o_nilchk rfl rfl) <| dfa rfl <| dmv <| dq (v := .pointer (some ⟨bc, 0, none⟩)) (o_nilchk rfl rfl) <| dfa rfl <| dqld rfl (by simp [isHeld]) (v := .int .i64 (a : Nat)) ((hM4.at (i := 0) (j := 0) rfl rfl).cell 1) <| dl (m_ld (v := vb) hM4 (i := 0) (j := 0) rfl rfl rfl rfl <| ⟨(fun b hb => rfl), dqp (m_slcE a b.length (hb.rd hM4 (i := 1) rfl) rfl (by omega) (by omega) rfl ⟨_, rfl⟩ fun u5 hu5 => ?_)⟩)
 show vd _ _ _ _ _ _ _
 refine dl (m_callv rfl (by assumption) (hq wd u5 (List.take_length (l := b) ▸ hu5) (hM4.res (i := 2) rfl)) rfl fun v6 w6 ⟨hr6, rv6, ht6, hm6⟩ => ?_)
 have hM6 : Mem w (ids (⟨bc, 150, [vb, .int .i64 (a : Nat), .int .i64 0]⟩ :: rb ++ rv)) w6 [[⟨bc, 150, [vb, .int .i64 (a : Nat), .int .i64 0]⟩], rb, rv6] := hM4.step 2 rfl hm6
 subst hr6
 have hh6 := held_upd (wr := wd) (bs := [bc]) hm6.upd (fun b hb => by
  simp only [List.mem_cons, List.not_mem_nil, or_false] at hb
  rw [hb]; exact ⟨(hM4.at (i := 0) (j := 0) rfl rfl).lt, hM4.apart (i := 0) (j := 0) (k := 2) rfl rfl rfl (by decide)⟩) (fun b hb => rfl)
 refine ⟨hh6, dmv <| dq (v := .int .i64 (n : Nat)) (o_ext rfl rfl) <| dq (v := .int .i64 er) (o_ext rfl rfl) <| dmv <| dmv <| h3 _ _ <| seq fun _ h7 => seq fun _ h8 => mv <| bneq rfl rfl <| h8 _ _ <| cndP rfl (fun c9 => ?_) (fun c9 => ?_)⟩
 ·refine seq fun _ h10 => mv <| mv <| nilchk rfl <| fa rfl <| m_st (v := .int .i64 er) hM6 (i := 0) rfl rfl rfl rfl (by simp) fun w11 (hM11 : Mem _ _ w11 [[⟨bc, 150, [vb, .int .i64 (a : Nat), .int .i64 er]⟩], _, _]) => h10 _ _ <| ⟨(.tuple [].toArray), rfl, ⟨⟨bc, 150, [vb, .int .i64 (a : Nat), .int .i64 er]⟩ :: rb, _, ⟨vb, rb, by rw [if_neg (by assumption)], hb, by rw [if_neg (by assumption)]; exact ha⟩, by assumption, hM11.keep (by simp)⟩⟩
 refine h7 _ _ <| mv <| nilchk rfl <| fa rfl <| m_ld (v := .int .i64 (a : Nat)) hM6 (i := 0) (j := 0) rfl rfl rfl rfl <| mv <| stp (v := .int .i64 (a + n : Nat)) (o_bin rfl rfl ((v_add64 (by have := hn (by omega); omega)).trans (v_int (by omega)))) <| nilchk rfl <| fa rfl <| m_st (v := .int .i64 (a + n : Nat)) hM6 (i := 0) rfl rfl rfl rfl (by simp) fun w12 (hM12 : Mem _ _ w12 [[⟨bc, 150, [vb, .int .i64 (a + n : Nat), .int .i64 0]⟩], _, _]) => ⟨(.tuple [].toArray), rfl, ?_⟩
 obtain rfl : er = 0 := by omega
 exact ⟨⟨bc, 150, [vb, .int .i64 ((a + n : Nat) : Int), .int .i64 0]⟩ :: rb, _, ⟨vb, rb, by rw [if_pos rfl], hb, by rw [if_pos rfl]; exact hn rfl⟩, by assumption, hM12.keep (by simp)⟩
theorem reads_no (bc : Nat) (vb : Value) (a : Nat) (e : Int) (f : Value) (w : World) (hw : Own w ⟨bc, 150, [vb, .int .i64 (a : Nat), .int .i64 e]⟩) (he : ¬ e = 0) : Calls Tryz.prog 119 [.pointer (some ⟨bc, 0, none⟩), f].toArray w (Rt fun _ w' => Upd [] w w') := by
 have hM0 : Mem w [] w [] := Mem.nil w []
 refine calls_vc mixed Tryz.func119 rfl C119 (by simp [Tryz.ntmps119]) <| seq fun _ h1 => seq fun _ h2 => mv <| stp (v := .bool false) (o_isnil rfl rfl) <| mv <| splitF rfl <| gmv rfl <| stg rfl (v := .pointer (some ⟨bc, 0, none⟩)) (o_nilchk rfl rfl) <| gfa rfl rfl <| gyesl rfl <| ld (v := .int .i64 e) rfl ((hw.upd hM0.upd (by simp)).cell 2) <| gbneq rfl rfl rfl <| pkF rfl ?_
 refine h2 _ _ <| cndP rfl (fun c3 => ?_) (fun c3 => (c3 (by omega)).elim)
 refine ⟨(.tuple [].toArray), rfl, hM0.upd⟩
theorem reads_ok (bc : Nat) (b : List UInt8) (a : Nat) (e : Int) (r0 rv : List Ent) (g : FuncId) (caps : List Value) (n : Nat) (er : Int) (T : List Ent → Prop) (w : World) (hc : CurS bc b a e r0) (hr : Res w (r0 ++ rv)) (hl : b.length ≤ 140737488355328) (ho : okFn Tryz.prog g = true) (hn : er = 0 → a + n ≤ b.length) (hq : ∀ wc u, RdE byteV wc u (b.drop a) → Res wc rv → Calls Tryz.prog g (u :: caps).toArray wc (Rt fun r w' => r = .tuple #[.int .i64 (n : Nat), .int .i64 er] ∧ ∃ rv', T rv' ∧ Mem wc (ids rv) w' [rv'])) :
 Calls Tryz.prog 119 [.pointer (some ⟨bc, 0, none⟩), .func (.func g) #[] caps.toArray].toArray w (Rt fun _ w' => ∃ r' rv', CurS bc b (if e = 0 ∧ er = 0 then a + n else a) (if e = 0 then er else e) r' ∧ (if e = 0 then T rv' else rv' = rv) ∧ Mem w (ids (r0 ++ rv)) w' [r', rv']) := by
 by_cases c : e = 0
 ·subst c
  refine (reads_run bc b a r0 rv g caps n er T w hc hr hl ho hn hq).mono fun en w' h => h.elim fun v h => ⟨v, h.1, ?_⟩
  obtain ⟨r', rv', h1, h2, h3⟩ := h.2
  exact ⟨r', rv', by simpa using h1, by simpa using h2, h3⟩
 obtain ⟨vb, rb, rfl, hb, ha⟩ := hc
 refine (reads_no bc vb a e _ w (hr.1 _ (by simp)) c).mono fun en w' h => h.elim fun v h => ⟨v, h.1, ⟨_, _, ⟨vb, rb, by rw [if_neg (fun h => c h.1), if_neg c], hb, by rw [if_neg (fun h => c h.1)]; exact ha⟩, by rw [if_neg c], ((Mem.start hr).pure h.2).keep (by simp)⟩⟩
theorem num_much {l : List UInt8} {m : Int} (h : (get l).2.2 = 0) (h2 : m < ((get l).1 : Int)) : numE l m = 23 ∧ numV l m = 0 := by
 have : numE l m = 23 := by unfold numE; rw [if_pos h, if_pos h2]
 exact ⟨this, by unfold numV; rw [if_neg (by omega)]⟩
theorem num_fine {l : List UInt8} {m : Int} (h : (get l).2.2 = 0) (h2 : ¬ m < ((get l).1 : Int)) : numE l m = (get l).2.2 ∧ numV l m = (get l).1 := by
 have : numE l m = 0 := by unfold numE; rw [if_pos h, if_neg h2]
 exact ⟨by omega, by unfold numV; rw [if_pos this]⟩
theorem num_bad {l : List UInt8} {m : Int} (h : ¬ (get l).2.2 = 0) : numE l m = (get l).2.2 ∧ numV l m = 0 := by
 have : numE l m = (get l).2.2 := by unfold numE; rw [if_neg h]
 exact ⟨this, by unfold numV; rw [if_neg (by omega)]⟩
def cNum (b : List UInt8) (a : Nat) (e m : Int) : Int := if e = 0 then numV (b.drop a) m else 0
def cNumA (b : List UInt8) (a : Nat) (e m : Int) : Nat := if e = 0 ∧ numE (b.drop a) m = 0 then a + (get (b.drop a)).2.1 else a
def cNumE (b : List UInt8) (a : Nat) (e m : Int) : Int := if e = 0 then numE (b.drop a) m else e
theorem num1_ok (bm bv : Nat) (m : Int) (u : Value) (l : List UInt8) (w : World) (hu : RdE byteV w u l) (hr : Res w [⟨bm, 2, [.int .i64 m]⟩, ⟨bv, 2, [.int .i64 0]⟩]) (hl : l.length ≤ 140737488355328) : Calls Tryz.prog 124 [u, .pointer (some ⟨bm, 0, none⟩), .pointer (some ⟨bv, 0, none⟩)].toArray w (Rt fun r w' => r = .tuple #[.int .i64 (((get l).2.1 : Nat) : Int), .int .i64 (numE l m)] ∧ ∃ rv', rv' = [⟨bm, 2, [.int .i64 m]⟩, ⟨bv, 2, [.int .i64 (numV l m)]⟩] ∧ Mem w (ids [⟨bm, 2, [.int .i64 m]⟩, ⟨bv, 2, [.int .i64 0]⟩]) w' [rv']) := by
 have hM0 : Mem w (ids [⟨bm, 2, [.int .i64 m]⟩, ⟨bv, 2, [.int .i64 0]⟩]) w [[⟨bm, 2, [.int .i64 m]⟩], [⟨bv, 2, [.int .i64 0]⟩]] := (Mem.start hr).keep (by simp)
 refine calls_vc mixed Tryz.func124 rfl C124 (by simp [Tryz.ntmps124]) <| seq fun _ h1 => mv <| mv <| h1 _ _ <| seq fun _ h2 => mv <| m_call (Get_ok _ l w (hu) (by first | omega | (simp; done) | (simp; omega))) rfl fun v3 w3 ⟨hr3, hu3⟩ => ?_
 have hM3 : Mem _ _ w3 [_, _] := hM0.pure hu3
 subst hr3
 refine mv <| ext rfl rfl <| ext rfl rfl <| ext rfl rfl <| mv <| mv <| mv <| h2 _ _ <| seq fun _ h4 => seq fun _ h5 => mv <| bn rfl rfl <| mv <| splitP rfl (fun c6 => ?_) (fun c6 => ?_)
 ·refine gmv rfl <| gyesl rfl <| m_ld (v := .int .i64 m) hM3 (i := 0) (j := 0) rfl rfl rfl rfl <| gbn rfl rfl rfl <| pkT rfl <| h5 _ _ <| cndP rfl (fun c7 => ?_) (fun c7 => ?_)
  ·refine mv <| h4 _ _ <| seq fun _ h8 => seq fun _ h9 => mv <| bn rfl rfl <| h9 _ _ <| cndP rfl (fun c10 => ?_) (fun c10 => ?_)
   ·refine mv <| m_st (v := .int .i64 ((get l).1 : Nat)) hM3 (i := 1) rfl rfl rfl rfl (by simp) fun w11 (hM11 : Mem _ _ w11 [_, [⟨bv, 2, [.int .i64 ((get l).1 : Nat)]⟩]]) => h8 _ _ <| seq fun _ h12 => mv <| mv <| mv <| mv <| h12 _ _ <| ⟨(.tuple [.int .i64 ((get l).2.1 : Nat), .int .i64 23].toArray), rfl, ?_⟩
    omega
   refine h8 _ _ <| seq fun _ h13 => mv <| mv <| mv <| mv <| h13 _ _ <| ⟨(.tuple [.int .i64 ((get l).2.1 : Nat), .int .i64 23].toArray), rfl, ⟨by rw [(num_much (by omega) (by omega)).1], _, by rw [(num_much (by omega) (by omega)).2], hM3.keep (by simp)⟩⟩
  refine h4 _ _ <| seq fun _ h14 => seq fun _ h15 => mv <| bn rfl rfl <| h15 _ _ <| cndP rfl (fun c16 => ?_) (fun c16 => ?_)
  ·refine mv <| m_st (v := .int .i64 ((get l).1 : Nat)) hM3 (i := 1) rfl rfl rfl rfl (by simp) fun w17 (hM17 : Mem _ _ w17 [_, [⟨bv, 2, [.int .i64 ((get l).1 : Nat)]⟩]]) => h14 _ _ <| seq fun _ h18 => mv <| mv <| mv <| mv <| h18 _ _ <| ⟨(.tuple [.int .i64 ((get l).2.1 : Nat), .int .i64 ((get l).2.2)].toArray), rfl, ⟨by rw [(num_fine (by omega) (by omega)).1], _, by rw [(num_fine (by omega) (by omega)).2], hM17.keep (by simp)⟩⟩
  refine h14 _ _ <| seq fun _ h19 => mv <| mv <| mv <| mv <| h19 _ _ <| ⟨(.tuple [.int .i64 ((get l).2.1 : Nat), .int .i64 ((get l).2.2)].toArray), rfl, ?_⟩
  omega
 refine gx rfl <| gxl rfl <| gx rfl <| pkF rfl <| h5 _ _ <| cndF rfl <| h4 _ _ <| seq fun _ h20 => seq fun _ h21 => mv <| bn rfl rfl <| h21 _ _ <| cndP rfl (fun c22 => ?_) (fun c22 => ?_)
 ·refine mv <| m_st (v := .int .i64 ((get l).1 : Nat)) hM3 (i := 1) rfl rfl rfl rfl (by simp) fun w23 (hM23 : Mem _ _ w23 [_, [⟨bv, 2, [.int .i64 ((get l).1 : Nat)]⟩]]) => h20 _ _ <| seq fun _ h24 => mv <| mv <| mv <| mv <| h24 _ _ <| ⟨(.tuple [.int .i64 ((get l).2.1 : Nat), .int .i64 ((get l).2.2)].toArray), rfl, ?_⟩
  omega
 refine h20 _ _ <| seq fun _ h25 => mv <| mv <| mv <| mv <| h25 _ _ <| ⟨(.tuple [.int .i64 ((get l).2.1 : Nat), .int .i64 ((get l).2.2)].toArray), rfl, ⟨by rw [(num_bad (by omega)).1], _, by rw [(num_bad (by omega)).2], hM3.keep (by simp)⟩⟩
end Go.Proofs.YtifnmbmijljhfaaGreat.E
