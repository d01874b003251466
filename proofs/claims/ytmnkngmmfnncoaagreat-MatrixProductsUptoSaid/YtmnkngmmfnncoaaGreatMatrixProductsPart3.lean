/- Part 3 of the proof of MatrixProducts: C1, CI, C1b, N1, N2, N3, N4, N5, N6, N7, N8, N9, N10, N11, N12, N13, N14, N15, I1, R1, R2, FwUB, FwNA, FwNB, FwND. Own lemmas; no conditions. -/
import Derived.Test.YtmnkngmmfnncoaaGreatMatrixProductsPart2
import Derived.Test.YtmnkngmmfnncoaaGreatProg
set_option linter.unusedSimpArgs false
set_option linter.unnecessarySimpa false
set_option linter.unusedVariables false
namespace Go.Proofs.YtmnkngmmfnncoaaGreat
open Go Go.FW
set_option maxRecDepth 100000
theorem Qm : Tryz.prog.follows .mixedOrders = true := by kernel_rfl
def Qt0 : SFn := ⟨21, [.t 2], .seq (.rg (.o none (.mv 2 (.c .nilS)) .nil)) <| .seq (.rg (.o none (.mv 4 (.t 0)) <|
 .o none (.len 5 (.t 4)) <|
 .o none (.mv 3 (.t 5)) .nil)) <| .seq (.block 0 (.loop (.seq (.seq (.rg (.o none (.mv 6 (.t 3)) <|
 .o none (.bin 7 .gtr false (.t 6) (.c (.int .i64 0))) <|
 .o none (.mv 8 (.t 7)) <|
 .o (some (8, true)) (.mv 9 (.t 0)) <|
 .o (some (8, true)) (.mv 10 (.t 3)) <|
 .o (some (8, true)) (.bin 11 .sub false (.t 10) (.c (.int .i64 1))) <|
 .o (some (8, true)) (.idx 12 1 (.t 9) (.t 11)) <|
 .o (some (8, true)) (.ld 13 1 false (.t 12)) <|
 .o (some (8, true)) (.bin 14 .eql false (.t 13) (.c (.int .u16 0))) <|
 .o none (.pick 15 (.t 8) (.t 14) (.c (.bool false))) .nil)) <| .cond (.t 15) (.skip) (.exit 0)) <| .block 1 (.rg (.o none (.mv 16 (.t 3)) <|
 .o none (.bin 17 .sub false (.t 16) (.c (.int .i64 1))) <|
 .o none (.mv 3 (.t 17)) .nil))))) <| .seq (.rg (.o none (.mv 18 (.t 0)) <|
 .o none (.mv 19 (.t 3)) <|
 .o none (.sl 20 1 (.t 18) none (some (.t 19)) none) <|
 .o none (.mv 2 (.t 20)) .nil)) <| .ret⟩
theorem Qv8 : Qf Tryz.prog Tryz.f177 = some Qt0 := by kernel_rfl
def Q3b : SFn := ⟨16, [.t 2], .seq (.rg (.o none (.mv 2 (.c .nilS)) .nil)) <| .seq (.rg (.o none (.mv 4 (.t 0)) <|
 .o none (.call (some 5) false (.c (.fn 177 [] [])) [(.t 4)]) <|
 .o none (.mv 0 (.t 5)) .nil)) <| .seq (.seq (.rg (.o none (.mv 6 (.t 0)) <|
 .o none (.len 7 (.t 6)) <|
 .o none (.bin 8 .eql false (.t 7) (.c (.int .i64 0))) .nil)) <| .cond (.t 8) (.seq (.rg (.o none (.mv 2 (.c .nilS)) .nil)) <| .ret) (.skip)) <| .seq (.rg (.o none (.mv 9 (.t 0)) <|
 .o none (.len 10 (.t 9)) <|
 .o none (.mk 11 1 2 156 (.int .u16 0) (.t 10) (.t 10)) <|
 .o none (.mv 3 (.t 11)) .nil)) <| .seq (.rg (.o none (.mv 12 (.t 3)) <|
 .o none (.mv 13 (.t 0)) <|
 .o none (.cpy 14 1 (.t 12) (.t 13)) .nil)) <| .seq (.rg (.o none (.mv 15 (.t 3)) <|
 .o none (.mv 2 (.t 15)) .nil)) <| .ret⟩
theorem Q7d : Qf Tryz.prog Tryz.f173 = some Q3b := by kernel_rfl
def Q3c : SFn := ⟨14, [.t 2], .seq (.rg (.o none (.mv 2 (.c .nilS)) .nil)) <| .seq (.rg (.o none (.mv 3 (.c .nilS)) .nil)) <| .seq (.block 0 (.loop (.seq (.seq (.rg (.o none (.mv 4 (.t 0)) <|
 .o none (.bin 5 .gtr false (.t 4) (.c (.int .u64 0))) .nil)) <| .cond (.t 5) (.skip) (.exit 0)) <| .seq (.block 1 (.rg (.o none (.mv 8 (.t 3)) <|
 .o none (.mv 9 (.t 0)) <|
 .o none (.conv 10 .u16 (.t 9)) <|
 .o none (.bs 11 1 156 [(.t 10)]) <|
 .o none (.app 12 1 2 156 (.t 8) (.t 11)) <|
 .o none (.mv 3 (.t 12)) .nil))) <| .rg (.o none (.mv 6 (.t 0)) <|
 .o none (.bin 7 .shr false (.t 6) (.c (.int .u64 16))) <|
 .o none (.mv 0 (.t 7)) .nil)))) <| .seq (.rg (.o none (.mv 13 (.t 3)) <|
 .o none (.mv 2 (.t 13)) .nil)) <| .ret⟩
theorem Q7e : Qf Tryz.prog Tryz.f143 = some Q3c := by kernel_rfl
def Q3d : SFn := ⟨28, [.t 2, .t 3], .seq (.rg (.o none (.mv 2 (.c (.int .u64 0))) <|
 .o none (.mv 3 (.c (.bool false))) .nil)) <| .seq (.rg (.o none (.mv 7 (.t 0)) <|
 .o none (.call (some 8) false (.c (.fn 177 [] [])) [(.t 7)]) <|
 .o none (.mv 0 (.t 8)) .nil)) <| .seq (.seq (.rg (.o none (.mv 9 (.t 0)) <|
 .o none (.len 10 (.t 9)) <|
 .o none (.bin 11 .gtr false (.t 10) (.c (.int .i64 4))) .nil)) <| .cond (.t 11) (.seq (.rg (.o none (.mv 2 (.c (.int .u64 0))) <|
 .o none (.mv 3 (.c (.bool false))) .nil)) <| .ret) (.skip)) <| .seq (.rg (.o none (.mv 4 (.c (.int .u64 0))) .nil)) <| .seq (.seq (.rg (.o none (.mv 12 (.t 0)) <|
 .o none (.len 13 (.t 12)) <|
 .o none (.mv 14 (.c (.int .i64 0))) .nil)) <| .block 0 (.loop (.seq (.rg (.o none (.bin 15 .lss false (.t 14) (.t 13)) .nil)) <| .seq (.cond (.t 15) (.skip) (.exit 0)) <| .seq (.block 1 (.seq (.rg (.o none (.mv 16 (.t 14)) <|
 .o none (.idx 17 1 (.t 12) (.t 14)) <|
 .o none (.ld 18 1 false (.t 17)) <|
 .o none (.mv 5 (.t 16)) <|
 .o none (.mv 6 (.t 18)) .nil)) <| .rg (.o none (.mv 19 (.t 4)) <|
 .o none (.mv 20 (.t 6)) <|
 .o none (.conv 21 .u64 (.t 20)) <|
 .o none (.mv 22 (.t 5)) <|
 .o none (.bin 23 .mul false (.c (.int .i64 16)) (.t 22)) <|
 .o none (.bin 24 .shl false (.t 21) (.t 23)) <|
 .o none (.bin 25 .or false (.t 19) (.t 24)) <|
 .o none (.mv 4 (.t 25)) .nil))) <| .rg (.o none (.bin 26 .add false (.t 14) (.c (.int .i64 1))) <|
 .o none (.mv 14 (.t 26)) .nil)))) <| .seq (.rg (.o none (.mv 27 (.t 4)) <|
 .o none (.mv 2 (.t 27)) <|
 .o none (.mv 3 (.c (.bool true))) .nil)) <| .ret⟩
theorem Q7f : Qf Tryz.prog Tryz.f195 = some Q3d := by kernel_rfl
def Q3e : SFn := ⟨20, [.t 2], .seq (.rg (.o none (.mv 2 (.c (.int .i64 0))) .nil)) <| .seq (.rg (.o none (.mv 3 (.t 0)) <|
 .o none (.call (some 4) false (.c (.fn 177 [] [])) [(.t 3)]) <|
 .o none (.mv 0 (.t 4)) .nil)) <| .seq (.seq (.rg (.o none (.mv 5 (.t 0)) <|
 .o none (.len 6 (.t 5)) <|
 .o none (.bin 7 .eql false (.t 6) (.c (.int .i64 0))) .nil)) <| .cond (.t 7) (.seq (.rg (.o none (.mv 2 (.c (.int .i64 0))) .nil)) <| .ret) (.skip)) <| .seq (.rg (.o none (.mv 8 (.t 0)) <|
 .o none (.len 9 (.t 8)) <|
 .o none (.bin 10 .sub false (.t 9) (.c (.int .i64 1))) <|
 .o none (.bin 11 .mul false (.c (.int .i64 16)) (.t 10)) <|
 .o none (.mv 12 (.t 0)) <|
 .o none (.mv 13 (.t 0)) <|
 .o none (.len 14 (.t 13)) <|
 .o none (.bin 15 .sub false (.t 14) (.c (.int .i64 1))) <|
 .o none (.idx 16 1 (.t 12) (.t 15)) <|
 .o none (.ld 17 1 false (.t 16)) <|
 .o none (.call (some 18) false (.c (.fn 211 [] [])) [(.t 17)]) <|
 .o none (.bin 19 .add false (.t 11) (.t 18)) <|
 .o none (.mv 2 (.t 19)) .nil)) <| .ret⟩
theorem Q7g : Qf Tryz.prog Tryz.f172 = some Q3e := by kernel_rfl
def Q3f : SFn := ⟨45, [.t 4], .seq (.rg (.o none (.mv 4 (.c (.int .i64 0))) .nil)) <| .seq (.rg (.o none (.mv 6 (.t 0)) <|
 .o none (.call (some 7) false (.c (.fn 177 [] [])) [(.t 6)]) <|
 .o none (.mv 8 (.t 1)) <|
 .o none (.call (some 9) false (.c (.fn 177 [] [])) [(.t 8)]) <|
 .o none (.mv 0 (.t 7)) <|
 .o none (.mv 1 (.t 9)) .nil)) <| .seq (.seq (.rg (.o none (.mv 10 (.t 0)) <|
 .o none (.len 11 (.t 10)) <|
 .o none (.mv 12 (.t 1)) <|
 .o none (.len 13 (.t 12)) <|
 .o none (.bin 14 .neq false (.t 11) (.t 13)) .nil)) <| .cond (.t 14) (.seq (.seq (.rg (.o none (.mv 15 (.t 0)) <|
 .o none (.len 16 (.t 15)) <|
 .o none (.mv 17 (.t 1)) <|
 .o none (.len 18 (.t 17)) <|
 .o none (.bin 19 .lss false (.t 16) (.t 18)) .nil)) <| .cond (.t 19) (.seq (.rg (.o none (.mv 4 (.c (.int .i64 (-1)))) .nil)) <| .ret) (.skip)) <| .seq (.rg (.o none (.mv 4 (.c (.int .i64 1))) .nil)) <| .ret) (.skip)) <| .seq (.seq (.rg (.o none (.mv 20 (.t 0)) <|
 .o none (.len 21 (.t 20)) <|
 .o none (.bin 22 .sub false (.t 21) (.c (.int .i64 1))) <|
 .o none (.mv 5 (.t 22)) .nil)) <| .block 0 (.loop (.seq (.seq (.rg (.o none (.mv 23 (.t 5)) <|
 .o none (.bin 24 .geq false (.t 23) (.c (.int .i64 0))) .nil)) <| .cond (.t 24) (.skip) (.exit 0)) <| .seq (.block 1 (.seq (.seq (.rg (.o none (.mv 27 (.t 0)) <|
 .o none (.mv 28 (.t 5)) <|
 .o none (.idx 29 1 (.t 27) (.t 28)) <|
 .o none (.ld 30 1 false (.t 29)) <|
 .o none (.mv 31 (.t 1)) <|
 .o none (.mv 32 (.t 5)) <|
 .o none (.idx 33 1 (.t 31) (.t 32)) <|
 .o none (.ld 34 1 false (.t 33)) <|
 .o none (.bin 35 .lss false (.t 30) (.t 34)) .nil)) <| .cond (.t 35) (.seq (.rg (.o none (.mv 4 (.c (.int .i64 (-1)))) .nil)) <| .ret) (.skip)) <| .seq (.rg (.o none (.mv 36 (.t 0)) <|
 .o none (.mv 37 (.t 5)) <|
 .o none (.idx 38 1 (.t 36) (.t 37)) <|
 .o none (.ld 39 1 false (.t 38)) <|
 .o none (.mv 40 (.t 1)) <|
 .o none (.mv 41 (.t 5)) <|
 .o none (.idx 42 1 (.t 40) (.t 41)) <|
 .o none (.ld 43 1 false (.t 42)) <|
 .o none (.bin 44 .gtr false (.t 39) (.t 43)) .nil)) <| .cond (.t 44) (.seq (.rg (.o none (.mv 4 (.c (.int .i64 1))) .nil)) <| .ret) (.skip))) <| .rg (.o none (.mv 25 (.t 5)) <|
 .o none (.bin 26 .sub false (.t 25) (.c (.int .i64 1))) <|
 .o none (.mv 5 (.t 26)) .nil)))) <| .seq (.rg (.o none (.mv 4 (.c (.int .i64 0))) .nil)) <| .ret⟩
theorem Q7h : Qf Tryz.prog Tryz.f196 = some Q3f := by kernel_rfl
def Q3g : SFn := ⟨64, [.t 4], .seq (.rg (.o none (.mv 4 (.c .nilS)) .nil)) <| .seq (.rg (.o none (.mv 9 (.t 0)) <|
 .o none (.call (some 10) false (.c (.fn 177 [] [])) [(.t 9)]) <|
 .o none (.mv 11 (.t 1)) <|
 .o none (.call (some 12) false (.c (.fn 177 [] [])) [(.t 11)]) <|
 .o none (.mv 0 (.t 10)) <|
 .o none (.mv 1 (.t 12)) .nil)) <| .seq (.seq (.rg (.o none (.mv 13 (.t 0)) <|
 .o none (.len 14 (.t 13)) <|
 .o none (.mv 15 (.t 1)) <|
 .o none (.len 16 (.t 15)) <|
 .o none (.bin 17 .lss false (.t 14) (.t 16)) .nil)) <| .cond (.t 17) (.rg (.o none (.mv 18 (.t 1)) <|
 .o none (.mv 19 (.t 0)) <|
 .o none (.mv 0 (.t 18)) <|
 .o none (.mv 1 (.t 19)) .nil)) (.skip)) <| .seq (.rg (.o none (.mv 20 (.t 0)) <|
 .o none (.len 21 (.t 20)) <|
 .o none (.mv 22 (.t 0)) <|
 .o none (.len 23 (.t 22)) <|
 .o none (.bin 24 .add false (.t 23) (.c (.int .i64 1))) <|
 .o none (.mk 25 1 2 156 (.int .u16 0) (.t 21) (.t 24)) <|
 .o none (.mv 5 (.t 25)) .nil)) <| .seq (.rg (.o none (.mv 6 (.c (.int .u32 0))) .nil)) <| .seq (.seq (.rg (.o none (.mv 26 (.t 0)) <|
 .o none (.len 27 (.t 26)) <|
 .o none (.mv 28 (.c (.int .i64 0))) .nil)) <| .block 0 (.loop (.seq (.rg (.o none (.bin 29 .lss false (.t 28) (.t 27)) .nil)) <| .seq (.cond (.t 29) (.skip) (.exit 0)) <| .seq (.block 1 (.seq (.rg (.o none (.mv 30 (.t 28)) <|
 .o none (.idx 31 1 (.t 26) (.t 28)) <|
 .o none (.ld 32 1 false (.t 31)) <|
 .o none (.mv 7 (.t 30)) <|
 .o none (.mv 8 (.t 32)) .nil)) <| .seq (.rg (.o none (.mv 33 (.t 6)) <|
 .o none (.mv 34 (.t 8)) <|
 .o none (.conv 35 .u32 (.t 34)) <|
 .o none (.bin 36 .add false (.t 33) (.t 35)) <|
 .o none (.mv 6 (.t 36)) .nil)) <| .seq (.seq (.rg (.o none (.mv 37 (.t 7)) <|
 .o none (.mv 38 (.t 1)) <|
 .o none (.len 39 (.t 38)) <|
 .o none (.bin 40 .lss false (.t 37) (.t 39)) .nil)) <| .cond (.t 40) (.rg (.o none (.mv 41 (.t 6)) <|
 .o none (.mv 42 (.t 1)) <|
 .o none (.mv 43 (.t 7)) <|
 .o none (.idx 44 1 (.t 42) (.t 43)) <|
 .o none (.ld 45 1 false (.t 44)) <|
 .o none (.conv 46 .u32 (.t 45)) <|
 .o none (.bin 47 .add false (.t 41) (.t 46)) <|
 .o none (.mv 6 (.t 47)) .nil)) (.skip)) <| .seq (.rg (.o none (.mv 48 (.t 5)) <|
 .o none (.mv 49 (.t 7)) <|
 .o none (.mv 50 (.t 6)) <|
 .o none (.conv 51 .u16 (.t 50)) <|
 .o none (.idx 52 1 (.t 48) (.t 49)) <|
 .o none (.st 1 (.t 52) (.t 51)) .nil)) <| .rg (.o none (.mv 53 (.t 6)) <|
 .o none (.bin 54 .shr false (.t 53) (.c (.int .u64 16))) <|
 .o none (.mv 6 (.t 54)) .nil))) <| .rg (.o none (.bin 55 .add false (.t 28) (.c (.int .i64 1))) <|
 .o none (.mv 28 (.t 55)) .nil)))) <| .seq (.seq (.rg (.o none (.mv 56 (.t 6)) <|
 .o none (.bin 57 .gtr false (.t 56) (.c (.int .u32 0))) .nil)) <| .cond (.t 57) (.rg (.o none (.mv 58 (.t 5)) <|
 .o none (.mv 59 (.t 6)) <|
 .o none (.conv 60 .u16 (.t 59)) <|
 .o none (.bs 61 1 156 [(.t 60)]) <|
 .o none (.app 62 1 2 156 (.t 58) (.t 61)) <|
 .o none (.mv 5 (.t 62)) .nil)) (.skip)) <| .seq (.rg (.o none (.mv 63 (.t 5)) <|
 .o none (.mv 4 (.t 63)) .nil)) <| .ret⟩
theorem Q7i : Qf Tryz.prog Tryz.f213 = some Q3g := by kernel_rfl
def Q3h : SFn := ⟨56, [.t 4, .t 5], .seq (.rg (.o none (.mv 4 (.c .nilS)) <|
 .o none (.mv 5 (.c (.int .i64 0))) .nil)) <| .seq (.seq (.rg (.o none (.mv 11 (.t 0)) <|
 .o none (.mv 12 (.t 1)) <|
 .o none (.call (some 13) false (.c (.fn 196 [] [])) [(.t 11), (.t 12)]) <|
 .o none (.bin 14 .lss false (.t 13) (.c (.int .i64 0))) .nil)) <| .cond (.t 14) (.seq (.rg (.o none (.mv 4 (.c .nilS)) <|
 .o none (.mv 5 (.c (.int .i64 2))) .nil)) <| .ret) (.skip)) <| .seq (.rg (.o none (.mv 15 (.t 0)) <|
 .o none (.call (some 16) false (.c (.fn 177 [] [])) [(.t 15)]) <|
 .o none (.mv 17 (.t 1)) <|
 .o none (.call (some 18) false (.c (.fn 177 [] [])) [(.t 17)]) <|
 .o none (.mv 0 (.t 16)) <|
 .o none (.mv 1 (.t 18)) .nil)) <| .seq (.rg (.o none (.mv 19 (.t 0)) <|
 .o none (.len 20 (.t 19)) <|
 .o none (.mk 21 1 2 156 (.int .u16 0) (.t 20) (.t 20)) <|
 .o none (.mv 6 (.t 21)) .nil)) <| .seq (.rg (.o none (.mv 7 (.c (.int .i32 0))) .nil)) <| .seq (.seq (.rg (.o none (.mv 22 (.t 0)) <|
 .o none (.len 23 (.t 22)) <|
 .o none (.mv 24 (.c (.int .i64 0))) .nil)) <| .block 0 (.loop (.seq (.rg (.o none (.bin 25 .lss false (.t 24) (.t 23)) .nil)) <| .seq (.cond (.t 25) (.skip) (.exit 0)) <| .seq (.block 1 (.seq (.rg (.o none (.mv 26 (.t 24)) <|
 .o none (.idx 27 1 (.t 22) (.t 24)) <|
 .o none (.ld 28 1 false (.t 27)) <|
 .o none (.mv 8 (.t 26)) <|
 .o none (.mv 9 (.t 28)) .nil)) <| .seq (.rg (.o none (.mv 29 (.t 9)) <|
 .o none (.conv 30 .i32 (.t 29)) <|
 .o none (.mv 31 (.t 7)) <|
 .o none (.bin 32 .sub false (.t 30) (.t 31)) <|
 .o none (.mv 10 (.t 32)) .nil)) <| .seq (.seq (.rg (.o none (.mv 33 (.t 8)) <|
 .o none (.mv 34 (.t 1)) <|
 .o none (.len 35 (.t 34)) <|
 .o none (.bin 36 .lss false (.t 33) (.t 35)) .nil)) <| .cond (.t 36) (.rg (.o none (.mv 37 (.t 10)) <|
 .o none (.mv 38 (.t 1)) <|
 .o none (.mv 39 (.t 8)) <|
 .o none (.idx 40 1 (.t 38) (.t 39)) <|
 .o none (.ld 41 1 false (.t 40)) <|
 .o none (.conv 42 .i32 (.t 41)) <|
 .o none (.bin 43 .sub false (.t 37) (.t 42)) <|
 .o none (.mv 10 (.t 43)) .nil)) (.skip)) <| .seq (.rg (.o none (.mv 7 (.c (.int .i32 0))) .nil)) <| .seq (.seq (.rg (.o none (.mv 44 (.t 10)) <|
 .o none (.bin 45 .lss false (.t 44) (.c (.int .i32 0))) .nil)) <| .cond (.t 45) (.seq (.rg (.o none (.mv 46 (.t 10)) <|
 .o none (.bin 47 .add false (.t 46) (.c (.int .i32 65536))) <|
 .o none (.mv 10 (.t 47)) .nil)) <| .rg (.o none (.mv 7 (.c (.int .i32 1))) .nil)) (.skip)) <| .rg (.o none (.mv 48 (.t 6)) <|
 .o none (.mv 49 (.t 8)) <|
 .o none (.mv 50 (.t 10)) <|
 .o none (.conv 51 .u16 (.t 50)) <|
 .o none (.idx 52 1 (.t 48) (.t 49)) <|
 .o none (.st 1 (.t 52) (.t 51)) .nil))) <| .rg (.o none (.bin 53 .add false (.t 24) (.c (.int .i64 1))) <|
 .o none (.mv 24 (.t 53)) .nil)))) <| .seq (.rg (.o none (.mv 54 (.t 6)) <|
 .o none (.call (some 55) false (.c (.fn 177 [] [])) [(.t 54)]) <|
 .o none (.mv 4 (.t 55)) <|
 .o none (.mv 5 (.c (.int .i64 0))) .nil)) <| .ret⟩
theorem Q7j : Qf Tryz.prog Tryz.f214 = some Q3h := by kernel_rfl
def Q3i : SFn := ⟨79, [.t 4], .seq (.rg (.o none (.mv 4 (.c .nilS)) .nil)) <| .seq (.rg (.o none (.mv 11 (.t 0)) <|
 .o none (.call (some 12) false (.c (.fn 177 [] [])) [(.t 11)]) <|
 .o none (.mv 13 (.t 1)) <|
 .o none (.call (some 14) false (.c (.fn 177 [] [])) [(.t 13)]) <|
 .o none (.mv 0 (.t 12)) <|
 .o none (.mv 1 (.t 14)) .nil)) <| .seq (.seq (.rg (.o none (.mv 15 (.t 0)) <|
 .o none (.len 16 (.t 15)) <|
 .o none (.bin 17 .eql false (.t 16) (.c (.int .i64 0))) <|
 .o none (.mv 18 (.t 17)) <|
 .o (some (18, false)) (.mv 19 (.t 1)) <|
 .o (some (18, false)) (.len 20 (.t 19)) <|
 .o (some (18, false)) (.bin 21 .eql false (.t 20) (.c (.int .i64 0))) <|
 .o none (.pick 22 (.t 18) (.c (.bool true)) (.t 21)) .nil)) <| .cond (.t 22) (.seq (.rg (.o none (.mv 4 (.c .nilS)) .nil)) <| .ret) (.skip)) <| .seq (.rg (.o none (.mv 23 (.t 0)) <|
 .o none (.len 24 (.t 23)) <|
 .o none (.mv 25 (.t 1)) <|
 .o none (.len 26 (.t 25)) <|
 .o none (.bin 27 .add false (.t 24) (.t 26)) <|
 .o none (.mk 28 1 2 156 (.int .u16 0) (.t 27) (.t 27)) <|
 .o none (.mv 5 (.t 28)) .nil)) <| .seq (.seq (.rg (.o none (.mv 29 (.t 0)) <|
 .o none (.len 30 (.t 29)) <|
 .o none (.mv 31 (.c (.int .i64 0))) .nil)) <| .block 0 (.loop (.seq (.rg (.o none (.bin 32 .lss false (.t 31) (.t 30)) .nil)) <| .seq (.cond (.t 32) (.skip) (.exit 0)) <| .seq (.block 1 (.seq (.rg (.o none (.mv 33 (.t 31)) <|
 .o none (.idx 34 1 (.t 29) (.t 31)) <|
 .o none (.ld 35 1 false (.t 34)) <|
 .o none (.mv 6 (.t 33)) <|
 .o none (.mv 7 (.t 35)) .nil)) <| .seq (.rg (.o none (.mv 8 (.c (.int .u32 0))) .nil)) <| .seq (.seq (.rg (.o none (.mv 36 (.t 1)) <|
 .o none (.len 37 (.t 36)) <|
 .o none (.mv 38 (.c (.int .i64 0))) .nil)) <| .block 2 (.loop (.seq (.rg (.o none (.bin 39 .lss false (.t 38) (.t 37)) .nil)) <| .seq (.cond (.t 39) (.skip) (.exit 2)) <| .seq (.block 3 (.seq (.rg (.o none (.mv 40 (.t 38)) <|
 .o none (.idx 41 1 (.t 36) (.t 38)) <|
 .o none (.ld 42 1 false (.t 41)) <|
 .o none (.mv 9 (.t 40)) <|
 .o none (.mv 10 (.t 42)) .nil)) <| .seq (.rg (.o none (.mv 43 (.t 8)) <|
 .o none (.mv 44 (.t 5)) <|
 .o none (.mv 45 (.t 6)) <|
 .o none (.mv 46 (.t 9)) <|
 .o none (.bin 47 .add false (.t 45) (.t 46)) <|
 .o none (.idx 48 1 (.t 44) (.t 47)) <|
 .o none (.ld 49 1 false (.t 48)) <|
 .o none (.conv 50 .u32 (.t 49)) <|
 .o none (.mv 51 (.t 7)) <|
 .o none (.conv 52 .u32 (.t 51)) <|
 .o none (.mv 53 (.t 10)) <|
 .o none (.conv 54 .u32 (.t 53)) <|
 .o none (.bin 55 .mul false (.t 52) (.t 54)) <|
 .o none (.bin 56 .add false (.t 50) (.t 55)) <|
 .o none (.bin 57 .add false (.t 43) (.t 56)) <|
 .o none (.mv 8 (.t 57)) .nil)) <| .seq (.rg (.o none (.mv 58 (.t 5)) <|
 .o none (.mv 59 (.t 6)) <|
 .o none (.mv 60 (.t 9)) <|
 .o none (.bin 61 .add false (.t 59) (.t 60)) <|
 .o none (.mv 62 (.t 8)) <|
 .o none (.conv 63 .u16 (.t 62)) <|
 .o none (.idx 64 1 (.t 58) (.t 61)) <|
 .o none (.st 1 (.t 64) (.t 63)) .nil)) <| .rg (.o none (.mv 65 (.t 8)) <|
 .o none (.bin 66 .shr false (.t 65) (.c (.int .u64 16))) <|
 .o none (.mv 8 (.t 66)) .nil))) <| .rg (.o none (.bin 67 .add false (.t 38) (.c (.int .i64 1))) <|
 .o none (.mv 38 (.t 67)) .nil)))) <| .rg (.o none (.mv 68 (.t 5)) <|
 .o none (.mv 69 (.t 6)) <|
 .o none (.mv 70 (.t 1)) <|
 .o none (.len 71 (.t 70)) <|
 .o none (.bin 72 .add false (.t 69) (.t 71)) <|
 .o none (.mv 73 (.t 8)) <|
 .o none (.conv 74 .u16 (.t 73)) <|
 .o none (.idx 75 1 (.t 68) (.t 72)) <|
 .o none (.st 1 (.t 75) (.t 74)) .nil))) <| .rg (.o none (.bin 76 .add false (.t 31) (.c (.int .i64 1))) <|
 .o none (.mv 31 (.t 76)) .nil)))) <| .seq (.rg (.o none (.mv 77 (.t 5)) <|
 .o none (.call (some 78) false (.c (.fn 177 [] [])) [(.t 77)]) <|
 .o none (.mv 4 (.t 78)) .nil)) <| .ret⟩
theorem Q7k : Qf Tryz.prog Tryz.f114 = some Q3i := by kernel_rfl
def Q3j : SFn := ⟨43, [.t 4, .t 5], .seq (.rg (.o none (.mv 4 (.c .nilS)) <|
 .o none (.mv 5 (.c (.int .u16 0))) .nil)) <| .seq (.rg (.o none (.mv 9 (.t 0)) <|
 .o none (.len 10 (.t 9)) <|
 .o none (.mk 11 1 2 156 (.int .u16 0) (.t 10) (.t 10)) <|
 .o none (.mv 6 (.t 11)) .nil)) <| .seq (.rg (.o none (.mv 7 (.c (.int .u32 0))) .nil)) <| .seq (.seq (.rg (.o none (.mv 12 (.t 0)) <|
 .o none (.len 13 (.t 12)) <|
 .o none (.bin 14 .sub false (.t 13) (.c (.int .i64 1))) <|
 .o none (.mv 8 (.t 14)) .nil)) <| .block 0 (.loop (.seq (.seq (.rg (.o none (.mv 15 (.t 8)) <|
 .o none (.bin 16 .geq false (.t 15) (.c (.int .i64 0))) .nil)) <| .cond (.t 16) (.skip) (.exit 0)) <| .seq (.block 1 (.seq (.rg (.o none (.mv 19 (.t 7)) <|
 .o none (.bin 20 .shl false (.t 19) (.c (.int .u64 16))) <|
 .o none (.mv 21 (.t 0)) <|
 .o none (.mv 22 (.t 8)) <|
 .o none (.idx 23 1 (.t 21) (.t 22)) <|
 .o none (.ld 24 1 false (.t 23)) <|
 .o none (.conv 25 .u32 (.t 24)) <|
 .o none (.bin 26 .or false (.t 20) (.t 25)) <|
 .o none (.mv 7 (.t 26)) .nil)) <| .seq (.rg (.o none (.mv 27 (.t 6)) <|
 .o none (.mv 28 (.t 8)) <|
 .o none (.mv 29 (.t 7)) <|
 .o none (.mv 30 (.t 1)) <|
 .o none (.conv 31 .u32 (.t 30)) <|
 .o none (.bin 32 .quo false (.t 29) (.t 31)) <|
 .o none (.conv 33 .u16 (.t 32)) <|
 .o none (.idx 34 1 (.t 27) (.t 28)) <|
 .o none (.st 1 (.t 34) (.t 33)) .nil)) <| .rg (.o none (.mv 35 (.t 7)) <|
 .o none (.mv 36 (.t 1)) <|
 .o none (.conv 37 .u32 (.t 36)) <|
 .o none (.bin 38 .rem false (.t 35) (.t 37)) <|
 .o none (.mv 7 (.t 38)) .nil))) <| .rg (.o none (.mv 17 (.t 8)) <|
 .o none (.bin 18 .sub false (.t 17) (.c (.int .i64 1))) <|
 .o none (.mv 8 (.t 18)) .nil)))) <| .seq (.rg (.o none (.mv 39 (.t 6)) <|
 .o none (.call (some 40) false (.c (.fn 177 [] [])) [(.t 39)]) <|
 .o none (.mv 41 (.t 7)) <|
 .o none (.conv 42 .u16 (.t 41)) <|
 .o none (.mv 4 (.t 40)) <|
 .o none (.mv 5 (.t 42)) .nil)) <| .ret⟩
theorem Q7l : Qf Tryz.prog Tryz.f197 = some Q3j := by kernel_rfl
def Q3k : SFn := ⟨71, [.t 4, .t 5, .t 6], .seq (.rg (.o none (.mv 4 (.c .nilS)) <|
 .o none (.mv 5 (.c .nilS)) <|
 .o none (.mv 6 (.c (.int .i64 0))) .nil)) <| .seq (.rg (.o none (.mv 12 (.t 0)) <|
 .o none (.call (some 13) false (.c (.fn 177 [] [])) [(.t 12)]) <|
 .o none (.mv 14 (.t 1)) <|
 .o none (.call (some 15) false (.c (.fn 177 [] [])) [(.t 14)]) <|
 .o none (.mv 0 (.t 13)) <|
 .o none (.mv 1 (.t 15)) .nil)) <| .seq (.block 0 (.seq (.rg (.o none (.mv 17 (.t 1)) <|
 .o none (.len 18 (.t 17)) <|
 .o none (.bin 19 .eql false (.t 18) (.c (.int .i64 0))) <|
 .o none (.mv 16 (.t 19)) .nil)) <| .cond (.t 16) (.seq (.rg (.o none (.mv 4 (.c .nilS)) <|
 .o none (.mv 5 (.c .nilS)) <|
 .o none (.mv 6 (.c (.int .i64 3))) .nil)) <| .ret) (.seq (.rg (.o none (.mv 21 (.t 0)) <|
 .o none (.mv 22 (.t 1)) <|
 .o none (.call (some 23) false (.c (.fn 196 [] [])) [(.t 21), (.t 22)]) <|
 .o none (.bin 24 .lss false (.t 23) (.c (.int .i64 0))) <|
 .o none (.mv 20 (.t 24)) .nil)) <| .cond (.t 20) (.seq (.rg (.o none (.mv 25 (.t 0)) <|
 .o none (.call (some 26) false (.c (.fn 173 [] [])) [(.t 25)]) <|
 .o none (.mv 4 (.c .nilS)) <|
 .o none (.mv 5 (.t 26)) <|
 .o none (.mv 6 (.c (.int .i64 0))) .nil)) <| .ret) (.seq (.rg (.o none (.mv 28 (.t 1)) <|
 .o none (.len 29 (.t 28)) <|
 .o none (.bin 30 .eql false (.t 29) (.c (.int .i64 1))) <|
 .o none (.mv 27 (.t 30)) .nil)) <| .cond (.t 27) (.seq (.rg (.o none (.mv 32 (.t 0)) <|
 .o none (.mv 33 (.t 1)) <|
 .o none (.idx 34 1 (.t 33) (.c (.int .i64 0))) <|
 .o none (.ld 35 1 false (.t 34)) <|
 .o none (.call (some 36) false (.c (.fn 197 [] [])) [(.t 32), (.t 35)]) <|
 .o none (.mv 31 (.t 36)) <|
 .o none (.ext 37 (.t 31) 0) <|
 .o none (.ext 38 (.t 31) 1) <|
 .o none (.mv 7 (.t 37)) <|
 .o none (.mv 8 (.t 38)) .nil)) <| .seq (.rg (.o none (.mv 39 (.t 7)) <|
 .o none (.mv 40 (.t 8)) <|
 .o none (.conv 41 .u64 (.t 40)) <|
 .o none (.call (some 42) false (.c (.fn 143 [] [])) [(.t 41)]) <|
 .o none (.mv 4 (.t 39)) <|
 .o none (.mv 5 (.t 42)) <|
 .o none (.mv 6 (.c (.int .i64 0))) .nil)) <| .ret) (.skip))))) <| .seq (.rg (.o none (.mv 43 (.t 1)) <|
 .o none (.mv 44 (.t 1)) <|
 .o none (.len 45 (.t 44)) <|
 .o none (.bin 46 .sub false (.t 45) (.c (.int .i64 1))) <|
 .o none (.idx 47 1 (.t 43) (.t 46)) <|
 .o none (.ld 48 1 false (.t 47)) <|
 .o none (.call (some 49) false (.c (.fn 198 [] [])) [(.t 48)]) <|
 .o none (.mv 9 (.t 49)) .nil)) <| .seq (.rg (.o none (.mv 50 (.t 0)) <|
 .o none (.mv 51 (.t 9)) <|
 .o none (.call (some 52) false (.c (.fn 199 [] [])) [(.t 50), (.t 51)]) <|
 .o none (.bs 53 1 156 [(.c (.int .u16 0)), (.c (.int .u16 0))]) <|
 .o none (.app 54 1 2 156 (.t 52) (.t 53)) <|
 .o none (.mv 55 (.t 0)) <|
 .o none (.len 56 (.t 55)) <|
 .o none (.bin 57 .add false (.t 56) (.c (.int .i64 1))) <|
 .o none (.sl 58 1 (.t 54) none (some (.t 57)) none) <|
 .o none (.mv 10 (.t 58)) .nil)) <| .seq (.rg (.o none (.mv 59 (.t 1)) <|
 .o none (.mv 60 (.t 9)) <|
 .o none (.call (some 61) false (.c (.fn 199 [] [])) [(.t 59), (.t 60)]) <|
 .o none (.mv 11 (.t 61)) .nil)) <| .seq (.rg (.o none (.mv 62 (.t 10)) <|
 .o none (.mv 63 (.t 11)) <|
 .o none (.call (some 64) false (.c (.fn 200 [] [])) [(.t 62), (.t 63)]) <|
 .o none (.mv 4 (.t 64)) .nil)) <| .seq (.rg (.o none (.mv 65 (.t 4)) <|
 .o none (.mv 66 (.t 10)) <|
 .o none (.call (some 67) false (.c (.fn 177 [] [])) [(.t 66)]) <|
 .o none (.mv 68 (.t 9)) <|
 .o none (.un 69 .neg (.t 68)) <|
 .o none (.call (some 70) false (.c (.fn 199 [] [])) [(.t 67), (.t 69)]) <|
 .o none (.mv 4 (.t 65)) <|
 .o none (.mv 5 (.t 70)) <|
 .o none (.mv 6 (.c (.int .i64 0))) .nil)) <| .ret⟩
theorem Q7m : Qf Tryz.prog Tryz.f145 = some Q3k := by kernel_rfl
def Q3l : SFn := ⟨31, [.t 6], .seq (.rg (.o none (.mv 6 (.c (.bool false))) .nil)) <| .seq (.rg (.o none (.ld 7 1 false (.t 0)) <|
 .o none (.bin 8 .geq false (.t 7) (.c (.int .u64 65536))) <|
 .o none (.mv 9 (.t 8)) <|
 .o (some (9, false)) (.ld 10 1 false (.t 0)) <|
 .o (some (9, false)) (.ld 11 1 false (.t 1)) <|
 .o (some (9, false)) (.ld 12 1 false (.t 2)) <|
 .o (some (9, false)) (.bin 13 .sub false (.t 12) (.c (.int .i64 2))) <|
 .o (some (9, false)) (.idx 14 1 (.t 11) (.t 13)) <|
 .o (some (9, false)) (.ld 15 1 false (.t 14)) <|
 .o (some (9, false)) (.conv 16 .u64 (.t 15)) <|
 .o (some (9, false)) (.bin 17 .mul false (.t 10) (.t 16)) <|
 .o (some (9, false)) (.ld 18 1 false (.t 3)) <|
 .o (some (9, false)) (.bin 19 .shl false (.t 18) (.c (.int .u64 16))) <|
 .o (some (9, false)) (.ld 20 1 false (.t 4)) <|
 .o (some (9, false)) (.ld 21 1 false (.t 5)) <|
 .o (some (9, false)) (.ld 22 1 false (.t 2)) <|
 .o (some (9, false)) (.bin 23 .add false (.t 21) (.t 22)) <|
 .o (some (9, false)) (.bin 24 .sub false (.t 23) (.c (.int .i64 2))) <|
 .o (some (9, false)) (.idx 25 1 (.t 20) (.t 24)) <|
 .o (some (9, false)) (.ld 26 1 false (.t 25)) <|
 .o (some (9, false)) (.conv 27 .u64 (.t 26)) <|
 .o (some (9, false)) (.bin 28 .or false (.t 19) (.t 27)) <|
 .o (some (9, false)) (.bin 29 .gtr false (.t 17) (.t 28)) <|
 .o none (.pick 30 (.t 9) (.c (.bool true)) (.t 29)) <|
 .o none (.mv 6 (.t 30)) .nil)) <| .ret⟩
theorem Q7n : Qf Tryz.prog Tryz.f221 = some Q3l := by kernel_rfl
def Q3m : SFn := ⟨54, [.t 6], .seq (.rg (.o none (.mv 6 (.c (.bool false))) .nil)) <| .seq (.rg (.o none (.mv 7 (.c (.int .u32 0))) .nil)) <| .seq (.rg (.o none (.mv 8 (.c (.int .i32 0))) .nil)) <| .seq (.seq (.rg (.o none (.mv 11 (.t 0)) <|
 .o none (.len 12 (.t 11)) <|
 .o none (.mv 13 (.c (.int .i64 0))) .nil)) <| .block 0 (.loop (.seq (.rg (.o none (.bin 14 .lss false (.t 13) (.t 12)) .nil)) <| .seq (.cond (.t 14) (.skip) (.exit 0)) <| .seq (.block 1 (.seq (.rg (.o none (.mv 15 (.t 13)) <|
 .o none (.mv 9 (.t 15)) .nil)) <| .seq (.seq (.rg (.o none (.mv 16 (.t 9)) <|
 .o none (.mv 17 (.t 1)) <|
 .o none (.len 18 (.t 17)) <|
 .o none (.bin 19 .lss false (.t 16) (.t 18)) .nil)) <| .cond (.t 19) (.rg (.o none (.mv 20 (.t 7)) <|
 .o none (.mv 21 (.t 2)) <|
 .o none (.mv 22 (.t 1)) <|
 .o none (.mv 23 (.t 9)) <|
 .o none (.idx 24 1 (.t 22) (.t 23)) <|
 .o none (.ld 25 1 false (.t 24)) <|
 .o none (.conv 26 .u32 (.t 25)) <|
 .o none (.bin 27 .mul false (.t 21) (.t 26)) <|
 .o none (.bin 28 .add false (.t 20) (.t 27)) <|
 .o none (.mv 7 (.t 28)) .nil)) (.skip)) <| .seq (.rg (.o none (.mv 29 (.t 0)) <|
 .o none (.mv 30 (.t 9)) <|
 .o none (.idx 31 1 (.t 29) (.t 30)) <|
 .o none (.ld 32 1 false (.t 31)) <|
 .o none (.conv 33 .i32 (.t 32)) <|
 .o none (.mv 34 (.t 7)) <|
 .o none (.conv 35 .u16 (.t 34)) <|
 .o none (.conv 36 .i32 (.t 35)) <|
 .o none (.bin 37 .sub false (.t 33) (.t 36)) <|
 .o none (.mv 38 (.t 8)) <|
 .o none (.bin 39 .sub false (.t 37) (.t 38)) <|
 .o none (.mv 10 (.t 39)) .nil)) <| .seq (.rg (.o none (.mv 40 (.t 7)) <|
 .o none (.bin 41 .shr false (.t 40) (.c (.int .u64 16))) <|
 .o none (.mv 7 (.t 41)) .nil)) <| .seq (.rg (.o none (.mv 8 (.c (.int .i32 0))) .nil)) <| .seq (.seq (.rg (.o none (.mv 42 (.t 10)) <|
 .o none (.bin 43 .lss false (.t 42) (.c (.int .i32 0))) .nil)) <| .cond (.t 43) (.seq (.rg (.o none (.mv 44 (.t 10)) <|
 .o none (.bin 45 .add false (.t 44) (.c (.int .i32 65536))) <|
 .o none (.mv 10 (.t 45)) .nil)) <| .rg (.o none (.mv 8 (.c (.int .i32 1))) .nil)) (.skip)) <| .rg (.o none (.mv 46 (.t 0)) <|
 .o none (.mv 47 (.t 9)) <|
 .o none (.mv 48 (.t 10)) <|
 .o none (.conv 49 .u16 (.t 48)) <|
 .o none (.idx 50 1 (.t 46) (.t 47)) <|
 .o none (.st 1 (.t 50) (.t 49)) .nil))) <| .rg (.o none (.bin 51 .add false (.t 13) (.c (.int .i64 1))) <|
 .o none (.mv 13 (.t 51)) .nil)))) <| .seq (.rg (.o none (.mv 52 (.t 8)) <|
 .o none (.bin 53 .gtr false (.t 52) (.c (.int .i32 0))) <|
 .o none (.mv 6 (.t 53)) .nil)) <| .ret⟩
theorem Q7o : Qf Tryz.prog Tryz.f222 = some Q3m := by kernel_rfl
def Q3n : SFn := ⟨37, [], .seq (.rg (.o none (.mv 4 (.c (.int .u32 0))) .nil)) <| .seq (.rg (.o none (.mv 6 (.t 0)) <|
 .o none (.len 7 (.t 6)) <|
 .o none (.mv 8 (.c (.int .i64 0))) .nil)) <| .block 0 (.loop (.seq (.rg (.o none (.bin 9 .lss false (.t 8) (.t 7)) .nil)) <| .seq (.cond (.t 9) (.skip) (.exit 0)) <| .seq (.block 1 (.seq (.rg (.o none (.mv 10 (.t 8)) <|
 .o none (.mv 5 (.t 10)) .nil)) <| .seq (.rg (.o none (.mv 11 (.t 4)) <|
 .o none (.mv 12 (.t 0)) <|
 .o none (.mv 13 (.t 5)) <|
 .o none (.idx 14 1 (.t 12) (.t 13)) <|
 .o none (.ld 15 1 false (.t 14)) <|
 .o none (.conv 16 .u32 (.t 15)) <|
 .o none (.bin 17 .add false (.t 11) (.t 16)) <|
 .o none (.mv 4 (.t 17)) .nil)) <| .seq (.seq (.rg (.o none (.mv 18 (.t 5)) <|
 .o none (.mv 19 (.t 1)) <|
 .o none (.len 20 (.t 19)) <|
 .o none (.bin 21 .lss false (.t 18) (.t 20)) .nil)) <| .cond (.t 21) (.rg (.o none (.mv 22 (.t 4)) <|
 .o none (.mv 23 (.t 1)) <|
 .o none (.mv 24 (.t 5)) <|
 .o none (.idx 25 1 (.t 23) (.t 24)) <|
 .o none (.ld 26 1 false (.t 25)) <|
 .o none (.conv 27 .u32 (.t 26)) <|
 .o none (.bin 28 .add false (.t 22) (.t 27)) <|
 .o none (.mv 4 (.t 28)) .nil)) (.skip)) <| .seq (.rg (.o none (.mv 29 (.t 0)) <|
 .o none (.mv 30 (.t 5)) <|
 .o none (.mv 31 (.t 4)) <|
 .o none (.conv 32 .u16 (.t 31)) <|
 .o none (.idx 33 1 (.t 29) (.t 30)) <|
 .o none (.st 1 (.t 33) (.t 32)) .nil)) <| .rg (.o none (.mv 34 (.t 4)) <|
 .o none (.bin 35 .shr false (.t 34) (.c (.int .u64 16))) <|
 .o none (.mv 4 (.t 35)) .nil))) <| .rg (.o none (.bin 36 .add false (.t 8) (.c (.int .i64 1))) <|
 .o none (.mv 8 (.t 36)) .nil)))⟩
theorem Q7p : Qf Tryz.prog Tryz.f223 = some Q3n := by kernel_rfl
def Q3o : SFn := ⟨51, [.t 4], .seq (.rg (.o none (.mv 4 (.c .nilS)) .nil)) <| .seq (.rg (.o none (.mv 12 (.t 0)) <|
 .o none (.call (some 13) false (.c (.fn 173 [] [])) [(.t 12)]) <|
 .o none (.mv 14 (.t 1)) <|
 .o none (.call (some 15) false (.c (.fn 173 [] [])) [(.t 14)]) <|
 .o none (.mv 0 (.t 13)) <|
 .o none (.mv 1 (.t 15)) .nil)) <| .seq (.block 0 (.loop (.seq (.seq (.rg (.o none (.mv 16 (.t 1)) <|
 .o none (.len 17 (.t 16)) <|
 .o none (.bin 18 .gtr false (.t 17) (.c (.int .i64 0))) .nil)) <| .cond (.t 18) (.skip) (.exit 0)) <| .block 1 (.seq (.rg (.o none (.mv 20 (.t 0)) <|
 .o none (.call (some 21) false (.c (.fn 195 [] [])) [(.t 20)]) <|
 .o none (.mv 19 (.t 21)) <|
 .o none (.ext 22 (.t 19) 0) <|
 .o none (.ext 23 (.t 19) 1) <|
 .o none (.mv 5 (.t 22)) <|
 .o none (.mv 6 (.t 23)) .nil)) <| .seq (.rg (.o none (.mv 25 (.t 1)) <|
 .o none (.call (some 26) false (.c (.fn 195 [] [])) [(.t 25)]) <|
 .o none (.mv 24 (.t 26)) <|
 .o none (.ext 27 (.t 24) 0) <|
 .o none (.ext 28 (.t 24) 1) <|
 .o none (.mv 7 (.t 27)) <|
 .o none (.mv 8 (.t 28)) .nil)) <| .seq (.seq (.rg (.o none (.mv 29 (.t 6)) <|
 .o none (.mv 30 (.t 29)) <|
 .o (some (30, true)) (.mv 31 (.t 8)) <|
 .o none (.pick 32 (.t 30) (.t 31) (.c (.bool false))) .nil)) <| .cond (.t 32) (.seq (.block 2 (.loop (.seq (.seq (.rg (.o none (.mv 33 (.t 7)) <|
 .o none (.bin 34 .gtr false (.t 33) (.c (.int .u64 0))) .nil)) <| .cond (.t 34) (.skip) (.exit 2)) <| .block 3 (.rg (.o none (.mv 35 (.t 7)) <|
 .o none (.mv 36 (.t 5)) <|
 .o none (.mv 37 (.t 7)) <|
 .o none (.bin 38 .rem false (.t 36) (.t 37)) <|
 .o none (.mv 5 (.t 35)) <|
 .o none (.mv 7 (.t 38)) .nil))))) <| .seq (.rg (.o none (.mv 39 (.t 5)) <|
 .o none (.call (some 40) false (.c (.fn 143 [] [])) [(.t 39)]) <|
 .o none (.mv 4 (.t 40)) .nil)) <| .ret) (.skip)) <| .seq (.rg (.o none (.mv 42 (.t 0)) <|
 .o none (.mv 43 (.t 1)) <|
 .o none (.call (some 44) false (.c (.fn 145 [] [])) [(.t 42), (.t 43)]) <|
 .o none (.mv 41 (.t 44)) <|
 .o none (.ext 45 (.t 41) 0) <|
 .o none (.ext 46 (.t 41) 1) <|
 .o none (.ext 47 (.t 41) 2) <|
 .o none (.mv 9 (.t 45)) <|
 .o none (.mv 10 (.t 46)) <|
 .o none (.mv 11 (.t 47)) .nil)) <| .rg (.o none (.mv 48 (.t 1)) <|
 .o none (.mv 49 (.t 10)) <|
 .o none (.mv 0 (.t 48)) <|
 .o none (.mv 1 (.t 49)) .nil))))) <| .seq (.rg (.o none (.mv 50 (.t 0)) <|
 .o none (.mv 4 (.t 50)) .nil)) <| .ret⟩
theorem Q7q : Qf Tryz.prog Tryz.f144 = some Q3o := by kernel_rfl
def Qoo : SFn := ⟨78, [.t 4], .seq (.rg (.o none (.mv 4 (.c .nilS)) .nil)) <| .seq (.rg (.o none (.mv 11 (.t 0)) <|
 .o none (.call (some 12) false (.c (.fn 177 [] [])) [(.t 11)]) <|
 .o none (.mv 0 (.t 12)) .nil)) <| .seq (.seq (.rg (.o none (.mv 13 (.t 1)) <|
 .o none (.bin 14 .lss false (.t 13) (.c (.int .i64 (-1048576)))) <|
 .o none (.mv 15 (.t 14)) <|
 .o (some (15, false)) (.mv 16 (.t 1)) <|
 .o (some (15, false)) (.bin 17 .gtr false (.t 16) (.c (.int .i64 1048576))) <|
 .o none (.pick 18 (.t 15) (.c (.bool true)) (.t 17)) <|
 .o none (.mv 19 (.t 18)) <|
 .o (some (19, false)) (.mv 20 (.t 0)) <|
 .o (some (19, false)) (.len 21 (.t 20)) <|
 .o (some (19, false)) (.bin 22 .eql false (.t 21) (.c (.int .i64 0))) <|
 .o none (.pick 23 (.t 19) (.c (.bool true)) (.t 22)) .nil)) <| .cond (.t 23) (.seq (.rg (.o none (.mv 4 (.c .nilS)) .nil)) <| .ret) (.skip)) <| .seq (.seq (.rg (.o none (.mv 24 (.t 1)) <|
 .o none (.bin 25 .lss false (.t 24) (.c (.int .i64 0))) .nil)) <| .cond (.t 25) (.seq (.rg (.o none (.mv 26 (.t 0)) <|
 .o none (.mv 27 (.t 1)) <|
 .o none (.un 28 .neg (.t 27)) <|
 .o none (.call (some 29) false (.c (.fn 220 [] [])) [(.t 26), (.t 28)]) <|
 .o none (.mv 4 (.t 29)) .nil)) <| .ret) (.skip)) <| .seq (.rg (.o none (.mv 30 (.t 1)) <|
 .o none (.bin 31 .quo false (.t 30) (.c (.int .i64 16))) <|
 .o none (.mv 32 (.t 1)) <|
 .o none (.bin 33 .rem false (.t 32) (.c (.int .i64 16))) <|
 .o none (.mv 5 (.t 31)) <|
 .o none (.mv 6 (.t 33)) .nil)) <| .seq (.rg (.o none (.mv 34 (.t 0)) <|
 .o none (.len 35 (.t 34)) <|
 .o none (.mv 36 (.t 5)) <|
 .o none (.bin 37 .add false (.t 35) (.t 36)) <|
 .o none (.bin 38 .add false (.t 37) (.c (.int .i64 1))) <|
 .o none (.mv 39 (.t 0)) <|
 .o none (.len 40 (.t 39)) <|
 .o none (.mv 41 (.t 5)) <|
 .o none (.bin 42 .add false (.t 40) (.t 41)) <|
 .o none (.bin 43 .add false (.t 42) (.c (.int .i64 3))) <|
 .o none (.mk 44 1 2 156 (.int .u16 0) (.t 38) (.t 43)) <|
 .o none (.mv 7 (.t 44)) .nil)) <| .seq (.seq (.rg (.o none (.mv 45 (.t 0)) <|
 .o none (.len 46 (.t 45)) <|
 .o none (.mv 47 (.c (.int .i64 0))) .nil)) <| .block 0 (.loop (.seq (.rg (.o none (.bin 48 .lss false (.t 47) (.t 46)) .nil)) <| .seq (.cond (.t 48) (.skip) (.exit 0)) <| .seq (.block 1 (.seq (.rg (.o none (.mv 49 (.t 47)) <|
 .o none (.idx 50 1 (.t 45) (.t 47)) <|
 .o none (.ld 51 1 false (.t 50)) <|
 .o none (.mv 8 (.t 49)) <|
 .o none (.mv 9 (.t 51)) .nil)) <| .seq (.rg (.o none (.mv 52 (.t 9)) <|
 .o none (.conv 53 .u32 (.t 52)) <|
 .o none (.mv 54 (.t 6)) <|
 .o none (.bin 55 .shl false (.t 53) (.t 54)) <|
 .o none (.mv 10 (.t 55)) .nil)) <| .seq (.rg (.o none (.mv 56 (.t 7)) <|
 .o none (.mv 57 (.t 8)) <|
 .o none (.mv 58 (.t 5)) <|
 .o none (.bin 59 .add false (.t 57) (.t 58)) <|
 .o none (.idx 60 1 (.t 56) (.t 59)) <|
 .o none (.ld 61 1 false (.t 60)) <|
 .o none (.mv 62 (.t 10)) <|
 .o none (.conv 63 .u16 (.t 62)) <|
 .o none (.bin 64 .or false (.t 61) (.t 63)) <|
 .o none (.idx 65 1 (.t 56) (.t 59)) <|
 .o none (.st 1 (.t 65) (.t 64)) .nil)) <| .rg (.o none (.mv 66 (.t 7)) <|
 .o none (.mv 67 (.t 8)) <|
 .o none (.mv 68 (.t 5)) <|
 .o none (.bin 69 .add false (.t 67) (.t 68)) <|
 .o none (.bin 70 .add false (.t 69) (.c (.int .i64 1))) <|
 .o none (.mv 71 (.t 10)) <|
 .o none (.bin 72 .shr false (.t 71) (.c (.int .u64 16))) <|
 .o none (.conv 73 .u16 (.t 72)) <|
 .o none (.idx 74 1 (.t 66) (.t 70)) <|
 .o none (.st 1 (.t 74) (.t 73)) .nil))) <| .rg (.o none (.bin 75 .add false (.t 47) (.c (.int .i64 1))) <|
 .o none (.mv 47 (.t 75)) .nil)))) <| .seq (.rg (.o none (.mv 76 (.t 7)) <|
 .o none (.call (some 77) false (.c (.fn 177 [] [])) [(.t 76)]) <|
 .o none (.mv 4 (.t 77)) .nil)) <| .ret⟩
theorem Qqt : Qf Tryz.prog Tryz.f199 = some Qoo := by kernel_rfl
def Q3p : SFn := ⟨63, [.t 4], .seq (.rg (.o none (.mv 4 (.c .nilS)) .nil)) <| .seq (.rg (.o none (.mv 10 (.t 1)) <|
 .o none (.bin 11 .quo false (.t 10) (.c (.int .i64 16))) <|
 .o none (.mv 12 (.t 1)) <|
 .o none (.bin 13 .rem false (.t 12) (.c (.int .i64 16))) <|
 .o none (.mv 5 (.t 11)) <|
 .o none (.mv 6 (.t 13)) .nil)) <| .seq (.seq (.rg (.o none (.mv 14 (.t 5)) <|
 .o none (.mv 15 (.t 0)) <|
 .o none (.len 16 (.t 15)) <|
 .o none (.bin 17 .geq false (.t 14) (.t 16)) .nil)) <| .cond (.t 17) (.seq (.rg (.o none (.mv 4 (.c .nilS)) .nil)) <| .ret) (.skip)) <| .seq (.rg (.o none (.mv 18 (.t 0)) <|
 .o none (.len 19 (.t 18)) <|
 .o none (.mv 20 (.t 5)) <|
 .o none (.bin 21 .sub false (.t 19) (.t 20)) <|
 .o none (.mk 22 1 2 156 (.int .u16 0) (.t 21) (.t 21)) <|
 .o none (.mv 7 (.t 22)) .nil)) <| .seq (.seq (.rg (.o none (.mv 23 (.t 7)) <|
 .o none (.len 24 (.t 23)) <|
 .o none (.mv 25 (.c (.int .i64 0))) .nil)) <| .block 0 (.loop (.seq (.rg (.o none (.bin 26 .lss false (.t 25) (.t 24)) .nil)) <| .seq (.cond (.t 26) (.skip) (.exit 0)) <| .seq (.block 1 (.seq (.rg (.o none (.mv 27 (.t 25)) <|
 .o none (.mv 8 (.t 27)) .nil)) <| .seq (.rg (.o none (.mv 28 (.t 0)) <|
 .o none (.mv 29 (.t 8)) <|
 .o none (.mv 30 (.t 5)) <|
 .o none (.bin 31 .add false (.t 29) (.t 30)) <|
 .o none (.idx 32 1 (.t 28) (.t 31)) <|
 .o none (.ld 33 1 false (.t 32)) <|
 .o none (.conv 34 .u32 (.t 33)) <|
 .o none (.mv 9 (.t 34)) .nil)) <| .seq (.seq (.rg (.o none (.mv 35 (.t 8)) <|
 .o none (.mv 36 (.t 5)) <|
 .o none (.bin 37 .add false (.t 35) (.t 36)) <|
 .o none (.bin 38 .add false (.t 37) (.c (.int .i64 1))) <|
 .o none (.mv 39 (.t 0)) <|
 .o none (.len 40 (.t 39)) <|
 .o none (.bin 41 .lss false (.t 38) (.t 40)) .nil)) <| .cond (.t 41) (.rg (.o none (.mv 42 (.t 9)) <|
 .o none (.mv 43 (.t 0)) <|
 .o none (.mv 44 (.t 8)) <|
 .o none (.mv 45 (.t 5)) <|
 .o none (.bin 46 .add false (.t 44) (.t 45)) <|
 .o none (.bin 47 .add false (.t 46) (.c (.int .i64 1))) <|
 .o none (.idx 48 1 (.t 43) (.t 47)) <|
 .o none (.ld 49 1 false (.t 48)) <|
 .o none (.conv 50 .u32 (.t 49)) <|
 .o none (.bin 51 .shl false (.t 50) (.c (.int .u64 16))) <|
 .o none (.bin 52 .or false (.t 42) (.t 51)) <|
 .o none (.mv 9 (.t 52)) .nil)) (.skip)) <| .rg (.o none (.mv 53 (.t 7)) <|
 .o none (.mv 54 (.t 8)) <|
 .o none (.mv 55 (.t 9)) <|
 .o none (.mv 56 (.t 6)) <|
 .o none (.bin 57 .shr false (.t 55) (.t 56)) <|
 .o none (.conv 58 .u16 (.t 57)) <|
 .o none (.idx 59 1 (.t 53) (.t 54)) <|
 .o none (.st 1 (.t 59) (.t 58)) .nil))) <| .rg (.o none (.bin 60 .add false (.t 25) (.c (.int .i64 1))) <|
 .o none (.mv 25 (.t 60)) .nil)))) <| .seq (.rg (.o none (.mv 61 (.t 7)) <|
 .o none (.call (some 62) false (.c (.fn 177 [] [])) [(.t 61)]) <|
 .o none (.mv 4 (.t 62)) .nil)) <| .ret⟩
theorem Q7r : Qf Tryz.prog Tryz.f220 = some Q3p := by kernel_rfl
def Q3q : SFn := ⟨6, [.t 2], .seq (.rg (.o none (.mv 2 (.c (.int .i64 0))) .nil)) <| .seq (.rg (.o none (.mv 3 (.t 0)) <|
 .o none (.call (some 4) false (.c (.fn 211 [] [])) [(.t 3)]) <|
 .o none (.bin 5 .sub false (.c (.int .i64 16)) (.t 4)) <|
 .o none (.mv 2 (.t 5)) .nil)) <| .ret⟩
theorem Q7s : Qf Tryz.prog Tryz.f198 = some Q3q := by kernel_rfl
end Go.Proofs.YtmnkngmmfnncoaaGreat
namespace Go.Proofs.YtmnkngmmfnncoaaGreat
open Go Go.FW
set_option maxRecDepth 100000
def Q3r : SFn := ⟨15, [.cell 4 2 true], .seq (.rg (.o none (.alloc 4 2 30 (.agg [(.bool false), .nilS])) .nil)) <| .seq (.rg (.o none (.mv 5 (.t 1)) <|
 .o none (.call (some 6) false (.c (.fn 173 [] [])) [(.t 5)]) <|
 .o none (.mv 1 (.t 6)) .nil)) <| .seq (.rg (.o none (.mv 7 (.t 0)) <|
 .o none (.mv 8 (.t 7)) <|
 .o (some (8, true)) (.mv 9 (.t 1)) <|
 .o (some (8, true)) (.len 10 (.t 9)) <|
 .o (some (8, true)) (.bin 11 .gtr false (.t 10) (.c (.int .i64 0))) <|
 .o none (.pick 12 (.t 8) (.t 11) (.c (.bool false))) <|
 .o none (.mv 13 (.t 1)) <|
 .o none (.bld 14 [(.bool false), .nilS] [(0, 1, (.t 12)), (1, 1, (.t 13))]) <|
 .o none (.st 2 (.t 4) (.t 14)) .nil)) <| .ret⟩
theorem Q7t : Qf Tryz.prog Tryz.f212 = some Q3r := by kernel_rfl
def Q3s : SFn := ⟨13, [.cell 4 2 true], .seq (.rg (.o none (.alloc 4 2 30 (.agg [(.bool false), .nilS])) .nil)) <| .seq (.rg (.o none (.mv 5 (.t 0)) <|
 .o none (.mv 6 (.t 5)) <|
 .o (some (6, true)) (.mv 7 (.t 1)) <|
 .o (some (6, true)) (.len 8 (.t 7)) <|
 .o (some (6, true)) (.bin 9 .gtr false (.t 8) (.c (.int .i64 0))) <|
 .o none (.pick 10 (.t 6) (.t 9) (.c (.bool false))) <|
 .o none (.mv 11 (.t 1)) <|
 .o none (.bld 12 [(.bool false), .nilS] [(0, 1, (.t 10)), (1, 1, (.t 11))]) <|
 .o none (.st 2 (.t 4) (.t 12)) .nil)) <| .ret⟩
theorem Q7u : Qf Tryz.prog Tryz.f176 = some Q3s := by kernel_rfl
def Q3t : SFn := ⟨27, [.t 2], .seq (.rg (.o none (.box 1 2 30 (.t 0)) <|
 .o none (.mv 2 (.c (.bool false))) .nil)) <| .seq (.rg (.o none (.fld 4 1 (.t 1)) <|
 .o none (.ld 5 1 false (.t 4)) <|
 .o none (.len 6 (.t 5)) <|
 .o none (.mv 3 (.t 6)) .nil)) <| .seq (.rg (.o none (.mv 7 (.t 3)) <|
 .o none (.bin 8 .eql false (.t 7) (.c (.int .i64 0))) <|
 .o none (.mv 9 (.t 8)) <|
 .o (some (9, true)) (.fld 10 0 (.t 1)) <|
 .o (some (9, true)) (.ld 11 1 false (.t 10)) <|
 .o (some (9, true)) (.un 12 .not (.t 11)) <|
 .o none (.pick 13 (.t 9) (.t 12) (.c (.bool false))) <|
 .o none (.mv 14 (.t 13)) <|
 .o (some (14, false)) (.mv 15 (.t 3)) <|
 .o (some (14, false)) (.bin 16 .gtr false (.t 15) (.c (.int .i64 0))) <|
 .o (some (14, false)) (.mv 17 (.t 16)) <|
 .o (some (17, true)) (.fld 18 1 (.t 1)) <|
 .o (some (17, true)) (.ld 19 1 false (.t 18)) <|
 .o (some (17, true)) (.mv 20 (.t 3)) <|
 .o (some (17, true)) (.bin 21 .sub false (.t 20) (.c (.int .i64 1))) <|
 .o (some (17, true)) (.idx 22 1 (.t 19) (.t 21)) <|
 .o (some (17, true)) (.ld 23 1 false (.t 22)) <|
 .o (some (17, true)) (.bin 24 .neq false (.t 23) (.c (.int .u16 0))) <|
 .o (some (14, false)) (.pick 25 (.t 17) (.t 24) (.c (.bool false))) <|
 .o none (.pick 26 (.t 14) (.c (.bool true)) (.t 25)) <|
 .o none (.mv 2 (.t 26)) .nil)) <| .ret⟩
theorem Q7v : Qf Tryz.prog Tryz.f207 = some Q3t := by kernel_rfl
def Q3u : SFn := ⟨8, [.cell 2 2 true], .seq (.rg (.o none (.box 1 2 30 (.t 0)) <|
 .o none (.alloc 2 2 30 (.agg [(.bool false), .nilS])) .nil)) <| .seq (.rg (.o none (.fld 3 0 (.t 1)) <|
 .o none (.ld 4 1 false (.t 3)) <|
 .o none (.fld 5 1 (.t 1)) <|
 .o none (.ld 6 1 false (.t 5)) <|
 .o none (.call (some 7) false (.c (.fn 212 [] [])) [(.t 4), (.t 6)]) <|
 .o none (.st 2 (.t 2) (.t 7)) .nil)) <| .ret⟩
theorem Q7w : Qf Tryz.prog Tryz.f174 = some Q3u := by kernel_rfl
def Q3v : SFn := ⟨16, [.cell 2 2 true], .seq (.rg (.o none (.alloc 2 2 30 (.agg [(.bool false), .nilS])) .nil)) <| .seq (.seq (.rg (.o none (.mv 3 (.t 0)) <|
 .o none (.bin 4 .lss false (.t 3) (.c (.int .i64 0))) .nil)) <| .cond (.t 4) (.seq (.rg (.o none (.mv 5 (.t 0)) <|
 .o none (.bin 6 .add false (.t 5) (.c (.int .i64 1))) <|
 .o none (.un 7 .neg (.t 6)) <|
 .o none (.conv 8 .u64 (.t 7)) <|
 .o none (.bin 9 .add false (.t 8) (.c (.int .u64 1))) <|
 .o none (.call (some 10) false (.c (.fn 143 [] [])) [(.t 9)]) <|
 .o none (.call (some 11) false (.c (.fn 176 [] [])) [(.c (.bool true)), (.t 10)]) <|
 .o none (.st 2 (.t 2) (.t 11)) .nil)) <| .ret) (.skip)) <| .seq (.rg (.o none (.mv 12 (.t 0)) <|
 .o none (.conv 13 .u64 (.t 12)) <|
 .o none (.call (some 14) false (.c (.fn 143 [] [])) [(.t 13)]) <|
 .o none (.call (some 15) false (.c (.fn 176 [] [])) [(.c (.bool false)), (.t 14)]) <|
 .o none (.st 2 (.t 2) (.t 15)) .nil)) <| .ret⟩
theorem Q7x : Qf Tryz.prog Tryz.f154 = some Q3v := by kernel_rfl
def Q3w : SFn := ⟨11, [.t 2], .seq (.rg (.o none (.box 1 2 30 (.t 0)) <|
 .o none (.mv 2 (.c (.int .i64 0))) .nil)) <| .seq (.block 0 (.seq (.rg (.o none (.fld 4 1 (.t 1)) <|
 .o none (.ld 5 1 false (.t 4)) <|
 .o none (.call (some 6) false (.c (.fn 172 [] [])) [(.t 5)]) <|
 .o none (.bin 7 .eql false (.t 6) (.c (.int .i64 0))) <|
 .o none (.mv 3 (.t 7)) .nil)) <| .cond (.t 3) (.seq (.rg (.o none (.mv 2 (.c (.int .i64 0))) .nil)) <| .ret) (.seq (.rg (.o none (.fld 9 0 (.t 1)) <|
 .o none (.ld 10 1 false (.t 9)) <|
 .o none (.mv 8 (.t 10)) .nil)) <| .cond (.t 8) (.seq (.rg (.o none (.mv 2 (.c (.int .i64 (-1)))) .nil)) <| .ret) (.skip)))) <| .seq (.rg (.o none (.mv 2 (.c (.int .i64 1))) .nil)) <| .ret⟩
theorem Q7y : Qf Tryz.prog Tryz.f108 = some Q3w := by kernel_rfl
def Q3x : SFn := ⟨35, [.t 4], .seq (.rg (.o none (.box 2 2 30 (.t 0)) <|
 .o none (.box 3 2 30 (.t 1)) <|
 .o none (.mv 4 (.c (.int .i64 0))) .nil)) <| .seq (.rg (.o none (.ld 8 2 true (.t 2)) <|
 .o none (.ld 10 2 true (.t 3)) <|
 .o none (.call (some 9) true (.c (.fn 108 [] [])) [(.t 8)]) <|
 .o none (.call (some 11) true (.c (.fn 108 [] [])) [(.t 10)]) <|
 .o none (.mv 5 (.t 9)) <|
 .o none (.mv 6 (.t 11)) .nil)) <| .seq (.rg (.o none (.mv 7 (.c (.fn 215 [] []))) .nil)) <| .seq (.block 0 (.seq (.rg (.o none (.mv 13 (.t 5)) <|
 .o none (.mv 14 (.t 6)) <|
 .o none (.bin 15 .lss false (.t 13) (.t 14)) <|
 .o none (.mv 12 (.t 15)) .nil)) <| .cond (.t 12) (.seq (.rg (.o none (.mv 4 (.c (.int .i64 (-1)))) .nil)) <| .ret) (.seq (.rg (.o none (.mv 17 (.t 5)) <|
 .o none (.mv 18 (.t 6)) <|
 .o none (.bin 19 .gtr false (.t 17) (.t 18)) <|
 .o none (.mv 16 (.t 19)) .nil)) <| .cond (.t 16) (.seq (.rg (.o none (.mv 4 (.c (.int .i64 1))) .nil)) <| .ret) (.seq (.rg (.o none (.mv 21 (.t 5)) <|
 .o none (.bin 22 .lss false (.t 21) (.c (.int .i64 0))) <|
 .o none (.mv 20 (.t 22)) .nil)) <| .cond (.t 20) (.seq (.rg (.o none (.mv 23 (.t 7)) <|
 .o none (.fld 24 1 (.t 3)) <|
 .o none (.ld 25 1 false (.t 24)) <|
 .o none (.fld 26 1 (.t 2)) <|
 .o none (.ld 27 1 false (.t 26)) <|
 .o none (.call (some 28) false (.t 23) [(.t 25), (.t 27)]) <|
 .o none (.mv 4 (.t 28)) .nil)) <| .ret) (.skip))))) <| .seq (.rg (.o none (.mv 29 (.t 7)) <|
 .o none (.fld 30 1 (.t 2)) <|
 .o none (.ld 31 1 false (.t 30)) <|
 .o none (.fld 32 1 (.t 3)) <|
 .o none (.ld 33 1 false (.t 32)) <|
 .o none (.call (some 34) false (.t 29) [(.t 31), (.t 33)]) <|
 .o none (.mv 4 (.t 34)) .nil)) <| .ret⟩
theorem Q7z : Qf Tryz.prog Tryz.f178 = some Q3x := by kernel_rfl
def Q3y : SFn := ⟨8, [.t 4], .seq (.rg (.o none (.mv 4 (.c (.int .i64 0))) .nil)) <| .seq (.rg (.o none (.mv 5 (.t 0)) <|
 .o none (.mv 6 (.t 1)) <|
 .o none (.call (some 7) false (.c (.fn 196 [] [])) [(.t 5), (.t 6)]) <|
 .o none (.mv 4 (.t 7)) .nil)) <| .ret⟩
theorem Q70 : Qf Tryz.prog Tryz.f215 = some Q3y := by kernel_rfl
def Q3z : SFn := ⟨40, [.cell 4 2 true], .seq (.rg (.o none (.box 2 2 30 (.t 0)) <|
 .o none (.box 3 2 30 (.t 1)) <|
 .o none (.alloc 4 2 30 (.agg [(.bool false), .nilS])) .nil)) <| .seq (.seq (.rg (.o none (.fld 7 0 (.t 2)) <|
 .o none (.ld 8 1 false (.t 7)) <|
 .o none (.fld 9 0 (.t 3)) <|
 .o none (.ld 10 1 false (.t 9)) <|
 .o none (.bin 11 .eql true (.t 8) (.t 10)) .nil)) <| .cond (.t 11) (.seq (.rg (.o none (.fld 12 0 (.t 2)) <|
 .o none (.ld 13 1 false (.t 12)) <|
 .o none (.fld 14 1 (.t 2)) <|
 .o none (.ld 15 1 false (.t 14)) <|
 .o none (.fld 16 1 (.t 3)) <|
 .o none (.ld 17 1 false (.t 16)) <|
 .o none (.call (some 18) true (.c (.fn 213 [] [])) [(.t 15), (.t 17)]) <|
 .o none (.call (some 19) true (.c (.fn 176 [] [])) [(.t 13), (.t 18)]) <|
 .o none (.st 2 (.t 4) (.t 19)) .nil)) <| .ret) (.skip)) <| .seq (.seq (.rg (.o none (.fld 20 1 (.t 2)) <|
 .o none (.ld 21 1 false (.t 20)) <|
 .o none (.fld 22 1 (.t 3)) <|
 .o none (.ld 23 1 false (.t 22)) <|
 .o none (.call (some 24) false (.c (.fn 196 [] [])) [(.t 21), (.t 23)]) <|
 .o none (.bin 25 .lss false (.t 24) (.c (.int .i64 0))) .nil)) <| .cond (.t 25) (.rg (.o none (.ld 26 2 true (.t 3)) <|
 .o none (.ld 27 2 true (.t 2)) <|
 .o none (.st 2 (.t 2) (.t 26)) <|
 .o none (.st 2 (.t 3) (.t 27)) .nil)) (.skip)) <| .seq (.rg (.o none (.fld 29 1 (.t 2)) <|
 .o none (.ld 30 1 false (.t 29)) <|
 .o none (.fld 31 1 (.t 3)) <|
 .o none (.ld 32 1 false (.t 31)) <|
 .o none (.call (some 33) false (.c (.fn 214 [] [])) [(.t 30), (.t 32)]) <|
 .o none (.mv 28 (.t 33)) <|
 .o none (.ext 34 (.t 28) 0) <|
 .o none (.ext 35 (.t 28) 1) <|
 .o none (.mv 5 (.t 34)) <|
 .o none (.mv 6 (.t 35)) .nil)) <| .seq (.rg (.o none (.fld 36 0 (.t 2)) <|
 .o none (.ld 37 1 false (.t 36)) <|
 .o none (.mv 38 (.t 5)) <|
 .o none (.call (some 39) false (.c (.fn 176 [] [])) [(.t 37), (.t 38)]) <|
 .o none (.st 2 (.t 4) (.t 39)) .nil)) <| .ret⟩
theorem Q71 : Qf Tryz.prog Tryz.f175 = some Q3z := by kernel_rfl
def Q30 : SFn := ⟨16, [.cell 4 2 true], .seq (.rg (.o none (.box 2 2 30 (.t 0)) <|
 .o none (.box 3 2 30 (.t 1)) <|
 .o none (.alloc 4 2 30 (.agg [(.bool false), .nilS])) .nil)) <| .seq (.rg (.o none (.fld 5 0 (.t 2)) <|
 .o none (.ld 6 1 false (.t 5)) <|
 .o none (.fld 7 0 (.t 3)) <|
 .o none (.ld 8 1 false (.t 7)) <|
 .o none (.bin 9 .neq true (.t 6) (.t 8)) <|
 .o none (.fld 10 1 (.t 2)) <|
 .o none (.ld 11 1 false (.t 10)) <|
 .o none (.fld 12 1 (.t 3)) <|
 .o none (.ld 13 1 false (.t 12)) <|
 .o none (.call (some 14) true (.c (.fn 114 [] [])) [(.t 11), (.t 13)]) <|
 .o none (.call (some 15) true (.c (.fn 176 [] [])) [(.t 9), (.t 14)]) <|
 .o none (.st 2 (.t 4) (.t 15)) .nil)) <| .ret⟩
theorem Q72 : Qf Tryz.prog Tryz.f112 = some Q30 := by kernel_rfl
def Q31 : SFn := ⟨17, [.t 2], .seq (.rg (.o none (.mv 2 (.c (.bool false))) .nil)) <| .seq (.rg (.o none (.mv 4 (.t 0)) <|
 .o none (.len 5 (.t 4)) <|
 .o none (.bld 6 [(.int .i64 0), (.int .u16 0)] [(0, 1, (.t 5))]) <|
 .o none (.alloc 3 2 161 (.agg [(.int .i64 0), (.int .u16 0)])) <|
 .o none (.st 2 (.t 3) (.t 6)) .nil)) <| .seq (.seq (.rg (.o none (.mv 7 (.t 0)) <|
 .o none (.len 8 (.t 7)) <|
 .o none (.bin 9 .gtr false (.t 8) (.c (.int .i64 0))) .nil)) <| .cond (.t 9) (.rg (.o none (.mv 10 (.t 0)) <|
 .o none (.idx 11 1 (.t 10) (.c (.int .i64 0))) <|
 .o none (.ld 12 1 false (.t 11)) <|
 .o none (.fld 13 1 (.t 3)) <|
 .o none (.st 1 (.t 13) (.t 12)) .nil)) (.skip)) <| .seq (.rg (.o none (.ld 14 2 true (.t 3)) <|
 .o none (.bld 15 [(.int .i64 0), (.int .u16 0)] [(0, 1, (.c (.int .i64 1))), (1, 1, (.c (.int .u16 1)))]) <|
 .o none (.eqs 16 false (.t 14) (.t 15)) <|
 .o none (.mv 2 (.t 16)) .nil)) <| .ret⟩
theorem Q73 : Qf Tryz.prog Tryz.f109 = some Q31 := by kernel_rfl
def Q32 : SFn := ⟨2, [.t 0], .seq (.rg (.o none (.mv 0 (.c .nilS)) .nil)) <| .seq (.rg (.o none (.bs 1 1 156 [(.c (.int .u16 1))]) <|
 .o none (.mv 0 (.t 1)) .nil)) <| .ret⟩
theorem Q74 : Qf Tryz.prog Tryz.f155 = some Q32 := by kernel_rfl
def Q33 : SFn := ⟨52, [.cell 4 3 true], .seq (.rg (.o none (.box 2 2 30 (.t 0)) <|
 .o none (.alloc 4 3 32 (.agg [(.bool false), .nilS, .nilS])) .nil)) <| .seq (.rg (.o none (.mv 6 (.t 1)) <|
 .o none (.call (some 7) false (.c (.fn 173 [] [])) [(.t 6)]) <|
 .o none (.mv 1 (.t 7)) .nil)) <| .seq (.rg (.o none (.ld 8 2 true (.t 2)) <|
 .o none (.call (some 9) false (.c (.fn 174 [] [])) [(.t 8)]) <|
 .o none (.st 2 (.t 2) (.t 9)) .nil)) <| .seq (.seq (.rg (.o none (.mv 10 (.t 1)) <|
 .o none (.len 11 (.t 10)) <|
 .o none (.bin 12 .eql false (.t 11) (.c (.int .i64 0))) <|
 .o none (.mv 13 (.t 12)) <|
 .o (some (13, false)) (.fld 14 1 (.t 2)) <|
 .o (some (13, false)) (.ld 15 1 false (.t 14)) <|
 .o (some (13, false)) (.len 16 (.t 15)) <|
 .o (some (13, false)) (.bin 17 .eql false (.t 16) (.c (.int .i64 0))) <|
 .o none (.pick 18 (.t 13) (.c (.bool true)) (.t 17)) .nil)) <| .cond (.t 18) (.seq (.rg (.o none (.call (some 19) false (.c (.fn 155 [] [])) []) <|
 .o none (.bld 20 [(.bool false), .nilS, .nilS] [(2, 1, (.t 19))]) <|
 .o none (.st 3 (.t 4) (.t 20)) .nil)) <| .ret) (.skip)) <| .seq (.seq (.rg (.o none (.mv 21 (.t 1)) <|
 .o none (.call (some 22) false (.c (.fn 109 [] [])) [(.t 21)]) .nil)) <| .cond (.t 22) (.seq (.rg (.o none (.ld 23 2 true (.t 2)) <|
 .o none (.mv 24 (.t 1)) <|
 .o none (.bld 25 [(.bool false), .nilS, .nilS] [(0, 2, (.t 23)), (2, 1, (.t 24))]) <|
 .o none (.st 3 (.t 4) (.t 25)) .nil)) <| .ret) (.skip)) <| .seq (.rg (.o none (.fld 26 1 (.t 2)) <|
 .o none (.ld 27 1 false (.t 26)) <|
 .o none (.mv 28 (.t 1)) <|
 .o none (.call (some 29) false (.c (.fn 144 [] [])) [(.t 27), (.t 28)]) <|
 .o none (.mv 5 (.t 29)) .nil)) <| .seq (.seq (.rg (.o none (.mv 30 (.t 5)) <|
 .o none (.call (some 31) false (.c (.fn 109 [] [])) [(.t 30)]) <|
 .o none (.un 32 .not (.t 31)) .nil)) <| .cond (.t 32) (.seq (.rg (.o none (.fld 34 1 (.t 2)) <|
 .o none (.ld 35 1 false (.t 34)) <|
 .o none (.mv 36 (.t 5)) <|
 .o none (.call (some 37) false (.c (.fn 145 [] [])) [(.t 35), (.t 36)]) <|
 .o none (.mv 33 (.t 37)) <|
 .o none (.ext 38 (.t 33) 0) <|
 .o none (.ext 39 (.t 33) 1) <|
 .o none (.ext 40 (.t 33) 2) <|
 .o none (.fld 41 1 (.t 2)) <|
 .o none (.st 1 (.t 41) (.t 38)) .nil)) <| .rg (.o none (.mv 43 (.t 1)) <|
 .o none (.mv 44 (.t 5)) <|
 .o none (.call (some 45) false (.c (.fn 145 [] [])) [(.t 43), (.t 44)]) <|
 .o none (.mv 42 (.t 45)) <|
 .o none (.ext 46 (.t 42) 0) <|
 .o none (.ext 47 (.t 42) 1) <|
 .o none (.ext 48 (.t 42) 2) <|
 .o none (.mv 1 (.t 46)) .nil)) (.skip)) <| .seq (.rg (.o none (.ld 49 2 true (.t 2)) <|
 .o none (.mv 50 (.t 1)) <|
 .o none (.bld 51 [(.bool false), .nilS, .nilS] [(0, 2, (.t 49)), (2, 1, (.t 50))]) <|
 .o none (.st 3 (.t 4) (.t 51)) .nil)) <| .ret⟩
theorem Q75 : Qf Tryz.prog Tryz.f110 = some Q33 := by kernel_rfl
def Q34 : SFn := ⟨14, [.cell 2 2 true, .t 3], .seq (.rg (.o none (.box 1 3 32 (.t 0)) <|
 .o none (.alloc 2 2 30 (.agg [(.bool false), .nilS])) <|
 .o none (.mv 3 (.c .nilS)) .nil)) <| .seq (.seq (.rg (.o none (.fld 4 2 (.t 1)) <|
 .o none (.ld 5 1 false (.t 4)) <|
 .o none (.call (some 6) false (.c (.fn 172 [] [])) [(.t 5)]) <|
 .o none (.bin 7 .eql false (.t 6) (.c (.int .i64 0))) .nil)) <| .cond (.t 7) (.seq (.rg (.o none (.bld 8 [(.bool false), .nilS] []) <|
 .o none (.call (some 9) false (.c (.fn 155 [] [])) []) <|
 .o none (.st 2 (.t 2) (.t 8)) <|
 .o none (.mv 3 (.t 9)) .nil)) <| .ret) (.skip)) <| .seq (.rg (.o none (.fld 10 0 (.t 1)) <|
 .o none (.ld 11 2 true (.t 10)) <|
 .o none (.fld 12 2 (.t 1)) <|
 .br (.o none (.ld 13 1 false (.t 12)) <|
 .o none (.st 2 (.t 2) (.t 11)) <|
 .o none (.mv 3 (.t 13)) .nil) (.o none (.st 2 (.t 2) (.t 11)) <|
 .o none (.ld 13 1 false (.t 12)) <|
 .o none (.mv 3 (.t 13)) .nil))) <| .ret⟩
theorem Q76 : Qf Tryz.prog Tryz.f107 = some Q34 := by kernel_rfl
def Q35 : SFn := ⟨5, [.cell 2 2 true], .seq (.rg (.o none (.alloc 2 2 30 (.agg [(.bool false), .nilS])) .nil)) <| .seq (.rg (.o none (.mv 3 (.t 0)) <|
 .o none (.bld 4 [(.bool false), .nilS] [(1, 1, (.t 3))]) <|
 .o none (.st 2 (.t 2) (.t 4)) .nil)) <| .ret⟩
theorem Q77 : Qf Tryz.prog Tryz.f113 = some Q35 := by kernel_rfl
def Q36 : SFn := ⟨36, [.t 2], .seq (.rg (.o none (.box 1 3 32 (.t 0)) <|
 .o none (.mv 2 (.c (.bool false))) .nil)) <| .seq (.rg (.o none (.fld 4 2 (.t 1)) <|
 .o none (.ld 5 1 false (.t 4)) <|
 .o none (.len 6 (.t 5)) <|
 .o none (.mv 3 (.t 6)) .nil)) <| .seq (.seq (.rg (.o none (.fld 7 0 (.t 1)) <|
 .o none (.ld 8 2 true (.t 7)) <|
 .o none (.call (some 9) false (.c (.fn 207 [] [])) [(.t 8)]) <|
 .o none (.un 10 .not (.t 9)) <|
 .o none (.mv 11 (.t 10)) <|
 .o (some (11, false)) (.mv 12 (.t 3)) <|
 .o (some (11, false)) (.bin 13 .eql false (.t 12) (.c (.int .i64 0))) <|
 .o none (.pick 14 (.t 11) (.c (.bool true)) (.t 13)) <|
 .o none (.mv 15 (.t 14)) <|
 .o (some (15, false)) (.fld 16 2 (.t 1)) <|
 .o (some (15, false)) (.ld 17 1 false (.t 16)) <|
 .o (some (15, false)) (.mv 18 (.t 3)) <|
 .o (some (15, false)) (.bin 19 .sub false (.t 18) (.c (.int .i64 1))) <|
 .o (some (15, false)) (.idx 20 1 (.t 17) (.t 19)) <|
 .o (some (15, false)) (.ld 21 1 false (.t 20)) <|
 .o (some (15, false)) (.bin 22 .eql false (.t 21) (.c (.int .u16 0))) <|
 .o none (.pick 23 (.t 15) (.c (.bool true)) (.t 22)) .nil)) <| .cond (.t 23) (.seq (.rg (.o none (.mv 2 (.c (.bool false))) .nil)) <| .ret) (.skip)) <| .seq (.rg (.o none (.fld 24 2 (.t 1)) <|
 .o none (.ld 25 1 false (.t 24)) <|
 .o none (.call (some 26) false (.c (.fn 109 [] [])) [(.t 25)]) <|
 .o none (.mv 27 (.t 26)) <|
 .o (some (27, false)) (.fld 28 0 (.t 1)) <|
 .o (some (27, false)) (.fld 29 1 (.t 28)) <|
 .o (some (27, false)) (.ld 30 1 false (.t 29)) <|
 .o (some (27, false)) (.fld 31 2 (.t 1)) <|
 .o (some (27, false)) (.ld 32 1 false (.t 31)) <|
 .o (some (27, false)) (.call (some 33) false (.c (.fn 144 [] [])) [(.t 30), (.t 32)]) <|
 .o (some (27, false)) (.call (some 34) false (.c (.fn 109 [] [])) [(.t 33)]) <|
 .o none (.pick 35 (.t 27) (.c (.bool true)) (.t 34)) <|
 .o none (.mv 2 (.t 35)) .nil)) <| .ret⟩
theorem Q78 : Qf Tryz.prog Tryz.f163 = some Q36 := by kernel_rfl
def c79 : SFn := ⟨7, [.cell 2 3 true], .seq (.rg (.o none (.alloc 2 3 32 (.agg [(.bool false), .nilS, .nilS])) .nil)) <| .seq (.rg (.o none (.mv 3 (.t 0)) <|
 .o none (.call (some 4) false (.c (.fn 154 [] [])) [(.t 3)]) <|
 .o none (.call (some 5) false (.c (.fn 155 [] [])) []) <|
 .o none (.bld 6 [(.bool false), .nilS, .nilS] [(0, 2, (.t 4)), (2, 1, (.t 5))]) <|
 .o none (.st 3 (.t 2) (.t 6)) .nil)) <| .ret⟩
theorem Qabo : Qf Tryz.prog Tryz.f79 = some c79 := by kernel_rfl
def c36 : SFn := ⟨12, [.t 2], .seq (.rg (.o none (.box 1 3 32 (.t 0)) <|
 .o none (.mv 2 (.c (.int .i64 0))) .nil)) <| .seq (.rg (.o none (.ld 6 3 true (.t 1)) <|
 .o none (.call (some 7) false (.c (.fn 107 [] [])) [(.t 6)]) <|
 .o none (.mv 5 (.t 7)) <|
 .o none (.ext 8 (.t 5) 0) <|
 .o none (.ext 9 (.t 5) 1) <|
 .o none (.alloc 3 2 30 (.agg [(.bool false), .nilS])) <|
 .o none (.st 2 (.t 3) (.t 8)) <|
 .o none (.mv 4 (.t 9)) .nil)) <| .seq (.rg (.o none (.ld 10 2 true (.t 3)) <|
 .o none (.call (some 11) false (.c (.fn 108 [] [])) [(.t 10)]) <|
 .o none (.mv 2 (.t 11)) .nil)) <| .ret⟩
theorem Qabp : Qf Tryz.prog Tryz.f36 = some c36 := by kernel_rfl
def Q37 : SFn := ⟨40, [.t 4], .seq (.rg (.o none (.box 2 3 32 (.t 0)) <|
 .o none (.box 3 3 32 (.t 1)) <|
 .o none (.mv 4 (.c (.int .i64 0))) .nil)) <| .seq (.rg (.o none (.ld 11 3 true (.t 2)) <|
 .o none (.ld 13 3 true (.t 3)) <|
 .o none (.call (some 12) true (.c (.fn 36 [] [])) [(.t 11)]) <|
 .o none (.call (some 14) true (.c (.fn 36 [] [])) [(.t 13)]) <|
 .o none (.mv 5 (.t 12)) <|
 .o none (.mv 6 (.t 14)) .nil)) <| .seq (.seq (.rg (.o none (.mv 15 (.t 5)) <|
 .o none (.mv 16 (.t 6)) <|
 .o none (.bin 17 .neq false (.t 15) (.t 16)) .nil)) <| .cond (.t 17) (.seq (.seq (.rg (.o none (.mv 18 (.t 5)) <|
 .o none (.mv 19 (.t 6)) <|
 .o none (.bin 20 .lss false (.t 18) (.t 19)) .nil)) <| .cond (.t 20) (.seq (.rg (.o none (.mv 4 (.c (.int .i64 (-1)))) .nil)) <| .ret) (.skip)) <| .seq (.rg (.o none (.mv 4 (.c (.int .i64 1))) .nil)) <| .ret) (.skip)) <| .seq (.rg (.o none (.ld 22 3 true (.t 2)) <|
 .o none (.call (some 23) false (.c (.fn 107 [] [])) [(.t 22)]) <|
 .o none (.mv 21 (.t 23)) <|
 .o none (.ext 24 (.t 21) 0) <|
 .o none (.ext 25 (.t 21) 1) <|
 .o none (.alloc 7 2 30 (.agg [(.bool false), .nilS])) <|
 .o none (.st 2 (.t 7) (.t 24)) <|
 .o none (.mv 8 (.t 25)) .nil)) <| .seq (.rg (.o none (.ld 27 3 true (.t 3)) <|
 .o none (.call (some 28) false (.c (.fn 107 [] [])) [(.t 27)]) <|
 .o none (.mv 26 (.t 28)) <|
 .o none (.ext 29 (.t 26) 0) <|
 .o none (.ext 30 (.t 26) 1) <|
 .o none (.alloc 9 2 30 (.agg [(.bool false), .nilS])) <|
 .o none (.st 2 (.t 9) (.t 29)) <|
 .o none (.mv 10 (.t 30)) .nil)) <| .seq (.rg (.o none (.ld 31 2 true (.t 7)) <|
 .o none (.mv 32 (.t 10)) <|
 .o none (.ld 35 2 true (.t 9)) <|
 .o none (.mv 36 (.t 8)) <|
 .o none (.call (some 33) true (.c (.fn 113 [] [])) [(.t 32)]) <|
 .o none (.call (some 34) true (.c (.fn 112 [] [])) [(.t 31), (.t 33)]) <|
 .o none (.call (some 37) true (.c (.fn 113 [] [])) [(.t 36)]) <|
 .o none (.call (some 38) true (.c (.fn 112 [] [])) [(.t 35), (.t 37)]) <|
 .o none (.call (some 39) true (.c (.fn 178 [] [])) [(.t 34), (.t 38)]) <|
 .o none (.mv 4 (.t 39)) .nil)) <| .ret⟩
theorem Q79 : Qf Tryz.prog Tryz.f115 = some Q37 := by kernel_rfl
def c39 : SFn := ⟨9, [.t 4], .seq (.rg (.o none (.box 2 3 32 (.t 0)) <|
 .o none (.box 3 3 32 (.t 1)) <|
 .o none (.mv 4 (.c (.bool false))) .nil)) <| .seq (.rg (.o none (.ld 5 3 true (.t 2)) <|
 .o none (.ld 6 3 true (.t 3)) <|
 .o none (.call (some 7) false (.c (.fn 115 [] [])) [(.t 5), (.t 6)]) <|
 .o none (.bin 8 .eql false (.t 7) (.c (.int .i64 0))) <|
 .o none (.mv 4 (.t 8)) .nil)) <| .ret⟩
theorem Qabq : Qf Tryz.prog Tryz.f39 = some c39 := by kernel_rfl
def Q38 : SFn := ⟨17, [.cell 2 2 true], .seq (.rg (.o none (.alloc 2 2 30 (.agg [(.bool false), .nilS])) .nil)) <| .seq (.rg (.o none (.alloc 3 2 30 (.agg [(.bool false), .nilS])) .nil)) <| .seq (.seq (.rg (.o none (.mv 6 (.t 0)) <|
 .o none (.len 7 (.t 6)) <|
 .o none (.mv 8 (.c (.int .i64 0))) .nil)) <| .block 0 (.loop (.seq (.rg (.o none (.bin 9 .lss false (.t 8) (.t 7)) .nil)) <| .seq (.cond (.t 9) (.skip) (.exit 0)) <| .seq (.block 1 (.seq (.rg (.o none (.idx 10 2 (.t 6) (.t 8)) <|
 .o none (.ld 11 2 true (.t 10)) <|
 .o none (.alloc 5 2 30 (.agg [(.bool false), .nilS])) <|
 .o none (.st 2 (.t 5) (.t 11)) .nil)) <| .rg (.o none (.ld 12 2 true (.t 3)) <|
 .o none (.ld 13 2 true (.t 5)) <|
 .o none (.call (some 14) false (.c (.fn 175 [] [])) [(.t 12), (.t 13)]) <|
 .o none (.st 2 (.t 3) (.t 14)) .nil))) <| .rg (.o none (.bin 15 .add false (.t 8) (.c (.int .i64 1))) <|
 .o none (.mv 8 (.t 15)) .nil)))) <| .seq (.rg (.o none (.ld 16 2 true (.t 3)) <|
 .o none (.st 2 (.t 2) (.t 16)) .nil)) <| .ret⟩
theorem Q8a : Qf Tryz.prog Tryz.f111 = some Q38 := by kernel_rfl
def c37 : SFn := ⟨45, [.cell 4 3 true], .seq (.rg (.o none (.box 2 3 32 (.t 0)) <|
 .o none (.box 3 3 32 (.t 1)) <|
 .o none (.alloc 4 3 32 (.agg [(.bool false), .nilS, .nilS])) .nil)) <| .seq (.rg (.o none (.ld 10 3 true (.t 2)) <|
 .o none (.call (some 11) false (.c (.fn 107 [] [])) [(.t 10)]) <|
 .o none (.mv 9 (.t 11)) <|
 .o none (.ext 12 (.t 9) 0) <|
 .o none (.ext 13 (.t 9) 1) <|
 .o none (.alloc 5 2 30 (.agg [(.bool false), .nilS])) <|
 .o none (.st 2 (.t 5) (.t 12)) <|
 .o none (.mv 6 (.t 13)) .nil)) <| .seq (.rg (.o none (.ld 15 3 true (.t 3)) <|
 .o none (.call (some 16) false (.c (.fn 107 [] [])) [(.t 15)]) <|
 .o none (.mv 14 (.t 16)) <|
 .o none (.ext 17 (.t 14) 0) <|
 .o none (.ext 18 (.t 14) 1) <|
 .o none (.alloc 7 2 30 (.agg [(.bool false), .nilS])) <|
 .o none (.st 2 (.t 7) (.t 17)) <|
 .o none (.mv 8 (.t 18)) .nil)) <| .seq (.seq (.rg (.o none (.mv 19 (.t 6)) <|
 .o none (.call (some 20) false (.c (.fn 109 [] [])) [(.t 19)]) <|
 .o none (.mv 21 (.t 20)) <|
 .o (some (21, true)) (.mv 22 (.t 8)) <|
 .o (some (21, true)) (.call (some 23) false (.c (.fn 109 [] [])) [(.t 22)]) <|
 .o none (.pick 24 (.t 21) (.t 23) (.c (.bool false))) .nil)) <| .cond (.t 24) (.seq (.rg (.o none (.ld 25 2 true (.t 5)) <|
 .o none (.ld 26 2 true (.t 7)) <|
 .o none (.bs 27 2 30 [(.t 25), (.t 26)]) <|
 .o none (.call (some 28) false (.c (.fn 111 [] [])) [(.t 27)]) <|
 .o none (.mv 29 (.t 6)) <|
 .o none (.call (some 30) false (.c (.fn 110 [] [])) [(.t 28), (.t 29)]) <|
 .o none (.st 3 (.t 4) (.t 30)) .nil)) <| .ret) (.skip)) <| .seq (.rg (.o none (.ld 31 2 true (.t 5)) <|
 .o none (.mv 32 (.t 8)) <|
 .o none (.ld 35 2 true (.t 7)) <|
 .o none (.mv 36 (.t 6)) <|
 .o none (.mv 41 (.t 6)) <|
 .o none (.mv 42 (.t 8)) <|
 .o none (.call (some 33) true (.c (.fn 113 [] [])) [(.t 32)]) <|
 .o none (.call (some 34) true (.c (.fn 112 [] [])) [(.t 31), (.t 33)]) <|
 .o none (.call (some 37) true (.c (.fn 113 [] [])) [(.t 36)]) <|
 .o none (.call (some 38) true (.c (.fn 112 [] [])) [(.t 35), (.t 37)]) <|
 .o none (.bs 39 2 30 [(.t 34), (.t 38)]) <|
 .o none (.call (some 40) true (.c (.fn 111 [] [])) [(.t 39)]) <|
 .o none (.call (some 43) true (.c (.fn 114 [] [])) [(.t 41), (.t 42)]) <|
 .o none (.call (some 44) true (.c (.fn 110 [] [])) [(.t 40), (.t 43)]) <|
 .o none (.st 3 (.t 4) (.t 44)) .nil)) <| .ret⟩
theorem Qabr : Qf Tryz.prog Tryz.f37 = some c37 := by kernel_rfl
def Q39 : SFn := ⟨18, [.cell 4 3 true], .seq (.rg (.o none (.box 2 3 32 (.t 0)) <|
 .o none (.box 3 3 32 (.t 1)) <|
 .o none (.alloc 4 3 32 (.agg [(.bool false), .nilS, .nilS])) .nil)) <| .seq (.rg (.o none (.ld 5 3 true (.t 2)) <|
 .o none (.fld 6 0 (.t 3)) <|
 .o none (.fld 7 0 (.t 6)) <|
 .o none (.ld 8 1 false (.t 7)) <|
 .o none (.un 9 .not (.t 8)) <|
 .o none (.fld 10 0 (.t 3)) <|
 .o none (.fld 11 1 (.t 10)) <|
 .o none (.ld 12 1 false (.t 11)) <|
 .o none (.bld 13 [(.bool false), .nilS] [(0, 1, (.t 9)), (1, 1, (.t 12))]) <|
 .o none (.fld 14 2 (.t 3)) <|
 .o none (.ld 15 1 false (.t 14)) <|
 .o none (.bld 16 [(.bool false), .nilS, .nilS] [(0, 2, (.t 13)), (2, 1, (.t 15))]) <|
 .o none (.call (some 17) false (.c (.fn 37 [] [])) [(.t 5), (.t 16)]) <|
 .o none (.st 3 (.t 4) (.t 17)) .nil)) <| .ret⟩
theorem Q8b : Qf Tryz.prog Tryz.f165 = some Q39 := by kernel_rfl
def c38 : SFn := ⟨26, [.cell 4 3 true], .seq (.rg (.o none (.box 2 3 32 (.t 0)) <|
 .o none (.box 3 3 32 (.t 1)) <|
 .o none (.alloc 4 3 32 (.agg [(.bool false), .nilS, .nilS])) .nil)) <| .seq (.rg (.o none (.ld 10 3 true (.t 2)) <|
 .o none (.call (some 11) false (.c (.fn 107 [] [])) [(.t 10)]) <|
 .o none (.mv 9 (.t 11)) <|
 .o none (.ext 12 (.t 9) 0) <|
 .o none (.ext 13 (.t 9) 1) <|
 .o none (.alloc 5 2 30 (.agg [(.bool false), .nilS])) <|
 .o none (.st 2 (.t 5) (.t 12)) <|
 .o none (.mv 6 (.t 13)) .nil)) <| .seq (.rg (.o none (.ld 15 3 true (.t 3)) <|
 .o none (.call (some 16) false (.c (.fn 107 [] [])) [(.t 15)]) <|
 .o none (.mv 14 (.t 16)) <|
 .o none (.ext 17 (.t 14) 0) <|
 .o none (.ext 18 (.t 14) 1) <|
 .o none (.alloc 7 2 30 (.agg [(.bool false), .nilS])) <|
 .o none (.st 2 (.t 7) (.t 17)) <|
 .o none (.mv 8 (.t 18)) .nil)) <| .seq (.rg (.o none (.ld 19 2 true (.t 5)) <|
 .o none (.ld 20 2 true (.t 7)) <|
 .o none (.call (some 21) false (.c (.fn 112 [] [])) [(.t 19), (.t 20)]) <|
 .o none (.mv 22 (.t 6)) <|
 .o none (.mv 23 (.t 8)) <|
 .o none (.call (some 24) false (.c (.fn 114 [] [])) [(.t 22), (.t 23)]) <|
 .o none (.call (some 25) false (.c (.fn 110 [] [])) [(.t 21), (.t 24)]) <|
 .o none (.st 3 (.t 4) (.t 25)) .nil)) <| .ret⟩
theorem Qabs : Qf Tryz.prog Tryz.f38 = some c38 := by kernel_rfl
def Q4a : SFn := ⟨18, [.cell 2 3 true], .seq (.rg (.o none (.box 1 3 32 (.t 0)) <|
 .o none (.alloc 2 3 32 (.agg [(.bool false), .nilS, .nilS])) .nil)) <| .seq (.rg (.o none (.ld 6 3 true (.t 1)) <|
 .o none (.call (some 7) false (.c (.fn 107 [] [])) [(.t 6)]) <|
 .o none (.mv 5 (.t 7)) <|
 .o none (.ext 8 (.t 5) 0) <|
 .o none (.ext 9 (.t 5) 1) <|
 .o none (.alloc 3 2 30 (.agg [(.bool false), .nilS])) <|
 .o none (.st 2 (.t 3) (.t 8)) <|
 .o none (.mv 4 (.t 9)) .nil)) <| .seq (.rg (.o none (.fld 10 0 (.t 3)) <|
 .o none (.ld 11 1 false (.t 10)) <|
 .o none (.un 12 .not (.t 11)) <|
 .o none (.fld 13 1 (.t 3)) <|
 .o none (.ld 14 1 false (.t 13)) <|
 .o none (.bld 15 [(.bool false), .nilS] [(0, 1, (.t 12)), (1, 1, (.t 14))]) <|
 .o none (.mv 16 (.t 4)) <|
 .o none (.call (some 17) false (.c (.fn 110 [] [])) [(.t 15), (.t 16)]) <|
 .o none (.st 3 (.t 2) (.t 17)) .nil)) <| .ret⟩
theorem Q8c : Qf Tryz.prog Tryz.f117 = some Q4a := by kernel_rfl
def Q4b : SFn := ⟨21, [.cell 4 3 true, .t 5], .seq (.rg (.o none (.box 2 2 30 (.t 0)) <|
 .o none (.box 3 2 30 (.t 1)) <|
 .o none (.alloc 4 3 32 (.agg [(.bool false), .nilS, .nilS])) <|
 .o none (.mv 5 (.c (.int .i64 0))) .nil)) <| .seq (.seq (.rg (.o none (.ld 6 2 true (.t 3)) <|
 .o none (.call (some 7) false (.c (.fn 108 [] [])) [(.t 6)]) <|
 .o none (.bin 8 .eql false (.t 7) (.c (.int .i64 0))) .nil)) <| .cond (.t 8) (.seq (.rg (.o none (.bld 9 [(.bool false), .nilS, .nilS] []) <|
 .o none (.st 3 (.t 4) (.t 9)) <|
 .o none (.mv 5 (.c (.int .i64 3))) .nil)) <| .ret) (.skip)) <| .seq (.rg (.o none (.fld 10 0 (.t 2)) <|
 .o none (.ld 11 1 false (.t 10)) <|
 .o none (.fld 12 0 (.t 3)) <|
 .o none (.ld 13 1 false (.t 12)) <|
 .o none (.bin 14 .neq true (.t 11) (.t 13)) <|
 .o none (.fld 15 1 (.t 2)) <|
 .o none (.ld 16 1 false (.t 15)) <|
 .o none (.bld 17 [(.bool false), .nilS] [(0, 1, (.t 14)), (1, 1, (.t 16))]) <|
 .o none (.fld 18 1 (.t 3)) <|
 .o none (.ld 19 1 false (.t 18)) <|
 .o none (.call (some 20) false (.c (.fn 110 [] [])) [(.t 17), (.t 19)]) <|
 .o none (.st 3 (.t 4) (.t 20)) <|
 .o none (.mv 5 (.c (.int .i64 0))) .nil)) <| .ret⟩
theorem Q8d : Qf Tryz.prog Tryz.f146 = some Q4b := by kernel_rfl
def Q4c : SFn := ⟨31, [.cell 4 3 true, .t 5], .seq (.rg (.o none (.box 2 3 32 (.t 0)) <|
 .o none (.box 3 3 32 (.t 1)) <|
 .o none (.alloc 4 3 32 (.agg [(.bool false), .nilS, .nilS])) <|
 .o none (.mv 5 (.c (.int .i64 0))) .nil)) <| .seq (.rg (.o none (.ld 11 3 true (.t 2)) <|
 .o none (.call (some 12) false (.c (.fn 107 [] [])) [(.t 11)]) <|
 .o none (.mv 10 (.t 12)) <|
 .o none (.ext 13 (.t 10) 0) <|
 .o none (.ext 14 (.t 10) 1) <|
 .o none (.alloc 6 2 30 (.agg [(.bool false), .nilS])) <|
 .o none (.st 2 (.t 6) (.t 13)) <|
 .o none (.mv 7 (.t 14)) .nil)) <| .seq (.rg (.o none (.ld 16 3 true (.t 3)) <|
 .o none (.call (some 17) false (.c (.fn 107 [] [])) [(.t 16)]) <|
 .o none (.mv 15 (.t 17)) <|
 .o none (.ext 18 (.t 15) 0) <|
 .o none (.ext 19 (.t 15) 1) <|
 .o none (.alloc 8 2 30 (.agg [(.bool false), .nilS])) <|
 .o none (.st 2 (.t 8) (.t 18)) <|
 .o none (.mv 9 (.t 19)) .nil)) <| .seq (.rg (.o none (.ld 20 2 true (.t 6)) <|
 .o none (.mv 21 (.t 9)) <|
 .o none (.ld 24 2 true (.t 8)) <|
 .o none (.mv 25 (.t 7)) <|
 .o none (.call (some 22) true (.c (.fn 113 [] [])) [(.t 21)]) <|
 .o none (.call (some 23) true (.c (.fn 112 [] [])) [(.t 20), (.t 22)]) <|
 .o none (.call (some 26) true (.c (.fn 113 [] [])) [(.t 25)]) <|
 .o none (.call (some 27) true (.c (.fn 112 [] [])) [(.t 24), (.t 26)]) <|
 .o none (.call (some 28) true (.c (.fn 146 [] [])) [(.t 23), (.t 27)]) <|
 .o none (.ext 29 (.t 28) 0) <|
 .o none (.ext 30 (.t 28) 1) <|
 .o none (.st 3 (.t 4) (.t 29)) <|
 .o none (.mv 5 (.t 30)) .nil)) <| .ret⟩
theorem Q8e : Qf Tryz.prog Tryz.f139 = some Q4c := by kernel_rfl
end Go.Proofs.YtmnkngmmfnncoaaGreat
namespace Go.Proofs.YtmnkngmmfnncoaaGreat
open Go Go.FW
set_option maxRecDepth 100000
def Q4d : SFn := ⟨108, [.t 4], .seq (.rg (.o none (.box 2 1 28 (.t 0)) <|
 .o none (.box 3 1 28 (.t 1)) <|
 .o none (.mv 4 (.c .nilS)) .nil)) <| .seq (.rg (.o none (.ld 12 1 false (.t 3)) <|
 .o none (.len 13 (.t 12)) <|
 .o none (.alloc 5 1 3 (.int .i64 0)) <|
 .o none (.st 1 (.t 5) (.t 13)) .nil)) <| .seq (.rg (.o none (.ld 14 1 false (.t 2)) <|
 .o none (.len 15 (.t 14)) <|
 .o none (.ld 16 1 false (.t 5)) <|
 .o none (.bin 17 .sub false (.t 15) (.t 16)) <|
 .o none (.mk 18 1 2 156 (.int .u16 0) (.t 17) (.t 17)) <|
 .o none (.mv 6 (.t 18)) .nil)) <| .seq (.seq (.rg (.o none (.ld 19 1 false (.t 2)) <|
 .o none (.len 20 (.t 19)) <|
 .o none (.ld 21 1 false (.t 5)) <|
 .o none (.bin 22 .sub false (.t 20) (.t 21)) <|
 .o none (.bin 23 .sub false (.t 22) (.c (.int .i64 1))) <|
 .o none (.alloc 7 1 3 (.int .i64 0)) <|
 .o none (.st 1 (.t 7) (.t 23)) .nil)) <| .block 0 (.loop (.seq (.seq (.rg (.o none (.ld 24 1 false (.t 7)) <|
 .o none (.bin 25 .geq false (.t 24) (.c (.int .i64 0))) .nil)) <| .cond (.t 25) (.skip) (.exit 0)) <| .seq (.block 1 (.seq (.rg (.o none (.ld 28 1 false (.t 2)) <|
 .o none (.ld 29 1 false (.t 7)) <|
 .o none (.ld 30 1 false (.t 5)) <|
 .o none (.bin 31 .add false (.t 29) (.t 30)) <|
 .o none (.idx 32 1 (.t 28) (.t 31)) <|
 .o none (.ld 33 1 false (.t 32)) <|
 .o none (.conv 34 .u64 (.t 33)) <|
 .o none (.bin 35 .shl false (.t 34) (.c (.int .u64 16))) <|
 .o none (.ld 36 1 false (.t 2)) <|
 .o none (.ld 37 1 false (.t 7)) <|
 .o none (.ld 38 1 false (.t 5)) <|
 .o none (.bin 39 .add false (.t 37) (.t 38)) <|
 .o none (.bin 40 .sub false (.t 39) (.c (.int .i64 1))) <|
 .o none (.idx 41 1 (.t 36) (.t 40)) <|
 .o none (.ld 42 1 false (.t 41)) <|
 .o none (.conv 43 .u64 (.t 42)) <|
 .o none (.bin 44 .or false (.t 35) (.t 43)) <|
 .o none (.mv 8 (.t 44)) .nil)) <| .seq (.rg (.o none (.mv 45 (.t 8)) <|
 .o none (.ld 46 1 false (.t 3)) <|
 .o none (.ld 47 1 false (.t 5)) <|
 .o none (.bin 48 .sub false (.t 47) (.c (.int .i64 1))) <|
 .o none (.idx 49 1 (.t 46) (.t 48)) <|
 .o none (.ld 50 1 false (.t 49)) <|
 .o none (.conv 51 .u64 (.t 50)) <|
 .o none (.bin 52 .quo false (.t 45) (.t 51)) <|
 .o none (.mv 53 (.t 8)) <|
 .br (.o none (.ld 54 1 false (.t 3)) <|
 .br (.o none (.ld 55 1 false (.t 5)) <|
 .o none (.bin 56 .sub false (.t 55) (.c (.int .i64 1))) <|
 .o none (.idx 57 1 (.t 54) (.t 56)) <|
 .br (.o none (.ld 58 1 false (.t 57)) <|
 .o none (.conv 59 .u64 (.t 58)) <|
 .o none (.bin 60 .rem false (.t 53) (.t 59)) <|
 .br (.o none (.alloc 9 1 120 (.int .u64 0)) <|
 .o none (.alloc 10 1 120 (.int .u64 0)) <|
 .o none (.st 1 (.t 9) (.t 52)) <|
 .o none (.st 1 (.t 10) (.t 60)) .nil) (.o none (.alloc 10 1 120 (.int .u64 0)) <|
 .o none (.alloc 9 1 120 (.int .u64 0)) <|
 .o none (.st 1 (.t 9) (.t 52)) <|
 .o none (.st 1 (.t 10) (.t 60)) .nil)) (.br (.o none (.alloc 9 1 120 (.int .u64 0)) <|
 .br (.o none (.ld 58 1 false (.t 57)) <|
 .o none (.conv 59 .u64 (.t 58)) <|
 .o none (.bin 60 .rem false (.t 53) (.t 59)) <|
 .o none (.alloc 10 1 120 (.int .u64 0)) <|
 .o none (.st 1 (.t 9) (.t 52)) <|
 .o none (.st 1 (.t 10) (.t 60)) .nil) (.o none (.alloc 10 1 120 (.int .u64 0)) <|
 .br (.o none (.ld 58 1 false (.t 57)) <|
 .o none (.conv 59 .u64 (.t 58)) <|
 .o none (.bin 60 .rem false (.t 53) (.t 59)) <|
 .o none (.st 1 (.t 9) (.t 52)) <|
 .o none (.st 1 (.t 10) (.t 60)) .nil) (.o none (.st 1 (.t 9) (.t 52)) <|
 .o none (.ld 58 1 false (.t 57)) <|
 .o none (.conv 59 .u64 (.t 58)) <|
 .o none (.bin 60 .rem false (.t 53) (.t 59)) <|
 .o none (.st 1 (.t 10) (.t 60)) .nil))) (.o none (.alloc 10 1 120 (.int .u64 0)) <|
 .br (.o none (.ld 58 1 false (.t 57)) <|
 .o none (.conv 59 .u64 (.t 58)) <|
 .o none (.bin 60 .rem false (.t 53) (.t 59)) <|
 .o none (.alloc 9 1 120 (.int .u64 0)) <|
 .o none (.st 1 (.t 9) (.t 52)) <|
 .o none (.st 1 (.t 10) (.t 60)) .nil) (.o none (.alloc 9 1 120 (.int .u64 0)) <|
 .br (.o none (.ld 58 1 false (.t 57)) <|
 .o none (.conv 59 .u64 (.t 58)) <|
 .o none (.bin 60 .rem false (.t 53) (.t 59)) <|
 .o none (.st 1 (.t 9) (.t 52)) <|
 .o none (.st 1 (.t 10) (.t 60)) .nil) (.o none (.st 1 (.t 9) (.t 52)) <|
 .o none (.ld 58 1 false (.t 57)) <|
 .o none (.conv 59 .u64 (.t 58)) <|
 .o none (.bin 60 .rem false (.t 53) (.t 59)) <|
 .o none (.st 1 (.t 10) (.t 60)) .nil))))) (.br (.o none (.alloc 9 1 120 (.int .u64 0)) <|
 .br (.o none (.ld 55 1 false (.t 5)) <|
 .o none (.bin 56 .sub false (.t 55) (.c (.int .i64 1))) <|
 .o none (.idx 57 1 (.t 54) (.t 56)) <|
 .br (.o none (.ld 58 1 false (.t 57)) <|
 .o none (.conv 59 .u64 (.t 58)) <|
 .o none (.bin 60 .rem false (.t 53) (.t 59)) <|
 .o none (.alloc 10 1 120 (.int .u64 0)) <|
 .o none (.st 1 (.t 9) (.t 52)) <|
 .o none (.st 1 (.t 10) (.t 60)) .nil) (.o none (.alloc 10 1 120 (.int .u64 0)) <|
 .br (.o none (.ld 58 1 false (.t 57)) <|
 .o none (.conv 59 .u64 (.t 58)) <|
 .o none (.bin 60 .rem false (.t 53) (.t 59)) <|
 .o none (.st 1 (.t 9) (.t 52)) <|
 .o none (.st 1 (.t 10) (.t 60)) .nil) (.o none (.st 1 (.t 9) (.t 52)) <|
 .o none (.ld 58 1 false (.t 57)) <|
 .o none (.conv 59 .u64 (.t 58)) <|
 .o none (.bin 60 .rem false (.t 53) (.t 59)) <|
 .o none (.st 1 (.t 10) (.t 60)) .nil))) (.o none (.alloc 10 1 120 (.int .u64 0)) <|
 .br (.o none (.ld 55 1 false (.t 5)) <|
 .o none (.bin 56 .sub false (.t 55) (.c (.int .i64 1))) <|
 .o none (.idx 57 1 (.t 54) (.t 56)) <|
 .br (.o none (.ld 58 1 false (.t 57)) <|
 .o none (.conv 59 .u64 (.t 58)) <|
 .o none (.bin 60 .rem false (.t 53) (.t 59)) <|
 .o none (.st 1 (.t 9) (.t 52)) <|
 .o none (.st 1 (.t 10) (.t 60)) .nil) (.o none (.st 1 (.t 9) (.t 52)) <|
 .o none (.ld 58 1 false (.t 57)) <|
 .o none (.conv 59 .u64 (.t 58)) <|
 .o none (.bin 60 .rem false (.t 53) (.t 59)) <|
 .o none (.st 1 (.t 10) (.t 60)) .nil)) (.o none (.st 1 (.t 9) (.t 52)) <|
 .o none (.ld 55 1 false (.t 5)) <|
 .o none (.bin 56 .sub false (.t 55) (.c (.int .i64 1))) <|
 .o none (.idx 57 1 (.t 54) (.t 56)) <|
 .o none (.ld 58 1 false (.t 57)) <|
 .o none (.conv 59 .u64 (.t 58)) <|
 .o none (.bin 60 .rem false (.t 53) (.t 59)) <|
 .o none (.st 1 (.t 10) (.t 60)) .nil))) (.o none (.alloc 10 1 120 (.int .u64 0)) <|
 .br (.o none (.ld 55 1 false (.t 5)) <|
 .o none (.bin 56 .sub false (.t 55) (.c (.int .i64 1))) <|
 .o none (.idx 57 1 (.t 54) (.t 56)) <|
 .br (.o none (.ld 58 1 false (.t 57)) <|
 .o none (.conv 59 .u64 (.t 58)) <|
 .o none (.bin 60 .rem false (.t 53) (.t 59)) <|
 .o none (.alloc 9 1 120 (.int .u64 0)) <|
 .o none (.st 1 (.t 9) (.t 52)) <|
 .o none (.st 1 (.t 10) (.t 60)) .nil) (.o none (.alloc 9 1 120 (.int .u64 0)) <|
 .br (.o none (.ld 58 1 false (.t 57)) <|
 .o none (.conv 59 .u64 (.t 58)) <|
 .o none (.bin 60 .rem false (.t 53) (.t 59)) <|
 .o none (.st 1 (.t 9) (.t 52)) <|
 .o none (.st 1 (.t 10) (.t 60)) .nil) (.o none (.st 1 (.t 9) (.t 52)) <|
 .o none (.ld 58 1 false (.t 57)) <|
 .o none (.conv 59 .u64 (.t 58)) <|
 .o none (.bin 60 .rem false (.t 53) (.t 59)) <|
 .o none (.st 1 (.t 10) (.t 60)) .nil))) (.o none (.alloc 9 1 120 (.int .u64 0)) <|
 .br (.o none (.ld 55 1 false (.t 5)) <|
 .o none (.bin 56 .sub false (.t 55) (.c (.int .i64 1))) <|
 .o none (.idx 57 1 (.t 54) (.t 56)) <|
 .br (.o none (.ld 58 1 false (.t 57)) <|
 .o none (.conv 59 .u64 (.t 58)) <|
 .o none (.bin 60 .rem false (.t 53) (.t 59)) <|
 .o none (.st 1 (.t 9) (.t 52)) <|
 .o none (.st 1 (.t 10) (.t 60)) .nil) (.o none (.st 1 (.t 9) (.t 52)) <|
 .o none (.ld 58 1 false (.t 57)) <|
 .o none (.conv 59 .u64 (.t 58)) <|
 .o none (.bin 60 .rem false (.t 53) (.t 59)) <|
 .o none (.st 1 (.t 10) (.t 60)) .nil)) (.o none (.st 1 (.t 9) (.t 52)) <|
 .o none (.ld 55 1 false (.t 5)) <|
 .o none (.bin 56 .sub false (.t 55) (.c (.int .i64 1))) <|
 .o none (.idx 57 1 (.t 54) (.t 56)) <|
 .o none (.ld 58 1 false (.t 57)) <|
 .o none (.conv 59 .u64 (.t 58)) <|
 .o none (.bin 60 .rem false (.t 53) (.t 59)) <|
 .o none (.st 1 (.t 10) (.t 60)) .nil))))) (.br (.o none (.ld 55 1 false (.t 5)) <|
 .o none (.bin 56 .sub false (.t 55) (.c (.int .i64 1))) <|
 .br (.o none (.ld 54 1 false (.t 3)) <|
 .o none (.idx 57 1 (.t 54) (.t 56)) <|
 .br (.o none (.ld 58 1 false (.t 57)) <|
 .o none (.conv 59 .u64 (.t 58)) <|
 .o none (.bin 60 .rem false (.t 53) (.t 59)) <|
 .br (.o none (.alloc 9 1 120 (.int .u64 0)) <|
 .o none (.alloc 10 1 120 (.int .u64 0)) <|
 .o none (.st 1 (.t 9) (.t 52)) <|
 .o none (.st 1 (.t 10) (.t 60)) .nil) (.o none (.alloc 10 1 120 (.int .u64 0)) <|
 .o none (.alloc 9 1 120 (.int .u64 0)) <|
 .o none (.st 1 (.t 9) (.t 52)) <|
 .o none (.st 1 (.t 10) (.t 60)) .nil)) (.br (.o none (.alloc 9 1 120 (.int .u64 0)) <|
 .br (.o none (.ld 58 1 false (.t 57)) <|
 .o none (.conv 59 .u64 (.t 58)) <|
 .o none (.bin 60 .rem false (.t 53) (.t 59)) <|
 .o none (.alloc 10 1 120 (.int .u64 0)) <|
 .o none (.st 1 (.t 9) (.t 52)) <|
 .o none (.st 1 (.t 10) (.t 60)) .nil) (.o none (.alloc 10 1 120 (.int .u64 0)) <|
 .br (.o none (.ld 58 1 false (.t 57)) <|
 .o none (.conv 59 .u64 (.t 58)) <|
 .o none (.bin 60 .rem false (.t 53) (.t 59)) <|
 .o none (.st 1 (.t 9) (.t 52)) <|
 .o none (.st 1 (.t 10) (.t 60)) .nil) (.o none (.st 1 (.t 9) (.t 52)) <|
 .o none (.ld 58 1 false (.t 57)) <|
 .o none (.conv 59 .u64 (.t 58)) <|
 .o none (.bin 60 .rem false (.t 53) (.t 59)) <|
 .o none (.st 1 (.t 10) (.t 60)) .nil))) (.o none (.alloc 10 1 120 (.int .u64 0)) <|
 .br (.o none (.ld 58 1 false (.t 57)) <|
 .o none (.conv 59 .u64 (.t 58)) <|
 .o none (.bin 60 .rem false (.t 53) (.t 59)) <|
 .o none (.alloc 9 1 120 (.int .u64 0)) <|
 .o none (.st 1 (.t 9) (.t 52)) <|
 .o none (.st 1 (.t 10) (.t 60)) .nil) (.o none (.alloc 9 1 120 (.int .u64 0)) <|
 .br (.o none (.ld 58 1 false (.t 57)) <|
 .o none (.conv 59 .u64 (.t 58)) <|
 .o none (.bin 60 .rem false (.t 53) (.t 59)) <|
 .o none (.st 1 (.t 9) (.t 52)) <|
 .o none (.st 1 (.t 10) (.t 60)) .nil) (.o none (.st 1 (.t 9) (.t 52)) <|
 .o none (.ld 58 1 false (.t 57)) <|
 .o none (.conv 59 .u64 (.t 58)) <|
 .o none (.bin 60 .rem false (.t 53) (.t 59)) <|
 .o none (.st 1 (.t 10) (.t 60)) .nil))))) (.br (.o none (.alloc 9 1 120 (.int .u64 0)) <|
 .br (.o none (.ld 54 1 false (.t 3)) <|
 .o none (.idx 57 1 (.t 54) (.t 56)) <|
 .br (.o none (.ld 58 1 false (.t 57)) <|
 .o none (.conv 59 .u64 (.t 58)) <|
 .o none (.bin 60 .rem false (.t 53) (.t 59)) <|
 .o none (.alloc 10 1 120 (.int .u64 0)) <|
 .o none (.st 1 (.t 9) (.t 52)) <|
 .o none (.st 1 (.t 10) (.t 60)) .nil) (.o none (.alloc 10 1 120 (.int .u64 0)) <|
 .br (.o none (.ld 58 1 false (.t 57)) <|
 .o none (.conv 59 .u64 (.t 58)) <|
 .o none (.bin 60 .rem false (.t 53) (.t 59)) <|
 .o none (.st 1 (.t 9) (.t 52)) <|
 .o none (.st 1 (.t 10) (.t 60)) .nil) (.o none (.st 1 (.t 9) (.t 52)) <|
 .o none (.ld 58 1 false (.t 57)) <|
 .o none (.conv 59 .u64 (.t 58)) <|
 .o none (.bin 60 .rem false (.t 53) (.t 59)) <|
 .o none (.st 1 (.t 10) (.t 60)) .nil))) (.o none (.alloc 10 1 120 (.int .u64 0)) <|
 .br (.o none (.ld 54 1 false (.t 3)) <|
 .o none (.idx 57 1 (.t 54) (.t 56)) <|
 .br (.o none (.ld 58 1 false (.t 57)) <|
 .o none (.conv 59 .u64 (.t 58)) <|
 .o none (.bin 60 .rem false (.t 53) (.t 59)) <|
 .o none (.st 1 (.t 9) (.t 52)) <|
 .o none (.st 1 (.t 10) (.t 60)) .nil) (.o none (.st 1 (.t 9) (.t 52)) <|
 .o none (.ld 58 1 false (.t 57)) <|
 .o none (.conv 59 .u64 (.t 58)) <|
 .o none (.bin 60 .rem false (.t 53) (.t 59)) <|
 .o none (.st 1 (.t 10) (.t 60)) .nil)) (.o none (.st 1 (.t 9) (.t 52)) <|
 .o none (.ld 54 1 false (.t 3)) <|
 .o none (.idx 57 1 (.t 54) (.t 56)) <|
 .o none (.ld 58 1 false (.t 57)) <|
 .o none (.conv 59 .u64 (.t 58)) <|
 .o none (.bin 60 .rem false (.t 53) (.t 59)) <|
 .o none (.st 1 (.t 10) (.t 60)) .nil))) (.o none (.alloc 10 1 120 (.int .u64 0)) <|
 .br (.o none (.ld 54 1 false (.t 3)) <|
 .o none (.idx 57 1 (.t 54) (.t 56)) <|
 .br (.o none (.ld 58 1 false (.t 57)) <|
 .o none (.conv 59 .u64 (.t 58)) <|
 .o none (.bin 60 .rem false (.t 53) (.t 59)) <|
 .o none (.alloc 9 1 120 (.int .u64 0)) <|
 .o none (.st 1 (.t 9) (.t 52)) <|
 .o none (.st 1 (.t 10) (.t 60)) .nil) (.o none (.alloc 9 1 120 (.int .u64 0)) <|
 .br (.o none (.ld 58 1 false (.t 57)) <|
 .o none (.conv 59 .u64 (.t 58)) <|
 .o none (.bin 60 .rem false (.t 53) (.t 59)) <|
 .o none (.st 1 (.t 9) (.t 52)) <|
 .o none (.st 1 (.t 10) (.t 60)) .nil) (.o none (.st 1 (.t 9) (.t 52)) <|
 .o none (.ld 58 1 false (.t 57)) <|
 .o none (.conv 59 .u64 (.t 58)) <|
 .o none (.bin 60 .rem false (.t 53) (.t 59)) <|
 .o none (.st 1 (.t 10) (.t 60)) .nil))) (.o none (.alloc 9 1 120 (.int .u64 0)) <|
 .br (.o none (.ld 54 1 false (.t 3)) <|
 .o none (.idx 57 1 (.t 54) (.t 56)) <|
 .br (.o none (.ld 58 1 false (.t 57)) <|
 .o none (.conv 59 .u64 (.t 58)) <|
 .o none (.bin 60 .rem false (.t 53) (.t 59)) <|
 .o none (.st 1 (.t 9) (.t 52)) <|
 .o none (.st 1 (.t 10) (.t 60)) .nil) (.o none (.st 1 (.t 9) (.t 52)) <|
 .o none (.ld 58 1 false (.t 57)) <|
 .o none (.conv 59 .u64 (.t 58)) <|
 .o none (.bin 60 .rem false (.t 53) (.t 59)) <|
 .o none (.st 1 (.t 10) (.t 60)) .nil)) (.o none (.st 1 (.t 9) (.t 52)) <|
 .o none (.ld 54 1 false (.t 3)) <|
 .o none (.idx 57 1 (.t 54) (.t 56)) <|
 .o none (.ld 58 1 false (.t 57)) <|
 .o none (.conv 59 .u64 (.t 58)) <|
 .o none (.bin 60 .rem false (.t 53) (.t 59)) <|
 .o none (.st 1 (.t 10) (.t 60)) .nil))))) (.br (.o none (.alloc 9 1 120 (.int .u64 0)) <|
 .br (.o none (.ld 54 1 false (.t 3)) <|
 .br (.o none (.ld 55 1 false (.t 5)) <|
 .o none (.bin 56 .sub false (.t 55) (.c (.int .i64 1))) <|
 .o none (.idx 57 1 (.t 54) (.t 56)) <|
 .br (.o none (.ld 58 1 false (.t 57)) <|
 .o none (.conv 59 .u64 (.t 58)) <|
 .o none (.bin 60 .rem false (.t 53) (.t 59)) <|
 .o none (.alloc 10 1 120 (.int .u64 0)) <|
 .o none (.st 1 (.t 9) (.t 52)) <|
 .o none (.st 1 (.t 10) (.t 60)) .nil) (.o none (.alloc 10 1 120 (.int .u64 0)) <|
 .br (.o none (.ld 58 1 false (.t 57)) <|
 .o none (.conv 59 .u64 (.t 58)) <|
 .o none (.bin 60 .rem false (.t 53) (.t 59)) <|
 .o none (.st 1 (.t 9) (.t 52)) <|
 .o none (.st 1 (.t 10) (.t 60)) .nil) (.o none (.st 1 (.t 9) (.t 52)) <|
 .o none (.ld 58 1 false (.t 57)) <|
 .o none (.conv 59 .u64 (.t 58)) <|
 .o none (.bin 60 .rem false (.t 53) (.t 59)) <|
 .o none (.st 1 (.t 10) (.t 60)) .nil))) (.o none (.alloc 10 1 120 (.int .u64 0)) <|
 .br (.o none (.ld 55 1 false (.t 5)) <|
 .o none (.bin 56 .sub false (.t 55) (.c (.int .i64 1))) <|
 .o none (.idx 57 1 (.t 54) (.t 56)) <|
 .br (.o none (.ld 58 1 false (.t 57)) <|
 .o none (.conv 59 .u64 (.t 58)) <|
 .o none (.bin 60 .rem false (.t 53) (.t 59)) <|
 .o none (.st 1 (.t 9) (.t 52)) <|
 .o none (.st 1 (.t 10) (.t 60)) .nil) (.o none (.st 1 (.t 9) (.t 52)) <|
 .o none (.ld 58 1 false (.t 57)) <|
 .o none (.conv 59 .u64 (.t 58)) <|
 .o none (.bin 60 .rem false (.t 53) (.t 59)) <|
 .o none (.st 1 (.t 10) (.t 60)) .nil)) (.o none (.st 1 (.t 9) (.t 52)) <|
 .o none (.ld 55 1 false (.t 5)) <|
 .o none (.bin 56 .sub false (.t 55) (.c (.int .i64 1))) <|
 .o none (.idx 57 1 (.t 54) (.t 56)) <|
 .o none (.ld 58 1 false (.t 57)) <|
 .o none (.conv 59 .u64 (.t 58)) <|
 .o none (.bin 60 .rem false (.t 53) (.t 59)) <|
 .o none (.st 1 (.t 10) (.t 60)) .nil))) (.br (.o none (.ld 55 1 false (.t 5)) <|
 .o none (.bin 56 .sub false (.t 55) (.c (.int .i64 1))) <|
 .br (.o none (.ld 54 1 false (.t 3)) <|
 .o none (.idx 57 1 (.t 54) (.t 56)) <|
 .br (.o none (.ld 58 1 false (.t 57)) <|
 .o none (.conv 59 .u64 (.t 58)) <|
 .o none (.bin 60 .rem false (.t 53) (.t 59)) <|
 .o none (.alloc 10 1 120 (.int .u64 0)) <|
 .o none (.st 1 (.t 9) (.t 52)) <|
 .o none (.st 1 (.t 10) (.t 60)) .nil) (.o none (.alloc 10 1 120 (.int .u64 0)) <|
 .br (.o none (.ld 58 1 false (.t 57)) <|
 .o none (.conv 59 .u64 (.t 58)) <|
 .o none (.bin 60 .rem false (.t 53) (.t 59)) <|
 .o none (.st 1 (.t 9) (.t 52)) <|
 .o none (.st 1 (.t 10) (.t 60)) .nil) (.o none (.st 1 (.t 9) (.t 52)) <|
 .o none (.ld 58 1 false (.t 57)) <|
 .o none (.conv 59 .u64 (.t 58)) <|
 .o none (.bin 60 .rem false (.t 53) (.t 59)) <|
 .o none (.st 1 (.t 10) (.t 60)) .nil))) (.o none (.alloc 10 1 120 (.int .u64 0)) <|
 .br (.o none (.ld 54 1 false (.t 3)) <|
 .o none (.idx 57 1 (.t 54) (.t 56)) <|
 .br (.o none (.ld 58 1 false (.t 57)) <|
 .o none (.conv 59 .u64 (.t 58)) <|
 .o none (.bin 60 .rem false (.t 53) (.t 59)) <|
 .o none (.st 1 (.t 9) (.t 52)) <|
 .o none (.st 1 (.t 10) (.t 60)) .nil) (.o none (.st 1 (.t 9) (.t 52)) <|
 .o none (.ld 58 1 false (.t 57)) <|
 .o none (.conv 59 .u64 (.t 58)) <|
 .o none (.bin 60 .rem false (.t 53) (.t 59)) <|
 .o none (.st 1 (.t 10) (.t 60)) .nil)) (.o none (.st 1 (.t 9) (.t 52)) <|
 .o none (.ld 54 1 false (.t 3)) <|
 .o none (.idx 57 1 (.t 54) (.t 56)) <|
 .o none (.ld 58 1 false (.t 57)) <|
 .o none (.conv 59 .u64 (.t 58)) <|
 .o none (.bin 60 .rem false (.t 53) (.t 59)) <|
 .o none (.st 1 (.t 10) (.t 60)) .nil))) (.o none (.alloc 10 1 120 (.int .u64 0)) <|
 .br (.o none (.ld 54 1 false (.t 3)) <|
 .br (.o none (.ld 55 1 false (.t 5)) <|
 .o none (.bin 56 .sub false (.t 55) (.c (.int .i64 1))) <|
 .o none (.idx 57 1 (.t 54) (.t 56)) <|
 .br (.o none (.ld 58 1 false (.t 57)) <|
 .o none (.conv 59 .u64 (.t 58)) <|
 .o none (.bin 60 .rem false (.t 53) (.t 59)) <|
 .o none (.st 1 (.t 9) (.t 52)) <|
 .o none (.st 1 (.t 10) (.t 60)) .nil) (.o none (.st 1 (.t 9) (.t 52)) <|
 .o none (.ld 58 1 false (.t 57)) <|
 .o none (.conv 59 .u64 (.t 58)) <|
 .o none (.bin 60 .rem false (.t 53) (.t 59)) <|
 .o none (.st 1 (.t 10) (.t 60)) .nil)) (.o none (.st 1 (.t 9) (.t 52)) <|
 .o none (.ld 55 1 false (.t 5)) <|
 .o none (.bin 56 .sub false (.t 55) (.c (.int .i64 1))) <|
 .o none (.idx 57 1 (.t 54) (.t 56)) <|
 .o none (.ld 58 1 false (.t 57)) <|
 .o none (.conv 59 .u64 (.t 58)) <|
 .o none (.bin 60 .rem false (.t 53) (.t 59)) <|
 .o none (.st 1 (.t 10) (.t 60)) .nil)) (.br (.o none (.ld 55 1 false (.t 5)) <|
 .o none (.bin 56 .sub false (.t 55) (.c (.int .i64 1))) <|
 .br (.o none (.ld 54 1 false (.t 3)) <|
 .o none (.idx 57 1 (.t 54) (.t 56)) <|
 .br (.o none (.ld 58 1 false (.t 57)) <|
 .o none (.conv 59 .u64 (.t 58)) <|
 .o none (.bin 60 .rem false (.t 53) (.t 59)) <|
 .o none (.st 1 (.t 9) (.t 52)) <|
 .o none (.st 1 (.t 10) (.t 60)) .nil) (.o none (.st 1 (.t 9) (.t 52)) <|
 .o none (.ld 58 1 false (.t 57)) <|
 .o none (.conv 59 .u64 (.t 58)) <|
 .o none (.bin 60 .rem false (.t 53) (.t 59)) <|
 .o none (.st 1 (.t 10) (.t 60)) .nil)) (.o none (.st 1 (.t 9) (.t 52)) <|
 .o none (.ld 54 1 false (.t 3)) <|
 .o none (.idx 57 1 (.t 54) (.t 56)) <|
 .o none (.ld 58 1 false (.t 57)) <|
 .o none (.conv 59 .u64 (.t 58)) <|
 .o none (.bin 60 .rem false (.t 53) (.t 59)) <|
 .o none (.st 1 (.t 10) (.t 60)) .nil)) (.o none (.st 1 (.t 9) (.t 52)) <|
 .br (.o none (.ld 54 1 false (.t 3)) <|
 .o none (.ld 55 1 false (.t 5)) <|
 .o none (.bin 56 .sub false (.t 55) (.c (.int .i64 1))) <|
 .o none (.idx 57 1 (.t 54) (.t 56)) <|
 .o none (.ld 58 1 false (.t 57)) <|
 .o none (.conv 59 .u64 (.t 58)) <|
 .o none (.bin 60 .rem false (.t 53) (.t 59)) <|
 .o none (.st 1 (.t 10) (.t 60)) .nil) (.o none (.ld 55 1 false (.t 5)) <|
 .o none (.bin 56 .sub false (.t 55) (.c (.int .i64 1))) <|
 .o none (.ld 54 1 false (.t 3)) <|
 .o none (.idx 57 1 (.t 54) (.t 56)) <|
 .o none (.ld 58 1 false (.t 57)) <|
 .o none (.conv 59 .u64 (.t 58)) <|
 .o none (.bin 60 .rem false (.t 53) (.t 59)) <|
 .o none (.st 1 (.t 10) (.t 60)) .nil)))))) (.o none (.alloc 10 1 120 (.int .u64 0)) <|
 .br (.o none (.ld 54 1 false (.t 3)) <|
 .br (.o none (.ld 55 1 false (.t 5)) <|
 .o none (.bin 56 .sub false (.t 55) (.c (.int .i64 1))) <|
 .o none (.idx 57 1 (.t 54) (.t 56)) <|
 .br (.o none (.ld 58 1 false (.t 57)) <|
 .o none (.conv 59 .u64 (.t 58)) <|
 .o none (.bin 60 .rem false (.t 53) (.t 59)) <|
 .o none (.alloc 9 1 120 (.int .u64 0)) <|
 .o none (.st 1 (.t 9) (.t 52)) <|
 .o none (.st 1 (.t 10) (.t 60)) .nil) (.o none (.alloc 9 1 120 (.int .u64 0)) <|
 .br (.o none (.ld 58 1 false (.t 57)) <|
 .o none (.conv 59 .u64 (.t 58)) <|
 .o none (.bin 60 .rem false (.t 53) (.t 59)) <|
 .o none (.st 1 (.t 9) (.t 52)) <|
 .o none (.st 1 (.t 10) (.t 60)) .nil) (.o none (.st 1 (.t 9) (.t 52)) <|
 .o none (.ld 58 1 false (.t 57)) <|
 .o none (.conv 59 .u64 (.t 58)) <|
 .o none (.bin 60 .rem false (.t 53) (.t 59)) <|
 .o none (.st 1 (.t 10) (.t 60)) .nil))) (.o none (.alloc 9 1 120 (.int .u64 0)) <|
 .br (.o none (.ld 55 1 false (.t 5)) <|
 .o none (.bin 56 .sub false (.t 55) (.c (.int .i64 1))) <|
 .o none (.idx 57 1 (.t 54) (.t 56)) <|
 .br (.o none (.ld 58 1 false (.t 57)) <|
 .o none (.conv 59 .u64 (.t 58)) <|
 .o none (.bin 60 .rem false (.t 53) (.t 59)) <|
 .o none (.st 1 (.t 9) (.t 52)) <|
 .o none (.st 1 (.t 10) (.t 60)) .nil) (.o none (.st 1 (.t 9) (.t 52)) <|
 .o none (.ld 58 1 false (.t 57)) <|
 .o none (.conv 59 .u64 (.t 58)) <|
 .o none (.bin 60 .rem false (.t 53) (.t 59)) <|
 .o none (.st 1 (.t 10) (.t 60)) .nil)) (.o none (.st 1 (.t 9) (.t 52)) <|
 .o none (.ld 55 1 false (.t 5)) <|
 .o none (.bin 56 .sub false (.t 55) (.c (.int .i64 1))) <|
 .o none (.idx 57 1 (.t 54) (.t 56)) <|
 .o none (.ld 58 1 false (.t 57)) <|
 .o none (.conv 59 .u64 (.t 58)) <|
 .o none (.bin 60 .rem false (.t 53) (.t 59)) <|
 .o none (.st 1 (.t 10) (.t 60)) .nil))) (.br (.o none (.ld 55 1 false (.t 5)) <|
 .o none (.bin 56 .sub false (.t 55) (.c (.int .i64 1))) <|
 .br (.o none (.ld 54 1 false (.t 3)) <|
 .o none (.idx 57 1 (.t 54) (.t 56)) <|
 .br (.o none (.ld 58 1 false (.t 57)) <|
 .o none (.conv 59 .u64 (.t 58)) <|
 .o none (.bin 60 .rem false (.t 53) (.t 59)) <|
 .o none (.alloc 9 1 120 (.int .u64 0)) <|
 .o none (.st 1 (.t 9) (.t 52)) <|
 .o none (.st 1 (.t 10) (.t 60)) .nil) (.o none (.alloc 9 1 120 (.int .u64 0)) <|
 .br (.o none (.ld 58 1 false (.t 57)) <|
 .o none (.conv 59 .u64 (.t 58)) <|
 .o none (.bin 60 .rem false (.t 53) (.t 59)) <|
 .o none (.st 1 (.t 9) (.t 52)) <|
 .o none (.st 1 (.t 10) (.t 60)) .nil) (.o none (.st 1 (.t 9) (.t 52)) <|
 .o none (.ld 58 1 false (.t 57)) <|
 .o none (.conv 59 .u64 (.t 58)) <|
 .o none (.bin 60 .rem false (.t 53) (.t 59)) <|
 .o none (.st 1 (.t 10) (.t 60)) .nil))) (.o none (.alloc 9 1 120 (.int .u64 0)) <|
 .br (.o none (.ld 54 1 false (.t 3)) <|
 .o none (.idx 57 1 (.t 54) (.t 56)) <|
 .br (.o none (.ld 58 1 false (.t 57)) <|
 .o none (.conv 59 .u64 (.t 58)) <|
 .o none (.bin 60 .rem false (.t 53) (.t 59)) <|
 .o none (.st 1 (.t 9) (.t 52)) <|
 .o none (.st 1 (.t 10) (.t 60)) .nil) (.o none (.st 1 (.t 9) (.t 52)) <|
 .o none (.ld 58 1 false (.t 57)) <|
 .o none (.conv 59 .u64 (.t 58)) <|
 .o none (.bin 60 .rem false (.t 53) (.t 59)) <|
 .o none (.st 1 (.t 10) (.t 60)) .nil)) (.o none (.st 1 (.t 9) (.t 52)) <|
 .o none (.ld 54 1 false (.t 3)) <|
 .o none (.idx 57 1 (.t 54) (.t 56)) <|
 .o none (.ld 58 1 false (.t 57)) <|
 .o none (.conv 59 .u64 (.t 58)) <|
 .o none (.bin 60 .rem false (.t 53) (.t 59)) <|
 .o none (.st 1 (.t 10) (.t 60)) .nil))) (.o none (.alloc 9 1 120 (.int .u64 0)) <|
 .br (.o none (.ld 54 1 false (.t 3)) <|
 .br (.o none (.ld 55 1 false (.t 5)) <|
 .o none (.bin 56 .sub false (.t 55) (.c (.int .i64 1))) <|
 .o none (.idx 57 1 (.t 54) (.t 56)) <|
 .br (.o none (.ld 58 1 false (.t 57)) <|
 .o none (.conv 59 .u64 (.t 58)) <|
 .o none (.bin 60 .rem false (.t 53) (.t 59)) <|
 .o none (.st 1 (.t 9) (.t 52)) <|
 .o none (.st 1 (.t 10) (.t 60)) .nil) (.o none (.st 1 (.t 9) (.t 52)) <|
 .o none (.ld 58 1 false (.t 57)) <|
 .o none (.conv 59 .u64 (.t 58)) <|
 .o none (.bin 60 .rem false (.t 53) (.t 59)) <|
 .o none (.st 1 (.t 10) (.t 60)) .nil)) (.o none (.st 1 (.t 9) (.t 52)) <|
 .o none (.ld 55 1 false (.t 5)) <|
 .o none (.bin 56 .sub false (.t 55) (.c (.int .i64 1))) <|
 .o none (.idx 57 1 (.t 54) (.t 56)) <|
 .o none (.ld 58 1 false (.t 57)) <|
 .o none (.conv 59 .u64 (.t 58)) <|
 .o none (.bin 60 .rem false (.t 53) (.t 59)) <|
 .o none (.st 1 (.t 10) (.t 60)) .nil)) (.br (.o none (.ld 55 1 false (.t 5)) <|
 .o none (.bin 56 .sub false (.t 55) (.c (.int .i64 1))) <|
 .br (.o none (.ld 54 1 false (.t 3)) <|
 .o none (.idx 57 1 (.t 54) (.t 56)) <|
 .br (.o none (.ld 58 1 false (.t 57)) <|
 .o none (.conv 59 .u64 (.t 58)) <|
 .o none (.bin 60 .rem false (.t 53) (.t 59)) <|
 .o none (.st 1 (.t 9) (.t 52)) <|
 .o none (.st 1 (.t 10) (.t 60)) .nil) (.o none (.st 1 (.t 9) (.t 52)) <|
 .o none (.ld 58 1 false (.t 57)) <|
 .o none (.conv 59 .u64 (.t 58)) <|
 .o none (.bin 60 .rem false (.t 53) (.t 59)) <|
 .o none (.st 1 (.t 10) (.t 60)) .nil)) (.o none (.st 1 (.t 9) (.t 52)) <|
 .o none (.ld 54 1 false (.t 3)) <|
 .o none (.idx 57 1 (.t 54) (.t 56)) <|
 .o none (.ld 58 1 false (.t 57)) <|
 .o none (.conv 59 .u64 (.t 58)) <|
 .o none (.bin 60 .rem false (.t 53) (.t 59)) <|
 .o none (.st 1 (.t 10) (.t 60)) .nil)) (.o none (.st 1 (.t 9) (.t 52)) <|
 .br (.o none (.ld 54 1 false (.t 3)) <|
 .o none (.ld 55 1 false (.t 5)) <|
 .o none (.bin 56 .sub false (.t 55) (.c (.int .i64 1))) <|
 .o none (.idx 57 1 (.t 54) (.t 56)) <|
 .o none (.ld 58 1 false (.t 57)) <|
 .o none (.conv 59 .u64 (.t 58)) <|
 .o none (.bin 60 .rem false (.t 53) (.t 59)) <|
 .o none (.st 1 (.t 10) (.t 60)) .nil) (.o none (.ld 55 1 false (.t 5)) <|
 .o none (.bin 56 .sub false (.t 55) (.c (.int .i64 1))) <|
 .o none (.ld 54 1 false (.t 3)) <|
 .o none (.idx 57 1 (.t 54) (.t 56)) <|
 .o none (.ld 58 1 false (.t 57)) <|
 .o none (.conv 59 .u64 (.t 58)) <|
 .o none (.bin 60 .rem false (.t 53) (.t 59)) <|
 .o none (.st 1 (.t 10) (.t 60)) .nil)))))))))) <| .seq (.rg (.o none (.fn 61 221 [] [(.t 9), (.t 3), (.t 5), (.t 10), (.t 2), (.t 7)]) <|
 .o none (.mv 11 (.t 61)) .nil)) <| .seq (.block 2 (.loop (.seq (.seq (.rg (.o none (.ld 62 1 false (.t 10)) <|
 .o none (.bin 63 .lss false (.t 62) (.c (.int .u64 65536))) <|
 .o none (.mv 64 (.t 63)) <|
 .o (some (64, true)) (.mv 65 (.t 11)) <|
 .o (some (64, true)) (.call (some 66) false (.t 65) []) <|
 .o none (.pick 67 (.t 64) (.t 66) (.c (.bool false))) .nil)) <| .cond (.t 67) (.skip) (.exit 2)) <| .block 3 (.seq (.rg (.o none (.ld 68 1 false (.t 9)) <|
 .o none (.bin 69 .sub false (.t 68) (.c (.int .u64 1))) <|
 .o none (.st 1 (.t 9) (.t 69)) .nil)) <| .rg (.o none (.ld 70 1 false (.t 10)) <|
 .o none (.ld 71 1 false (.t 3)) <|
 .o none (.ld 72 1 false (.t 5)) <|
 .o none (.bin 73 .sub false (.t 72) (.c (.int .i64 1))) <|
 .o none (.idx 74 1 (.t 71) (.t 73)) <|
 .o none (.ld 75 1 false (.t 74)) <|
 .o none (.conv 76 .u64 (.t 75)) <|
 .o none (.bin 77 .add false (.t 70) (.t 76)) <|
 .o none (.st 1 (.t 10) (.t 77)) .nil))))) <| .seq (.seq (.rg (.o none (.ld 78 1 false (.t 2)) <|
 .o none (.ld 79 1 false (.t 7)) <|
 .o none (.ld 80 1 false (.t 7)) <|
 .o none (.ld 81 1 false (.t 5)) <|
 .o none (.bin 82 .add false (.t 80) (.t 81)) <|
 .o none (.bin 83 .add false (.t 82) (.c (.int .i64 1))) <|
 .o none (.sl 84 1 (.t 78) (some (.t 79)) (some (.t 83)) none) <|
 .o none (.ld 85 1 false (.t 3)) <|
 .o none (.ld 86 1 false (.t 9)) <|
 .o none (.conv 87 .u32 (.t 86)) <|
 .o none (.call (some 88) false (.c (.fn 222 [] [])) [(.t 84), (.t 85), (.t 87)]) .nil)) <| .cond (.t 88) (.seq (.rg (.o none (.ld 89 1 false (.t 9)) <|
 .o none (.bin 90 .sub false (.t 89) (.c (.int .u64 1))) <|
 .o none (.st 1 (.t 9) (.t 90)) .nil)) <| .rg (.o none (.ld 91 1 false (.t 2)) <|
 .o none (.ld 92 1 false (.t 7)) <|
 .o none (.ld 93 1 false (.t 7)) <|
 .o none (.ld 94 1 false (.t 5)) <|
 .o none (.bin 95 .add false (.t 93) (.t 94)) <|
 .o none (.bin 96 .add false (.t 95) (.c (.int .i64 1))) <|
 .o none (.sl 97 1 (.t 91) (some (.t 92)) (some (.t 96)) none) <|
 .o none (.ld 98 1 false (.t 3)) <|
 .o none (.call (some 99) false (.c (.fn 223 [] [])) [(.t 97), (.t 98)]) .nil)) (.skip)) <| .rg (.o none (.mv 100 (.t 6)) <|
 .o none (.ld 101 1 false (.t 7)) <|
 .o none (.ld 102 1 false (.t 9)) <|
 .o none (.conv 103 .u16 (.t 102)) <|
 .o none (.idx 104 1 (.t 100) (.t 101)) <|
 .o none (.st 1 (.t 104) (.t 103)) .nil))) <| .seq (.seq (.rg (.o none (.ld 105 1 false (.t 7)) .nil)) <| .rg (.o none (.alloc 7 1 3 (.int .i64 0)) <|
 .o none (.st 1 (.t 7) (.t 105)) .nil)) <| .rg (.o none (.ld 26 1 false (.t 7)) <|
 .o none (.bin 27 .sub false (.t 26) (.c (.int .i64 1))) <|
 .o none (.st 1 (.t 7) (.t 27)) .nil)))) <| .seq (.rg (.o none (.mv 106 (.t 6)) <|
 .o none (.call (some 107) false (.c (.fn 177 [] [])) [(.t 106)]) <|
 .o none (.mv 4 (.t 107)) .nil)) <| .ret⟩
theorem Q8f : Qf Tryz.prog Tryz.f200 = some Q4d := by kernel_rfl
end Go.Proofs.YtmnkngmmfnncoaaGreat
namespace Go.Proofs.YtmnkngmmfnncoaaGreat
open Go Go.FW
set_option linter.unusedSimpArgs false
set_option linter.unusedVariables false
set_option maxRecDepth 100000
theorem Qa2 {l : List Nat} (hv : Qh l) (hl : l.length < 2 ^ 42) : Qd Tryz.prog 177 [PV.nat l] (· = PV.num (val l)) := by
 refine Qi Qm Tryz.func177 rfl Qv8 (by simp [Qt0]) fun C hP => ?_; simp only [Qt0]
 simp +decide (disch := first | omega | rfl | (simp +decide only [go_sem, ↓reduceIte] <;> rfl) | fail) only [go_sem, ↓reduceIte]
 refine Qd8 (fun m fr hp => m <= l.length /\ cut l m = dig (val l) /\ fr 0 = PV.nat l /\ fr 3 = .int .i64 m /\ hp = hp0) l.length ?_ ?_
 ·exact ⟨Nat.le_refl _, Qkd hv, rfl, rfl, rfl⟩
 rintro n fr _ ⟨hn, hc, h0, h3, rfl⟩
 simp +decide (disch := first | omega | rfl | (simp +decide only [go_sem, ↓reduceIte, h0, h3] <;> rfl) | fail) only [go_sem, ↓reduceIte, h0, h3]
 refine Qb3 (fun hg => ?_) (fun hg => ?_)
 ·simp +decide (disch := first | omega | rfl | (simp +decide only [go_sem, ↓reduceIte, h0, h3, Qh9, Qka] <;> rfl) | fail) only [go_sem, ↓reduceIte, h0, h3, Qh9, Qka]
  obtain _ | n := n
  ·omega
  have e : ((n + 1 : Nat) : Int) - 1 = n := by omega
  simp only [cut] at hc
  refine Qb (fun hz => ?_) (fun hz => ?_)
  ·rw [if_pos (by grind)] at hc
   simp +decide (disch := first | omega | rfl | (simp +decide only [go_sem, ↓reduceIte, h0, h3, e] <;> rfl) | fail) only [go_sem, ↓reduceIte, h0, h3, e]
   refine Qbu (m := n) (by omega) ⟨by omega, hc, ?_⟩
   simp +decide (disch := first | omega | rfl | (simp +decide only [go_sem, ↓reduceIte, h0, true_and, and_true] <;> rfl) | fail) only [go_sem, ↓reduceIte, h0, true_and, and_true]
  ·simp +decide (disch := first | omega | rfl | (simp +decide only [go_sem, ↓reduceIte, h0, h3, Qhk] <;> rfl) | fail) only [go_sem, ↓reduceIte, h0, h3, Qhk]
   rw [if_neg (by grind)] at hc
   exact Qc (by simp [hc]) rfl
 ·obtain rfl : n = 0 := by omega
  simp +decide (disch := first | omega | rfl | (simp +decide only [go_sem, ↓reduceIte, h0, h3, Qhk] <;> rfl) | fail) only [go_sem, ↓reduceIte, h0, h3, Qhk]
  exact Qc (by simp [<- hc, cut]) rfl
theorem Qho {l : List Nat} (hv : Qh l) (hl : l.length < 2 ^ 42) : Qd Tryz.prog 173 [PV.nat l] (· = PV.num (val l)) := by
 have hd := Qai hv
 unfold nl at hd
 refine Qi Qm Tryz.func173 rfl Q7d (by simp [Q3b]) fun C hP => ?_; simp only [Q3b]
 simp +decide (disch := first | omega | rfl | (simp +decide only [go_sem, ↓reduceIte] <;> rfl) | fail) only [go_sem, ↓reduceIte]
 refine Qa hP (Qa2 hv hl) rfl rfl rfl ?_
 simp +decide (disch := first | omega | rfl | (simp +decide only [go_sem, ↓reduceIte] <;> rfl) | fail) only [go_sem, ↓reduceIte]
 refine Qb (fun hz => ?_) (fun hz => ?_)
 ·simp +decide (disch := first | omega | rfl | (simp +decide only [go_sem, ↓reduceIte] <;> rfl) | fail) only [go_sem, ↓reduceIte]
  have : dig (val l) = [] := List.length_eq_zero_iff.1 (by omega)
  exact Qgy (by rw [PV.num, this]; exact Qaaq) rfl
 ·simp +decide (disch := first | omega | rfl | (simp +decide only [go_sem, ↓reduceIte] <;> rfl) | fail) only [go_sem, ↓reduceIte]
  rw [Q6r rfl (by simp)]
  simp +decide (disch := first | omega | rfl | (simp +decide only [go_sem, ↓reduceIte] <;> rfl) | fail) only [go_sem, ↓reduceIte]
  exact Qm6 rfl (by simp [List.take_of_length_le])
theorem Qnh {n : Nat} (hn : n < 18446744073709551616) : Qd Tryz.prog 143 [.int .u64 n] (· = PV.num n) := by
 have hlen := Qdt hn
 unfold nl at hlen
 refine Qi Qm Tryz.func143 rfl Q7e (by simp [Q3c]) fun C hP => ?_; simp only [Q3c]
 simp +decide (disch := first | omega | rfl | (simp +decide only [go_sem, ↓reduceIte] <;> rfl) | fail) only [go_sem, ↓reduceIte]
 refine Qhl (fun m fr hp => ∃ done : List Nat, dig n = done ++ dig m /\ m <= n /\ fr 0 = .int .u64 m /\ fr 3 = .ms 12 done.length /\ hp 12 = some ⟨1, 156, done.map fun (x : Nat) => .int .u16 x, false⟩) n (Qyu 3 12 1 156 (by omega) ?_) ?_ ?_
 ·simp +decide (disch := first | omega | rfl | (simp +decide only [go_sem, ↓reduceIte] <;> rfl) | fail) only [go_sem, ↓reduceIte]
 ·refine ⟨[], ?_⟩
  simp +decide (disch := first | omega | rfl | (simp +decide only [go_sem, ↓reduceIte, List.nil_append, List.map_nil, List.length_nil, true_and, and_true, Nat.le_refl] <;> rfl) | fail) only [go_sem, ↓reduceIte, List.nil_append, List.map_nil, List.length_nil, true_and, and_true, Nat.le_refl]
 rintro m fr hp ⟨done, hd, hm, h0, h3, hh⟩
 rw [hd, List.length_append] at hlen
 simp +decide (disch := first | omega | rfl | (simp +decide only [go_sem, ↓reduceIte, h0] <;> rfl) | fail) only [go_sem, ↓reduceIte, h0]
 refine Qb (fun hz => ?_) (fun hz => ?_)
 ·have hne : m ≠ 0 := by omega
  have hd2 : dig n = (done ++ [m % 65536]) ++ dig (m / 65536) := by rw [hd, Qf3 hne]; simp
  simp +decide (disch := first | omega | rfl | (simp +decide only [go_sem, ↓reduceIte, h0, h3] <;> rfl) | fail) only [go_sem, ↓reduceIte, h0, h3]
  rw [Qog (xs := done.map fun (x : Nat) => .int .u16 x) (by simp +decide (disch := first | omega | rfl | (simp +decide only [go_sem, ↓reduceIte, hh] <;> rfl) | fail) only [go_sem, ↓reduceIte, hh]) rfl (by omega) (by simp) (by omega) (by omega)]
  simp +decide (disch := first | omega | rfl | (simp +decide only [go_sem, ↓reduceIte, h0, h3, Qis, Qmj] <;> rfl) | fail) only [go_sem, ↓reduceIte, h0, h3, Qis, Qmj]
  refine Qbu (m := m / 65536) (by omega) ⟨done ++ [m % 65536], hd2, by omega, ?_⟩
  simp +decide (disch := first | omega | rfl | (simp +decide only [go_sem, ↓reduceIte, h0, h3, hh] <;> rfl) | fail) only [go_sem, ↓reduceIte, h0, h3, hh]
  simp
 ·obtain rfl : m = 0 := by omega
  simp +decide (disch := first | omega | rfl | (simp +decide only [go_sem, ↓reduceIte, h3] <;> rfl) | fail) only [go_sem, ↓reduceIte, h3]
  exact Qm6 hh (by simp [PV.num, PV.nat, hd, Qax, List.take_of_length_le])
end Go.Proofs.YtmnkngmmfnncoaaGreat
namespace Go.Proofs.YtmnkngmmfnncoaaGreat
open Go Go.FW
set_option linter.unusedSimpArgs false
set_option linter.unusedVariables false
set_option maxRecDepth 100000
theorem Qlk {a b : List Nat} (ha : Qh a) (hb : Qh b) (hla : a.length < 2 ^ 40) (hlb : b.length < 2 ^ 40) : Qd Tryz.prog 196 [PV.nat a, PV.nat b] (· = .int .i64 (Qdg (val a) (val b))) := by
 have hda := Qai ha
 have hdb := Qai hb
 have hnl1 := @Qte (val a) (val b)
 have hnl2 := @Qte (val b) (val a)
 have hla' := Qj (val a)
 have hlb' := Qj (val b)
 have hva := Qy (val a)
 have hvb := Qy (val b)
 unfold nl at hda hdb hnl1 hnl2
 refine Qi Qm Tryz.func196 rfl Q7h (by simp [Q3f]) fun C hP => ?_; simp only [Q3f]
 simp +decide (disch := first | omega | rfl | (simp +decide only [go_sem, ↓reduceIte] <;> rfl) | fail) only [go_sem, ↓reduceIte]
 refine Qa hP (Qa2 ha (by omega)) rfl rfl rfl ?_
 simp +decide (disch := first | omega | rfl | (simp +decide only [go_sem, ↓reduceIte] <;> rfl) | fail) only [go_sem, ↓reduceIte]
 refine Qa hP (Qa2 hb (by omega)) rfl rfl rfl ?_
 simp +decide (disch := first | omega | rfl | (simp +decide only [go_sem, ↓reduceIte] <;> rfl) | fail) only [go_sem, ↓reduceIte]
 generalize val a = x at *
 generalize val b = y at *
 refine Qb (fun hz => ?_) (fun hz => ?_)
 ·simp +decide (disch := first | omega | rfl | (simp +decide only [go_sem, ↓reduceIte] <;> rfl) | fail) only [go_sem, ↓reduceIte]
  refine Qb (fun hz => ?_) (fun hz => ?_)
  ·simp +decide (disch := first | omega | rfl | (simp +decide only [go_sem, ↓reduceIte] <;> rfl) | fail) only [go_sem, ↓reduceIte]
   exact Qc (by rw [Qqk (hnl1 (by omega))]) rfl
  ·simp +decide (disch := first | omega | rfl | (simp +decide only [go_sem, ↓reduceIte] <;> rfl) | fail) only [go_sem, ↓reduceIte]
   exact Qc (by rw [Qql (hnl2 (by omega))]) rfl
 simp +decide (disch := first | omega | rfl | (simp +decide only [go_sem, ↓reduceIte] <;> rfl) | fail) only [go_sem, ↓reduceIte]
 refine Qd8 (fun m fr hp => m <= (dig x).length /\ val ((dig x).drop m) = val ((dig y).drop m) /\ fr 0 = PV.num x /\ fr 1 = PV.num y /\ fr 5 = .int .i64 ((m : Int) - 1) /\ hp = hp0) (dig x).length ?_ ?_
 ·refine ⟨Nat.le_refl _, ?_, ?_⟩
  ·rw [List.drop_of_length_le (Nat.le_refl _), List.drop_of_length_le (by omega)]
  ·simp +decide (disch := first | omega | rfl | (simp +decide only [go_sem, ↓reduceIte, true_and, and_true] <;> rfl) | fail) only [go_sem, ↓reduceIte, true_and, and_true]
 rintro m fr _ ⟨hm, hd, h0, h1, h5, rfl⟩
 simp +decide (disch := first | omega | rfl | (simp +decide only [go_sem, ↓reduceIte, h0, h1, h5] <;> rfl) | fail) only [go_sem, ↓reduceIte, h0, h1, h5]
 refine Qb (fun hg => ?_) (fun hg => ?_)
 ·obtain _ | m := m
  ·omega
  have e : ((m + 1 : Nat) : Int) - 1 = m := by omega
  have hm1 : m < (dig x).length := by omega
  have hm2 : m < (dig y).length := by omega
  simp +decide (disch := first | omega | rfl | (simp +decide only [go_sem, ↓reduceIte, h0, h1, h5, e] <;> rfl) | fail) only [go_sem, ↓reduceIte, h0, h1, h5, e]
  refine Qb (fun hq => ?_) (fun hq => ?_)
  ·simp +decide (disch := first | omega | rfl | (simp +decide only [go_sem, ↓reduceIte] <;> rfl) | fail) only [go_sem, ↓reduceIte]
   exact Qc (by rw [Qqk]; have := Qrc hla' hm1 hm2 (by omega) hd; omega) rfl
  simp +decide (disch := first | omega | rfl | (simp +decide only [go_sem, ↓reduceIte, h0, h1, h5, e] <;> rfl) | fail) only [go_sem, ↓reduceIte, h0, h1, h5, e]
  refine Qb (fun hq2 => ?_) (fun hq2 => ?_)
  ·simp +decide (disch := first | omega | rfl | (simp +decide only [go_sem, ↓reduceIte] <;> rfl) | fail) only [go_sem, ↓reduceIte]
   exact Qc (by rw [Qql]; have := Qrc hlb' hm2 hm1 (by omega) hd.symm; omega) rfl
  simp +decide (disch := first | omega | rfl | (simp +decide only [go_sem, ↓reduceIte, h0, h1, h5, e] <;> rfl) | fail) only [go_sem, ↓reduceIte, h0, h1, h5, e]
  refine Qbu (m := m) (by omega) ⟨by omega, ?_, ?_⟩
  ·rw [Qcf hm1, Qcf hm2, hd]; omega
  ·simp +decide (disch := first | omega | rfl | (simp +decide only [go_sem, ↓reduceIte, h0, h1, true_and, and_true] <;> rfl) | fail) only [go_sem, ↓reduceIte, h0, h1, true_and, and_true]
 ·obtain rfl : m = 0 := by omega
  simp +decide (disch := first | omega | rfl | (simp +decide only [go_sem, ↓reduceIte] <;> rfl) | fail) only [go_sem, ↓reduceIte]
  refine Qc ?_ rfl
  rw [Qvy]
  simp at hd; omega
end Go.Proofs.YtmnkngmmfnncoaaGreat
namespace Go.Proofs.YtmnkngmmfnncoaaGreat
open Go Go.FW
set_option linter.unusedSimpArgs false
set_option linter.unusedVariables false
set_option maxRecDepth 100000
theorem Q4e {a b : List Nat} (ha : Qh a) (hb : Qh b) (hla : a.length < 2 ^ 40) (hlb : b.length < 2 ^ 40) : Qd Tryz.prog 213 [PV.nat a, PV.nat b] (· = PV.num (val a + val b)) := by
 have hda := Qai ha
 have hdb := Qai hb
 unfold nl at hda hdb
 refine Qi Qm Tryz.func213 rfl Q7i (by simp [Q3g]) fun C hP => ?_; simp only [Q3g]
 simp +decide (disch := first | omega | rfl | (simp +decide only [go_sem, ↓reduceIte] <;> rfl) | fail) only [go_sem, ↓reduceIte]
 refine Qa hP (Qa2 ha (by omega)) rfl rfl rfl ?_
 simp +decide (disch := first | omega | rfl | (simp +decide only [go_sem, ↓reduceIte] <;> rfl) | fail) only [go_sem, ↓reduceIte]
 refine Qa hP (Qa2 hb (by omega)) rfl rfl rfl ?_
 simp +decide (disch := first | omega | rfl | (simp +decide only [go_sem, ↓reduceIte] <;> rfl) | fail) only [go_sem, ↓reduceIte]
 generalize val a = x0 at *
 generalize val b = y0 at *
 refine Qf4 (fun fr hp => ∃ x y, x + y = x0 + y0 /\ (dig x).length < 2 ^ 40 /\ (dig y).length <= (dig x).length /\ fr 0 = PV.num x /\ fr 1 = PV.num y /\ hp = hp0) ?_ ?_
 ·refine Qb (fun hz => ?_) (fun hz => ?_)
  ·simp +decide (disch := first | omega | rfl | (simp +decide only [go_sem, ↓reduceIte] <;> rfl) | fail) only [go_sem, ↓reduceIte]
   refine ⟨y0, x0, by omega, by omega, by omega, ?_⟩
   simp +decide (disch := first | omega | rfl | (simp +decide only [go_sem, ↓reduceIte, true_and, and_true] <;> rfl) | fail) only [go_sem, ↓reduceIte, true_and, and_true]
  ·simp +decide (disch := first | omega | rfl | (simp +decide only [go_sem, ↓reduceIte] <;> rfl) | fail) only [go_sem, ↓reduceIte]
   refine ⟨x0, y0, by omega, by omega, by omega, ?_⟩
   simp +decide (disch := first | omega | rfl | (simp +decide only [go_sem, ↓reduceIte, true_and, and_true] <;> rfl) | fail) only [go_sem, ↓reduceIte, true_and, and_true]
 rintro fr _ ⟨x, y, hsum, hx, hy, h0, h1, rfl⟩
 rw [<- hsum]
 clear hsum hda hdb
 have hxl := Qj x
 have hyl := Qj y
 simp +decide (disch := first | omega | rfl | (simp +decide only [go_sem, ↓reduceIte, h0, h1] <;> rfl) | fail) only [go_sem, ↓reduceIte, h0, h1]
 refine Qd8 (fun m fr hp => ∃ i c done, m = (dig x).length - i /\ i <= (dig x).length /\ c <= 1 /\ done.length = i /\ done ++ Qef ((dig x).drop i) ((dig y).drop i) c = dig (x + y) /\
  fr 1 = PV.num y /\ fr 5 = .ms 25 (dig x).length /\ fr 6 = .int .u32 c /\ fr 26 = PV.num x /\ fr 27 = .int .i64 (dig x).length /\ fr 28 = .int .i64 i /\ hp = Qk hp0 25 ⟨1, 156, Qay (done ++ List.replicate ((dig x).length - i) 0), false⟩) (dig x).length ?_ ?_
 ·refine ⟨0, 0, [], rfl, by omega, by omega, rfl, by simpa using Q2j hy, ?_⟩
  simp +decide (disch := first | omega | rfl | (simp +decide only [go_sem, ↓reduceIte, h0, h1, true_and, and_true, Nat.sub_zero, List.nil_append] <;> rfl) | fail) only [go_sem, ↓reduceIte, h0, h1, true_and, and_true, Nat.sub_zero, List.nil_append]
  simp
 rintro _ fr _ ⟨i, c, done, rfl, hi, hc, hdl, hd, h1, h5, h6, h26, h27, h28, rfl⟩
 simp +decide (disch := first | omega | rfl | (simp +decide only [go_sem, ↓reduceIte, h26, h27, h28] <;> rfl) | fail) only [go_sem, ↓reduceIte, h26, h27, h28]
 refine Qb (fun hg => ?_) (fun hg => ?_)
 ·have hi' : i < (dig x).length := by omega
  have hxi := Qag hxl hi'
  rw [Qy8 hi'] at hd
  have hlen := Qoi (n := (dig x).length - i) hdl (by omega : _ = (dig x).length)
  simp +decide (disch := first | omega | rfl | (simp +decide only [go_sem, ↓reduceIte, h1, h5, h6, h26, h27, h28] <;> rfl) | fail) only [go_sem, ↓reduceIte, h1, h5, h6, h26, h27, h28]
  refine Qb (fun hq => ?_) (fun hq => ?_)
  ·have hq' : i < (dig y).length := by omega
   have hyi := Qag hyl hq'
   rw [Qa9 hq'] at hd
   simp +decide (disch := first | omega | rfl | (simp +decide only [go_sem, ↓reduceIte, h1, h5, h6, h26, h27, h28] <;> rfl) | fail) only [go_sem, ↓reduceIte, h1, h5, h6, h26, h27, h28]
   refine Qbu (m := (dig x).length - (i + 1)) (by omega) ⟨i + 1, _, _, rfl, by omega, ?_, ?_, (List.append_cons ..).symm.trans hd, ?_⟩
   ·omega
   ·simp [hdl]
   ·simp +decide (disch := first | omega | rfl | (simp +decide only [go_sem, ↓reduceIte, h1, h5, h6, h26, h27, h28, true_and, and_true, Qd9, Nat.sub_sub] <;> rfl) | fail) only [go_sem, ↓reduceIte, h1, h5, h6, h26, h27, h28, true_and, and_true, Qd9, Nat.sub_sub]
  ·rw [Qba (by omega)] at hd
   simp +decide (disch := first | omega | rfl | (simp +decide only [go_sem, ↓reduceIte, h1, h5, h6, h26, h27, h28] <;> rfl) | fail) only [go_sem, ↓reduceIte, h1, h5, h6, h26, h27, h28]
   refine Qbu (m := (dig x).length - (i + 1)) (by omega) ⟨i + 1, _, _, rfl, by omega, ?_, ?_, (List.append_cons ..).symm.trans hd, ?_⟩
   ·omega
   ·simp [hdl]
   ·simp +decide (disch := first | omega | rfl | (simp +decide only [go_sem, ↓reduceIte, h1, h5, h6, h26, h27, h28, true_and, and_true, Qd9, Nat.sub_sub, Nat.add_zero] <;> rfl) | fail) only [go_sem, ↓reduceIte, h1, h5, h6, h26, h27, h28, true_and, and_true, Qd9, Nat.sub_sub, Nat.add_zero]
 ·obtain rfl : i = (dig x).length := by omega
  rw [List.drop_of_length_le (Nat.le_refl _), List.drop_of_length_le hy] at hd
  simp +decide (disch := first | omega | rfl | (simp +decide only [go_sem, ↓reduceIte, h5, h6, Nat.sub_self, List.replicate_zero, List.append_nil] <;> rfl) | fail) only [go_sem, ↓reduceIte, h5, h6, Nat.sub_self, List.replicate_zero, List.append_nil]
  refine Qb (fun hq => ?_) (fun hq => ?_)
  ·simp +decide (disch := first | omega | rfl | (simp +decide only [go_sem, ↓reduceIte, h5, h6] <;> rfl) | fail) only [go_sem, ↓reduceIte, h5, h6]
   rw [Qog (xs := Qay done) (by simp +decide (disch := first | omega | rfl | (simp +decide only [go_sem, ↓reduceIte] <;> rfl) | fail) only [go_sem, ↓reduceIte]) rfl (by omega) (by simp [hdl]) (by omega) (by omega)]
   simp +decide (disch := first | omega | rfl | (simp +decide only [go_sem, ↓reduceIte, h5] <;> rfl) | fail) only [go_sem, ↓reduceIte, h5]
   refine Qm6 rfl ?_
   rw [Qef, if_neg (by omega)] at hd
   rw [PV.num, <- hd]
   simp [Qay, hdl, List.take_of_length_le]
   omega
  ·simp +decide (disch := first | omega | rfl | (simp +decide only [go_sem, ↓reduceIte, h5] <;> rfl) | fail) only [go_sem, ↓reduceIte, h5]
   refine Qm6 rfl ?_
   rw [Qef, if_pos (by omega)] at hd
   rw [PV.num, <- hd]
   simp [Qay, hdl, List.take_of_length_le]
end Go.Proofs.YtmnkngmmfnncoaaGreat
namespace Go.Proofs.YtmnkngmmfnncoaaGreat
open Go Go.FW
set_option linter.unusedSimpArgs false
set_option linter.unusedVariables false
set_option maxRecDepth 100000
theorem Qt1 {a b : List Nat} (ha : Qh a) (hb : Qh b) (hla : a.length < 2 ^ 40) (hlb : b.length < 2 ^ 40) (hle : val b <= val a) : Qd Tryz.prog 214 [PV.nat a, PV.nat b] (· = .tup [PV.num (val a - val b), .int .i64 0]) := by
 have hda := Qai ha
 have hdb := Qai hb
 have hnl := Qbs hle
 unfold nl at hda hdb hnl
 refine Qi Qm Tryz.func214 rfl Q7j (by simp [Q3h]) fun C hP => ?_; simp only [Q3h]
 simp +decide (disch := first | omega | rfl | (simp +decide only [go_sem, ↓reduceIte] <;> rfl) | fail) only [go_sem, ↓reduceIte]
 refine Qa hP (Qlk ha hb hla hlb) rfl rfl rfl ?_
 have hcmp : ¬ Qdg (val a) (val b) < 0 := by unfold Qdg; split <;> (try split) <;> omega
 simp +decide (disch := first | omega | rfl | (simp +decide only [go_sem, ↓reduceIte] <;> rfl) | fail) only [go_sem, ↓reduceIte]
 refine Qb (fun hz => absurd hz hcmp) (fun hz => ?_)
 simp +decide (disch := first | omega | rfl | (simp +decide only [go_sem, ↓reduceIte] <;> rfl) | fail) only [go_sem, ↓reduceIte]
 refine Qa hP (Qa2 ha (by omega)) rfl rfl rfl ?_
 simp +decide (disch := first | omega | rfl | (simp +decide only [go_sem, ↓reduceIte] <;> rfl) | fail) only [go_sem, ↓reduceIte]
 refine Qa hP (Qa2 hb (by omega)) rfl rfl rfl ?_
 simp +decide (disch := first | omega | rfl | (simp +decide only [go_sem, ↓reduceIte] <;> rfl) | fail) only [go_sem, ↓reduceIte]
 generalize val a = x at *
 generalize val b = y at *
 have hxl := Qj x
 have hyl := Qj y
 have Qda := Qtg (dig x) (dig y) 0 (by omega) hxl hyl hnl (by rw [Qy, Qy]; exact hle)
 rw [Qy, Qy, Nat.add_zero] at Qda
 have hvl := Qpc (dig x) (dig y) 0
 have hln := Qnr (dig x) (dig y) 0
 refine Qd8 (fun m fr hp => ∃ i c done, m = (dig x).length - i /\ i <= (dig x).length /\ c <= 1 /\ done.length = i /\ done ++ Qfy ((dig x).drop i) ((dig y).drop i) c = Qfy (dig x) (dig y) 0 /\
  fr 1 = PV.num y /\ fr 6 = .ms 21 (dig x).length /\ fr 7 = .int .i32 (c : Nat) /\ fr 22 = PV.num x /\ fr 23 = .int .i64 (dig x).length /\ fr 24 = .int .i64 i /\ hp = Qk hp0 21 ⟨1, 156, Qay (done ++ List.replicate ((dig x).length - i) 0), false⟩) (dig x).length ?_ ?_
 ·refine ⟨0, 0, [], rfl, by omega, by omega, rfl, rfl, ?_⟩
  simp +decide (disch := first | omega | rfl | (simp +decide only [go_sem, ↓reduceIte, true_and, and_true, Nat.sub_zero, List.nil_append] <;> rfl) | fail) only [go_sem, ↓reduceIte, true_and, and_true, Nat.sub_zero, List.nil_append]
  simp
 rintro _ fr _ ⟨i, c, done, rfl, hi, hc, hdl, hd, h1, h6, h7, h22, h23, h24, rfl⟩
 simp +decide (disch := first | omega | rfl | (simp +decide only [go_sem, ↓reduceIte, h22, h23, h24] <;> rfl) | fail) only [go_sem, ↓reduceIte, h22, h23, h24]
 refine Qb (fun hg => ?_) (fun hg => ?_)
 ·have hi' : i < (dig x).length := by omega
  have hxi := Qag hxl hi'
  rw [Qy9 hi'] at hd
  have hlen := Qoi (n := (dig x).length - i) hdl (by omega : _ = (dig x).length)
  simp +decide (disch := first | omega | rfl | (simp +decide only [go_sem, ↓reduceIte, h1, h6, h7, h22, h23, h24] <;> rfl) | fail) only [go_sem, ↓reduceIte, h1, h6, h7, h22, h23, h24]
  refine Qf4 (fun fr hp => fr 1 = PV.num y /\ fr 6 = .ms 21 (dig x).length /\ fr 8 = .int .i64 i /\ fr 10 = .int .i32 ((dig x)[i] - (c : Int) - ((dig y).getD i 0 : Nat)) /\ (dig y).getD i 0 < 65536 /\ fr 22 = PV.num x /\ fr 23 = .int .i64 (dig x).length /\ fr 24 = .int .i64 i /\ hp = Qk hp0 21 ⟨1, 156, Qay (done ++ List.replicate ((dig x).length - i) 0), false⟩) ?_ ?_
  ·refine Qb (fun hq => ?_) (fun hq => ?_)
   ·have hq' : i < (dig y).length := by omega
    have hyi := Qag hyl hq'
    simp +decide (disch := first | omega | rfl | (simp +decide only [go_sem, ↓reduceIte, h1, h6, h7, h22, h23, h24, Qa9 hq', true_and, and_true] <;> rfl) | fail) only [go_sem, ↓reduceIte, h1, h6, h7, h22, h23, h24, Qa9 hq', true_and, and_true]
    exact hyi
   ·simp +decide (disch := first | omega | rfl | (simp +decide only [go_sem, ↓reduceIte, h1, h6, h7, h22, h23, h24, true_and, and_true, Qba (by omega : ¬ i < (dig y).length)] <;> rfl) | fail) only [go_sem, ↓reduceIte, h1, h6, h7, h22, h23, h24, true_and, and_true, Qba (by omega : ¬ i < (dig y).length)]
    simp
  clear h1 h6 h22 h23 h24
  rintro fr _ ⟨h1, h6, h8, h10, hyi, h22, h23, h24, rfl⟩
  generalize hw : (dig y).getD i 0 = yi at *
  simp +decide (disch := first | omega | rfl | (simp +decide only [go_sem, ↓reduceIte, h10] <;> rfl) | fail) only [go_sem, ↓reduceIte, h10]
  refine Qf4 (fun fr hp => fr 1 = PV.num y /\ fr 6 = .ms 21 (dig x).length /\ fr 8 = .int .i64 i /\ fr 10 = .int .i32 (((dig x)[i] + 65536 - c - yi) % 65536 : Nat) /\ fr 7 = .int .i32 ((if (dig x)[i] < c + yi then 1 else 0) : Nat) /\ fr 22 = PV.num x /\ fr 23 = .int .i64 (dig x).length /\ fr 24 = .int .i64 i /\ hp = Qk hp0 21 ⟨1, 156, Qay (done ++ List.replicate ((dig x).length - i) 0), false⟩) ?_ ?_
  ·refine Qb (fun hq => ?_) (fun hq => ?_)
   ·rw [if_pos (by omega)]
    simp +decide (disch := first | omega | rfl | (simp +decide only [go_sem, ↓reduceIte, h1, h6, h8, h10, h22, h23, h24, true_and, and_true] <;> rfl) | fail) only [go_sem, ↓reduceIte, h1, h6, h8, h10, h22, h23, h24, true_and, and_true]
    simp; omega
   ·rw [if_neg (by omega)]
    simp +decide (disch := first | omega | rfl | (simp +decide only [go_sem, ↓reduceIte, h1, h6, h8, h10, h22, h23, h24, true_and, and_true] <;> rfl) | fail) only [go_sem, ↓reduceIte, h1, h6, h8, h10, h22, h23, h24, true_and, and_true]
    simp; omega
  clear h1 h6 h8 h10 h22 h23 h24
  rintro fr _ ⟨h1, h6, h8, h10, h7, h22, h23, h24, rfl⟩
  simp +decide (disch := first | omega | rfl | (simp +decide only [go_sem, ↓reduceIte, h1, h6, h7, h8, h10, h22, h23, h24] <;> rfl) | fail) only [go_sem, ↓reduceIte, h1, h6, h7, h8, h10, h22, h23, h24]
  refine Qbu (m := (dig x).length - (i + 1)) (by omega) ⟨i + 1, _, _, rfl, by omega, ?_, ?_, (List.append_cons ..).symm.trans hd, ?_⟩
  ·split <;> omega
  ·simp [hdl]
  ·simp +decide (disch := first | omega | rfl | (simp +decide only [go_sem, ↓reduceIte, h1, h6, h7, h8, h10, h22, h23, h24, true_and, and_true, Qd9, Nat.sub_sub, Nat.mod_mod] <;> rfl) | fail) only [go_sem, ↓reduceIte, h1, h6, h7, h8, h10, h22, h23, h24, true_and, and_true, Qd9, Nat.sub_sub, Nat.mod_mod]
 ·obtain rfl : i = (dig x).length := by omega
  rw [List.drop_of_length_le (Nat.le_refl _), Qfy, List.append_nil] at hd
  simp +decide (disch := first | omega | rfl | (simp +decide only [go_sem, ↓reduceIte, h6, Nat.sub_self, List.replicate_zero, List.append_nil] <;> rfl) | fail) only [go_sem, ↓reduceIte, h6, Nat.sub_self, List.replicate_zero, List.append_nil]
  rw [hd]
  refine Qfa hP (Qa2 hvl (by omega)) (Qiu rfl hln.symm) rfl fun hp' => ?_
  simp +decide (disch := first | omega | rfl | (simp +decide only [go_sem, ↓reduceIte] <;> rfl) | fail) only [go_sem, ↓reduceIte]
  exact Qcc rfl rfl rfl (Qfz (by rw [show val (Qfy (dig x) (dig y) 0) = x - y by omega])) (Qv _)
end Go.Proofs.YtmnkngmmfnncoaaGreat
namespace Go.Proofs.YtmnkngmmfnncoaaGreat
open Go Go.FW
set_option linter.unusedSimpArgs false
set_option linter.unusedVariables false
set_option maxRecDepth 100000
theorem Qll {a b : List Nat} (ha : Qh a) (hb : Qh b) (hla : a.length < 2 ^ 40) (hlb : b.length < 2 ^ 40) : Qd Tryz.prog 114 [PV.nat a, PV.nat b] (· = PV.num (val a * val b)) := by
 have hda := Qai ha
 have hdb := Qai hb
 unfold nl at hda hdb
 refine Qi Qm Tryz.func114 rfl Q7k (by simp [Q3i]) fun C hP => ?_; simp only [Q3i]
 simp +decide (disch := first | omega | rfl | (simp +decide only [go_sem, ↓reduceIte] <;> rfl) | fail) only [go_sem, ↓reduceIte]
 refine Qa hP (Qa2 ha (by omega)) rfl rfl rfl ?_
 simp +decide (disch := first | omega | rfl | (simp +decide only [go_sem, ↓reduceIte] <;> rfl) | fail) only [go_sem, ↓reduceIte]
 refine Qa hP (Qa2 hb (by omega)) rfl rfl rfl ?_
 simp +decide (disch := first | omega | rfl | (simp +decide only [go_sem, ↓reduceIte] <;> rfl) | fail) only [go_sem, ↓reduceIte]
 generalize val a = x at *
 generalize val b = y at *
 have hxl := Qj x
 have hyl := Qj y
 refine Qa3 (fun hz => ?_) (fun hz => ?_)
 ·simp +decide (disch := first | omega | rfl | (simp +decide only [go_sem, ↓reduceIte] <;> rfl) | fail) only [go_sem, ↓reduceIte]
  have := Qcr (by omega : (dig x).length = 0)
  rw [Qbe] at this
  exact Qgy (Qke (by simp [this])) rfl
 simp +decide (disch := first | omega | rfl | (simp +decide only [go_sem, ↓reduceIte] <;> rfl) | fail) only [go_sem, ↓reduceIte]
 refine Qb (fun hz2 => ?_) (fun hz2 => ?_)
 ·simp +decide (disch := first | omega | rfl | (simp +decide only [go_sem, ↓reduceIte] <;> rfl) | fail) only [go_sem, ↓reduceIte]
  have := Qcr (by omega : (dig y).length = 0)
  rw [Qbe] at this
  exact Qgy (Qke (by simp [this])) rfl
 simp +decide (disch := first | omega | rfl | (simp +decide only [go_sem, ↓reduceIte] <;> rfl) | fail) only [go_sem, ↓reduceIte]
 refine Qd8 (fun m fr hp => ∃ i lo, m = (dig x).length - i /\ i <= (dig x).length /\ Qh lo /\ lo.length = i + (dig y).length /\ val lo = val ((dig x).take i) * val (dig y) /\
  fr 1 = PV.num y /\ fr 5 = .ms 28 ((dig x).length + (dig y).length) /\ fr 29 = PV.num x /\ fr 30 = .int .i64 (dig x).length /\ fr 31 = .int .i64 i /\ hp = Qk hp0 28 ⟨1, 156, Qay (lo ++ List.replicate ((dig x).length - i) 0), false⟩) (dig x).length ?_ ?_
 ·refine ⟨0, List.replicate (dig y).length 0, rfl, by omega, ?_, by simp, by simp [Qrb, val], ?_⟩
  ·intro z hz; rw [List.eq_of_mem_replicate hz]; omega
  ·simp +decide (disch := first | omega | rfl | (simp +decide only [go_sem, ↓reduceIte, true_and, and_true, Nat.sub_zero] <;> rfl) | fail) only [go_sem, ↓reduceIte, true_and, and_true, Nat.sub_zero]
   simp [Nat.add_comm]
 rintro _ fr _ ⟨i, lo, rfl, hi, hlo, hlol, hv, h1, h5, h29, h30, h31, rfl⟩
 simp +decide (disch := first | omega | rfl | (simp +decide only [go_sem, ↓reduceIte, h29, h30, h31] <;> rfl) | fail) only [go_sem, ↓reduceIte, h29, h30, h31]
 refine Qb (fun hg => ?_) (fun hg => ?_)
 ·have hi' : i < (dig x).length := by omega
  have hxi := Qag hxl hi'
  have hstep := Q2k hi' hlol hv
  have hlims : Qh (lo.take i ++ Qey (lo.drop i) (dig y) (dig x)[i] 0) := Qbk.2 ⟨Qfi hlo i, Qpe _ _ _ _ (by omega) hxi (Qge hlo i) hyl⟩
  have hlenr : (lo.take i ++ Qey (lo.drop i) (dig y) (dig x)[i] 0).length = i + (dig y).length + 1 := by
   rw [List.length_append, Qns _ _ _ _ (by simp [hlol])]; simp; omega
  generalize hxx : (dig x)[i] = xi at *
  simp +decide (disch := first | omega | rfl | (simp +decide only [go_sem, ↓reduceIte, h1, h5, h29, h30, h31, hxx] <;> rfl) | fail) only [go_sem, ↓reduceIte, h1, h5, h29, h30, h31, hxx]
  refine Qd8 (fun m fr hp => ∃ k c p rs, m = (dig y).length - k /\ k <= (dig y).length /\ c < 65536 /\ Qh rs /\ p.length = i + k /\ rs.length = (dig y).length - k /\ p ++ Qey rs ((dig y).drop k) xi c = lo.take i ++ Qey (lo.drop i) (dig y) xi 0 /\
   fr 1 = PV.num y /\ fr 5 = .ms 28 ((dig x).length + (dig y).length) /\ fr 6 = .int .i64 i /\ fr 7 = .int .u16 xi /\ fr 8 = .int .u32 c /\ fr 29 = PV.num x /\ fr 30 = .int .i64 (dig x).length /\ fr 31 = .int .i64 i /\ fr 36 = PV.num y /\ fr 37 = .int .i64 (dig y).length /\ fr 38 = .int .i64 k /\
   hp = Qk hp0 28 ⟨1, 156, Qay (p ++ (rs ++ List.replicate ((dig x).length - i) 0)), false⟩) (dig y).length ?_ ?_
  ·refine ⟨0, 0, lo.take i, lo.drop i, rfl, by omega, by omega, Qge hlo i, by simp; omega, by simp; omega, rfl, ?_⟩
   simp +decide (disch := first | omega | rfl | (simp +decide only [go_sem, ↓reduceIte, h1, h5, h29, h30, h31, true_and, and_true] <;> rfl) | fail) only [go_sem, ↓reduceIte, h1, h5, h29, h30, h31, true_and, and_true]
   rw [<- List.append_assoc, List.take_append_drop]
   simp
  clear h1 h5 h29 h30 h31
  rintro _ fr _ ⟨k, c, p, rs, rfl, hk, hc, hrs, hpl, hrl, hinv, h1, h5, h6, h7, h8, h29, h30, h31, h36, h37, h38, rfl⟩
  simp +decide (disch := first | omega | rfl | (simp +decide only [go_sem, ↓reduceIte, h36, h37, h38] <;> rfl) | fail) only [go_sem, ↓reduceIte, h36, h37, h38]
  refine Qb (fun hq => ?_) (fun hq => ?_)
  ·have hk' : k < (dig y).length := by omega
   have hyk := Qag hyl hk'
   rw [List.drop_eq_getElem_cons hk'] at hinv
   generalize hyy : (dig y)[k] = yk at *
   obtain _ | ⟨r, rs⟩ := rs
   ·simp at hrl; omega
   rw [Qar] at hrs
   have hr0 := hrs.1
   have hxy := Qek hxi hyk
   rw [Qey] at hinv
   have hlt : i + k < (p ++ r :: (rs ++ List.replicate ((dig x).length - i) 0)).length := by simp; omega
   have hget := Qm8 hpl hlt
   simp +decide (disch := first | omega | rfl | (simp +decide only [go_sem, ↓reduceIte, h1, h5, h6, h7, h8, h36, h37, h38, hyy, List.cons_append, hget] <;> rfl) | fail) only [go_sem, ↓reduceIte, h1, h5, h6, h7, h8, h36, h37, h38, hyy, List.cons_append, hget]
   refine Qbu (m := (dig y).length - (k + 1)) (by omega) ⟨k + 1, _, _, _, rfl, by omega, ?_, hrs.2, ?_, ?_, (List.append_cons ..).symm.trans hinv, ?_⟩
   ·omega
   ·simp [hpl]; omega
   ·simp at hrl; omega
   ·simp +decide (disch := first | omega | rfl | (simp +decide only [go_sem, ↓reduceIte, h1, h5, h6, h7, h8, h29, h30, h31, h36, h37, h38, true_and, and_true, Qbv] <;> rfl) | fail) only [go_sem, ↓reduceIte, h1, h5, h6, h7, h8, h29, h30, h31, h36, h37, h38, true_and, and_true, Qbv]
    simp
  ·obtain rfl : k = (dig y).length := by omega
   obtain rfl : rs = [] := List.length_eq_zero_iff.1 (by omega)
   rw [List.drop_of_length_le (Nat.le_refl _), Qey] at hinv
   rotate_left
   ·intros; simp_all
   obtain ⟨z, hz⟩ : ∃ z, (dig x).length - i = z + 1 := ⟨(dig x).length - i - 1, by omega⟩
   have hlt : i + (dig y).length < (p ++ 0 :: (List.replicate z 0)).length := by simp; omega
   simp +decide (disch := first | omega | rfl | (simp +decide only [go_sem, ↓reduceIte, h1, h5, h6, h8, h29, h30, h31, List.nil_append, hz, List.replicate_succ] <;> rfl) | fail) only [go_sem, ↓reduceIte, h1, h5, h6, h8, h29, h30, h31, List.nil_append, hz, List.replicate_succ]
   refine Qbu (m := (dig x).length - (i + 1)) (by omega) ⟨i + 1, lo.take i ++ Qey (lo.drop i) (dig y) xi 0, rfl, by omega, hlims, by omega, ?_, ?_⟩
   ·rw [hstep]
   ·simp +decide (disch := first | omega | rfl | (simp +decide only [go_sem, ↓reduceIte, h1, h5, h29, h30, h31, true_and, and_true, Qbv] <;> rfl) | fail) only [go_sem, ↓reduceIte, h1, h5, h29, h30, h31, true_and, and_true, Qbv]
    rw [<- hinv, show (dig x).length - (i + 1) = z by omega, Nat.mod_eq_of_lt hc]
    simp
 ·obtain rfl : i = (dig x).length := by omega
  rw [List.take_length, Qy, Qy] at hv
  simp +decide (disch := first | omega | rfl | (simp +decide only [go_sem, ↓reduceIte, h5, Nat.sub_self, List.replicate_zero, List.append_nil] <;> rfl) | fail) only [go_sem, ↓reduceIte, h5, Nat.sub_self, List.replicate_zero, List.append_nil]
  refine Qfa hP (Qa2 hlo (by omega)) (Qiu rfl hlol.symm) rfl fun hp' => ?_
  simp +decide (disch := first | omega | rfl | (simp +decide only [go_sem, ↓reduceIte] <;> rfl) | fail) only [go_sem, ↓reduceIte]
  exact Qc (by rw [hv]) rfl
end Go.Proofs.YtmnkngmmfnncoaaGreat
namespace Go.Proofs.YtmnkngmmfnncoaaGreat
open Go Go.FW
set_option linter.unusedSimpArgs false
set_option linter.unusedVariables false
set_option maxRecDepth 100000
theorem Qt2 {pre w post v : List Nat} {j m : Nat} (hw : Qh w) (hv : Qh v) (hj : pre.length = j) (hm : w.length = m) (hle : v.length <= w.length) (hlen : (pre ++ (w ++ post)).length < 2 ^ 43) :
  Qia Tryz.prog 223 [.mso B0 j m, PV.nat v] 156 (Qay (pre ++ (w ++ post))) (fun r xs' => r = .tup [] /\ xs' = Qay (pre ++ (Qfb w v 0 ++ post))) := by
 simp only [List.length_append] at hlen
 refine Qja Qm Tryz.func223 rfl Q7p (by simp [Q3n]) fun C hP => ?_; simp only [Q3n]
 simp +decide (disch := first | omega | rfl | (simp +decide only [go_sem, ↓reduceIte] <;> rfl) | fail) only [go_sem, ↓reduceIte]
 refine Qd8 (fun k fr hp => ∃ i c done, k = w.length - i /\ i <= w.length /\ c <= 1 /\ done.length = i /\ done ++ Qfb (w.drop i) (v.drop i) c = Qfb w v 0 /\
  fr 0 = .mso 1000000 j m /\ fr 1 = PV.nat v /\ fr 4 = .int .u32 c /\ fr 7 = .int .i64 m /\ fr 8 = .int .i64 i /\ hp = Qk hp0 1000000 ⟨1, 156, Qay ((pre ++ done) ++ (w.drop i ++ post)), false⟩) w.length ?_ ?_
 ·refine ⟨0, 0, [], rfl, by omega, by omega, rfl, rfl, ?_⟩
  simp +decide (disch := first | omega | rfl | (simp +decide only [go_sem, ↓reduceIte, true_and, and_true, List.append_nil, List.drop_zero] <;> rfl) | fail) only [go_sem, ↓reduceIte, true_and, and_true, List.append_nil, List.drop_zero]
  simp
 rintro _ fr _ ⟨i, c, done, rfl, hi, hc, hdl, hd, h0, h1, h4, h7, h8, rfl⟩
 simp +decide (disch := first | omega | rfl | (simp +decide only [go_sem, ↓reduceIte, h7, h8] <;> rfl) | fail) only [go_sem, ↓reduceIte, h7, h8]
 refine Qb (fun hg => ?_) (fun hg => ?_)
 ·have hi' : i < w.length := by omega
  have hwi := Qag hw hi'
  rw [Qzg hi'] at hd
  have hpl : (pre ++ done).length = j + i := by simp [hj, hdl]
  rw [List.drop_eq_getElem_cons hi']
  generalize hww : w[i] = wi at *
  have hlt : j + i < ((pre ++ done) ++ wi :: (w.drop (i + 1) ++ post)).length := by simp; omega
  have hget := Qm8 hpl hlt
  simp +decide (disch := first | omega | rfl | (simp +decide only [go_sem, ↓reduceIte, h0, h1, h4, h7, h8, List.cons_append, hget] <;> rfl) | fail) only [go_sem, ↓reduceIte, h0, h1, h4, h7, h8, List.cons_append, hget]
  refine Qb (fun hq => ?_) (fun hq => ?_)
  ·have hq' : i < v.length := by omega
   have hvi := Qag hv hq'
   rw [Qa9 hq'] at hd
   simp +decide (disch := first | omega | rfl | (simp +decide only [go_sem, ↓reduceIte, h0, h1, h4, h7, h8, Qbv] <;> rfl) | fail) only [go_sem, ↓reduceIte, h0, h1, h4, h7, h8, Qbv]
   refine Qbu (m := w.length - (i + 1)) (by omega) ⟨i + 1, _, _, rfl, by omega, ?_, ?_, (List.append_cons ..).symm.trans hd, ?_⟩
   ·omega
   ·simp [hdl]
   ·simp +decide (disch := first | omega | rfl | (simp +decide only [go_sem, ↓reduceIte, h0, h1, h4, h7, h8, true_and, and_true, Qbv] <;> rfl) | fail) only [go_sem, ↓reduceIte, h0, h1, h4, h7, h8, true_and, and_true, Qbv]
    simp
  ·rw [Qba (by omega)] at hd
   simp +decide (disch := first | omega | rfl | (simp +decide only [go_sem, ↓reduceIte, h0, h1, h4, h7, h8, Qbv] <;> rfl) | fail) only [go_sem, ↓reduceIte, h0, h1, h4, h7, h8, Qbv]
   refine Qbu (m := w.length - (i + 1)) (by omega) ⟨i + 1, _, _, rfl, by omega, ?_, ?_, (List.append_cons ..).symm.trans hd, ?_⟩
   ·omega
   ·simp [hdl]
   ·simp +decide (disch := first | omega | rfl | (simp +decide only [go_sem, ↓reduceIte, h0, h1, h4, h7, h8, true_and, and_true, Qbv] <;> rfl) | fail) only [go_sem, ↓reduceIte, h0, h1, h4, h7, h8, true_and, and_true, Qbv]
    simp
 ·obtain rfl : i = w.length := by omega
  rw [List.drop_of_length_le (Nat.le_refl _), Qfb, List.append_nil] at hd
  simp +decide (disch := first | omega | rfl | (simp +decide only [go_sem, ↓reduceIte] <;> rfl) | fail) only [go_sem, ↓reduceIte]
  refine Qaa6 rfl (Qea _) ?_ ⟨rfl, ?_⟩
  ·simp [hdl]
  ·rw [List.drop_of_length_le (Nat.le_refl _), hd]; simp
end Go.Proofs.YtmnkngmmfnncoaaGreat
namespace Go.Proofs.YtmnkngmmfnncoaaGreat
open Go Go.FW
set_option linter.unusedSimpArgs false
set_option linter.unusedVariables false
set_option maxRecDepth 100000
theorem Qr9 {pre w post v : List Nat} {j m q : Nat} (hw : Qh w) (hv : Qh v) (hq : q < 65536) (hj : pre.length = j) (hm : w.length = m) (hle : v.length <= w.length) (hlen : (pre ++ (w ++ post)).length < 2 ^ 43) :
  Qia Tryz.prog 222 [.mso B0 j m, PV.nat v, .int .u32 q] 156 (Qay (pre ++ (w ++ post))) (fun r xs' => r = .bool (decide (0 < (Qcs w v q 0 0).2.2)) /\ xs' = Qay (pre ++ ((Qcs w v q 0 0).1 ++ post))) := by
 simp only [List.length_append] at hlen
 refine Qja Qm Tryz.func222 rfl Q7o (by simp [Q3m]) fun C hP => ?_; simp only [Q3m]
 simp +decide (disch := first | omega | rfl | (simp +decide only [go_sem, ↓reduceIte] <;> rfl) | fail) only [go_sem, ↓reduceIte]
 refine Qd8 (fun k fr hp => ∃ i c b done, k = w.length - i /\ i <= w.length /\ c < 65536 /\ b <= 1 /\ done.length = i /\ done ++ (Qcs (w.drop i) (v.drop i) q c b).1 = (Qcs w v q 0 0).1 /\ (Qcs (w.drop i) (v.drop i) q c b).2 = (Qcs w v q 0 0).2 /\
  fr 0 = .mso 1000000 j m /\ fr 1 = PV.nat v /\ fr 2 = .int .u32 q /\ fr 7 = .int .u32 c /\ fr 8 = .int .i32 (b : Nat) /\ fr 12 = .int .i64 m /\ fr 13 = .int .i64 i /\ hp = Qk hp0 1000000 ⟨1, 156, Qay ((pre ++ done) ++ (w.drop i ++ post)), false⟩) w.length ?_ ?_
 ·refine ⟨0, 0, 0, [], rfl, by omega, by omega, by omega, rfl, rfl, rfl, ?_⟩
  simp +decide (disch := first | omega | rfl | (simp +decide only [go_sem, ↓reduceIte, true_and, and_true, List.append_nil, List.drop_zero] <;> rfl) | fail) only [go_sem, ↓reduceIte, true_and, and_true, List.append_nil, List.drop_zero]
  simp
 rintro _ fr _ ⟨i, c, b, done, rfl, hi, hc, hb, hdl, hd, hd2, h0, h1, h2, h7, h8, h12, h13, rfl⟩
 simp +decide (disch := first | omega | rfl | (simp +decide only [go_sem, ↓reduceIte, h12, h13] <;> rfl) | fail) only [go_sem, ↓reduceIte, h12, h13]
 refine Qb (fun hg => ?_) (fun hg => ?_)
 ·have hi' : i < w.length := by omega
  have hwi := Qag hw hi'
  rw [Qzh hi'] at hd hd2
  simp only at hd hd2
  have hpl : (pre ++ done).length = j + i := by simp [hj, hdl]
  rw [List.drop_eq_getElem_cons hi']
  generalize hww : w[i] = wi at *
  have hlt : j + i < ((pre ++ done) ++ wi :: (w.drop (i + 1) ++ post)).length := by simp; omega
  have hget := Qm8 hpl hlt
  simp +decide (disch := first | omega | rfl | (simp +decide only [go_sem, ↓reduceIte, h0, h1, h2, h7, h8, h12, h13, List.cons_append, hget] <;> rfl) | fail) only [go_sem, ↓reduceIte, h0, h1, h2, h7, h8, h12, h13, List.cons_append, hget]
  refine Qf4 (fun fr hp => c + q * v.getD i 0 <= 4294967295 /\ fr 0 = .mso 1000000 j m /\ fr 1 = PV.nat v /\ fr 2 = .int .u32 q /\ fr 7 = .int .u32 (c + q * v.getD i 0 : Nat) /\ fr 8 = .int .i32 (b : Nat) /\ fr 9 = .int .i64 i /\ fr 12 = .int .i64 m /\ fr 13 = .int .i64 i /\ hp = Qk hp0 1000000 ⟨1, 156, Qay ((pre ++ done) ++ wi :: (w.drop (i + 1) ++ post)), false⟩) ?_ ?_
  ·refine Qb (fun hqv => ?_) (fun hqv => ?_)
   ·have hq' : i < v.length := by omega
    have hvi := Qag hv hq'
    have hqv := Qek hq hvi
    simp +decide (disch := first | omega | rfl | (simp +decide only [go_sem, ↓reduceIte, h0, h1, h2, h7, h8, h12, h13, Qa9 hq', true_and, and_true] <;> rfl) | fail) only [go_sem, ↓reduceIte, h0, h1, h2, h7, h8, h12, h13, Qa9 hq', true_and, and_true]
    omega
   ·simp +decide (disch := first | omega | rfl | (simp +decide only [go_sem, ↓reduceIte, h0, h1, h2, h7, h8, h12, h13, true_and, and_true, Qba (by omega : ¬ i < v.length), Nat.mul_zero, Nat.add_zero] <;> rfl) | fail) only [go_sem, ↓reduceIte, h0, h1, h2, h7, h8, h12, h13, true_and, and_true, Qba (by omega : ¬ i < v.length), Nat.mul_zero, Nat.add_zero]
    omega
  clear h0 h1 h2 h7 h8 h12 h13
  rintro fr _ ⟨hc1, h0, h1, h2, h7, h8, h9, h12, h13, rfl⟩
  generalize c + q * v.getD i 0 = c1 at *
  simp +decide (disch := first | omega | rfl | (simp +decide only [go_sem, ↓reduceIte, h0, h1, h2, h7, h8, h9, h12, h13, hget] <;> rfl) | fail) only [go_sem, ↓reduceIte, h0, h1, h2, h7, h8, h9, h12, h13, hget]
  refine Qf4 (fun fr hp => fr 0 = .mso 1000000 j m /\ fr 1 = PV.nat v /\ fr 2 = .int .u32 q /\ fr 7 = .int .u32 (c1 / 65536 : Nat) /\ fr 8 = .int .i32 ((if wi < c1 % 65536 + b then 1 else 0) : Nat) /\ fr 9 = .int .i64 i /\ fr 10 = .int .i32 ((wi + 65536 - c1 % 65536 - b) % 65536 : Nat) /\ fr 12 = .int .i64 m /\ fr 13 = .int .i64 i /\ hp = Qk hp0 1000000 ⟨1, 156, Qay ((pre ++ done) ++ wi :: (w.drop (i + 1) ++ post)), false⟩) ?_ ?_
  ·refine Qb (fun hq => ?_) (fun hq => ?_)
   ·rw [if_pos (by omega)]
    simp +decide (disch := first | omega | rfl | (simp +decide only [go_sem, ↓reduceIte, h0, h1, h2, h7, h8, h9, h12, h13, true_and, and_true] <;> rfl) | fail) only [go_sem, ↓reduceIte, h0, h1, h2, h7, h8, h9, h12, h13, true_and, and_true]
    simp; omega
   ·rw [if_neg (by omega)]
    simp +decide (disch := first | omega | rfl | (simp +decide only [go_sem, ↓reduceIte, h0, h1, h2, h7, h8, h9, h12, h13, true_and, and_true] <;> rfl) | fail) only [go_sem, ↓reduceIte, h0, h1, h2, h7, h8, h9, h12, h13, true_and, and_true]
    simp; omega
  clear h0 h1 h2 h7 h8 h9 h12 h13
  rintro fr _ ⟨h0, h1, h2, h7, h8, h9, h10, h12, h13, rfl⟩
  simp +decide (disch := first | omega | rfl | (simp +decide only [go_sem, ↓reduceIte, h0, h1, h2, h7, h8, h9, h10, h12, h13, Qbv] <;> rfl) | fail) only [go_sem, ↓reduceIte, h0, h1, h2, h7, h8, h9, h10, h12, h13, Qbv]
  refine Qbu (m := w.length - (i + 1)) (by omega) ⟨i + 1, c1 / 65536, _, _, rfl, by omega, by omega, ?_, ?_, (List.append_cons ..).symm.trans hd, hd2, ?_⟩
  ·split <;> omega
  ·simp [hdl]
  ·simp +decide (disch := first | omega | rfl | (simp +decide only [go_sem, ↓reduceIte, h0, h1, h2, h7, h8, h9, h10, h12, h13, true_and, and_true, Qbv, Nat.mod_mod] <;> rfl) | fail) only [go_sem, ↓reduceIte, h0, h1, h2, h7, h8, h9, h10, h12, h13, true_and, and_true, Qbv, Nat.mod_mod]
   simp
 ·obtain rfl : i = w.length := by omega
  rw [List.drop_of_length_le (Nat.le_refl _), Qcs] at hd hd2
  simp only [List.append_nil] at hd
  simp +decide (disch := first | omega | rfl | (simp +decide only [go_sem, ↓reduceIte, h8] <;> rfl) | fail) only [go_sem, ↓reduceIte, h8]
  refine Qzi (p := .bool (decide (0 < (b : Int)))) rfl (Qea _) ?_ (by simp +decide (disch := first | omega | rfl | (simp +decide only [go_sem, ↓reduceIte] <;> rfl) | fail) only [go_sem, ↓reduceIte]) rfl ⟨?_, ?_⟩
  ·simp [hdl]
  ·rw [<- hd2]; simp
  ·rw [List.drop_of_length_le (Nat.le_refl _), hd]; simp
end Go.Proofs.YtmnkngmmfnncoaaGreat
namespace Go.Proofs.YtmnkngmmfnncoaaGreat
open Go Go.FW
set_option linter.unusedSimpArgs false
set_option linter.unusedVariables false
set_option maxRecDepth 100000
theorem Qsa {v u : List Nat} {dg n r j : Nat} (hv : Qh v) (hu : Qh u) (hn : 2 <= n) (hnv : n = v.length) (hju : j + n < u.length) (hd : dg < 4294967296) (hr : r < 65536) (hul : u.length < 2 ^ 43) :
  Qd Tryz.prog 221 [.pt [.int .u64 dg], .pt [PV.nat v], .pt [.int .i64 n], .pt [.int .u64 r], .pt [PV.nat u], .pt [.int .i64 j]]
   (· = .bool (decide (65536 <= dg ∨ r * 65536 + u.getD (j + n - 2) 0 < dg * v.getD (n - 2) 0))) := by
 have h1 : n - 2 < v.length := by omega
 have h2 : j + n - 2 < u.length := by omega
 have hv1 := Qag hv h1
 have hu1 := Qag hu h2
 rw [Qa9 h1, Qa9 h2]
 refine Qi Qm Tryz.func221 rfl Q7n (by simp [Q3l]) fun C hP => ?_; simp only [Q3l]
 simp +decide (disch := first | omega | rfl | (simp +decide only [go_sem, ↓reduceIte] <;> rfl) | fail) only [go_sem, ↓reduceIte]
 refine Qa3 (fun hz => ?_) (fun hz => ?_)
 ·simp +decide (disch := first | omega | rfl | (simp +decide only [go_sem, ↓reduceIte] <;> rfl) | fail) only [go_sem, ↓reduceIte]
  exact Qc (by simp; omega) rfl
 ·have hd' : dg < 65536 := by omega
  have e1 : (n : Int) - 2 = ((n - 2 : Nat) : Int) := by omega
  have e2 : ((j + n : Nat) : Int) - 2 = ((j + n - 2 : Nat) : Int) := by omega
  generalize hvv : v[n - 2] = vi at *
  generalize huu : u[j + n - 2] = ui at *
  have hm := Qek hd' hv1
  simp +decide (disch := first | omega | rfl | (simp +decide only [go_sem, ↓reduceIte, e1, e2, hvv, huu, Qjc, Qk8] <;> rfl) | fail) only [go_sem, ↓reduceIte, e1, e2, hvv, huu, Qjc, Qk8]
  exact Qc (congrArg PV.bool (decide_eq_decide.2 ⟨fun h => .inr (by omega), fun h => by rcases h with h | h <;> omega⟩)) rfl
end Go.Proofs.YtmnkngmmfnncoaaGreat
namespace Go.Proofs.YtmnkngmmfnncoaaGreat
open Go Go.FW
set_option linter.unusedSimpArgs false
set_option linter.unusedVariables false
set_option maxRecDepth 100000
theorem Qxf {l post : List Nat} (hv : Qh l) (hl : (l ++ post).length < 2 ^ 43) (hlen : 0 < l.length) :
  Qia Tryz.prog 177 [.mso B0 0 l.length] 156 (Qay (l ++ post)) (fun r xs' => r = .mso B0 0 (nl (val l)) /\ xs' = Qay (l ++ post)) := by
 simp only [List.length_append] at hl
 have hlen2 : l.length <= (l ++ post).length := by simp
 refine Qja Qm Tryz.func177 rfl Qv8 (by simp [Qt0]) fun C hP => ?_; simp only [Qt0]
 simp +decide (disch := first | omega | rfl | (simp +decide only [go_sem, ↓reduceIte] <;> rfl) | fail) only [go_sem, ↓reduceIte]
 refine Qd8 (fun m fr hp => m <= l.length /\ cut l m = dig (val l) /\ fr 0 = .mso 1000000 0 l.length /\ fr 3 = .int .i64 m /\ hp = Qk hp0 1000000 ⟨1, 156, Qay (l ++ post), false⟩) l.length ?_ ?_
 ·exact ⟨Nat.le_refl _, Qkd hv, rfl, rfl, rfl⟩
 rintro n fr _ ⟨hn, hc, h0, h3, rfl⟩
 simp +decide (disch := first | omega | rfl | (simp +decide only [go_sem, ↓reduceIte, h0, h3] <;> rfl) | fail) only [go_sem, ↓reduceIte, h0, h3]
 refine Qb3 (fun hg => ?_) (fun hg => ?_)
 ·obtain _ | n := n
  ·omega
  have e : ((n + 1 : Nat) : Int) - 1 = n := by omega
  have hlt : n < (l ++ post).length := by simp; omega
  have hget : (l ++ post)[n] = l[n] := by simp [List.getElem_append, show n < l.length by omega]
  simp +decide (disch := first | omega | rfl | (simp +decide only [go_sem, ↓reduceIte, h0, h3, e, hget] <;> rfl) | fail) only [go_sem, ↓reduceIte, h0, h3, e, hget]
  simp only [cut] at hc
  refine Qb (fun hz => ?_) (fun hz => ?_)
  ·rw [if_pos (by grind)] at hc
   simp +decide (disch := first | omega | rfl | (simp +decide only [go_sem, ↓reduceIte, h0, h3, e] <;> rfl) | fail) only [go_sem, ↓reduceIte, h0, h3, e]
   refine Qbu (m := n) (by omega) ⟨by omega, hc, ?_⟩
   simp +decide (disch := first | omega | rfl | (simp +decide only [go_sem, ↓reduceIte, h0, true_and, and_true] <;> rfl) | fail) only [go_sem, ↓reduceIte, h0, true_and, and_true]
  ·rw [if_neg (by grind)] at hc
   have hnl : nl (val l) = n + 1 := by rw [nl, <- hc]; simp; omega
   simp +decide (disch := first | omega | rfl | (simp +decide only [go_sem, ↓reduceIte, h0, h3] <;> rfl) | fail) only [go_sem, ↓reduceIte, h0, h3]
   exact Qvz rfl (Qea _) (by simp) (by simp +decide (disch := first | omega | rfl | (simp +decide only [go_sem, ↓reduceIte, hnl] <;> rfl) | fail) only [go_sem, ↓reduceIte, hnl]) ⟨rfl, rfl⟩
 ·obtain rfl : n = 0 := by omega
  have hnl : nl (val l) = 0 := by rw [nl, <- hc, cut]; rfl
  simp +decide (disch := first | omega | rfl | (simp +decide only [go_sem, ↓reduceIte, h0, h3] <;> rfl) | fail) only [go_sem, ↓reduceIte, h0, h3]
  exact Qvz rfl (Qea _) (by simp) (by simp +decide (disch := first | omega | rfl | (simp +decide only [go_sem, ↓reduceIte, hnl] <;> rfl) | fail) only [go_sem, ↓reduceIte, hnl]) ⟨rfl, rfl⟩
end Go.Proofs.YtmnkngmmfnncoaaGreat
namespace Go.Proofs.YtmnkngmmfnncoaaGreat
open Go Go.FW
set_option linter.unusedSimpArgs false
set_option linter.unusedVariables false
set_option maxRecDepth 100000
theorem Qju {a : List Nat} {s : Nat} (ha : Qh a) (hla : a.length < 2 ^ 40) (hs : s <= 15) (hne : val a ≠ 0) : Qkf Tryz.prog 199 [PV.nat a, .int .i64 s] 156 (fun ys => ys = Qay (dig (val a * 2 ^ s))) := by
 have hda := Qai ha
 unfold nl at hda
 have hnz : (dig (val a)).length ≠ 0 := by
  intro h; exact hne (Qbe.1 (Qcr h))
 refine Qze Qm Tryz.func199 rfl Qqt (by simp [Qoo]) fun C hP => ?_; simp only [Qoo]
 simp +decide (disch := first | omega | rfl | (simp +decide only [go_sem, ↓reduceIte] <;> rfl) | fail) only [go_sem, ↓reduceIte]
 refine Qa hP (Qa2 ha (by omega)) rfl rfl rfl ?_
 simp +decide (disch := first | omega | rfl | (simp +decide only [go_sem, ↓reduceIte] <;> rfl) | fail) only [go_sem, ↓reduceIte]
 generalize val a = x at *
 have hxl := Qj x
 have e1 : s / 16 = 0 := Nat.div_eq_of_lt (by omega)
 have e2 : s % 16 = s := Nat.mod_eq_of_lt (by omega)
 refine Qa3 (fun hz => by omega) (fun hz => ?_)
 simp +decide (disch := first | omega | rfl | (simp +decide only [go_sem, ↓reduceIte] <;> rfl) | fail) only [go_sem, ↓reduceIte]
 refine Qa3 (fun hz => by omega) (fun hz => ?_)
 simp +decide (disch := first | omega | rfl | (simp +decide only [go_sem, ↓reduceIte] <;> rfl) | fail) only [go_sem, ↓reduceIte]
 refine Qb (fun hz => by omega) (fun hz => ?_)
 simp +decide (disch := first | omega | rfl | (simp +decide only [go_sem, ↓reduceIte] <;> rfl) | fail) only [go_sem, ↓reduceIte]
 refine Qb (fun hz => by omega) (fun hz => ?_)
 simp +decide (disch := first | omega | rfl | (simp +decide only [go_sem, ↓reduceIte, Qje, Qjf, e1, e2] <;> rfl) | fail) only [go_sem, ↓reduceIte, Qje, Qjf, e1, e2]
 refine Qd8 (fun k fr hp => ∃ i c done, k = (dig x).length - i /\ i <= (dig x).length /\ c < 2 ^ s /\ done.length = i /\ done ++ Qg1 s ((dig x).drop i) c = Qg1 s (dig x) 0 /\
  fr 5 = .int .i64 (0 : Nat) /\ fr 6 = .int .i64 s /\ fr 7 = .ms 44 ((dig x).length + 1) /\ fr 45 = PV.num x /\ fr 46 = .int .i64 (dig x).length /\ fr 47 = .int .i64 i /\
  hp = Qk hp0 44 ⟨1, 156, Qay (done ++ c :: List.replicate ((dig x).length - i) 0), false⟩) (dig x).length ?_ ?_
 ·refine ⟨0, 0, [], rfl, by omega, Nat.pow_pos (by omega), rfl, rfl, ?_⟩
  simp +decide (disch := first | omega | rfl | (simp +decide only [go_sem, ↓reduceIte, true_and, and_true, List.nil_append, Nat.sub_zero] <;> rfl) | fail) only [go_sem, ↓reduceIte, true_and, and_true, List.nil_append, Nat.sub_zero]
  simp [List.replicate_succ]
 rintro _ fr _ ⟨i, c, done, rfl, hi, hc, hdl, hd, h5, h6, h7, h45, h46, h47, rfl⟩
 simp +decide (disch := first | omega | rfl | (simp +decide only [go_sem, ↓reduceIte, h45, h46, h47] <;> rfl) | fail) only [go_sem, ↓reduceIte, h45, h46, h47]
 have hp15 : 2 ^ s <= 2 ^ 15 := Nat.pow_le_pow_right (by omega) hs
 refine Qb (fun hg => ?_) (fun hg => ?_)
 ·have hi' : i < (dig x).length := by omega
  have hxi := Qag hxl hi'
  rw [List.drop_eq_getElem_cons hi', Qg1] at hd
  generalize hxx : (dig x)[i] = xi at *
  obtain ⟨z, hz⟩ : ∃ z, (dig x).length - i = z + 1 := ⟨(dig x).length - i - 1, by omega⟩
  have hlt : i < (done ++ c :: List.replicate (z + 1) 0).length := by simp; omega
  have hget := Qm8 hdl hlt
  have hsp := Qtn (x := xi) (show s <= 16 by omega) hc
  have hcl := Qrf (show s <= 16 by omega) hxi
  have hl := Qaa7 hs hxi
  simp +decide (disch := first | omega | rfl | (simp +decide only [go_sem, ↓reduceIte, h5, h6, h7, h45, h46, h47, hxx, hz, hget, Qqn, Qzk, hsp.2, Qbv] <;> rfl) | fail) only [go_sem, ↓reduceIte, h5, h6, h7, h45, h46, h47, hxx, hz, hget, Qqn, Qzk, hsp.2, Qbv]
  have hset : ∀ v u, (done ++ v :: List.replicate (z + 1) 0).set (i + 1) u = (done ++ [v]) ++ u :: List.replicate z 0 := fun v u => by
   rw [List.append_cons, List.replicate_succ, Qbv (by simp [hdl])]
  rw [Qy7 (by simp; omega), hset, Nat.mod_eq_of_lt (by omega : xi * 2 ^ s / 65536 < 65536)]
  simp +decide (disch := first | omega | rfl | (simp +decide only [go_sem, ↓reduceIte, h5, h6, h7, h45, h46, h47] <;> rfl) | fail) only [go_sem, ↓reduceIte, h5, h6, h7, h45, h46, h47]
  refine Qbu (m := (dig x).length - (i + 1)) (by omega) ⟨i + 1, xi * 2 ^ s / 65536, done ++ [xi * 2 ^ s % 65536 + c], rfl, by omega, hcl, by simp [hdl], (List.append_cons ..).symm.trans hd, ?_⟩
  simp +decide (disch := first | omega | rfl | (simp +decide only [go_sem, ↓reduceIte, h5, h6, h7, h45, h46, h47, true_and, and_true] <;> rfl) | fail) only [go_sem, ↓reduceIte, h5, h6, h7, h45, h46, h47, true_and, and_true]
  rw [show (dig x).length - (i + 1) = z by omega]
 ·obtain rfl : i = (dig x).length := by omega
  rw [List.drop_of_length_le (Nat.le_refl _), Qg1] at hd
  have hlim := Qpk hs (dig x) 0 hxl (Nat.pow_pos (by omega))
  have hvs := Qtm s (dig x) 0
  have hln := Qnv s (dig x) 0
  rw [Qy, Nat.add_zero] at hvs
  rw [<- hd] at hlim hvs hln
  have hnz2 : x * 2 ^ s ≠ 0 := Nat.mul_ne_zero hne (Nat.ne_of_gt (Nat.pow_pos (by omega)))
  simp +decide (disch := first | omega | rfl | (simp +decide only [go_sem, ↓reduceIte, h7, Nat.sub_self, List.replicate_zero] <;> rfl) | fail) only [go_sem, ↓reduceIte, h7, Nat.sub_self, List.replicate_zero]
  have ht := Qxf (l := done ++ [c]) (post := []) hlim (by simp [hdl]; omega) (by simp)
  rw [List.append_nil, hvs] at ht
  refine Qpf hP ht (β := 44) (by simp +decide (disch := first | omega | rfl | (simp +decide only [go_sem, ↓reduceIte] <;> rfl) | fail) only [go_sem, ↓reduceIte]) (Qea _) (by simp) (by simp [toB, hln]) rfl ?_
  rintro r xs' _ _ ⟨rfl, rfl⟩
  simp +decide (disch := first | omega | rfl | (simp +decide only [go_sem, ↓reduceIte, Qfk] <;> rfl) | fail) only [go_sem, ↓reduceIte, Qfk]
  refine ⟨4, 44, nl (x * 2 ^ s), _, rfl, by simp +decide (disch := first | omega | rfl | (simp +decide only [go_sem, ↓reduceIte] <;> rfl) | fail) only [go_sem, ↓reduceIte], rfl, by simp +decide (disch := first | omega | rfl | (simp +decide only [go_sem, ↓reduceIte] <;> rfl) | fail) only [go_sem, ↓reduceIte]; rfl, Qea _, ?_, ?_⟩
  ·have := @Qh3 (x * 2 ^ s); omega
  ·rw [<- hvs, <- List.map_take, Q2l hlim]
end Go.Proofs.YtmnkngmmfnncoaaGreat
namespace Go.Proofs.YtmnkngmmfnncoaaGreat
open Go Go.FW
set_option linter.unusedSimpArgs false
set_option linter.unusedVariables false
set_option maxRecDepth 100000
theorem Qxg {a : List Nat} {s : Nat} (ha : Qh a) (hla : a.length < 2 ^ 42) (hs : s <= 15) : Qd Tryz.prog 220 [PV.nat a, .int .i64 s] (· = PV.num (val a / 2 ^ s)) := by
 have e1 : s / 16 = 0 := Nat.div_eq_of_lt (by omega)
 have e2 : s % 16 = s := Nat.mod_eq_of_lt (by omega)
 refine Qi Qm Tryz.func220 rfl Q7r (by simp [Q3p]) fun C hP => ?_; simp only [Q3p]
 simp +decide (disch := first | omega | rfl | (simp +decide only [go_sem, ↓reduceIte, Qje, Qjf, e1, e2] <;> rfl) | fail) only [go_sem, ↓reduceIte, Qje, Qjf, e1, e2]
 refine Qb (fun hz => ?_) (fun hz => ?_)
 ·have : a = [] := List.length_eq_zero_iff.1 (by omega)
  subst this
  simp +decide (disch := first | omega | rfl | (simp +decide only [go_sem, ↓reduceIte] <;> rfl) | fail) only [go_sem, ↓reduceIte]
  exact Qgy (Qke (by simp [val])) rfl
 have e3 : ((a.length : Int) - ((0 : Nat) : Int)) = ((a.length : Nat) : Int) := by omega
 simp +decide (disch := first | omega | rfl | (simp +decide only [go_sem, ↓reduceIte, e3] <;> rfl) | fail) only [go_sem, ↓reduceIte, e3]
 refine Qak (by repeat (first | exact Qx | exact Qp | exact Qq | exact Qr | exact Qt | apply Qo | apply Qw | apply Q3 | apply Q9 | apply Qaa | apply Qn)) [(8, 9), (25, 60)] [] (fun k J hp => ∃ i done, k = a.length - i /\ i <= a.length /\ done.length = i /\ done ++ Qgh s (a.drop i) = Qgh s a /\ J 25 = .int .i64 i /\
  hp = Qk hp0 22 ⟨1, 156, Qay (done ++ List.replicate (a.length - i) 0), false⟩) a.length ?_ ?_
 ·refine ⟨0, [], rfl, by omega, rfl, rfl, ?_⟩
  simp +decide (disch := first | omega | rfl | (simp +decide only [go_sem, ↓reduceIte, true_and, and_true, List.nil_append, Nat.sub_zero] <;> rfl) | fail) only [go_sem, ↓reduceIte, true_and, and_true, List.nil_append, Nat.sub_zero]
  simp
 rintro _ J _ ⟨i, done, rfl, hi, hdl, hd, h25, rfl⟩
 simp +decide (disch := first | omega | rfl | (simp +decide only [go_sem, ↓reduceIte, h25] <;> rfl) | fail) only [go_sem, ↓reduceIte, h25]
 refine Qb (fun hg => ?_) (fun hg => ?_)
 ·have hi' : i < a.length := by omega
  have hai := Qag ha hi'
  rw [Qzo hi'] at hd
  generalize hxx : a[i] = xi at *
  have hlen := Qoi (n := a.length - i) hdl (by omega : _ = a.length)
  simp +decide (disch := first | omega | rfl | (simp +decide only [go_sem, ↓reduceIte, h25, hxx] <;> rfl) | fail) only [go_sem, ↓reduceIte, h25, hxx]
  refine Qb (fun hq => ?_) (fun hq => ?_)
  ·have hq' : i + 1 < a.length := by omega
   have haj := Qag ha hq'
   rw [Qa9 hq'] at hd
   simp +decide (disch := first | omega | rfl | (simp +decide only [go_sem, ↓reduceIte, h25, Qjd, Qre, Qna] <;> rfl) | fail) only [go_sem, ↓reduceIte, h25, Qjd, Qre, Qna]
   refine Qab (a.length - (i + 1)) (by omega) ⟨i + 1, _, rfl, by omega, by simp [hdl], (List.append_cons ..).symm.trans hd, ?_⟩
   simp +decide (disch := first | omega | rfl | (simp +decide only [go_sem, ↓reduceIte, h25, true_and, and_true, Qd9, Nat.sub_sub] <;> rfl) | fail) only [go_sem, ↓reduceIte, h25, true_and, and_true, Qd9, Nat.sub_sub]
  ·rw [Qba (by omega), Nat.zero_mul, Nat.zero_add] at hd
   simp +decide (disch := first | omega | rfl | (simp +decide only [go_sem, ↓reduceIte, h25, Qna] <;> rfl) | fail) only [go_sem, ↓reduceIte, h25, Qna]
   refine Qab (a.length - (i + 1)) (by omega) ⟨i + 1, _, rfl, by omega, by simp [hdl], (List.append_cons ..).symm.trans hd, ?_⟩
   simp +decide (disch := first | omega | rfl | (simp +decide only [go_sem, ↓reduceIte, h25, true_and, and_true, Qd9, Nat.sub_sub] <;> rfl) | fail) only [go_sem, ↓reduceIte, h25, true_and, and_true, Qd9, Nat.sub_sub]
 ·obtain rfl : i = a.length := by omega
  rw [List.drop_of_length_le (Nat.le_refl _), Qgh, List.append_nil] at hd
  simp +decide (disch := first | omega | rfl | (simp +decide only [go_sem, ↓reduceIte, Nat.sub_self, List.replicate_zero, List.append_nil] <;> rfl) | fail) only [go_sem, ↓reduceIte, Nat.sub_self, List.replicate_zero, List.append_nil]
  rw [hd]
  refine Qfa hP (Qa2 (Qpl s a) (by rw [Qjs]; exact hla)) (Qiu rfl (Qjs s a).symm) rfl fun hp' => ?_
  simp +decide (disch := first | omega | rfl | (simp +decide only [go_sem, ↓reduceIte] <;> rfl) | fail) only [go_sem, ↓reduceIte]
  exact Qc (by rw [Qtp (by omega) a ha]) rfl
theorem Qu7 {x V d q : Nat} (hd : 0 < d) (h : q = V / d) : (V % d * 65536 + x) / d + 65536 * q = (x + 65536 * V) / d /\ (V % d * 65536 + x) % d = (x + 65536 * V) % d := by
 subst h
 have e : x + 65536 * V = (V % d * 65536 + x) + d * (65536 * (V / d)) := by
  have := Nat.div_add_mod V d
  calc x + 65536 * V = x + 65536 * (d * (V / d) + V % d) := by rw [this]
   _ = _ := by rw [Nat.mul_add, Nat.mul_left_comm]; omega
 rw [e, Nat.add_mul_div_left _ _ hd, Nat.add_mul_mod_self_left]
 exact ⟨rfl, rfl⟩
theorem Qu8 {a : List Nat} {d : Nat} (ha : Qh a) (hla : a.length < 2 ^ 42) (hd : 0 < d) (hd2 : d < 65536) : Qd Tryz.prog 197 [PV.nat a, .int .u16 d] (· = .tup [PV.num (val a / d), .int .u16 (val a % d : Nat)]) := by
 refine Qi Qm Tryz.func197 rfl Q7l (by simp [Q3j]) fun C hP => ?_; simp only [Q3j]
 simp +decide (disch := first | omega | rfl | (simp +decide only [go_sem, ↓reduceIte] <;> rfl) | fail) only [go_sem, ↓reduceIte]
 refine Qak (by repeat (first | exact Qx | exact Qp | exact Qq | exact Qr | exact Qt | apply Qo | apply Qw | apply Q3 | apply Q9 | apply Qaa | apply Qn)) [(7, 8), (15, 38)] [] (fun k J hp => ∃ qs, k <= a.length /\ qs.length = a.length - k /\ Qh qs /\ val qs = val (a.drop k) / d /\ J 7 = .int .u32 (val (a.drop k) % d : Nat) /\ J 8 = .int .i64 ((k : Int) - 1) /\
  hp = Qk hp0 11 ⟨1, 156, Qay (List.replicate k 0 ++ qs), false⟩) a.length ?_ ?_
 ·refine ⟨[], Nat.le_refl _, by simp, Qch, by simp [val], ?_⟩
  simp +decide (disch := first | omega | rfl | (simp +decide only [go_sem, ↓reduceIte, true_and, and_true] <;> rfl) | fail) only [go_sem, ↓reduceIte, true_and, and_true]
  simp [val]
 rintro k J _ ⟨qs, hk, hql, hqs, hv, h7, h8, rfl⟩
 simp +decide (disch := first | omega | rfl | (simp +decide only [go_sem, ↓reduceIte, h7, h8] <;> rfl) | fail) only [go_sem, ↓reduceIte, h7, h8]
 have hr := Nat.mod_lt (val (a.drop k)) hd
 refine Qb (fun hg => ?_) (fun hg => ?_)
 ·obtain _ | n := k
  ·omega
  have hn : n < a.length := by omega
  have han := Qag ha hn
  have e : ((n + 1 : Nat) : Int) - 1 = n := by omega
  have hst := Qu7 (x := a[n]) hd hv
  rw [<- Qcf hn] at hst
  have hlt : (val (a.drop (n + 1)) % d * 65536 + a[n]) / d < 65536 := by
   rw [Nat.div_lt_iff_lt_mul hd]
   have : (val (a.drop (n + 1)) % d + 1) * 65536 <= d * 65536 := Nat.mul_le_mul_right _ hr
   omega
  generalize hxx : a[n] = xn at *
  generalize val (a.drop (n + 1)) % d = r at *
  have hlen : n < (List.replicate (n + 1) 0 ++ qs).length := by simp; omega
  simp +decide (disch := first | omega | rfl | (simp +decide only [go_sem, ↓reduceIte, h7, h8, e, hxx, Qjd, Qtl, Qv0, Qdq] <;> rfl) | fail) only [go_sem, ↓reduceIte, h7, h8, e, hxx, Qjd, Qtl, Qv0, Qdq]
  refine Qab n (by omega) ⟨(r * 65536 + xn) / d :: qs, by omega, ?_, ?_, ?_, ?_⟩
  ·simp; omega
  ·rw [Qar]; exact ⟨hlt, hqs⟩
  ·rw [val, hst.1]
  ·simp +decide (disch := first | omega | rfl | (simp +decide only [go_sem, ↓reduceIte, h7, h8, true_and, and_true, hst.2] <;> rfl) | fail) only [go_sem, ↓reduceIte, h7, h8, true_and, and_true, hst.2]
   rw [Nat.mod_eq_of_lt hlt, List.replicate_succ', List.append_assoc, List.singleton_append, Qbv (by simp)]
 ·obtain rfl : k = 0 := by omega
  rw [List.drop_zero] at hv h7
  have hlt := Nat.mod_lt (val a) hd
  simp +decide (disch := first | omega | rfl | (simp +decide only [go_sem, ↓reduceIte, h7, h8, List.replicate_zero, List.nil_append] <;> rfl) | fail) only [go_sem, ↓reduceIte, h7, h8, List.replicate_zero, List.nil_append]
  refine Qfa hP (Qa2 hqs (by omega)) (Qiu rfl (by omega)) rfl fun hp' => ?_
  simp +decide (disch := first | omega | rfl | (simp +decide only [go_sem, ↓reduceIte, h7] <;> rfl) | fail) only [go_sem, ↓reduceIte, h7]
  refine Qcc rfl rfl rfl (Qfz (by rw [hv])) (Qfz ?_)
  rw [Nat.mod_eq_of_lt (by omega)]
end Go.Proofs.YtmnkngmmfnncoaaGreat
namespace Go.Proofs.YtmnkngmmfnncoaaGreat
open Go Go.FW
set_option linter.unusedSimpArgs false
set_option linter.unusedVariables false
set_option maxRecDepth 100000
theorem Qpq {x : Nat} (h : x < 65536) : Qd Tryz.prog 211 [.int .u16 x] (· = .int .i64 (Lib.bitLen x : Nat)) :=
 Qu2 (by simp [Qiq]; exact ⟨rfl, by decide⟩) (fun w => Qu9 x w (by omega) (by omega)) (fun _ _ => Qu.int _ _)
theorem Qjv {x : Nat} (h : x < 65536) : Lib.bitLen x <= 16 := Lib.bitLen_le x 16 (by omega) (by omega)
theorem Qlm {x : Nat} (h : x < 65536) (h0 : x ≠ 0) : 1 <= Lib.bitLen x := by
 have := Lib.bitLen_half x h0 (by omega); omega
theorem Qva : Lib.bitLen 0 = 0 := by decide
theorem Qxh : ∀ (n x : Nat), Lib.bitLen x = n -> x ≠ 0 -> x < 65536 -> 2 ^ n <= 2 * x /\ x < 2 ^ n := by
 intro n
 induction n with
 | zero => intro x h h0 hx; have := Qlm hx h0; omega
 | succ n ih =>
  intro x h h0 hx
  have e := Lib.bitLen_half x h0 (by omega)
  by_cases h2 : x / 2 = 0
  ·have : x = 1 := by omega
   subst this
   have : n = 0 := by rw [h] at e; simp [Qva] at e; exact e
   subst this; simp
  ·have := ih (x / 2) (by omega) h2 (by omega)
   rw [Nat.pow_succ]; omega
theorem Ql8 {x : Nat} (h : x < 65536) : Qd Tryz.prog 198 [.int .u16 x] (· = .int .i64 (16 - Lib.bitLen x : Nat)) := by
 have := Qjv h
 refine Qi Qm Tryz.func198 rfl Q7s (by simp [Q3q]) fun C hP => ?_; simp only [Q3q]
 simp +decide (disch := first | omega | rfl | (simp +decide only [go_sem, ↓reduceIte] <;> rfl) | fail) only [go_sem, ↓reduceIte]
 refine Qa hP (Qpq h) rfl rfl rfl ?_
 simp +decide (disch := first | omega | rfl | (simp +decide only [go_sem, ↓reduceIte] <;> rfl) | fail) only [go_sem, ↓reduceIte]
 exact Qc (by congr 1; omega) rfl
theorem Qro {a : List Nat} (ha : Qh a) (hla : a.length < 2 ^ 40) : Qd Tryz.prog 172 [PV.nat a] (fun r => ∃ n : Nat, r = .int .i64 n /\ (n = 0 ↔ val a = 0)) := by
 have hd := Qai ha
 unfold nl at hd
 refine Qi Qm Tryz.func172 rfl Q7g (by simp [Q3e]) fun C hP => ?_; simp only [Q3e]
 simp +decide (disch := first | omega | rfl | (simp +decide only [go_sem, ↓reduceIte] <;> rfl) | fail) only [go_sem, ↓reduceIte]
 refine Qa hP (Qa2 ha (by omega)) rfl rfl rfl ?_
 simp +decide (disch := first | omega | rfl | (simp +decide only [go_sem, ↓reduceIte] <;> rfl) | fail) only [go_sem, ↓reduceIte]
 refine Qb (fun hz => ?_) (fun hz => ?_)
 ·simp +decide (disch := first | omega | rfl | (simp +decide only [go_sem, ↓reduceIte] <;> rfl) | fail) only [go_sem, ↓reduceIte]
  have : val a = 0 := Qbe.1 (List.length_eq_zero_iff.1 (by omega))
  exact ⟨rfl, _, Qv _, 0, rfl, by simp [this]⟩
 ·have hne : val a ≠ 0 := fun h => by rw [h, Qax] at hz; simp at hz
  have hlast := Qit (val a)
  have hlx := Qj (val a)
  generalize val a = x at *
  obtain ⟨k, hk⟩ : ∃ k, (dig x).length = k + 1 := ⟨(dig x).length - 1, by omega⟩
  have hlt : k < (dig x).length := by omega
  have hxk := Qag hlx hlt
  have hnz : (dig x)[k] ≠ 0 := by
   intro h; apply hlast
   rw [List.getLast?_eq_getElem?, hk, Nat.add_sub_cancel, List.getElem?_eq_getElem hlt, h]
  have e : ((k + 1 : Nat) : Int) - 1 = k := by omega
  generalize hxx : (dig x)[k] = xi at *
  have hb := Qjv hxk
  have hb1 := Qlm hxk hnz
  simp +decide (disch := first | omega | rfl | (simp +decide only [go_sem, ↓reduceIte, hk, e, hxx] <;> rfl) | fail) only [go_sem, ↓reduceIte, hk, e, hxx]
  refine Qa hP (Qpq hxk) rfl rfl rfl ?_
  have e2 : (16 : Int) * (k : Int) = ((16 * k : Nat) : Int) := by omega
  simp +decide (disch := first | omega | rfl | (simp +decide only [go_sem, ↓reduceIte, e2] <;> rfl) | fail) only [go_sem, ↓reduceIte, e2]
  exact ⟨rfl, _, Qv _, 16 * k + Lib.bitLen xi, rfl, by omega⟩
theorem Qadx (i : Nat) : 2 ^ (16 * i) = 65536 ^ i := by rw [Nat.pow_mul]
theorem Qmn {a : List Nat} (ha : Qh a) (hla : a.length < 2 ^ 40) : Qd Tryz.prog 195 [PV.nat a] (· = if nl (val a) <= 4 then .tup [.int .u64 (val a), .bool true] else .tup [.int .u64 0, .bool false]) := by
 have hd := Qai ha
 unfold nl at hd
 refine Qi Qm Tryz.func195 rfl Q7f (by simp [Q3d]) fun C hP => ?_; simp only [Q3d]
 simp +decide (disch := first | omega | rfl | (simp +decide only [go_sem, ↓reduceIte] <;> rfl) | fail) only [go_sem, ↓reduceIte]
 refine Qa hP (Qa2 ha (by omega)) rfl rfl rfl ?_
 simp +decide (disch := first | omega | rfl | (simp +decide only [go_sem, ↓reduceIte] <;> rfl) | fail) only [go_sem, ↓reduceIte]
 have hlx := Qj (val a)
 have Qda := Qy (val a)
 unfold nl
 generalize val a = x at *
 refine Qb (fun hz => ?_) (fun hz => ?_)
 ·simp +decide (disch := first | omega | rfl | (simp +decide only [go_sem, ↓reduceIte] <;> rfl) | fail) only [go_sem, ↓reduceIte]
  rw [if_neg (by omega)]
  exact Qcc rfl rfl rfl (Qv _) (Qv _)
 ·simp +decide (disch := first | omega | rfl | (simp +decide only [go_sem, ↓reduceIte] <;> rfl) | fail) only [go_sem, ↓reduceIte]
  rw [if_pos (by omega)]
  refine Qak (by repeat (first | exact Qx | exact Qp | exact Qq | exact Qr | exact Qt | apply Qo | apply Qw | apply Q3 | apply Q9 | apply Qaa | apply Qn)) [(4, 6), (14, 26)] [] (fun k J hp => ∃ i, k = (dig x).length - i /\ i <= (dig x).length /\ J 14 = .int .i64 i /\ J 4 = .int .u64 (val ((dig x).take i)) /\ hp = hp0) (dig x).length ?_ ?_
  ·refine ⟨0, rfl, by omega, ?_⟩
   simp +decide (disch := first | omega | rfl | (simp +decide only [go_sem, ↓reduceIte, true_and, and_true, List.take_zero] <;> rfl) | fail) only [go_sem, ↓reduceIte, true_and, and_true, List.take_zero]
   simp [val]
  rintro _ J _ ⟨i, rfl, hi, h14, h4, rfl⟩
  simp +decide (disch := first | omega | rfl | (simp +decide only [go_sem, ↓reduceIte, h14, h4] <;> rfl) | fail) only [go_sem, ↓reduceIte, h14, h4]
  refine Qb (fun hg => ?_) (fun hg => ?_)
  ·have hi' : i < (dig x).length := by omega
   have hxi := Qag hlx hi'
   have hts := Qev hi'
   have hvt := Qdl hlx i (by omega)
   generalize hxx : (dig x)[i] = xi at *
   have e2 : (16 : Int) * (i : Int) = ((16 * i : Nat) : Int) := by omega
   have hb : xi * 2 ^ (16 * i) + 2 ^ (16 * i) <= 18446744073709551616 := by
    have h3 : 2 ^ (16 * i) <= 2 ^ 48 := Nat.pow_le_pow_right (by omega) (by omega)
    have : (xi + 1) * 2 ^ (16 * i) <= 65536 * 2 ^ 48 := Nat.mul_le_mul (by omega) h3
    rw [Nat.add_mul] at this; omega
   have hpp : 0 < 2 ^ (16 * i) := Nat.pow_pos (by omega)
   rw [<- Qadx] at hts hvt
   have hor : (val ((dig x).take i) ||| xi * 2 ^ (16 * i)) = val ((dig x).take (i + 1)) := by
    rw [Nat.or_comm, Qmk hvt, hts, Nat.mul_comm, Nat.add_comm]
   simp +decide (disch := first | omega | rfl | (simp +decide only [go_sem, ↓reduceIte, h14, h4, hxx, e2, Qqm, Qtk, hor] <;> rfl) | fail) only [go_sem, ↓reduceIte, h14, h4, hxx, e2, Qqm, Qtk, hor]
   refine Qab ((dig x).length - (i + 1)) (by omega) ⟨i + 1, rfl, by omega, ?_⟩
   simp +decide (disch := first | omega | rfl | (simp +decide only [go_sem, ↓reduceIte, h14, true_and, and_true] <;> rfl) | fail) only [go_sem, ↓reduceIte, h14, true_and, and_true]
  ·obtain rfl : i = (dig x).length := by omega
   rw [List.take_length, Qda] at h4
   simp +decide (disch := first | omega | rfl | (simp +decide only [go_sem, ↓reduceIte, h4] <;> rfl) | fail) only [go_sem, ↓reduceIte, h4]
   exact Qcc rfl rfl rfl (Qv _) (Qv _)
end Go.Proofs.YtmnkngmmfnncoaaGreat
namespace Go.Proofs.YtmnkngmmfnncoaaGreat
open Go Go.FW
set_option linter.unusedSimpArgs false
set_option linter.unusedVariables false
set_option maxRecDepth 100000
set_option maxHeartbeats 2000000 in
theorem Qz4 {u v ex : List Nat} (hu : Qh u) (hv : Qh v) (hn : 2 <= v.length) (hlt : v.length < u.length) (htop : 32768 <= v.getD (v.length - 1) 0) (hinit : val (u.drop (u.length - v.length)) < val v) (hul : u.length + ex.length < 2 ^ 42) :
  Qia Tryz.prog 200 [.mso B0 0 u.length, PV.nat v] 156 (Qay (u ++ ex)) (fun r xs' => r = PV.num (val u / val v) /\ ∃ l, xs' = Qay (l ++ ex) /\ Qh l /\ l.length = u.length /\ val l = val u % val v) := by
 obtain ⟨n, hnv⟩ : ∃ n, v.length = n + 2 := ⟨v.length - 2, by omega⟩
 have e1 : (u.length : Int) - (v.length : Int) = ((u.length - v.length : Nat) : Int) := by omega
 have hvt := Qv4 hnv
 have hv0 := Qdl hv n (by omega)
 have hvlt := Qeu hv
 have hv1 := Qag hv (show n + 1 < v.length by omega)
 have hv2 := Qag hv (show n < v.length by omega)
 have hg1 : v[n + 1]'(by omega) = v.getD (n + 1) 0 := (Qa9 _).symm
 have hg2 : v[n]'(by omega) = v.getD n 0 := (Qa9 _).symm
 have htop' : 32768 <= v.getD (n + 1) 0 := by rw [hnv] at htop; exact htop
 rw [hg1] at hv1
 rw [hg2] at hv2
 rw [hnv] at hvlt
 have hvp : 0 < val v := by
  rw [hvt]
  have : 0 < 65536 ^ n := Nat.pow_pos (by omega)
  have : 0 < (v.getD (n + 1) 0 * 65536 + v.getD n 0) * 65536 ^ n := Nat.mul_pos (by omega) this
  omega
 refine Qja Qm Tryz.func200 rfl Q8f (by simp [Q4d]) fun C hP => ?_; simp only [Q4d]
 simp +decide (disch := first | omega | rfl | (simp +decide only [go_sem, ↓reduceIte, e1] <;> rfl) | fail) only [go_sem, ↓reduceIte, e1]
 refine Qtq (by repeat (first | exact Qx | exact Qp | exact Qq | exact Qr | exact Qt | apply Qo | apply Qw | apply Q3 | apply Q9 | apply Qaa | apply Qn)) [(7, 11), (24, 105)] [7, 9, 10] (fun k J hp => ∃ l qs, k + qs.length = u.length - v.length /\ Qh l /\ l.length = u.length /\ Qh qs /\ val (l.drop k) < val v /\ val u = val l + val v * (65536 ^ k * val qs) /\ J 7 = .mp 7 0 0 /\
  hp 7 = some ⟨1, 3, [.int .i64 ((k : Int) - 1)], false⟩ /\ hp 1000000 = some ⟨1, 156, Qay (l ++ ex), false⟩ /\ hp 18 = some ⟨1, 156, Qay (List.replicate k 0 ++ qs), false⟩ /\
  hp 3 = some ⟨1, 28, [PV.nat v], false⟩ /\ hp 5 = some ⟨1, 3, [.int .i64 v.length], false⟩) (u.length - v.length) ?_ ?_
 ·refine ⟨u, [], rfl, hu, rfl, Qch, hinit, by simp [val], ?_⟩
  simp +decide (disch := first | omega | rfl | (simp +decide only [go_sem, ↓reduceIte, true_and, and_true] <;> rfl) | fail) only [go_sem, ↓reduceIte, true_and, and_true]
  simp
 intro F hF
 have hF2 : F 2 = .rb 1000000 0 u.length := by rw [hF]; simp +decide (disch := first | omega | rfl | (simp +decide only [go_sem, ↓reduceIte] <;> rfl) | fail) only [go_sem, ↓reduceIte]
 have hF3 : F 3 = .mp 3 0 0 := by rw [hF]; simp +decide (disch := first | omega | rfl | (simp +decide only [go_sem, ↓reduceIte] <;> rfl) | fail) only [go_sem, ↓reduceIte]
 have hF5 : F 5 = .mp 5 0 0 := by rw [hF]; simp +decide (disch := first | omega | rfl | (simp +decide only [go_sem, ↓reduceIte] <;> rfl) | fail) only [go_sem, ↓reduceIte]
 have hF6 : F 6 = .ms 18 (u.length - v.length) := by rw [hF]; simp +decide (disch := first | omega | rfl | (simp +decide only [go_sem, ↓reduceIte] <;> rfl) | fail) only [go_sem, ↓reduceIte]
 have hkF : ∀ β, [7, 9, 10].contains β = true -> Qan β F = F := fun β h => by rw [hF]; exact Qgj h
 have hk9 := hkF 9 rfl
 have hk10 := hkF 10 rfl
 have hk7 := hkF 7 rfl
 have hkk : Q5 [9, 10] F = F := by rw [hF]; exact Qr8 rfl
 clear hkF hF
 rintro k J h ⟨l, qs, hsum, hl, hll, hqs, hred, Qda, hJ7, hh7, hhB, hh18, hh3, hh5⟩
 simp +decide (disch := first | omega | rfl | (simp +decide only [go_sem, ↓reduceIte, hJ7, hh7, hhB, hh18, hh3, hh5, hF2, hF3, hF5, hF6] <;> rfl) | fail) only [go_sem, ↓reduceIte, hJ7, hh7, hhB, hh18, hh3, hh5, hF2, hF3, hF5, hF6]
 refine Qb (fun hg => ?_) (fun hg => ?_)
 ·obtain _ | j := k
  ·omega
  have e2 : ((j + 1 : Nat) : Int) - 1 = j := by omega
  have e3 : ((n + 2 : Nat) : Int) - 1 = ((n + 1 : Nat) : Int) := by omega
  have e4 : ((j + (n + 2) : Nat) : Int) - 1 = ((j + (n + 1) : Nat) : Int) := by omega
  obtain ⟨pre, w, post, hlw, hpl, hwl, hpre, hw, hpost, hpost0, hdj, hwlt, w0, hw0, hwv⟩ := Qaa9 (n := n) hl (by omega) (by omega) hred
  have hl2 := Qag hl (show j + (n + 2) < l.length by omega)
  have hl1 := Qag hl (show j + (n + 1) < l.length by omega)
  have hl0 := Qag hl (show j + n < l.length by omega)
  have hlel : (l ++ ex).length = u.length + ex.length := by rw [List.length_append, hll]
  have hgl2 : (l ++ ex)[j + (n + 2)]'(by omega) = l.getD (j + (n + 2)) 0 := by rw [List.getElem_append_left (by omega)]; exact (Qa9 _).symm
  have hgl1 : (l ++ ex)[j + (n + 1)]'(by omega) = l.getD (j + (n + 1)) 0 := by rw [List.getElem_append_left (by omega)]; exact (Qa9 _).symm
  rw [<- Qa9 (by omega)] at hl2 hl1
  have htk2 : (Qay (l ++ ex)).take u.length = Qay l := by rw [<- List.map_take, <- hll, List.take_left]
  have hlw2 : l ++ ex = pre ++ (w ++ (post ++ ex)) := by rw [hlw]; simp
  generalize l.getD (j + (n + 2)) 0 = w2 at *
  generalize l.getD (j + (n + 1)) 0 = w1 at *
  simp +decide (disch := first | omega | rfl | (simp +decide only [go_sem, ↓reduceIte, hJ7, hh7, hhB, hh18, hh3, hh5, hF2, hF3, hF5, hF6, hnv, e2, e3, e4, hgl2, hgl1, hg1, Qjc, Qk8, Qib, Qdq] <;> rfl) | fail) only [go_sem, ↓reduceIte, hJ7, hh7, hhB, hh18, hh3, hh5, hF2, hF3, hF5, hF6, hnv, e2, e3, e4, hgl2, hgl1, hg1, Qjc, Qk8, Qib, Qdq]
  have hwl2 : w.length = n + 3 := hwl
  have hdigit := Qw3 hvt hwv hw0 (by rw [<- Qa9 (show j + n < l.length by omega)] at hl0; omega) (by omega : 0 < v.getD (n + 1) 0)
  have hhi := Q2u hvt hwv hv0 hwlt (Nat.pow_pos (by omega))
  have hdm := Nat.div_add_mod (w2 * 65536 + w1) (v.getD (n + 1) 0)
  have hdlt : (w2 * 65536 + w1) / v.getD (n + 1) 0 < 131072 := by rw [Nat.div_lt_iff_lt_mul (by omega)]; omega
  have hrlt := Nat.mod_lt (w2 * 65536 + w1) (by omega : 0 < v.getD (n + 1) 0)
  rw [Nat.mul_comm] at hdm
  generalize hd0 : (w2 * 65536 + w1) / v.getD (n + 1) 0 = d0 at *
  generalize hr0 : (w2 * 65536 + w1) % v.getD (n + 1) 0 = r0 at *
  have hcomm : ∀ (h : HP) v w, Qk (Qk h 10 v) 9 w = Qk (Qk h 9 w) 10 v := fun h v w => Qzr 10 9 (by decide) h v w
  refine Q60 (fun J => J 7 = .mp 7 0 0 /\ J 52 = .int .u64 d0 /\ J 53 = .int .u64 (w2 * 65536 + w1 : Nat)) (by simp +decide (disch := first | omega | rfl | (simp +decide only [go_sem, ↓reduceIte, hJ7, true_and, and_true] <;> rfl) | fail) only [go_sem, ↓reduceIte, hJ7, true_and, and_true]) ?_
  clear hJ7
  rintro J ⟨hJ7, hJ52, hJ53⟩
  refine Q2v (by repeat (first | exact Qx | exact Qp | exact Qq | exact Qr | exact Qt | apply Qo | apply Qw | apply Q3 | apply Q9 | apply Qaa | apply Qn)) [9, 10] (fun J2 hp2 => J2 7 = .mp 7 0 0 /\ J2 9 = .mp 9 0 0 /\ J2 10 = .mp 10 0 0 /\ hp2 = Qk (Qk h 9 ⟨1, 120, [.int .u64 d0], false⟩) 10 ⟨1, 120, [.int .u64 r0], false⟩) ?_ ?_
  ·intro F' hF'
   have hF'3 : F' 3 = .mp 3 0 0 := by rw [hF']; simp +decide (disch := first | omega | rfl | (simp +decide only [go_sem, ↓reduceIte, hF3] <;> rfl) | fail) only [go_sem, ↓reduceIte, hF3]
   have hF'5 : F' 5 = .mp 5 0 0 := by rw [hF']; simp +decide (disch := first | omega | rfl | (simp +decide only [go_sem, ↓reduceIte, hF5] <;> rfl) | fail) only [go_sem, ↓reduceIte, hF5]
   have hk9' : Qan 9 F' = F' := by rw [hF']; exact Qgj rfl
   have hk10' : Qan 10 F' = F' := by rw [hF']; exact Qgj rfl
   clear hF'
   repeat' (first | refine Qcg ?_ ?_ | simp +decide (disch := first | omega | rfl | (simp +decide only [go_sem, ↓reduceIte, hJ7, hJ52, hJ53, hh3, hh5, hF'3, hF'5, hk9', hk10', hnv, e3, hg1, Qdq] <;> rfl) | fail) only [go_sem, ↓reduceIte, hJ7, hJ52, hJ53, hh3, hh5, hF'3, hF'5, hk9', hk10', hnv, e3, hg1, Qdq])
   all_goals refine Qkg (J := _) ?_
   all_goals simp +decide (disch := first | omega | rfl | (simp +decide only [go_sem, ↓reduceIte, hJ7, hr0, hcomm, true_and, and_true] <;> rfl) | fail) only [go_sem, ↓reduceIte, hJ7, hr0, hcomm, true_and, and_true]
  clear hJ7 hJ52 hJ53 J
  rintro J _ ⟨hJ7, hJ9, hJ10, rfl⟩
  simp +decide (disch := first | omega | rfl | (simp +decide only [go_sem, ↓reduceIte, hJ7, hJ9, hJ10, hF2, hF3, hF5, hF6, caps, List.all_cons, List.all_nil, List.cons_append, List.nil_append, true_and] <;> rfl) | fail) only [go_sem, ↓reduceIte, hJ7, hJ9, hJ10, hF2, hF3, hF5, hF6, caps, List.all_cons, List.all_nil, List.cons_append, List.nil_append, true_and]
  refine Qtq (by repeat (first | exact Qx | exact Qp | exact Qq | exact Qr | exact Qt | apply Qo | apply Qw | apply Q3 | apply Q9 | apply Qaa | apply Qn)) [(62, 77)] [] (fun m J hp => ∃ d r, m = d /\ d * v.getD (n + 1) 0 + r = w2 * 65536 + w1 /\ val w < (d + 1) * val v /\ hp = Qk (Qk h 9 ⟨1, 120, [.int .u64 d], false⟩) 10 ⟨1, 120, [.int .u64 r], false⟩) d0 ?_ ?_
  ·exact ⟨d0, r0, rfl, hdm, hdigit, rfl⟩
  intro F1 hF1
  have hE9 : F1 9 = .mp 9 0 0 := by rw [hF1, Qbz]; simp +decide (disch := first | omega | rfl | (simp +decide only [go_sem, ↓reduceIte, hJ9] <;> rfl) | fail) only [go_sem, ↓reduceIte, hJ9]
  have hE10 : F1 10 = .mp 10 0 0 := by rw [hF1, Qbz]; simp +decide (disch := first | omega | rfl | (simp +decide only [go_sem, ↓reduceIte, hJ10] <;> rfl) | fail) only [go_sem, ↓reduceIte, hJ10]
  have hE11 : F1 11 = .fn 221 [] [.mp 9 0 0, .mp 3 0 0, .mp 5 0 0, .mp 10 0 0, .rb 1000000 0 u.length, .mp 7 0 0] := by rw [hF1, Qbz]; simp +decide (disch := first | omega | rfl | (simp +decide only [go_sem, ↓reduceIte] <;> rfl) | fail) only [go_sem, ↓reduceIte]
  have hE3 : F1 3 = .mp 3 0 0 := by rw [hF1, Qbz]; simp +decide (disch := first | omega | rfl | (simp +decide only [go_sem, ↓reduceIte, hF3] <;> rfl) | fail) only [go_sem, ↓reduceIte, hF3]
  have hE5 : F1 5 = .mp 5 0 0 := by rw [hF1, Qbz]; simp +decide (disch := first | omega | rfl | (simp +decide only [go_sem, ↓reduceIte, hF5] <;> rfl) | fail) only [go_sem, ↓reduceIte, hF5]
  rintro d J2 _ ⟨_, r, rfl, hdr, hdW, rfl⟩
  have hd17 : d < 131072 := by
   have : d * 32768 <= d * v.getD (n + 1) 0 := Nat.mul_le_mul_left _ htop'
   omega
  simp +decide (disch := first | omega | rfl | (simp +decide only [go_sem, ↓reduceIte, hE9, hE10, hE11] <;> rfl) | fail) only [go_sem, ↓reduceIte, hE9, hE10, hE11]
  refine Qu3 (by repeat (first | exact Qx | exact Qp | exact Qq | exact Qr | exact Qt | apply Qo | apply Qw | apply Q3 | apply Q9 | apply Qaa | apply Qn)) [(62, 67)] [] (fun J hp => J 67 = .bool (decide (r < 65536 /\ (65536 <= d ∨ r * 65536 + l.getD (j + n) 0 < d * v.getD n 0))) /\ hp = Qk (Qk h 9 ⟨1, 120, [.int .u64 d], false⟩) 10 ⟨1, 120, [.int .u64 r], false⟩) ?_ ?_
  ·refine Qb3 (fun hr => ?_) (fun hr => ?_)
   ·simp +decide (disch := first | omega | rfl | (simp +decide only [go_sem, ↓reduceIte, hE9, hE10, hE11] <;> rfl) | fail) only [go_sem, ↓reduceIte, hE9, hE10, hE11]
    refine Qzf hP (Qsa (dg := d) (r := r) (j := j) hv hl hn rfl (by omega) (by omega) (by omega) (by omega)) (by simp +decide (disch := first | omega | rfl | (simp +decide only [go_sem, ↓reduceIte, Qcl, hhB, hh3, hh5, hh7, e2, List.append_nil, List.nil_append, List.getElem?_cons_zero, List.drop_zero, List.take_of_length_le] <;> rfl) | fail) only [go_sem, ↓reduceIte, Qcl, hhB, hh3, hh5, hh7, e2, List.append_nil, List.nil_append, List.getElem?_cons_zero, List.drop_zero, List.take_of_length_le]; simp only [List.drop_zero, htk2]) rfl rfl ?_
    simp +decide (disch := first | omega | rfl | (simp +decide only [go_sem, ↓reduceIte, hnv] <;> rfl) | fail) only [go_sem, ↓reduceIte, hnv]
    refine Qkg ⟨?_, rfl⟩
    simp +decide (disch := first | omega | rfl | (simp +decide only [go_sem, ↓reduceIte] <;> rfl) | fail) only [go_sem, ↓reduceIte]
    rw [show j + (n + 2) - 2 = j + n by omega, show n + 2 - 2 = n by omega]
    exact congrArg PV.bool (decide_eq_decide.2 ⟨fun h => ⟨by omega, h⟩, fun h => h.2⟩)
   ·simp +decide (disch := first | omega | rfl | (simp +decide only [go_sem, ↓reduceIte, hE9, hE10, hE11] <;> rfl) | fail) only [go_sem, ↓reduceIte, hE9, hE10, hE11]
    refine Qkg ⟨?_, rfl⟩
    simp +decide (disch := first | omega | rfl | (simp +decide only [go_sem, ↓reduceIte] <;> rfl) | fail) only [go_sem, ↓reduceIte]
    simp; omega
  rintro J3 _ ⟨h67, rfl⟩
  simp (disch := decide) only [Qbz, Qb9]
  simp +decide (disch := first | omega | rfl | (simp +decide only [go_sem, ↓reduceIte, h67] <;> rfl) | fail) only [go_sem, ↓reduceIte, h67]
  refine Qb (fun ht => ?_) (fun ht => ?_)
  ·obtain ⟨hr, ht⟩ := ht
   have hlt2 : val w < d * val v := by
    rcases ht with ht | ht
    ·exact Nat.lt_of_lt_of_le hwlt (Nat.mul_le_mul_right _ ht)
    ·exact Q2s hvt hwv hw0 hdr ht
   obtain _ | d := d
   ·omega
   have e5 : ((d + 1 : Nat) : Int) - 1 = (d : Nat) := by omega
   simp +decide (disch := first | omega | rfl | (simp +decide only [go_sem, ↓reduceIte, hE9, hE10, hE3, hE5, hh3, hh5, hnv, e3, e5, hg1, hcomm] <;> rfl) | fail) only [go_sem, ↓reduceIte, hE9, hE10, hE3, hE5, hh3, hh5, hnv, e3, e5, hg1, hcomm]
   refine Qab d (by omega) ⟨d, r + v.getD (n + 1) 0, rfl, ?_, hlt2, rfl⟩
   rw [Nat.add_mul] at hdr; omega
  have hd65 : d < 65536 := by
   apply Decidable.byContradiction
   intro hge
   apply ht
   refine ⟨?_, .inl (by omega)⟩
   have : 65536 * v.getD (n + 1) 0 <= d * v.getD (n + 1) 0 := Nat.mul_le_mul_right _ (by omega)
   omega
  have htest : ¬ r * 65536 + l.getD (j + n) 0 < d * v.getD n 0 := by
   intro hlt3
   by_cases hr : r < 65536
   ·exact ht ⟨hr, .inr hlt3⟩
   ·have := Qek hd65 hv2
    omega
  have e5 : j + (n + 2) + 1 - j = n + 3 := by omega
  subst hF1
  simp (disch := decide) only [Qbz, hkk, Qb9]
  simp +decide (disch := first | omega | rfl | (simp +decide only [go_sem, ↓reduceIte, hJ7, hJ9, hJ10, hF2, hF3, hF5, hF6, hh3, hh5, hh7, hhB, e2, hnv, e5] <;> rfl) | fail) only [go_sem, ↓reduceIte, hJ7, hJ9, hJ10, hF2, hF3, hF5, hF6, hh3, hh5, hh7, hhB, e2, hnv, e5]
  have hsq := Qtj w v d 0 0 hw (by omega) (by omega)
  have hcar := Qpm w v d 0 0 (by omega) (by omega) hd65 hv
  have hsl := Qpj w v d 0 0
  have hsln := Qnu w v d 0 0
  have hwB := Qeu hw
  rw [hwl] at hsq hwB
  refine Qpf hP (Qr9 (pre := pre) (w := w) (post := post ++ ex) (j := j) (m := n + 3) (q := d) hw hv hd65 hpl hwl (by omega) (by rw [<- hlw2]; omega)) (β := 1000000) (by simp +decide (disch := first | omega | rfl | (simp +decide only [go_sem, ↓reduceIte, hhB, hlw2] <;> rfl) | fail) only [go_sem, ↓reduceIte, hhB, hlw2]) (Qea _) (by simp; omega) (by simp [toB, B0]) rfl ?_
  rintro _ _ _ _ ⟨rfl, rfl⟩
  generalize Qcs w v d 0 0 = sq at *
  obtain ⟨⟨hsq, hb1⟩, hcar⟩ := And.intro hsq hcar
  have hSB := Qeu hsl
  rw [hsln, hwl] at hSB
  have hpll : pre.length + (w.length + post.length) = u.length := by rw [<- hll, hlw]; simp
  have hs18 : j < (List.replicate (j + 1) 0 ++ qs).length := by simp; omega
  have hvl2 : val l = val pre + 65536 ^ j * val w := by
   rw [hlw, Qby, Qby, hpost0, hpl, Nat.mul_zero, Nat.add_zero]
  simp +decide (disch := first | omega | rfl | (simp +decide only [go_sem, ↓reduceIte, Qfk, hJ7, hJ9, hJ10, hF2, hF3, hF5, hF6] <;> rfl) | fail) only [go_sem, ↓reduceIte, Qfk, hJ7, hJ9, hJ10, hF2, hF3, hF5, hF6]
  refine Qb (fun hb => ?_) (fun hb => ?_)
  ·have hb2 : sq.2.2 = 1 := by omega
   rw [hcar, hb2] at hsq
   obtain _ | d := d
   ·omega
   have heV := Q2t hvt hwv hv0 (by omega) hd65 hdr htest
   obtain ⟨k, hk⟩ := Qti sq.1 v 0 (by omega)
   have hrl := Qpi sq.1 v 0
   have hrln := Qnt sq.1 v 0
   rw [hsln, hwl] at hk hrln
   have hrB := Qeu hrl
   rw [hrln] at hrB
   obtain ⟨hR1, hR2⟩ := Q61 (B := 65536 ^ (n + 3)) (S := val sq.1) (e := d) (by omega) hSB heV (by omega) hrB hwB
   have e6 : ((d + 1 : Nat) : Int) - 1 = (d : Nat) := by omega
   simp +decide (disch := first | omega | rfl | (simp +decide only [go_sem, ↓reduceIte, hJ7, hJ9, hJ10, hF2, hF3, hF5, hF6, hh3, hh5, hh7, hhB, e2, e6, hnv, e5] <;> rfl) | fail) only [go_sem, ↓reduceIte, hJ7, hJ9, hJ10, hF2, hF3, hF5, hF6, hh3, hh5, hh7, hhB, e2, e6, hnv, e5]
   refine Qpf hP (Qt2 (pre := pre) (w := sq.1) (post := post ++ ex) (j := j) (m := n + 3) hsl hv hpl (by omega) (by omega) (by simp; omega)) (β := 1000000) (by simp +decide (disch := first | omega | rfl | (simp +decide only [go_sem, ↓reduceIte] <;> rfl) | fail) only [go_sem, ↓reduceIte]) (Qea _) (by simp; omega) (by simp [toB, B0]) rfl ?_
   rintro _ _ _ _ ⟨rfl, rfl⟩
   have hback := Qrg (q := d) (R := Qfb sq.1 v 0) hpl hpost0 Qda hvl2 hR2
   simp +decide (disch := first | omega | rfl | (simp +decide only [go_sem, ↓reduceIte, Qfk, hJ7, hJ9, hJ10, hF2, hF3, hF5, hF6, hh3, hh5, hh7, hhB, hh18, e2, e6, hnv, e5, Qnc, Nat.mod_eq_of_lt (by omega : d < 65536), hk7] <;> rfl) | fail) only [go_sem, ↓reduceIte, Qfk, hJ7, hJ9, hJ10, hF2, hF3, hF5, hF6, hh3, hh5, hh7, hhB, hh18, e2, e6, hnv, e5, Qnc, Nat.mod_eq_of_lt (by omega : d < 65536), hk7]
   refine Qab j (by omega) ⟨pre ++ (Qfb sq.1 v 0 ++ post), d :: qs, by simp; omega, ?_, ?_, ?_, ?_, hback.2, ?_⟩
   ·rw [Qbk, Qbk]; exact ⟨hpre, hrl, hpost⟩
   ·simp; omega
   ·rw [Qar]; exact ⟨by omega, hqs⟩
   ·rw [hback.1]; exact hR1
   ·simp +decide (disch := first | omega | rfl | (simp +decide only [go_sem, ↓reduceIte, hh3, hh5, true_and, and_true, hnv, List.append_assoc] <;> rfl) | fail) only [go_sem, ↓reduceIte, hh3, hh5, true_and, and_true, hnv, List.append_assoc]
  ·have hb2 : sq.2.2 = 0 := by omega
   rw [hcar, hb2] at hsq
   obtain ⟨hR1, hR2⟩ := Qabb (S := val sq.1) (d := d) (by omega) hdW
   have hback := Qrg (q := d) (R := sq.1) hpl hpost0 Qda hvl2 hR2
   simp +decide (disch := first | omega | rfl | (simp +decide only [go_sem, ↓reduceIte, Qfk, hJ7, hJ9, hJ10, hF2, hF3, hF5, hF6, hh3, hh5, hh7, hhB, hh18, e2, hnv, e5, Qnc, Nat.mod_eq_of_lt hd65, hk7] <;> rfl) | fail) only [go_sem, ↓reduceIte, Qfk, hJ7, hJ9, hJ10, hF2, hF3, hF5, hF6, hh3, hh5, hh7, hhB, hh18, e2, hnv, e5, Qnc, Nat.mod_eq_of_lt hd65, hk7]
   refine Qab j (by omega) ⟨pre ++ (sq.1 ++ post), d :: qs, by simp; omega, ?_, ?_, ?_, ?_, hback.2, ?_⟩
   ·rw [Qbk, Qbk]; exact ⟨hpre, hsl, hpost⟩
   ·simp; omega
   ·rw [Qar]; exact ⟨hd65, hqs⟩
   ·rw [hback.1]; exact hR1
   ·simp +decide (disch := first | omega | rfl | (simp +decide only [go_sem, ↓reduceIte, hh3, hh5, true_and, and_true, hnv, List.append_assoc] <;> rfl) | fail) only [go_sem, ↓reduceIte, hh3, hh5, true_and, and_true, hnv, List.append_assoc]
 ·obtain rfl : k = 0 := by omega
  rw [List.drop_zero] at hred
  rw [Nat.pow_zero, Nat.one_mul] at Qda
  have hdiv : val u / val v = val qs := by
   rw [Qda, Nat.add_mul_div_left _ _ hvp, Nat.div_eq_of_lt hred, Nat.zero_add]
  have hmod : val u % val v = val l := by
   rw [Qda, Nat.add_mul_mod_self_left, Nat.mod_eq_of_lt hred]
  simp +decide (disch := first | omega | rfl | (simp +decide only [go_sem, ↓reduceIte, hJ7, hh7, hhB, hh18, hh3, hh5, hF2, hF3, hF5, hF6, List.replicate_zero, List.nil_append] <;> rfl) | fail) only [go_sem, ↓reduceIte, hJ7, hh7, hhB, hh18, hh3, hh5, hF2, hF3, hF5, hF6, List.replicate_zero, List.nil_append]
  refine Qcv hP (Qa2 hqs (by omega)) (Qiu (ty := 156) (fz := false) (by simp +decide (disch := first | omega | rfl | (simp +decide only [go_sem, ↓reduceIte, hh18, List.replicate_zero, List.nil_append] <;> rfl) | fail) only [go_sem, ↓reduceIte, hh18, List.replicate_zero, List.nil_append]) (by omega)) rfl ?_
  simp +decide (disch := first | omega | rfl | (simp +decide only [go_sem, ↓reduceIte] <;> rfl) | fail) only [go_sem, ↓reduceIte]
  refine Qzi (xs' := Qay (l ++ ex)) (p := PV.num (val qs)) ?_ (Qea _) (by simp; omega) (by simp +decide (disch := first | omega | rfl | (simp +decide only [go_sem, ↓reduceIte] <;> rfl) | fail) only [go_sem, ↓reduceIte]) rfl ⟨by rw [hdiv], l, rfl, hl, hll, hmod.symm⟩
  show FW.Q7 h [18] 1000000 = _
  simp only [FW.Q7]
  rw [if_neg (by decide), hhB]
end Go.Proofs.YtmnkngmmfnncoaaGreat
namespace Go.Proofs.YtmnkngmmfnncoaaGreat
open Go Go.FW
set_option linter.unusedSimpArgs false
set_option linter.unusedVariables false
set_option maxRecDepth 100000
theorem Qxi {a : List Nat} {s : Nat} (ha : Qh a) (hla : a.length < 2 ^ 40) (hs : s <= 15) : Qd Tryz.prog 199 [PV.nat a, .int .i64 (-(s : Int))] (· = PV.num (val a / 2 ^ s)) := by
 have hda := Qai ha
 unfold nl at hda
 by_cases h0 : val a = 0
 ·refine Qi Qm Tryz.func199 rfl Qqt (by simp [Qoo]) fun C hP => ?_; simp only [Qoo]
  simp +decide (disch := first | omega | rfl | (simp +decide only [go_sem, ↓reduceIte] <;> rfl) | fail) only [go_sem, ↓reduceIte]
  refine Qa hP (Qa2 ha (by omega)) rfl rfl rfl ?_
  simp +decide (disch := first | omega | rfl | (simp +decide only [go_sem, ↓reduceIte] <;> rfl) | fail) only [go_sem, ↓reduceIte]
  refine Qa3 (fun hz => by omega) (fun hz => ?_)
  simp +decide (disch := first | omega | rfl | (simp +decide only [go_sem, ↓reduceIte] <;> rfl) | fail) only [go_sem, ↓reduceIte]
  refine Qa3 (fun hz => by omega) (fun hz => ?_)
  simp +decide (disch := first | omega | rfl | (simp +decide only [go_sem, ↓reduceIte] <;> rfl) | fail) only [go_sem, ↓reduceIte]
  refine Qb (fun hz => ?_) (fun hz => absurd (by rw [h0, Qax]; rfl) hz)
  simp +decide (disch := first | omega | rfl | (simp +decide only [go_sem, ↓reduceIte] <;> rfl) | fail) only [go_sem, ↓reduceIte]
  exact Qgy (Qke (by simp [h0])) rfl
 by_cases hs0 : s = 0
 ·subst hs0
  have := (Qju (s := 0) ha hla (by omega) h0).toV
  rw [Nat.pow_zero, Nat.mul_one] at this
  rw [Nat.pow_zero, Nat.div_one]
  exact this
 have hnz : (dig (val a)).length ≠ 0 := fun h => h0 (Qbe.1 (Qcr h))
 refine Qi Qm Tryz.func199 rfl Qqt (by simp [Qoo]) fun C hP => ?_; simp only [Qoo]
 simp +decide (disch := first | omega | rfl | (simp +decide only [go_sem, ↓reduceIte] <;> rfl) | fail) only [go_sem, ↓reduceIte]
 refine Qa hP (Qa2 ha (by omega)) rfl rfl rfl ?_
 simp +decide (disch := first | omega | rfl | (simp +decide only [go_sem, ↓reduceIte] <;> rfl) | fail) only [go_sem, ↓reduceIte]
 refine Qa3 (fun hz => by omega) (fun hz => ?_)
 simp +decide (disch := first | omega | rfl | (simp +decide only [go_sem, ↓reduceIte] <;> rfl) | fail) only [go_sem, ↓reduceIte]
 refine Qa3 (fun hz => by omega) (fun hz => ?_)
 simp +decide (disch := first | omega | rfl | (simp +decide only [go_sem, ↓reduceIte] <;> rfl) | fail) only [go_sem, ↓reduceIte]
 refine Qb (fun hz => by omega) (fun hz => ?_)
 simp +decide (disch := first | omega | rfl | (simp +decide only [go_sem, ↓reduceIte] <;> rfl) | fail) only [go_sem, ↓reduceIte]
 refine Qb (fun hz => ?_) (fun hz => by omega)
 have e : (0 : Int) - -(s : Int) = (s : Nat) := by omega
 simp +decide (disch := first | omega | rfl | (simp +decide only [go_sem, ↓reduceIte, e] <;> rfl) | fail) only [go_sem, ↓reduceIte, e]
 refine Qa hP (Qxg (Qj (val a)) (by omega) hs) rfl rfl rfl ?_
 simp +decide (disch := first | omega | rfl | (simp +decide only [go_sem, ↓reduceIte, Qy] <;> rfl) | fail) only [go_sem, ↓reduceIte, Qy]
 exact Qc rfl rfl
theorem Qxj {x d : Nat} (hx : (dig x).length < 2 ^ 42) (hd : 0 < d) (hd2 : d < 65536) : Qd Tryz.prog 197 [PV.num x, .int .u16 d] (· = .tup [PV.num (x / d), .int .u16 (x % d : Nat)]) := by
 have := Qu8 (Qj x) hx hd hd2
 rwa [Qy] at this
theorem Qjw {a b : List Nat} (ha : Qh a) (hb : Qh b) (hla : a.length < 2 ^ 38) (hlb : b.length < 2 ^ 38) : Qd Tryz.prog 145 [PV.nat a, PV.nat b]
  (· = if val b = 0 then .tup [PV.num 0, PV.num 0, .int .i64 3] else .tup [PV.num (val a / val b), PV.num (val a % val b), .int .i64 0]) := by
 have hda := Qai ha
 have hdb := Qai hb
 unfold nl at hda hdb
 refine Qi Qm Tryz.func145 rfl Q7m (by simp [Q3k]) fun C hP => ?_; simp only [Q3k]
 simp +decide (disch := first | omega | rfl | (simp +decide only [go_sem, ↓reduceIte] <;> rfl) | fail) only [go_sem, ↓reduceIte]
 refine Qa hP (Qa2 ha (by omega)) rfl rfl rfl ?_
 simp +decide (disch := first | omega | rfl | (simp +decide only [go_sem, ↓reduceIte] <;> rfl) | fail) only [go_sem, ↓reduceIte]
 refine Qa hP (Qa2 hb (by omega)) rfl rfl rfl ?_
 simp +decide (disch := first | omega | rfl | (simp +decide only [go_sem, ↓reduceIte] <;> rfl) | fail) only [go_sem, ↓reduceIte]
 have hxl := Qj (val a)
 have hyl := Qj (val b)
 have hxv := Qy (val a)
 have hyv := Qy (val b)
 have hylast := Qit (val b)
 generalize val a = x at *
 generalize val b = y at *
 refine Qb (fun hz => ?_) (fun hz => ?_)
 ·have hy0 : y = 0 := Qbe.1 (Qcr (by omega))
  simp +decide (disch := first | omega | rfl | (simp +decide only [go_sem, ↓reduceIte] <;> rfl) | fail) only [go_sem, ↓reduceIte]
  rw [if_pos hy0]
  exact Qk6 rfl rfl rfl rfl Qgz Qgz (Qv _)
 have hy0 : y ≠ 0 := fun h => by rw [h, Qax] at hz; simp at hz
 rw [if_neg hy0]
 simp +decide (disch := first | omega | rfl | (simp +decide only [go_sem, ↓reduceIte] <;> rfl) | fail) only [go_sem, ↓reduceIte]
 refine Qa hP (Qlk hxl hyl (by omega) (by omega)) rfl rfl rfl ?_
 simp +decide (disch := first | omega | rfl | (simp +decide only [go_sem, ↓reduceIte, hxv, hyv] <;> rfl) | fail) only [go_sem, ↓reduceIte, hxv, hyv]
 refine Qb (fun hc => ?_) (fun hc => ?_)
 ·have hlt : x < y := by
   unfold Qdg at hc; split at hc
   ·assumption
   ·split at hc <;> omega
  simp +decide (disch := first | omega | rfl | (simp +decide only [go_sem, ↓reduceIte] <;> rfl) | fail) only [go_sem, ↓reduceIte]
  refine Qa hP (Qho hxl (by omega)) rfl rfl rfl ?_
  simp +decide (disch := first | omega | rfl | (simp +decide only [go_sem, ↓reduceIte, hxv] <;> rfl) | fail) only [go_sem, ↓reduceIte, hxv]
  exact Qk6 rfl rfl rfl rfl (Qke (Nat.div_eq_of_lt hlt)) (Qfz (by rw [Nat.mod_eq_of_lt hlt])) (Qv _)
 have hge : y <= x := by
  unfold Qdg at hc; split at hc <;> omega
 simp +decide (disch := first | omega | rfl | (simp +decide only [go_sem, ↓reduceIte] <;> rfl) | fail) only [go_sem, ↓reduceIte]
 refine Qb (fun h1 => ?_) (fun h1 => ?_)
 ·obtain ⟨d, hd⟩ : ∃ d, dig y = [d] := by
   match h : dig y, h1 with
   | [d], _ => exact ⟨d, rfl⟩
   | [], h1 => simp at h1
   | _ :: _ :: _, h1 => simp at h1; omega
  have hyd : y = d := by rw [<- hyv, hd]; simp [val]
  have hd1 : d < 65536 := by rw [hd] at hyl; exact hyl d (by simp)
  simp +decide (disch := first | omega | rfl | (simp +decide only [go_sem, ↓reduceIte, hd, List.map_cons, List.map_nil, List.length_cons, List.length_nil] <;> rfl) | fail) only [go_sem, ↓reduceIte, hd, List.map_cons, List.map_nil, List.length_cons, List.length_nil]
  refine Qa hP (Qxj (x := x) (d := d) (by omega) (by omega) hd1) (by rw [PV.num]; rfl) rfl rfl ?_
  have hm : x % d < 18446744073709551616 := by have := Nat.mod_lt x (show 0 < d by omega); omega
  simp +decide (disch := first | omega | rfl | (simp +decide only [go_sem, ↓reduceIte] <;> rfl) | fail) only [go_sem, ↓reduceIte]
  refine Qa hP (Qnh hm) rfl rfl rfl ?_
  simp +decide (disch := first | omega | rfl | (simp +decide only [go_sem, ↓reduceIte] <;> rfl) | fail) only [go_sem, ↓reduceIte]
  rw [hyd]
  exact Qk6 rfl rfl rfl rfl (Qv _) (Qv _) (Qv _)
 obtain ⟨n, hn⟩ : ∃ n, (dig y).length = n + 2 := ⟨(dig y).length - 2, by omega⟩
 obtain ⟨m, hm⟩ : ∃ m, (dig x).length = m + 2 := by
  have := Qbs hge
  unfold nl at this
  exact ⟨(dig x).length - 2, by omega⟩
 have e1 : ((n + 2 : Nat) : Int) - 1 = ((n + 1 : Nat) : Int) := by omega
 have hlast : (dig y)[n + 1]'(by omega) ≠ 0 := by
  intro h; apply hylast
  have : (dig y).getLast? = some ((dig y)[n + 1]'(by omega)) := by
   rw [List.getLast?_eq_getElem?, show (dig y).length - 1 = n + 1 by omega]; exact List.getElem?_eq_getElem _
  rw [this, h]
 have hy1 := Qag hyl (show n + 1 < (dig y).length by omega)
 have hdyv : val (dig y) = y := Qy y
 generalize hyi : (dig y)[n + 1]'(by omega) = yi at *
 have hbl := Qjv hy1
 have hbp := Qlm hy1 hlast
 obtain ⟨htp, htp2⟩ := Qxh _ yi rfl hlast hy1
 obtain ⟨s, hs, hs15⟩ : ∃ s, 16 - Lib.bitLen yi = s /\ s <= 15 := ⟨_, rfl, by omega⟩
 simp +decide (disch := first | omega | rfl | (simp +decide only [go_sem, ↓reduceIte, hn, e1, hyi] <;> rfl) | fail) only [go_sem, ↓reduceIte, hn, e1, hyi]
 refine Qa hP (Ql8 hy1) rfl rfl rfl ?_
 simp +decide (disch := first | omega | rfl | (simp +decide only [go_sem, ↓reduceIte, hs] <;> rfl) | fail) only [go_sem, ↓reduceIte, hs]
 have hso := Qju (a := dig x) (s := s) hxl (by omega) hs15 (by rw [hxv]; omega)
 refine Qaa5 hP hso rfl rfl rfl (by decide) ?_
 rintro _ _ rfl
 rw [hxv]
 have hDl : (dig (x * 2 ^ s)).length <= m + 3 := by
  have h1 := Qe9 x (2 ^ s)
  have h2 : nl (2 ^ s) <= 1 := Qe2.2 (by have : 2 ^ s <= 2 ^ 15 := Nat.pow_le_pow_right (by omega) hs15; omega)
  unfold nl at h1 h2; omega
 have hDl2 : m + 2 <= (dig (x * 2 ^ s)).length := by
  have := Qbs (show x <= x * 2 ^ s from Nat.le_mul_of_pos_right _ (Nat.pow_pos (by omega)))
  unfold nl at this; omega
 simp +decide (disch := first | omega | rfl | (simp +decide only [go_sem, ↓reduceIte, hm] <;> rfl) | fail) only [go_sem, ↓reduceIte, hm]
 rw [Qk5 (ys := Qay [0, 0]) (xs := Qay (dig (x * 2 ^ s))) (by simp +decide (disch := first | omega | rfl | (simp +decide only [go_sem, ↓reduceIte, Qc8] <;> rfl) | fail) only [go_sem, ↓reduceIte, Qc8]; rfl) (by simp +decide (disch := first | omega | rfl | (simp +decide only [go_sem, ↓reduceIte] <;> rfl) | fail) only [go_sem, ↓reduceIte]) (by omega) (by simp) (by simp; omega) (by simp; omega)]
 rw [List.take_of_length_le (by simp), <- List.map_append]
 simp +decide (disch := first | omega | rfl | (simp +decide only [go_sem, ↓reduceIte, hm, List.length_cons, List.length_nil] <;> rfl) | fail) only [go_sem, ↓reduceIte, hm, List.length_cons, List.length_nil]
 have hsoy := (Qju (a := dig y) (s := s) hyl (by omega) hs15 (by rw [hyv]; omega)).toV
 rw [hyv] at hsoy
 refine Qa hP hsoy rfl rfl rfl ?_
 obtain ⟨g1, g2⟩ := Qzu hs15 (by rw [show 16 - s = Lib.bitLen yi by omega]; exact htp) (by rw [show 16 - s = Lib.bitLen yi by omega]; exact htp2)
 obtain ⟨hYl, hYt, hYge⟩ := Qu4 hn hyi g1 g2
 have hnm : n <= m := by have := Qbs hge; unfold nl at this; omega
 obtain ⟨u, ex, hu1, hu2, hu3, hu4, hu5, hu6⟩ := Qu5 (s := s) hm hs15 hnm hYge
 have hdm1 : x * 2 ^ s / (y * 2 ^ s) = x / y := Nat.mul_div_mul_right _ _ (Nat.pow_pos (by omega))
 have hdm2 : x * 2 ^ s % (y * 2 ^ s) = x % y * 2 ^ s := Nat.mul_mod_mul_right _ _ _
 rw [hu1]
 simp +decide (disch := first | omega | rfl | (simp +decide only [go_sem, ↓reduceIte] <;> rfl) | fail) only [go_sem, ↓reduceIte]
 have hlg := Qz4 (u := u) (v := dig (y * 2 ^ s)) (ex := ex) hu3 (Qj _) (by omega) (by omega) (by rw [hYl]; exact hYt) (by rw [hYl, hu2, Qy]; exact hu6) (by omega)
 rw [hu2, hu4, Qy, hdm1, hdm2] at hlg
 refine Qpf hP hlg (β := 52) (by simp +decide (disch := first | omega | rfl | (simp +decide only [go_sem, ↓reduceIte] <;> rfl) | fail) only [go_sem, ↓reduceIte]) (Qea _) (by simp; omega) (by simp [toB]) rfl ?_
 rintro _ _ _ _ ⟨rfl, l, rfl, hl1, hl2, hl3⟩
 have e5 : IntKind.i64.wrap (0 - (s : Int)) = -(s : Int) := by rw [Qfx (by omega) (by omega)]; omega
 have htk : (Qay (l ++ ex)).take (m + 2 + 1) = Qay l := by rw [<- List.map_take, show m + 2 + 1 = l.length by omega, List.take_left]
 simp +decide (disch := first | omega | rfl | (simp +decide only [go_sem, ↓reduceIte, Qfk] <;> rfl) | fail) only [go_sem, ↓reduceIte, Qfk]
 refine Qcv hP (Qa2 hl1 (by omega)) (by simp [Q4, Qav, isY, Qk, <- List.map_append, htk]) rfl ?_
 simp +decide (disch := first | omega | rfl | (simp +decide only [go_sem, ↓reduceIte, e5] <;> rfl) | fail) only [go_sem, ↓reduceIte, e5]
 rw [hl3]
 have hsb := Qxi (a := dig (x % y * 2 ^ s)) (s := s) (Qj _) (by have := Qbs (show x % y * 2 ^ s <= x * 2 ^ s from Nat.mul_le_mul_right _ (Nat.mod_le _ _)); unfold nl at this; omega) hs15
 rw [Qy, Nat.mul_div_cancel _ (Nat.pow_pos (by omega))] at hsb
 refine Qa hP hsb rfl rfl rfl ?_
 simp +decide (disch := first | omega | rfl | (simp +decide only [go_sem, ↓reduceIte] <;> rfl) | fail) only [go_sem, ↓reduceIte]
 exact Qk6 rfl rfl rfl rfl (Qv _) (Qv _) (Qv _)
end Go.Proofs.YtmnkngmmfnncoaaGreat
namespace Go.Proofs.YtmnkngmmfnncoaaGreat
open Go Go.FW
set_option linter.unusedSimpArgs false
set_option linter.unusedVariables false
set_option maxRecDepth 100000
theorem Qt3 {a b : List Nat} (ha : Qh a) (hb : Qh b) (hla : a.length < 2 ^ 38) (hlb : b.length < 2 ^ 38) : Qd Tryz.prog 144 [PV.nat a, PV.nat b] (· = PV.num (Nat.gcd (val a) (val b))) := by
 have hda := Qai ha
 have hdb := Qai hb
 unfold nl at hda hdb
 refine Qi Qm Tryz.func144 rfl Q7q (by simp [Q3o]) fun C hP => ?_; simp only [Q3o]
 simp +decide (disch := first | omega | rfl | (simp +decide only [go_sem, ↓reduceIte] <;> rfl) | fail) only [go_sem, ↓reduceIte]
 refine Qa hP (Qho ha (by omega)) rfl rfl rfl ?_
 simp +decide (disch := first | omega | rfl | (simp +decide only [go_sem, ↓reduceIte] <;> rfl) | fail) only [go_sem, ↓reduceIte]
 refine Qa hP (Qho hb (by omega)) rfl rfl rfl ?_
 simp +decide (disch := first | omega | rfl | (simp +decide only [go_sem, ↓reduceIte] <;> rfl) | fail) only [go_sem, ↓reduceIte]
 refine Qak (by repeat (first | exact Qx | exact Qp | exact Qq | exact Qr | exact Qt | apply Qo | apply Qw | apply Q3 | apply Q9 | apply Qaa | apply Qn)) [(0, 1), (4, 11), (16, 49)] [] (fun m J hp => ∃ x y, m = y /\ Nat.gcd x y = Nat.gcd (val a) (val b) /\ (dig x).length < 2 ^ 38 /\ (dig y).length < 2 ^ 38 /\ J 0 = PV.num x /\ J 1 = PV.num y /\ hp = hp0) (val b) ?_ ?_
 ·refine ⟨val a, val b, rfl, rfl, by omega, by omega, ?_⟩
  simp +decide (disch := first | omega | rfl | (simp +decide only [go_sem, ↓reduceIte, true_and, and_true] <;> rfl) | fail) only [go_sem, ↓reduceIte, true_and, and_true]
 rintro y J _ ⟨x, _, rfl, hg, hx, hy, h0, h1, rfl⟩
 generalize Nat.gcd (val a) (val b) = g at *
 simp +decide (disch := first | omega | rfl | (simp +decide only [go_sem, ↓reduceIte, h0, h1] <;> rfl) | fail) only [go_sem, ↓reduceIte, h0, h1]
 refine Qb (fun hc => ?_) (fun hc => ?_)
 ·have hy0 : y ≠ 0 := fun h => by rw [h, Qax] at hc; simp at hc
  have hmod : (dig (x % y)).length < 2 ^ 38 := by
   have := Qbs (Nat.le_of_lt (Nat.mod_lt x (Nat.pos_of_ne_zero hy0))); unfold nl at this; omega
  simp +decide (disch := first | omega | rfl | (simp +decide only [go_sem, ↓reduceIte, h0, h1] <;> rfl) | fail) only [go_sem, ↓reduceIte, h0, h1]
  refine Qa hP (Qmn (Qj x) (by omega)) rfl rfl rfl ?_
  simp +decide (disch := first | omega | rfl | (simp +decide only [go_sem, ↓reduceIte, h0, h1] <;> rfl) | fail) only [go_sem, ↓reduceIte, h0, h1]
  rw [Qy]
  by_cases hs1 : nl x <= 4
  ·have hxs := Qi9.1 hs1
   rw [if_pos hs1]
   simp +decide (disch := first | omega | rfl | (simp +decide only [go_sem, ↓reduceIte, h0, h1] <;> rfl) | fail) only [go_sem, ↓reduceIte, h0, h1]
   refine Qa hP (Qmn (Qj y) (by omega)) rfl rfl rfl ?_
   rw [Qy]
   by_cases hs2 : nl y <= 4
   ·have hys := Qi9.1 hs2
    rw [if_pos hs2]
    simp +decide (disch := first | omega | rfl | (simp +decide only [go_sem, ↓reduceIte, h0, h1] <;> rfl) | fail) only [go_sem, ↓reduceIte, h0, h1]
    refine Qak (by repeat (first | exact Qx | exact Qp | exact Qq | exact Qr | exact Qt | apply Qo | apply Qw | apply Q3 | apply Q9 | apply Qaa | apply Qn)) [(5, 5), (7, 7), (33, 38)] [] (fun m J hp => ∃ p q, m = q /\ Nat.gcd p q = g /\ p < 18446744073709551616 /\ q < 18446744073709551616 /\ J 5 = .int .u64 p /\ J 7 = .int .u64 q /\ hp = hp0) y ?_ ?_
    ·refine ⟨x, y, rfl, hg, hxs, hys, ?_⟩
     simp +decide (disch := first | omega | rfl | (simp +decide only [go_sem, ↓reduceIte, true_and, and_true] <;> rfl) | fail) only [go_sem, ↓reduceIte, true_and, and_true]
    rintro q J2 _ ⟨p, _, rfl, hg2, hp1, hp2, h5, h7, rfl⟩
    simp +decide (disch := first | omega | rfl | (simp +decide only [go_sem, ↓reduceIte, h5, h7] <;> rfl) | fail) only [go_sem, ↓reduceIte, h5, h7]
    refine Qb (fun hq => ?_) (fun hq => ?_)
    ·have hq0 : 0 < q := by omega
     simp +decide (disch := first | omega | rfl | (simp +decide only [go_sem, ↓reduceIte, h5, h7, Qdq] <;> rfl) | fail) only [go_sem, ↓reduceIte, h5, h7, Qdq]
     refine Qab (p % q) (Nat.mod_lt _ hq0) ⟨q, p % q, rfl, ?_, hp2, ?_, ?_⟩
     ·rw [<- hg2, Nat.gcd_comm p q, Nat.gcd_rec q p, Nat.gcd_comm]
     ·have := Nat.mod_lt p hq0; omega
     ·simp +decide (disch := first | omega | rfl | (simp +decide only [go_sem, ↓reduceIte, true_and, and_true] <;> rfl) | fail) only [go_sem, ↓reduceIte, true_and, and_true]
    ·obtain rfl : q = 0 := by omega
     simp +decide (disch := first | omega | rfl | (simp +decide only [go_sem, ↓reduceIte, h5, h7] <;> rfl) | fail) only [go_sem, ↓reduceIte, h5, h7]
     refine Qa hP (Qnh hp1) rfl rfl rfl ?_
     simp +decide (disch := first | omega | rfl | (simp +decide only [go_sem, ↓reduceIte] <;> rfl) | fail) only [go_sem, ↓reduceIte]
     exact Qc (by rw [<- hg2, Nat.gcd_zero_right]) rfl
   ·rw [if_neg hs2]
    simp +decide (disch := first | omega | rfl | (simp +decide only [go_sem, ↓reduceIte, h0, h1] <;> rfl) | fail) only [go_sem, ↓reduceIte, h0, h1]
    refine Qa hP (Qjw (Qj x) (Qj y) (by omega) (by omega)) rfl rfl rfl ?_
    rw [Qy, Qy, if_neg hy0]
    simp +decide (disch := first | omega | rfl | (simp +decide only [go_sem, ↓reduceIte, h0, h1] <;> rfl) | fail) only [go_sem, ↓reduceIte, h0, h1]
    refine Qab (x % y) (Nat.mod_lt _ (Nat.pos_of_ne_zero hy0)) ⟨y, x % y, rfl, ?_, hy, hmod, ?_⟩
    ·rw [<- hg, Nat.gcd_comm x y, Nat.gcd_rec y x, Nat.gcd_comm]
    ·simp +decide (disch := first | omega | rfl | (simp +decide only [go_sem, ↓reduceIte, true_and, and_true] <;> rfl) | fail) only [go_sem, ↓reduceIte, true_and, and_true]
  ·rw [if_neg hs1]
   simp +decide (disch := first | omega | rfl | (simp +decide only [go_sem, ↓reduceIte, h0, h1] <;> rfl) | fail) only [go_sem, ↓reduceIte, h0, h1]
   refine Qa hP (Qmn (Qj y) (by omega)) rfl rfl rfl ?_
   obtain ⟨r1, r2, hr⟩ : ∃ r1 r2, (if nl (val (dig y)) <= 4 then PV.tup [.int .u64 (val (dig y)), .bool true] else .tup [.int .u64 0, .bool false]) = .tup [.int .u64 r1, .bool r2] := by
    split <;> exact ⟨_, _, rfl⟩
   rw [hr]
   simp +decide (disch := first | omega | rfl | (simp +decide only [go_sem, ↓reduceIte, h0, h1] <;> rfl) | fail) only [go_sem, ↓reduceIte, h0, h1]
   refine Qa hP (Qjw (Qj x) (Qj y) (by omega) (by omega)) rfl rfl rfl ?_
   rw [Qy, Qy, if_neg hy0]
   simp +decide (disch := first | omega | rfl | (simp +decide only [go_sem, ↓reduceIte, h0, h1] <;> rfl) | fail) only [go_sem, ↓reduceIte, h0, h1]
   refine Qab (x % y) (Nat.mod_lt _ (Nat.pos_of_ne_zero hy0)) ⟨y, x % y, rfl, ?_, hy, hmod, ?_⟩
   ·rw [<- hg, Nat.gcd_comm x y, Nat.gcd_rec y x, Nat.gcd_comm]
   ·simp +decide (disch := first | omega | rfl | (simp +decide only [go_sem, ↓reduceIte, true_and, and_true] <;> rfl) | fail) only [go_sem, ↓reduceIte, true_and, and_true]
 ·have hy0 : y = 0 := Qbe.1 (Qcr (by omega))
  subst hy0
  simp +decide (disch := first | omega | rfl | (simp +decide only [go_sem, ↓reduceIte, h0] <;> rfl) | fail) only [go_sem, ↓reduceIte, h0]
  exact Qc (by rw [<- hg, Nat.gcd_zero_right]) rfl
end Go.Proofs.YtmnkngmmfnncoaaGreat
namespace Go.Proofs.YtmnkngmmfnncoaaGreat
open Go Go.FW
set_option linter.unusedSimpArgs false
set_option linter.unusedVariables false
set_option maxRecDepth 100000
theorem Qex (n : Bool) (x : Nat) : Qd Tryz.prog 176 [.bool n, PV.num x] (· = PV.zz (if n then -(x : Int) else x)) := by
 refine Qi Qm Tryz.func176 rfl Q7u (by simp [Q3s]) fun C hP => ?_; simp only [Q3s]
 simp +decide (disch := first | omega | rfl | (simp +decide only [go_sem, ↓reduceIte] <;> rfl) | fail) only [go_sem, ↓reduceIte]
 refine Qfh (fun hn => ?_) (fun hn => ?_)
 all_goals
  simp +decide (disch := first | omega | rfl | (simp +decide only [go_sem, ↓reduceIte] <;> rfl) | fail) only [go_sem, ↓reduceIte]
  refine Qaw ?_
  simp +decide (disch := first | omega | rfl | (simp +decide only [go_sem, ↓reduceIte] <;> rfl) | fail) only [go_sem, ↓reduceIte]
  exact Qc (by rw [<- Qqq, hn]; simp) rfl
theorem Qz5 {n : Bool} {a : List Nat} (ha : Qh a) (hla : a.length < 2 ^ 42) : Qd Tryz.prog 212 [.bool n, PV.nat a] (· = PV.zz (zv n a)) := by
 refine Qi Qm Tryz.func212 rfl Q7t (by simp [Q3r]) fun C hP => ?_; simp only [Q3r]
 simp +decide (disch := first | omega | rfl | (simp +decide only [go_sem, ↓reduceIte] <;> rfl) | fail) only [go_sem, ↓reduceIte]
 refine Qa hP (Qho ha hla) rfl rfl rfl ?_
 simp +decide (disch := first | omega | rfl | (simp +decide only [go_sem, ↓reduceIte] <;> rfl) | fail) only [go_sem, ↓reduceIte]
 refine Qfh (fun hn => ?_) (fun hn => ?_)
 all_goals
  simp +decide (disch := first | omega | rfl | (simp +decide only [go_sem, ↓reduceIte] <;> rfl) | fail) only [go_sem, ↓reduceIte]
  refine Qaw ?_
  simp +decide (disch := first | omega | rfl | (simp +decide only [go_sem, ↓reduceIte] <;> rfl) | fail) only [go_sem, ↓reduceIte]
  exact Qc (by have := Qqq n (val a); rw [hn] at this; subst hn; simpa [zv] using this) rfl
theorem Qvb {n : Bool} {a : List Nat} (ha : Qh a) (hla : a.length < 2 ^ 42) : Qd Tryz.prog 174 [PV.zi n a] (· = PV.zz (zv n a)) := by
 refine Qi Qm Tryz.func174 rfl Q7w (by simp [Q3u]) fun C hP => ?_; simp only [Q3u]
 simp +decide (disch := first | omega | rfl | (simp +decide only [go_sem, ↓reduceIte] <;> rfl) | fail) only [go_sem, ↓reduceIte]
 refine Qa hP (Qz5 ha hla) rfl rfl rfl ?_
 simp +decide (disch := first | omega | rfl | (simp +decide only [go_sem, ↓reduceIte] <;> rfl) | fail) only [go_sem, ↓reduceIte]
 refine Qaw ?_
 simp +decide (disch := first | omega | rfl | (simp +decide only [go_sem, ↓reduceIte] <;> rfl) | fail) only [go_sem, ↓reduceIte]
 exact Qc rfl rfl
theorem Qg9 {n : Bool} {a : List Nat} (ha : Qh a) (hla : a.length < 2 ^ 40) : Qd Tryz.prog 108 [PV.zi n a] (· = .int .i64 (sgn (zv n a))) := by
 refine Qi Qm Tryz.func108 rfl Q7y (by simp [Q3w]) fun C hP => ?_; simp only [Q3w]
 simp +decide (disch := first | omega | rfl | (simp +decide only [go_sem, ↓reduceIte] <;> rfl) | fail) only [go_sem, ↓reduceIte]
 refine Qcd hP (Qro ha hla) rfl rfl rfl ?_
 rintro _ ⟨k, rfl, hk⟩
 simp +decide (disch := first | omega | rfl | (simp +decide only [go_sem, ↓reduceIte] <;> rfl) | fail) only [go_sem, ↓reduceIte]
 rw [Qtr]
 refine Qb (fun hz => ?_) (fun hz => ?_)
 ·simp +decide (disch := first | omega | rfl | (simp +decide only [go_sem, ↓reduceIte] <;> rfl) | fail) only [go_sem, ↓reduceIte]
  rw [if_pos (hk.1 (by omega))]
  exact Qc rfl rfl
 ·rw [if_neg (fun h => hz (by rw [hk.2 h]; rfl))]
  simp +decide (disch := first | omega | rfl | (simp +decide only [go_sem, ↓reduceIte] <;> rfl) | fail) only [go_sem, ↓reduceIte]
  refine Qhj (fun hn => ?_) (fun hn => ?_)
  ·simp +decide (disch := first | omega | rfl | (simp +decide only [go_sem, ↓reduceIte] <;> rfl) | fail) only [go_sem, ↓reduceIte]
   exact Qc (by simp [hn]) rfl
  ·simp +decide (disch := first | omega | rfl | (simp +decide only [go_sem, ↓reduceIte] <;> rfl) | fail) only [go_sem, ↓reduceIte]
   exact Qc (by simp [hn]) rfl
theorem Qn0 {a b : List Nat} (ha : Qh a) (hb : Qh b) (hla : a.length < 2 ^ 40) (hlb : b.length < 2 ^ 40) : Qd Tryz.prog 215 [PV.nat a, PV.nat b] (· = .int .i64 (Qdg (val a) (val b))) := by
 refine Qi Qm Tryz.func215 rfl Q70 (by simp [Q3y]) fun C hP => ?_; simp only [Q3y]
 simp +decide (disch := first | omega | rfl | (simp +decide only [go_sem, ↓reduceIte] <;> rfl) | fail) only [go_sem, ↓reduceIte]
 refine Qa hP (Qlk ha hb hla hlb) rfl rfl rfl ?_
 simp +decide (disch := first | omega | rfl | (simp +decide only [go_sem, ↓reduceIte] <;> rfl) | fail) only [go_sem, ↓reduceIte]
 exact Qc rfl rfl
theorem Qxk {n m : Bool} {a b : List Nat} (ha : Qh a) (hb : Qh b) (hla : a.length < 2 ^ 40) (hlb : b.length < 2 ^ 40) : Qd Tryz.prog 178 [PV.zi n a, PV.zi m b] (· = .int .i64 (Qep (zv n a) (zv m b))) := by
 have hx := Qtr n a
 have hy := Qtr m b
 refine Qi Qm Tryz.func178 rfl Q7z (by simp [Q3x]) fun C hP => ?_; simp only [Q3x]
 simp +decide (disch := first | omega | rfl | (simp +decide only [go_sem, ↓reduceIte] <;> rfl) | fail) only [go_sem, ↓reduceIte]
 refine Qa hP (Qg9 ha hla) rfl rfl rfl ?_
 simp +decide (disch := first | omega | rfl | (simp +decide only [go_sem, ↓reduceIte] <;> rfl) | fail) only [go_sem, ↓reduceIte]
 refine Qa hP (Qg9 hb hlb) rfl rfl rfl ?_
 simp +decide (disch := first | omega | rfl | (simp +decide only [go_sem, ↓reduceIte] <;> rfl) | fail) only [go_sem, ↓reduceIte]
 refine Qb (fun hs => ?_) (fun hs => ?_)
 ·simp +decide (disch := first | omega | rfl | (simp +decide only [go_sem, ↓reduceIte] <;> rfl) | fail) only [go_sem, ↓reduceIte]
  exact Qc (by rw [Q65 hs]) rfl
 simp +decide (disch := first | omega | rfl | (simp +decide only [go_sem, ↓reduceIte] <;> rfl) | fail) only [go_sem, ↓reduceIte]
 refine Qb (fun hs2 => ?_) (fun hs2 => ?_)
 ·simp +decide (disch := first | omega | rfl | (simp +decide only [go_sem, ↓reduceIte] <;> rfl) | fail) only [go_sem, ↓reduceIte]
  exact Qc (by rw [Q66 hs2]) rfl
 have he : sgn (zv n a) = sgn (zv m b) := by omega
 simp +decide (disch := first | omega | rfl | (simp +decide only [go_sem, ↓reduceIte] <;> rfl) | fail) only [go_sem, ↓reduceIte]
 refine Qb (fun hs3 => ?_) (fun hs3 => ?_)
 ·simp +decide (disch := first | omega | rfl | (simp +decide only [go_sem, ↓reduceIte] <;> rfl) | fail) only [go_sem, ↓reduceIte]
  refine Qa hP (Qn0 hb ha hlb hla) rfl rfl rfl ?_
  simp +decide (disch := first | omega | rfl | (simp +decide only [go_sem, ↓reduceIte] <;> rfl) | fail) only [go_sem, ↓reduceIte]
  exact Qc (by rw [Q67 (Qkk.1 hs3) (Qkk.1 (he ▸ hs3))]) rfl
 ·simp +decide (disch := first | omega | rfl | (simp +decide only [go_sem, ↓reduceIte] <;> rfl) | fail) only [go_sem, ↓reduceIte]
  refine Qa hP (Qn0 ha hb hla hlb) rfl rfl rfl ?_
  simp +decide (disch := first | omega | rfl | (simp +decide only [go_sem, ↓reduceIte] <;> rfl) | fail) only [go_sem, ↓reduceIte]
  exact Qc (by rw [Q68 (fun h => hs3 (Qkk.2 h)) (fun h => hs3 (he ▸ Qkk.2 h))]) rfl
theorem Qpr {n m : Bool} {a b : List Nat} (ha : Qh a) (hb : Qh b) (hla : a.length < 2 ^ 40) (hlb : b.length < 2 ^ 40) : Qd Tryz.prog 175 [PV.zi n a, PV.zi m b] (· = PV.zz (zv n a + zv m b)) := by
 refine Qi Qm Tryz.func175 rfl Q71 (by simp [Q3z]) fun C hP => ?_; simp only [Q3z]
 simp +decide (disch := first | omega | rfl | (simp +decide only [go_sem, ↓reduceIte] <;> rfl) | fail) only [go_sem, ↓reduceIte]
 refine Qhj (fun hnm => ?_) (fun hnm => ?_)
 ·have hnm : n = m := by simpa using hnm
  subst hnm
  simp +decide (disch := first | omega | rfl | (simp +decide only [go_sem, ↓reduceIte] <;> rfl) | fail) only [go_sem, ↓reduceIte]
  refine Qa hP (Q4e ha hb hla hlb) rfl rfl rfl ?_
  simp +decide (disch := first | omega | rfl | (simp +decide only [go_sem, ↓reduceIte] <;> rfl) | fail) only [go_sem, ↓reduceIte]
  refine Qa hP (Qex n (val a + val b)) rfl rfl rfl ?_
  simp +decide (disch := first | omega | rfl | (simp +decide only [go_sem, ↓reduceIte] <;> rfl) | fail) only [go_sem, ↓reduceIte]
  refine Qaw ?_
  simp +decide (disch := first | omega | rfl | (simp +decide only [go_sem, ↓reduceIte] <;> rfl) | fail) only [go_sem, ↓reduceIte]
  exact Qc (congrArg PV.zz (by unfold zv; split <;> simp <;> omega)) rfl
 have hnm : n = !m := by cases n <;> cases m <;> simp_all
 subst hnm
 simp +decide (disch := first | omega | rfl | (simp +decide only [go_sem, ↓reduceIte] <;> rfl) | fail) only [go_sem, ↓reduceIte]
 refine Qa hP (Qlk ha hb hla hlb) rfl rfl rfl ?_
 simp +decide (disch := first | omega | rfl | (simp +decide only [go_sem, ↓reduceIte] <;> rfl) | fail) only [go_sem, ↓reduceIte]
 refine Qb (fun hc => ?_) (fun hc => ?_)
 ·rw [Qld] at hc
  simp +decide (disch := first | omega | rfl | (simp +decide only [go_sem, ↓reduceIte] <;> rfl) | fail) only [go_sem, ↓reduceIte]
  refine Qa hP (Qt1 hb ha hlb hla (by omega)) rfl rfl rfl ?_
  simp +decide (disch := first | omega | rfl | (simp +decide only [go_sem, ↓reduceIte] <;> rfl) | fail) only [go_sem, ↓reduceIte]
  refine Qa hP (Qex m (val b - val a)) rfl rfl rfl ?_
  simp +decide (disch := first | omega | rfl | (simp +decide only [go_sem, ↓reduceIte] <;> rfl) | fail) only [go_sem, ↓reduceIte]
  refine Qaw ?_
  simp +decide (disch := first | omega | rfl | (simp +decide only [go_sem, ↓reduceIte] <;> rfl) | fail) only [go_sem, ↓reduceIte]
  exact Qc (congrArg PV.zz (by unfold zv; cases m <;> simp <;> omega)) rfl
 ·rw [Qld] at hc
  simp +decide (disch := first | omega | rfl | (simp +decide only [go_sem, ↓reduceIte] <;> rfl) | fail) only [go_sem, ↓reduceIte]
  refine Qa hP (Qt1 ha hb hla hlb (by omega)) rfl rfl rfl ?_
  simp +decide (disch := first | omega | rfl | (simp +decide only [go_sem, ↓reduceIte] <;> rfl) | fail) only [go_sem, ↓reduceIte]
  refine Qa hP (Qex (!m) (val a - val b)) rfl rfl rfl ?_
  simp +decide (disch := first | omega | rfl | (simp +decide only [go_sem, ↓reduceIte] <;> rfl) | fail) only [go_sem, ↓reduceIte]
  refine Qaw ?_
  simp +decide (disch := first | omega | rfl | (simp +decide only [go_sem, ↓reduceIte] <;> rfl) | fail) only [go_sem, ↓reduceIte]
  exact Qc (congrArg PV.zz (by unfold zv; cases m <;> simp <;> omega)) rfl
theorem Qdi {n m : Bool} {a b : List Nat} (ha : Qh a) (hb : Qh b) (hla : a.length < 2 ^ 40) (hlb : b.length < 2 ^ 40) : Qd Tryz.prog 112 [PV.zi n a, PV.zi m b] (· = PV.zz (zv n a * zv m b)) := by
 refine Qi Qm Tryz.func112 rfl Q72 (by simp [Q30]) fun C hP => ?_; simp only [Q30]
 simp +decide (disch := first | omega | rfl | (simp +decide only [go_sem, ↓reduceIte] <;> rfl) | fail) only [go_sem, ↓reduceIte]
 refine Qa hP (Qll ha hb hla hlb) rfl rfl rfl ?_
 simp +decide (disch := first | omega | rfl | (simp +decide only [go_sem, ↓reduceIte] <;> rfl) | fail) only [go_sem, ↓reduceIte]
 refine Qa hP (Qex (!(n == m)) (val a * val b)) rfl rfl rfl ?_
 simp +decide (disch := first | omega | rfl | (simp +decide only [go_sem, ↓reduceIte] <;> rfl) | fail) only [go_sem, ↓reduceIte]
 refine Qaw ?_
 simp +decide (disch := first | omega | rfl | (simp +decide only [go_sem, ↓reduceIte] <;> rfl) | fail) only [go_sem, ↓reduceIte]
 exact Qc (congrArg PV.zz (by unfold zv; cases n <;> cases m <;> simp [Int.neg_mul, Int.mul_neg])) rfl
end Go.Proofs.YtmnkngmmfnncoaaGreat
namespace Go.Proofs.YtmnkngmmfnncoaaGreat
open Go Go.FW
set_option linter.unusedSimpArgs false
set_option linter.unusedVariables false
set_option maxRecDepth 100000
theorem Qln {a : List Nat} (hl : a.length < 2 ^ 43) : Qd Tryz.prog 109 [PV.nat a] (· = .bool (decide (a = [1]))) := by
 refine Qi Qm Tryz.func109 rfl Q73 (by simp [Q31]) fun C hP => ?_; simp only [Q31]
 simp +decide (disch := first | omega | rfl | (simp +decide only [go_sem, ↓reduceIte] <;> rfl) | fail) only [go_sem, ↓reduceIte]
 refine Qb (fun hz => ?_) (fun hz => ?_)
 ·obtain ⟨x, xs, rfl⟩ : ∃ x xs, a = x :: xs := by
   match a, hz with
   | x :: xs, _ => exact ⟨x, xs, rfl⟩
  simp +decide (disch := first | omega | rfl | (simp +decide only [go_sem, ↓reduceIte, List.map_cons, List.getElem_cons_zero] <;> rfl) | fail) only [go_sem, ↓reduceIte, List.map_cons, List.getElem_cons_zero]
  refine Qc (congrArg PV.bool ?_) rfl
  rw [<- Bool.decide_and]
  exact decide_eq_decide.2 ⟨fun ⟨h1, h2⟩ => by
   have : xs = [] := List.length_eq_zero_iff.1 (by omega)
   subst this; congr 1; omega, fun h => by
   injection h with h1 h2; subst h1 h2; simp⟩
 ·have : a = [] := List.length_eq_zero_iff.1 (by omega)
  subst this
  simp +decide (disch := first | omega | rfl | (simp +decide only [go_sem, ↓reduceIte] <;> rfl) | fail) only [go_sem, ↓reduceIte]
  exact Qc rfl rfl
theorem Qn1 (x : Nat) : (dig x = [1]) ↔ x = 1 := ⟨fun h => by have := Qy x; rw [h] at this; simpa [val] using this.symm, fun h => by rw [h, Qfj]⟩
theorem Qqu {x : Nat} (hl : (dig x).length < 2 ^ 43) : Qd Tryz.prog 109 [PV.num x] (· = .bool (decide (x = 1))) := by
 have := Qln hl
 rwa [decide_eq_decide.2 (Qn1 x)] at this
theorem Qjh : Qd Tryz.prog 155 [] (· = PV.nat [1]) := by
 refine Qi Qm Tryz.func155 rfl Q74 (by simp [Q32]) fun C hP => ?_; simp only [Q32]
 simp +decide (disch := first | omega | rfl | (simp +decide only [go_sem, ↓reduceIte] <;> rfl) | fail) only [go_sem, ↓reduceIte]
 exact Qc rfl rfl
theorem Qps {x y : Nat} (hx : (dig x).length < 2 ^ 38) (hy : (dig y).length < 2 ^ 38) (h0 : y ≠ 0) : Qd Tryz.prog 145 [PV.num x, PV.num y] (· = .tup [PV.num (x / y), PV.num (x % y), .int .i64 0]) := by
 have := Qjw (Qj x) (Qj y) hx hy
 rwa [Qy, Qy, if_neg h0] at this
theorem Q8g {x y : Nat} (hx : (dig x).length < 2 ^ 38) (hy : (dig y).length < 2 ^ 38) : Qd Tryz.prog 144 [PV.num x, PV.num y] (· = PV.num (Nat.gcd x y)) := by
 have := Qt3 (Qj x) (Qj y) hx hy
 rwa [Qy, Qy] at this
theorem Qiw {n : Bool} {a d : List Nat} (ha : Qh a) (hd : Qh d) (hla : a.length < 2 ^ 38) (hld : d.length < 2 ^ 38) : Qd Tryz.prog 110 [PV.zi n a, PV.nat d] (· = PV.rat (rv n a d)) := by
 have hna := Qai ha
 have hnd := Qai hd
 rw [<- Qa5 n a] at hna
 unfold rv
 unfold nl at hna hnd
 refine Qi Qm Tryz.func110 rfl Q75 (by simp [Q33]) fun C hP => ?_; simp only [Q33]
 simp +decide (disch := first | omega | rfl | (simp +decide only [go_sem, ↓reduceIte] <;> rfl) | fail) only [go_sem, ↓reduceIte]
 refine Qa hP (Qho hd (by omega)) rfl rfl rfl ?_
 simp +decide (disch := first | omega | rfl | (simp +decide only [go_sem, ↓reduceIte] <;> rfl) | fail) only [go_sem, ↓reduceIte]
 refine Qa hP (Qvb ha (by omega)) rfl rfl rfl ?_
 simp +decide (disch := first | omega | rfl | (simp +decide only [go_sem, ↓reduceIte] <;> rfl) | fail) only [go_sem, ↓reduceIte]
 generalize zv n a = z at *
 generalize val d = D at *
 have hlen : ∀ x : Nat, ((dig x).length : Int) = 0 ↔ x = 0 := fun x => by
  rw [<- Qbe, <- List.length_eq_zero_iff]; omega
 have fin0 : ∀ {fr : Fr} {hp : HP}, (D = 0 ∨ z = 0) -> Qqi (· = PV.rat (mkRat z D)) (.agg [.bool false, .nilS, PV.nat [1]]) := fun h => by
  rw [Qnw h]; exact Qgy Qv5 rfl
 refine Qa3 (fun hz => ?_) (fun hz => ?_)
 ·simp +decide (disch := first | omega | rfl | (simp +decide only [go_sem, ↓reduceIte] <;> rfl) | fail) only [go_sem, ↓reduceIte]
  refine Qa hP Qjh rfl rfl rfl ?_
  simp +decide (disch := first | omega | rfl | (simp +decide only [go_sem, ↓reduceIte] <;> rfl) | fail) only [go_sem, ↓reduceIte]
  refine Qaw ?_
  simp +decide (disch := first | omega | rfl | (simp +decide only [go_sem, ↓reduceIte] <;> rfl) | fail) only [go_sem, ↓reduceIte]
  exact fin0 (fr := fr0) (hp := hp0) (.inl ((hlen _).1 hz))
 simp +decide (disch := first | omega | rfl | (simp +decide only [go_sem, ↓reduceIte] <;> rfl) | fail) only [go_sem, ↓reduceIte]
 refine Qb (fun hz2 => ?_) (fun hz2 => ?_)
 ·simp +decide (disch := first | omega | rfl | (simp +decide only [go_sem, ↓reduceIte] <;> rfl) | fail) only [go_sem, ↓reduceIte]
  refine Qa hP Qjh rfl rfl rfl ?_
  simp +decide (disch := first | omega | rfl | (simp +decide only [go_sem, ↓reduceIte] <;> rfl) | fail) only [go_sem, ↓reduceIte]
  refine Qaw ?_
  simp +decide (disch := first | omega | rfl | (simp +decide only [go_sem, ↓reduceIte] <;> rfl) | fail) only [go_sem, ↓reduceIte]
  exact fin0 (fr := fr0) (hp := hp0) (.inr (Int.natAbs_eq_zero.1 ((hlen _).1 hz2)))
 have hD : D ≠ 0 := fun h => hz ((hlen _).2 h)
 simp +decide (disch := first | omega | rfl | (simp +decide only [go_sem, ↓reduceIte] <;> rfl) | fail) only [go_sem, ↓reduceIte]
 refine Qa hP (Qqu (by omega)) rfl rfl rfl ?_
 simp +decide (disch := first | omega | rfl | (simp +decide only [go_sem, ↓reduceIte] <;> rfl) | fail) only [go_sem, ↓reduceIte]
 refine Qb (fun h1 => ?_) (fun h1 => ?_)
 ·subst h1
  simp +decide (disch := first | omega | rfl | (simp +decide only [go_sem, ↓reduceIte] <;> rfl) | fail) only [go_sem, ↓reduceIte]
  refine Qaw ?_
  simp +decide (disch := first | omega | rfl | (simp +decide only [go_sem, ↓reduceIte] <;> rfl) | fail) only [go_sem, ↓reduceIte]
  exact Qc (by rw [<- Qadu]; simp only [Qfj]) rfl
 simp +decide (disch := first | omega | rfl | (simp +decide only [go_sem, ↓reduceIte] <;> rfl) | fail) only [go_sem, ↓reduceIte]
 refine Qa hP (Q8g (by omega) (by omega)) rfl rfl rfl ?_
 have hg0 : Nat.gcd z.natAbs D ≠ 0 := fun h => hD (Nat.eq_zero_of_gcd_eq_zero_right h)
 have hgl : (dig (Nat.gcd z.natAbs D)).length < 2 ^ 38 := by
  have := Qbs (Nat.gcd_le_right z.natAbs (Nat.pos_of_ne_zero hD)); unfold nl at this; omega
 have hfin := Qzx (z := z) hD
 generalize Nat.gcd z.natAbs D = g at *
 simp +decide (disch := first | omega | rfl | (simp +decide only [go_sem, ↓reduceIte] <;> rfl) | fail) only [go_sem, ↓reduceIte]
 refine Qa hP (Qqu (by omega)) rfl rfl rfl ?_
 simp +decide (disch := first | omega | rfl | (simp +decide only [go_sem, ↓reduceIte] <;> rfl) | fail) only [go_sem, ↓reduceIte]
 refine Qhj (fun h2 => ?_) (fun h2 => ?_)
 ·simp +decide (disch := first | omega | rfl | (simp +decide only [go_sem, ↓reduceIte] <;> rfl) | fail) only [go_sem, ↓reduceIte]
  refine Qa hP (Qps (by omega) hgl hg0) rfl rfl rfl ?_
  simp +decide (disch := first | omega | rfl | (simp +decide only [go_sem, ↓reduceIte] <;> rfl) | fail) only [go_sem, ↓reduceIte]
  refine Qa hP (Qps (by omega) hgl hg0) rfl rfl rfl ?_
  simp +decide (disch := first | omega | rfl | (simp +decide only [go_sem, ↓reduceIte] <;> rfl) | fail) only [go_sem, ↓reduceIte]
  refine Qaw ?_
  simp +decide (disch := first | omega | rfl | (simp +decide only [go_sem, ↓reduceIte] <;> rfl) | fail) only [go_sem, ↓reduceIte]
  exact Qc hfin rfl
 ·have : g = 1 := by simpa using h2
  subst this
  rw [Nat.div_one, Nat.div_one] at hfin
  simp +decide (disch := first | omega | rfl | (simp +decide only [go_sem, ↓reduceIte] <;> rfl) | fail) only [go_sem, ↓reduceIte]
  refine Qaw ?_
  simp +decide (disch := first | omega | rfl | (simp +decide only [go_sem, ↓reduceIte] <;> rfl) | fail) only [go_sem, ↓reduceIte]
  exact Qc hfin rfl
theorem Qd0 (a : List Nat) : Qd Tryz.prog 113 [PV.nat a] (· = PV.zi false a) := by
 refine Qi Qm Tryz.func113 rfl Q77 (by simp [Q35]) fun C hP => ?_; simp only [Q35]
 simp +decide (disch := first | omega | rfl | (simp +decide only [go_sem, ↓reduceIte] <;> rfl) | fail) only [go_sem, ↓reduceIte]
 refine Qaw ?_
 simp +decide (disch := first | omega | rfl | (simp +decide only [go_sem, ↓reduceIte] <;> rfl) | fail) only [go_sem, ↓reduceIte]
 exact Qc rfl rfl
def Qabt (k : Nat) (q : Rat) (r : PV) : Prop := ∃ n a d, r = .tup [PV.zi n a, PV.nat d] /\ Qh a /\ Qh d /\ a.length <= k /\ d.length <= k /\ val d ≠ 0 /\ rv n a d = q
theorem Qc2 {n : Bool} {a d : List Nat} {k : Nat} (ha : Qh a) (hd : Qh d) (hk : 1 <= k) (hla : a.length <= k) (hld : d.length <= k) (hk2 : k < 2 ^ 38) : Qd Tryz.prog 107 [PV.rr n a d] (Qabt k (rv n a d)) := by
 refine Qi Qm Tryz.func107 rfl Q76 (by simp [Q34]) fun C hP => ?_; simp only [Q34]
 simp +decide (disch := first | omega | rfl | (simp +decide only [go_sem, ↓reduceIte] <;> rfl) | fail) only [go_sem, ↓reduceIte]
 refine Qcd hP (Qro hd (by omega)) rfl rfl rfl ?_
 rintro _ ⟨b, rfl, hb⟩
 simp +decide (disch := first | omega | rfl | (simp +decide only [go_sem, ↓reduceIte] <;> rfl) | fail) only [go_sem, ↓reduceIte]
 refine Qb (fun hz => ?_) (fun hz => ?_)
 ·have h0 : val d = 0 := hb.1 (by omega)
  simp +decide (disch := first | omega | rfl | (simp +decide only [go_sem, ↓reduceIte] <;> rfl) | fail) only [go_sem, ↓reduceIte]
  refine Qa hP Qjh rfl rfl rfl ?_
  simp +decide (disch := first | omega | rfl | (simp +decide only [go_sem, ↓reduceIte] <;> rfl) | fail) only [go_sem, ↓reduceIte]
  refine Qb1 ?_
  simp +decide (disch := first | omega | rfl | (simp +decide only [go_sem, ↓reduceIte] <;> rfl) | fail) only [go_sem, ↓reduceIte]
  refine ⟨⟨rfl, rfl⟩, .tup [PV.zi false [], PV.nat [1]], ⟨⟨rfl, trivial, trivial⟩, Qv _, trivial⟩, false, [], [1], rfl, Qch, by intro x hx; simp at hx; omega, by simp, by simpa using hk, by simp [val], ?_⟩
  unfold rv; rw [h0, Rat.mkRat_zero]; rfl
 ·have h0 : val d ≠ 0 := fun h => hz (by rw [hb.2 h]; rfl)
  simp +decide (disch := first | omega | rfl | (simp +decide only [go_sem, ↓reduceIte] <;> rfl) | fail) only [go_sem, ↓reduceIte]
  refine Qcg ?_ ?_
  all_goals
   simp +decide (disch := first | omega | rfl | (simp +decide only [go_sem, ↓reduceIte] <;> rfl) | fail) only [go_sem, ↓reduceIte]
   refine Qb1 ?_
   simp +decide (disch := first | omega | rfl | (simp +decide only [go_sem, ↓reduceIte] <;> rfl) | fail) only [go_sem, ↓reduceIte]
   exact ⟨⟨rfl, rfl⟩, .tup [PV.zi n a, PV.nat d], ⟨Qv _, Qv _, trivial⟩, n, a, d, rfl, ha, hd, hla, hld, h0, rfl⟩
theorem Q4f {z : Int} {m : Bool} {b : List Nat} (hb : Qh b) (hla : nl z.natAbs < 2 ^ 40) (hlb : b.length < 2 ^ 40) : Qd Tryz.prog 175 [PV.zz z, PV.zi m b] (· = PV.zz (z + zv m b)) := by
 have := Qpr (n := decide (z < 0)) (a := dig z.natAbs) (m := m) (Qj _) hb hla hlb
 rwa [Qeo] at this
theorem Qt4 {n m : Bool} {a b : List Nat} (ha : Qh a) (hb : Qh b) (hla : a.length < 2 ^ 39) (hlb : b.length < 2 ^ 39) : Qd Tryz.prog 111 [.sl 2 [PV.zi n a, PV.zi m b]] (· = PV.zz (zv n a + zv m b)) := by
  have hna := Qai ha
  rw [<- Qa5 n a] at hna
  refine Qi Qm Tryz.func111 rfl Q8a (by simp [Q38]) fun C hP => ?_; simp only [Q38]
  simp +decide (disch := first | omega | rfl | (simp +decide only [go_sem, ↓reduceIte] <;> rfl) | fail) only [go_sem, ↓reduceIte]
  refine Qak (by repeat (first | exact Qx | exact Qp | exact Qq | exact Qr | exact Qt | apply Qo | apply Qw | apply Q3 | apply Q9 | apply Qaa | apply Qn)) [(5, 5), (8, 15)] [5] (fun k J hp => ∃ i, k = 2 - i /\ i <= 2 /\ J 8 = .int .i64 (i : Nat) /\ hp 2 = some ⟨2, 30, [.agg [.bool false, .nilS]], false⟩ /\ hp 3 = some ⟨2, 30, [if i = 0 then .agg [.bool false, .nilS] else if i = 1 then PV.zz (zv n a) else PV.zz (zv n a + zv m b)], false⟩) 2 ?_ ?_
  · refine ⟨0, rfl, by omega, ?_⟩
    simp +decide (disch := first | omega | rfl | (simp +decide only [go_sem, ↓reduceIte] <;> rfl) | fail) only [go_sem, ↓reduceIte]
    simp
  rintro _ J h ⟨i, rfl, hi, h8, hh2, hh3⟩
  simp +decide (disch := first | omega | rfl | (simp +decide only [go_sem, ↓reduceIte, h8] <;> rfl) | fail) only [go_sem, ↓reduceIte, h8]
  refine Qb (fun hg => ?_) (fun hg => ?_)
  · have hi2 : i = 0 ∨ i = 1 := by have : i < 2 := by omega
                                   omega
    rcases hi2 with rfl | rfl
    · have h8' : J 8 = .int .i64 0 := h8
      simp +decide (disch := first | omega | rfl | (simp +decide only [go_sem, ↓reduceIte, h8', hh2, hh3] <;> rfl) | fail) only [go_sem, ↓reduceIte, h8', hh2, hh3]
      refine Qa hP ((Qpr (n := false) (a := []) (m := n) (b := a) Qch ha (by simp) (by omega)).le (args' := [.agg [.bool false, .nilS], PV.zi n a]) ⟨⟨rfl, trivial, trivial⟩, Qv _, trivial⟩) rfl rfl rfl ?_
      simp +decide (disch := first | omega | rfl | (simp +decide only [go_sem, ↓reduceIte, h8', hh2, hh3] <;> rfl) | fail) only [go_sem, ↓reduceIte, h8', hh2, hh3]
      refine Qab 1 (by omega) ⟨1, rfl, by omega, ?_⟩
      simp +decide (disch := first | omega | rfl | (simp +decide only [go_sem, ↓reduceIte, hh2, hh3] <;> rfl) | fail) only [go_sem, ↓reduceIte, hh2, hh3]
      simp [zv, val]
    · rw [if_neg (by omega), if_pos rfl] at hh3
      have h8' : J 8 = .int .i64 1 := h8
      simp +decide (disch := first | omega | rfl | (simp +decide only [go_sem, ↓reduceIte, h8', hh2, hh3] <;> rfl) | fail) only [go_sem, ↓reduceIte, h8', hh2, hh3]
      refine Qa hP (Q4f (z := zv n a) hb (by omega) (by omega)) rfl rfl rfl ?_
      simp +decide (disch := first | omega | rfl | (simp +decide only [go_sem, ↓reduceIte, h8', hh2, hh3] <;> rfl) | fail) only [go_sem, ↓reduceIte, h8', hh2, hh3]
      refine Qab 0 (by omega) ⟨2, rfl, by omega, ?_⟩
      simp +decide (disch := first | omega | rfl | (simp +decide only [go_sem, ↓reduceIte, hh2, hh3] <;> rfl) | fail) only [go_sem, ↓reduceIte, hh2, hh3]
      simp
  · obtain rfl : i = 2 := by simp at hg; omega
    rw [if_neg (by omega), if_neg (by omega)] at hh3
    simp +decide (disch := first | omega | rfl | (simp +decide only [go_sem, ↓reduceIte, h8, hh2, hh3] <;> rfl) | fail) only [go_sem, ↓reduceIte, h8, hh2, hh3]
    refine Qaw ?_
    simp +decide (disch := first | omega | rfl | (simp +decide only [go_sem, ↓reduceIte, hh2, hh3] <;> rfl) | fail) only [go_sem, ↓reduceIte, hh2, hh3]
    exact Qc rfl rfl
end Go.Proofs.YtmnkngmmfnncoaaGreat
namespace Go.Proofs.YtmnkngmmfnncoaaGreat
open Go Go.FW
set_option linter.unusedSimpArgs false
set_option linter.unusedVariables false
set_option maxRecDepth 100000
theorem Qh5 {z : Int} {d : List Nat} (hd : Qh d) (hz : nl z.natAbs < 2 ^ 38) (hld : d.length < 2 ^ 38) : Qd Tryz.prog 110 [PV.zz z, PV.nat d] (· = PV.rat (mkRat z (val d))) := by
 have := Qiw (n := decide (z < 0)) (Qj z.natAbs) hd hz hld
 rwa [rv, Qeo] at this
theorem Qz6 {x y : Int} (hx : nl x.natAbs < 2 ^ 39) (hy : nl y.natAbs < 2 ^ 39) : Qd Tryz.prog 111 [.sl 2 [PV.zz x, PV.zz y]] (· = PV.zz (x + y)) := by
 have := Qt4 (n := decide (x < 0)) (m := decide (y < 0)) (Qj x.natAbs) (Qj y.natAbs) hx hy
 rwa [Qeo, Qeo] at this
theorem Q4g {x y : Int} (hx : nl x.natAbs < 2 ^ 40) (hy : nl y.natAbs < 2 ^ 40) : Qd Tryz.prog 178 [PV.zz x, PV.zz y] (· = .int .i64 (Qep x y)) := by
 have := Qxk (n := decide (x < 0)) (m := decide (y < 0)) (Qj x.natAbs) (Qj y.natAbs) hx hy
 rwa [Qeo, Qeo] at this
structure Raw (k : Nat) (n : Bool) (a d : List Nat) : Prop where
 la : Qh a
 ld : Qh d
 sa : a.length <= k
 sd : d.length <= k
 k1 : 1 <= k
theorem Qct {q : Rat} {k : Nat} (h : rs q <= k) : Raw k (decide (q.num < 0)) (dig q.num.natAbs) (dig q.den) := by
 have := Qts q
 unfold rs nl at *
 exact ⟨Qj _, Qj _, by omega, by omega, by omega⟩
theorem Raw.rs {n : Bool} {a d : List Nat} {k : Nat} (h : Raw k n a d) : FW.rs (rv n a d) <= k := Qz1 (k := k) (n := k) h.la h.ld h.sa h.sd h.k1
theorem Qrp {n m : Bool} {a d b c : List Nat} {k : Nat} (hp : Raw k n a d) (hq : Raw k m b c) (hk : k < 2 ^ 36) : Qd Tryz.prog 37 [PV.rr n a d, PV.rr m b c] (· = PV.rat (rv n a d + rv m b c)) := by
 refine Qi Qm Tryz.func37 rfl Qabr (by simp [c37]) fun C hP => ?_; simp only [c37]
 simp +decide (disch := first | omega | rfl | (simp +decide only [go_sem, ↓reduceIte] <;> rfl) | fail) only [go_sem, ↓reduceIte]
 refine Qcd hP (Qc2 hp.la hp.ld hp.k1 hp.sa hp.sd (by omega)) rfl rfl rfl ?_
 rintro _ ⟨n', a', d', rfl, g1, g2, g3, g4, g5, g6⟩
 simp +decide (disch := first | omega | rfl | (simp +decide only [go_sem, ↓reduceIte] <;> rfl) | fail) only [go_sem, ↓reduceIte]
 refine Qcd hP (Qc2 hq.la hq.ld hq.k1 hq.sa hq.sd (by omega)) rfl rfl rfl ?_
 rintro _ ⟨m', b', c', rfl, e1, e2, e3, e4, e5, e6⟩
 simp +decide (disch := first | omega | rfl | (simp +decide only [go_sem, ↓reduceIte] <;> rfl) | fail) only [go_sem, ↓reduceIte]
 refine Qa hP (Qln (by omega)) rfl rfl rfl ?_
 have key := Rat.mkRat_add_mkRat (zv n' a') (zv m' b') g5 e5
 have hza : nl (zv n' a').natAbs <= k := by rw [Qa5]; exact Nat.le_trans (Qai g1) g3
 have hzb : nl (zv m' b').natAbs <= k := by rw [Qa5]; exact Nat.le_trans (Qai e1) e3
 have hvd : nl (val d') <= k := Nat.le_trans (Qai g2) g4
 have hvc : nl (val c') <= k := Nat.le_trans (Qai e2) e4
 rw [<- g6, <- e6]
 unfold rv
 rw [key]
 simp +decide (disch := first | omega | rfl | (simp +decide only [go_sem, ↓reduceIte] <;> rfl) | fail) only [go_sem, ↓reduceIte]
 refine Qb3 (fun h1 => ?_) (fun h1 => ?_)
 ·simp +decide (disch := first | omega | rfl | (simp +decide only [go_sem, ↓reduceIte] <;> rfl) | fail) only [go_sem, ↓reduceIte]
  refine Qa hP (Qln (by omega)) rfl rfl rfl ?_
  simp +decide (disch := first | omega | rfl | (simp +decide only [go_sem, ↓reduceIte] <;> rfl) | fail) only [go_sem, ↓reduceIte]
  refine Qb (fun h2 => ?_) (fun h2 => ?_)
  ·subst h1 h2
   simp +decide (disch := first | omega | rfl | (simp +decide only [go_sem, ↓reduceIte] <;> rfl) | fail) only [go_sem, ↓reduceIte]
   refine Qcv hP (Qt4 (n := n') (m := m') g1 e1 (by omega) (by omega)) (by simp +decide (disch := first | omega | rfl | (simp +decide only [go_sem, ↓reduceIte, Qe, List.contains_cons, List.contains_nil, List.flatMap_cons, List.flatMap_nil, List.append_nil] <;> rfl) | fail) only [go_sem, ↓reduceIte, Qe, List.contains_cons, List.contains_nil, List.flatMap_cons, List.flatMap_nil, List.append_nil]) rfl ?_
   simp +decide (disch := first | omega | rfl | (simp +decide only [go_sem, ↓reduceIte, Qe, List.contains_cons, List.contains_nil, List.flatMap_cons, List.flatMap_nil, List.append_nil] <;> rfl) | fail) only [go_sem, ↓reduceIte, Qe, List.contains_cons, List.contains_nil, List.flatMap_cons, List.flatMap_nil, List.append_nil]
   have hs := Qew (zv n' a') (zv m' b')
   refine Qa hP (Qh5 g2 (by omega) (by omega)) rfl rfl rfl ?_
   simp +decide (disch := first | omega | rfl | (simp +decide only [go_sem, ↓reduceIte, Qe, List.contains_cons, List.contains_nil, List.flatMap_cons, List.flatMap_nil, List.append_nil] <;> rfl) | fail) only [go_sem, ↓reduceIte, Qe, List.contains_cons, List.contains_nil, List.flatMap_cons, List.flatMap_nil, List.append_nil]
   refine Qaw ?_
   simp +decide (disch := first | omega | rfl | (simp +decide only [go_sem, ↓reduceIte, Qe, List.contains_cons, List.contains_nil, List.flatMap_cons, List.flatMap_nil, List.append_nil] <;> rfl) | fail) only [go_sem, ↓reduceIte, Qe, List.contains_cons, List.contains_nil, List.flatMap_cons, List.flatMap_nil, List.append_nil]
   exact Qc (congrArg PV.rat (by simp [val])) rfl
  ·simp +decide (disch := first | omega | rfl | (simp +decide only [go_sem, ↓reduceIte] <;> rfl) | fail) only [go_sem, ↓reduceIte]
   refine Qa hP (Qd0 _) rfl rfl rfl ?_
   simp +decide (disch := first | omega | rfl | (simp +decide only [go_sem, ↓reduceIte] <;> rfl) | fail) only [go_sem, ↓reduceIte]
   refine Qa hP (Qdi (n := n') (m := false) g1 e2 (by omega) (by omega)) rfl rfl rfl ?_
   simp +decide (disch := first | omega | rfl | (simp +decide only [go_sem, ↓reduceIte] <;> rfl) | fail) only [go_sem, ↓reduceIte]
   refine Qa hP (Qd0 _) rfl rfl rfl ?_
   simp +decide (disch := first | omega | rfl | (simp +decide only [go_sem, ↓reduceIte] <;> rfl) | fail) only [go_sem, ↓reduceIte]
   refine Qa hP (Qdi (n := m') (m := false) e1 g2 (by omega) (by omega)) rfl rfl rfl ?_
   rw [Qfc, Qfc]
   have h3 := Qat (zv n' a') (val c')
   have h4 := Qat (zv m' b') (val d')
   have h5 := Qew (zv n' a' * (val c' : Int)) (zv m' b' * (val d' : Int))
   have h6 := Qe9 (val d') (val c')
   rw [Int.natAbs_natCast] at h3 h4
   simp +decide (disch := first | omega | rfl | (simp +decide only [go_sem, ↓reduceIte] <;> rfl) | fail) only [go_sem, ↓reduceIte]
   refine Qcv hP (Qz6 (x := zv n' a' * (val c' : Int)) (y := zv m' b' * (val d' : Int)) (by omega) (by omega)) (by simp +decide (disch := first | omega | rfl | (simp +decide only [go_sem, ↓reduceIte, Qe, List.contains_cons, List.contains_nil, List.flatMap_cons, List.flatMap_nil, List.append_nil] <;> rfl) | fail) only [go_sem, ↓reduceIte, Qe, List.contains_cons, List.contains_nil, List.flatMap_cons, List.flatMap_nil, List.append_nil]) rfl ?_
   simp +decide (disch := first | omega | rfl | (simp +decide only [go_sem, ↓reduceIte, Qe, List.contains_cons, List.contains_nil, List.flatMap_cons, List.flatMap_nil, List.append_nil] <;> rfl) | fail) only [go_sem, ↓reduceIte, Qe, List.contains_cons, List.contains_nil, List.flatMap_cons, List.flatMap_nil, List.append_nil]
   refine Qa hP (Qll g2 e2 (by omega) (by omega)) rfl rfl rfl ?_
   simp +decide (disch := first | omega | rfl | (simp +decide only [go_sem, ↓reduceIte, Qe, List.contains_cons, List.contains_nil, List.flatMap_cons, List.flatMap_nil, List.append_nil] <;> rfl) | fail) only [go_sem, ↓reduceIte, Qe, List.contains_cons, List.contains_nil, List.flatMap_cons, List.flatMap_nil, List.append_nil]
   refine Qa hP (Qh5 (z := zv n' a' * (val c' : Int) + zv m' b' * (val d' : Int)) (Qj _) (by omega) (by show nl _ < _; omega)) rfl rfl rfl ?_
   simp +decide (disch := first | omega | rfl | (simp +decide only [go_sem, ↓reduceIte, Qe, List.contains_cons, List.contains_nil, List.flatMap_cons, List.flatMap_nil, List.append_nil] <;> rfl) | fail) only [go_sem, ↓reduceIte, Qe, List.contains_cons, List.contains_nil, List.flatMap_cons, List.flatMap_nil, List.append_nil]
   refine Qaw ?_
   simp +decide (disch := first | omega | rfl | (simp +decide only [go_sem, ↓reduceIte, Qe, List.contains_cons, List.contains_nil, List.flatMap_cons, List.flatMap_nil, List.append_nil] <;> rfl) | fail) only [go_sem, ↓reduceIte, Qe, List.contains_cons, List.contains_nil, List.flatMap_cons, List.flatMap_nil, List.append_nil]
   exact Qc (by rw [Qy]) rfl
 · simp +decide (disch := first | omega | rfl | (simp +decide only [go_sem, ↓reduceIte] <;> rfl) | fail) only [go_sem, ↓reduceIte]
   refine Qa hP (Qd0 _) rfl rfl rfl ?_
   simp +decide (disch := first | omega | rfl | (simp +decide only [go_sem, ↓reduceIte] <;> rfl) | fail) only [go_sem, ↓reduceIte]
   refine Qa hP (Qdi (n := n') (m := false) g1 e2 (by omega) (by omega)) rfl rfl rfl ?_
   simp +decide (disch := first | omega | rfl | (simp +decide only [go_sem, ↓reduceIte] <;> rfl) | fail) only [go_sem, ↓reduceIte]
   refine Qa hP (Qd0 _) rfl rfl rfl ?_
   simp +decide (disch := first | omega | rfl | (simp +decide only [go_sem, ↓reduceIte] <;> rfl) | fail) only [go_sem, ↓reduceIte]
   refine Qa hP (Qdi (n := m') (m := false) e1 g2 (by omega) (by omega)) rfl rfl rfl ?_
   rw [Qfc, Qfc]
   have h3 := Qat (zv n' a') (val c')
   have h4 := Qat (zv m' b') (val d')
   have h5 := Qew (zv n' a' * (val c' : Int)) (zv m' b' * (val d' : Int))
   have h6 := Qe9 (val d') (val c')
   rw [Int.natAbs_natCast] at h3 h4
   simp +decide (disch := first | omega | rfl | (simp +decide only [go_sem, ↓reduceIte] <;> rfl) | fail) only [go_sem, ↓reduceIte]
   refine Qcv hP (Qz6 (x := zv n' a' * (val c' : Int)) (y := zv m' b' * (val d' : Int)) (by omega) (by omega)) (by simp +decide (disch := first | omega | rfl | (simp +decide only [go_sem, ↓reduceIte, Qe, List.contains_cons, List.contains_nil, List.flatMap_cons, List.flatMap_nil, List.append_nil] <;> rfl) | fail) only [go_sem, ↓reduceIte, Qe, List.contains_cons, List.contains_nil, List.flatMap_cons, List.flatMap_nil, List.append_nil]) rfl ?_
   simp +decide (disch := first | omega | rfl | (simp +decide only [go_sem, ↓reduceIte, Qe, List.contains_cons, List.contains_nil, List.flatMap_cons, List.flatMap_nil, List.append_nil] <;> rfl) | fail) only [go_sem, ↓reduceIte, Qe, List.contains_cons, List.contains_nil, List.flatMap_cons, List.flatMap_nil, List.append_nil]
   refine Qa hP (Qll g2 e2 (by omega) (by omega)) rfl rfl rfl ?_
   simp +decide (disch := first | omega | rfl | (simp +decide only [go_sem, ↓reduceIte, Qe, List.contains_cons, List.contains_nil, List.flatMap_cons, List.flatMap_nil, List.append_nil] <;> rfl) | fail) only [go_sem, ↓reduceIte, Qe, List.contains_cons, List.contains_nil, List.flatMap_cons, List.flatMap_nil, List.append_nil]
   refine Qa hP (Qh5 (z := zv n' a' * (val c' : Int) + zv m' b' * (val d' : Int)) (Qj _) (by omega) (by show nl _ < _; omega)) rfl rfl rfl ?_
   simp +decide (disch := first | omega | rfl | (simp +decide only [go_sem, ↓reduceIte, Qe, List.contains_cons, List.contains_nil, List.flatMap_cons, List.flatMap_nil, List.append_nil] <;> rfl) | fail) only [go_sem, ↓reduceIte, Qe, List.contains_cons, List.contains_nil, List.flatMap_cons, List.flatMap_nil, List.append_nil]
   refine Qaw ?_
   simp +decide (disch := first | omega | rfl | (simp +decide only [go_sem, ↓reduceIte, Qe, List.contains_cons, List.contains_nil, List.flatMap_cons, List.flatMap_nil, List.append_nil] <;> rfl) | fail) only [go_sem, ↓reduceIte, Qe, List.contains_cons, List.contains_nil, List.flatMap_cons, List.flatMap_nil, List.append_nil]
   exact Qc (by rw [Qy]) rfl
end Go.Proofs.YtmnkngmmfnncoaaGreat
namespace Go.FW
open Go
variable {C : Ctx} {fr : Fr} {hp : HP} {R : Qg}
end Go.FW
namespace Go.FW
open Go
variable {C : Ctx} {ρ : Nat -> Option Nat} {fr fr' : Fr} {hp : HP} {w : World} {K R : Qg}
theorem Qbg.known {p : PV} {v : Value} (h : Qbg C ρ hp w p v) : ∀ γ ∈ p.sref1, hp γ ≠ none := by
 intro γ hγ
 cases p with
 | mso β o n => simp [PV.sref1] at hγ; subst hγ; obtain ⟨_, hb, h1, _⟩ := h; simp [h1]
 | nso β o n => simp [PV.sref1] at hγ; subst hγ; obtain ⟨_, hb, b, cap, h1, _⟩ := h; simp [h1]
 | np β o n => cases h
 | _ => cases hγ
theorem Qa6.known {p : PV} {v : Value} (h : Qa6 C ρ hp w p v) : (∀ γ ∈ p.ref1, hp γ ≠ none) /\ ∀ γ ∈ p.nref1, hp γ ≠ none := by
 cases p with
 | mp β i o => obtain ⟨b, hb, h1, h2, _⟩ := h; simp [PV.ref1, PV.nref1, h2]
 | mso β o n => obtain ⟨hb, h1, _⟩ := h; simp [PV.ref1, PV.nref1, h1]
 | rb β o n => obtain ⟨b, u, _, _, _, _, hb, h1, _⟩ := h; simp [PV.ref1, PV.nref1, h1]
 | np γ i o => obtain ⟨_, b, hb, h1, h2, _⟩ := h; simp [PV.ref1, PV.nref1, h2]
 | nso γ o n => obtain ⟨_, hb, b, cap, h1, _⟩ := h; simp [PV.ref1, PV.nref1, h1]
 | _ => exact ⟨(fun γ hγ => by cases hγ), (fun γ hγ => by cases hγ)⟩
theorem Ql.known {p : PV} {v : Value} (h : Ql C ρ hp w p v) : (∀ γ ∈ p.refs, hp γ ≠ none) /\ ∀ γ ∈ p.sref, hp γ ≠ none := by
 cases p with
 | mp β i o => obtain ⟨b, hb, h1, h2, _⟩ := h; simp [PV.refs, PV.sref, h2]
 | mso β o n => obtain ⟨hb, h1, _⟩ := h; simp [PV.refs, PV.sref, h1]
 | rb β o n => obtain ⟨b, u, _, _, _, _, hb, h1, _⟩ := h; simp [PV.refs, PV.sref, h1]
 | np γ i o => obtain ⟨_, b, hb, h1, h2, _⟩ := h; simp [PV.refs, PV.sref, h2]
 | nso γ o n => obtain ⟨_, hb, b, cap, h1, _⟩ := h; simp [PV.refs, PV.sref, h1]
 | rag cs =>
  obtain ⟨vs, _, _, h2⟩ := h
  refine ⟨fun γ hγ => (by cases hγ), fun γ hγ => ?_⟩
  obtain ⟨x, hx, hγ⟩ := List.mem_flatMap.1 hγ
  obtain ⟨i, hi⟩ := List.getElem?_of_mem hx
  exact (h2 i x hi).known γ hγ
 | nst β e ty xs =>
  obtain ⟨_, _, b, hb, cur, cap, _, g2, _, _, _, _, _, _, _, _, h11⟩ := h
  refine ⟨fun γ hγ => (by cases hγ), fun γ hγ => ?_⟩
  rcases List.mem_cons.1 hγ with rfl | hγ
  ·simp [g2]
  ·obtain ⟨x, hx, hγ⟩ := List.mem_flatMap.1 hγ
   obtain ⟨y, hy, hγ⟩ := List.mem_flatMap.1 hγ
   obtain ⟨i, hi⟩ := List.getElem?_of_mem hx
   obtain ⟨j, hj⟩ := List.getElem?_of_mem hy
   exact (h11 i x hi j y hj).known γ hγ
 | fn f first cap =>
  obtain ⟨fv, cv, _, _, _, h3, h4⟩ := h
  have g : ∀ (l : List PV) (u : Array Value), (∀ (i : Nat) (x : PV), l[i]? = some x -> Qa6 C ρ hp w x (u.getD i undef)) -> (∀ γ ∈ l.flatMap PV.ref1, hp γ ≠ none) /\ ∀ γ ∈ l.flatMap PV.nref1, hp γ ≠ none := by
   intro l u hl
   refine ⟨fun γ hγ => ?_, fun γ hγ => ?_⟩ <;>
   ·obtain ⟨x, hx, hγ⟩ := List.mem_flatMap.1 hγ
    obtain ⟨i, hi⟩ := List.getElem?_of_mem hx
    first | exact (hl i x hi).known.1 γ hγ | exact (hl i x hi).known.2 γ hγ
  refine ⟨fun γ hγ => ?_, fun γ hγ => ?_⟩
  ·rcases List.mem_append.1 hγ with hγ | hγ
   ·exact (g first fv h3).1 γ hγ
   ·exact (g cap cv h4).1 γ hγ
  ·rcases List.mem_append.1 hγ with hγ | hγ
   ·exact (g first fv h3).2 γ hγ
   ·exact (g cap cv h4).2 γ hγ
 | _ => exact ⟨(fun γ hγ => by cases hγ), (fun γ hγ => by cases hγ)⟩
def isN (β : Nat) : Bool := decide (2000000 <= β)
def isS (β : Nat) : Bool := isN β || decide (β < 1000000)
theorem Qady {β : Nat} (h : isS β = false) : isN β = false := by simp [isS] at h; exact h.1
def Qdx : PV -> PV
 | .nst _ _ _ _ | .rag _ => .undef
 | p => if p.refs.any isN || p.sref.any isS then .undef else p
def Qcz (F : Fr) : Fr := fun s => Qdx (F s)
def Cln (p : PV) : Prop := (∀ β ∈ p.refs, isN β = false) /\ (∀ β ∈ p.sref, isS β = false) /\ (∀ γ e ty xs, p ≠ .nst γ e ty xs) /\ ∀ cs, p ≠ .rag cs
theorem Q4h (p : PV) : Cln (Qdx p) := by
 have h0 : Cln .undef := ⟨(fun β h => by cases h), (fun β h => by cases h), (fun _ _ _ _ h => by cases h), (fun _ h => by cases h)⟩
 unfold Qdx
 split
 ·exact h0
 ·exact h0
 ·rename_i hn hn2
  split
  ·exact h0
  ·rename_i h
   simp only [Bool.or_eq_true, not_or, Bool.not_eq_true, List.any_eq_false] at h
   exact ⟨fun β hβ => by simpa using h.1 β hβ, fun β hβ => by simpa using h.2 β hβ, fun γ e ty xs => hn γ e ty xs, hn2⟩
theorem Cln.kill {p : PV} (h : Cln p) {B : List Nat} : Cln (if p.refs.any B.contains then .undef else p) := by
 split
 ·exact ⟨(fun β h => by cases h), (fun β h => by cases h), (fun _ _ _ _ h => by cases h), (fun _ h => by cases h)⟩
 ·exact h
theorem Qrq {β : Nat} {p : PV} (h : ∀ γ ∈ p.refs, γ ≠ β) : Qal β p = p := by
 unfold Qal
 rw [if_neg]
 intro hc
 exact h β (by simpa using hc) rfl
theorem Qz7 {β : Nat} {p : PV} (h : ∀ γ ∈ p.sref1, γ ≠ β) : Qc7 β p = p := by
 cases p with
 | mso γ o n => simp only [Qc7]; rw [if_neg (h γ (by simp [PV.sref1]))]
 | nso γ o n => simp only [Qc7]; rw [if_neg (h γ (by simp [PV.sref1]))]
 | _ => rfl
theorem Qz8 {β : Nat} {p : PV} (h : ∀ γ ∈ p.refs, γ ≠ β) (h2 : ∀ γ ∈ p.sref, γ ≠ β) (h3 : ∀ γ e ty xs, p ≠ .nst γ e ty xs) : Qa7 β p = p := by
 cases p with
 | nst γ e ty xs => exact absurd rfl (h3 _ _ _ _)
 | rag cs =>
  simp only [Qa7]
  congr 1
  conv => rhs; rw [<- List.map_id cs]
  exact List.map_congr_left fun x hx => Qz7 fun γ hγ => h2 γ (List.mem_flatMap.2 ⟨x, hx, hγ⟩)
 | nso γ o n => simp only [Qa7]; rw [if_neg (h2 γ (by simp [PV.sref]))]
 | np γ i o => simp only [Qa7]; rw [if_neg (h2 γ (by simp [PV.sref]))]
 | fn f first cap =>
  simp only [Qa7]
  rw [if_neg, Qrq h]
  intro hc
  exact h2 β (by simpa [PV.sref] using hc) rfl
 | _ => exact Qrq h
theorem Qz9 {β γ : Nat} (h : 2000000 <= β) (h2 : isN γ = false) : γ ≠ β := by
 simp [isN] at h2; omega
abbrev bse (B : List Nat) (F : Fr) : Fr := Q5 B (Qcz F)
theorem Qkn (B : List Nat) (F : Fr) (s : Nat) : Cln (bse B F s) := (Q4h (F s)).kill
theorem Qrr {β : Nat} {B : List Nat} {F : Fr} (h : 2000000 <= β) : Qdd β (bse B F) = bse B F := by
 funext s
 have hc := Qkn B F s
 exact Qz8 (fun γ hγ => Qz9 h (hc.1 γ hγ)) (fun γ hγ => Qz9 h (Qady (hc.2.1 γ hγ))) hc.2.2.1
theorem Qrs {γ : Nat} {B : List Nat} {F : Fr} : Qc1 γ (bse B F) = bse B F := by
 funext s
 have hc := Qkn B F s
 show Qcm γ (bse B F s) = _
 generalize bse B F s = p at *
 cases p with
 | nst γ' e ty xs => exact absurd rfl (hc.2.2.1 _ _ _ _)
 | _ => rfl
theorem Q0a {W : List (Nat × Nat)} {β : Nat} {J F : Fr} : Qdd β (ovr W J F) = ovr W (Qdd β J) (Qdd β F) := by
 funext s; unfold Qdd ovr; split <;> rfl
theorem Q0b {W : List (Nat × Nat)} {β : Nat} {J F : Fr} : Qc1 β (ovr W J F) = ovr W (Qc1 β J) (Qc1 β F) := by
 funext s; unfold Qc1 ovr; split <;> rfl
theorem Q0c {β d : Nat} {F : Fr} {v : PV} : Qdd β (upd F d v) = upd (Qdd β F) d (Qa7 β v) := by
 funext s; unfold Qdd upd; split <;> rfl
theorem Q0d {β d : Nat} {F : Fr} {v : PV} : Qc1 β (upd F d v) = upd (Qc1 β F) d (Qcm β v) := by
 funext s; unfold Qc1 upd; split <;> rfl
theorem Q4i {β : Nat} {F : Fr} {s : Nat} : Qdd β F s = Qa7 β (F s) := rfl
theorem Q4j {β : Nat} {F : Fr} {s : Nat} : Qc1 β F s = Qcm β (F s) := rfl
theorem Qqv (W : List (Nat × Nat)) (B : List Nat) : Fle fr (ovr W fr (bse B fr)) := fun s => by
 unfold ovr bse Q5
 split
 ·exact .inl rfl
 ·split
  ·exact .inr rfl
  ·unfold Qcz Qdx
   split
   ·exact .inr rfl
   ·exact .inr rfl
   ·split
    ·exact .inr rfl
    ·exact .inl rfl
theorem Qbi {sk : List It} {x : SC} (hok : Qc5 R sk) (W : List (Nat × Nat)) (B : List Nat) (I : Nat -> Fr -> HP -> Prop) (m0 : Nat) (h0 : I m0 fr hp)
  (h : ∀ m J hp, I m J hp -> vc C R (.c x :: .el (Qlf W (bse B fr) I m) :: sk) (ovr W J (bse B fr)) hp) : vc C R (.c (.loop x) :: sk) fr hp := by
 refine Qhl (fun m fr' hp' => ∃ J, fr' = ovr W J (bse B fr) /\ I m J hp') m0 (Qqv W B).wk ⟨fr, rfl, h0⟩ ?_
 rintro m _ hp' ⟨J, rfl, hI⟩
 refine Qfp hok.1 _ _ _ _ _ _ (Nat.le_refl _) (.c x (.el ?_ hok.2)) (Fle.refl _) (h m J hp' hI)
 rintro f f' hp2 hf ⟨J2, hp3, m2, e2, hl, h2⟩
 exact Qof hl (hf.wk.trans e2) ⟨J2, rfl, h2⟩
def Qac (l : List (Nat × Nat)) : List PV := l.map fun x => .mso x.1 0 x.2
def Qadz (d : Nat) (S : List Nat) (γ n : Nat) (x : PV) (fr : Fr) : Fr := fun s => if s = γ then x else if S.contains s then .nso γ 0 n else Qal d (fr s)
theorem Qt5 {tmps : Array Value} (h : Q2 C ρ fr hp tmps w) {β b : Nat} {hb : HB} {l : List Nat} (hB : isY β = false) (hβ : hp β = some hb) (hl : β ∈ l) (hρ : ρ β = some b) : ¬ Xof C ρ (Q7 hp l) b := by
 have hblk := (h.own β hb hβ).blk
 rw [hρ] at hblk
 rintro (hx | ⟨γ, hg, h1, h2, h3⟩)
 ·exact Ctx.cls_notX hblk.1 (Qj5 hB) hx
 ·obtain ⟨hg0, g1, _, _, _, _, g6⟩ := Qfo h1
  have := h.inj γ β b (by simp [g1]) (by simp [hβ]) h3 hρ
  subst this
  exact g6 h2 hl
theorem Qds.snap {tmps : Array Value} (h : Q2 C ρ fr hp tmps w) {β o n : Nat} {v : Value} {l : List Nat} {hb : HB} (hr : Qds ρ hp w β o n v) (hB : isY β = false) (hl : β ∈ l) (hβ : hp β = some hb) : Qu w (Xof C ρ (Q7 hp l)) (.sl hb.e ((hb.xs.drop o).take n)) v := by
 obtain ⟨hb', g1, g2, g3⟩ := hr
 rw [hβ] at g1; cases g1
 rcases g3 with ⟨g3, rfl, rfl, rfl⟩ | ⟨b, cap, g3, rfl, g5, g6⟩
 ·simp only [List.take_zero]; exact .slE _ _ _ (Nat.zero_le _)
 ·have hown := h.own β hb hβ
  have hblk := hown.blk
  rw [g3] at hblk
  obtain ⟨_, hlt, cur, cap', c1, c2, c3, c4, c5⟩ := hblk
  obtain ⟨cur', ty', d1, d2⟩ := g5
  rw [c1] at d1; cases d1
  have hcc : o + cap = cap' := by
   rw [c2] at d2
   exact (Nat.eq_of_mul_eq_mul_right hown.epos d2).symm
  subst hcc
  have hlen : ((hb.xs.drop o).take n).length = n := by simp; omega
  have hget : ∀ (i : Nat) (x : PV), ((hb.xs.drop o).take n)[i]? = some x -> i < n /\ hb.xs[o + i]? = some x := fun i x hx => by
   have hi : i < n := by have := (List.getElem?_eq_some_iff.1 hx).1; omega
   rw [List.getElem?_take_of_lt hi, List.getElem?_drop] at hx
   exact ⟨hi, hx⟩
  have := Qu.sl (w := w) (X := Xof C ρ (Q7 hp l)) hb.e ((hb.xs.drop o).take n) b (o * hb.e) cap (fun i j => cur.getD ((o + i) * hb.e + j) undef) (Qt5 h hB hβ hl g3) hlt (by omega) (by omega)
   (fun i x hx => (hown.len _ x (hget i x hx).2).1)
   (fun i hi j hj => by
    rw [hlen] at hi
    have := Qee (i := o + i) (e := hb.e) (o := 0) (j := j) (n := hb.e) (cap := o + cap) (by omega) (by omega) hj
    rw [Nat.add_zero] at this
    rw [show o * hb.e + i * hb.e + j = (o + i) * hb.e + j by rw [Nat.add_mul]]
    exact Qa8 c1 (by rw [c2]; exact this))
   (fun i x hx j y hy => (c5 _ x (hget i x hx).2 j y hy).freeze)
  rwa [hlen] at this
def Qmo (R : Qg) : Qg := fun fr hp => ∃ fr' hp', Wk fr hp fr' hp' /\ R fr' hp'
theorem Q8h {hp' : HP} (hw : Wk fr hp fr' hp') (h : R fr' hp') : Qmo R fr hp := ⟨fr', hp', hw, h⟩
theorem Qb8 (h : R fr hp) : Qmo R fr hp := ⟨fr, hp, Wk.refl _ _, h⟩
theorem Q8i : KM (Qmo R) (Qmo R) := by
 rintro f f' hp hf ⟨fr', hp', h1, h2⟩
 exact ⟨fr', hp', hf.wk.trans h1, h2⟩
theorem Qr : Qc5 (Qmo R) [] := ⟨Q8i, .nil⟩
theorem Q8j {d γ m i : Nat} {k : IntKind} (h : i < m) (he : (hp γ).map (·.e) = some 1) : Qdv 1 (.nso γ 0 m) (.int k (i : Int)) d fr hp K = K (upd fr d (.np γ i 0)) hp := by
 have e : (0 : Int) <= (i : Int) := by omega
 simp [Qdv, e, h, he]
theorem Q8k {d γ o m : Nat} : Qht (.nso γ o m) d fr hp K = K (upd fr d (.int .i64 m)) hp := rfl
theorem Q8l {e by_ ty ty' d β γ n : Nat} {xs : List PV} {y : PV} {fz : Bool} (hb : hp β = some ⟨e, ty, xs, false⟩) (hy : hp γ = some ⟨e, ty', [y], fz⟩) (h0 : 0 < e) (hn : n = xs.length) (h1 : (n + 1) * by_ <= 140737488355328) (h2 : n + 1 <= 9223372036854775807) (hB : 2000000 <= β) :
  Qd5 e by_ ty (.ms β n) (.ms γ 1) d fr hp K = K (upd (Qdd β fr) d (.ms β (n + 1))) (Qk hp β ⟨e, ty, xs ++ [y], false⟩) := by
 subst hn
 have b1 : isB β = true := by simp [isB]; omega
 have b2 : isY β = false := by simp [isY]; omega
 simp [Qd5, Qc8, hy, hb, h0, b1, b2, h1, h2]
theorem Qha {α : Type} {f : α -> PV} {y : α} {e by_ ty ty' d β γ n : Nat} {xs : List α} {fz : Bool} (hb : hp β = some ⟨e, ty, xs.map f, false⟩) (hy : hp γ = some ⟨e, ty', [f y], fz⟩) (h0 : 0 < e) (hn : n = xs.length) (h1 : (n + 1) * by_ <= 140737488355328) (h2 : n + 1 <= 9223372036854775807) (hB : 2000000 <= β) :
  Qd5 e by_ ty (.ms β n) (.ms γ 1) d fr hp K = K (upd (Qdd β fr) d (.ms β (n + 1))) (Qk hp β ⟨e, ty, (xs ++ [y]).map f, false⟩) := by
 rw [Q8l hb hy h0 (by simp [hn]) h1 h2 hB]; simp
theorem Q0e {β γ o n : Nat} (h : γ ≠ β) : Qa7 β (.nso γ o n) = .nso γ o n := by simp only [Qa7]; rw [if_neg h]
theorem Q4k {β γ o n : Nat} (h : γ ≠ β) : Qa7 β (.np γ o n) = .np γ o n := by simp only [Qa7]; rw [if_neg h]
theorem Qad0 :
  (∀ (β : Nat) (k : IntKind) (n : Int), Qa7 β (.int k n) = .int k n) /\
  (∀ (β : Nat) (b : Bool), Qa7 β (.bool b) = .bool b) /\
  (∀ (β e : Nat) (xs : List PV), Qa7 β (.sl e xs) = .sl e xs) /\
  (∀ (β : Nat) (cs : List PV), Qa7 β (.agg cs) = .agg cs) /\
  (∀ (β : Nat) (cs : List PV), Qa7 β (.pt cs) = .pt cs) /\
  (∀ (β : Nat), Qa7 β .nilS = .nilS) /\
  (∀ (β : Nat), Qa7 β .undef = .undef) /\
  (∀ (γ : Nat) (k : IntKind) (n : Int), Qcm γ (.int k n) = .int k n) /\
  (∀ (γ : Nat) (b : Bool), Qcm γ (.bool b) = .bool b) /\
  (∀ (γ e : Nat) (xs : List PV), Qcm γ (.sl e xs) = .sl e xs) /\
  (∀ (γ : Nat) (cs : List PV), Qcm γ (.agg cs) = .agg cs) /\
  (∀ (γ : Nat) (cs : List PV), Qcm γ (.pt cs) = .pt cs) /\
  (∀ (γ : Nat), Qcm γ .nilS = .nilS) /\
  (∀ (γ : Nat), Qcm γ .undef = .undef) /\
  (∀ (γ β o n : Nat), Qcm γ (.mso β o n) = .mso β o n) /\
  (∀ (γ β o n : Nat), Qcm γ (.mp β o n) = .mp β o n) /\
  (∀ (γ β o n : Nat), Qcm γ (.rb β o n) = .rb β o n) /\
  (∀ (γ β o n : Nat), Qcm γ (.nso β o n) = .nso β o n) /\
  (∀ (γ β o n : Nat), Qcm γ (.np β o n) = .np β o n) /\
  (∀ (β γ o n : Nat), Qal β (.nso γ o n) = .nso γ o n) /\
  (∀ (β γ o n : Nat), Qal β (.np γ o n) = .np γ o n) /\
  (∀ (β γ e ty : Nat) (xs : List PV), Qal β (.nst γ e ty xs) = .nst γ e ty xs) /\
  (∀ (β : Nat), Qal β .undef = .undef) /\
  (∀ (β : Nat) (cs : List PV), Qal β (.pt cs) = .pt cs) := by
 refine ⟨?_, ?_, ?_, ?_, ?_, ?_, ?_, ?_, ?_, ?_, ?_, ?_, ?_, ?_, ?_, ?_, ?_, ?_, ?_, ?_, ?_, ?_, ?_, ?_⟩ <;> intros <;> rfl
theorem Q4l (β γ o n : Nat) : Qa7 β (.mso γ o n) = if γ = β then .undef else .mso γ o n := Qtb β γ o n
theorem Q4m (β γ o n : Nat) : Qa7 β (.mp γ o n) = if γ = β then .undef else .mp γ o n := Qtc β γ o n
end Go.FW
namespace Go.FW
open Go
variable {C : Ctx} {ρ : Nat -> Option Nat} {fr fr' : Fr} {hp : HP} {w : World} {K R : Qg}
theorem Q8m {F : Fr} {s : Nat} : Qcz F s = Qdx (F s) := rfl
theorem Qad1 :
  (∀ (k : IntKind) (n : Int), Qdx (.int k n) = .int k n) /\
  (∀ (b : Bool), Qdx (.bool b) = .bool b) /\
  (∀ (e : Nat) (xs : List PV), Qdx (.sl e xs) = .sl e xs) /\
  (∀ (cs : List PV), Qdx (.agg cs) = .agg cs) /\
  (∀ (cs : List PV), Qdx (.pt cs) = .pt cs) /\
  (Qdx .nilS = .nilS) /\ (Qdx .undef = .undef) /\
  (∀ (β o n : Nat), Qdx (.mso β o n) = if isN β then .undef else .mso β o n) /\
  (∀ (β o n : Nat), Qdx (.mp β o n) = if isN β then .undef else .mp β o n) /\
  (∀ (β o n : Nat), Qdx (.rb β o n) = if isN β then .undef else .rb β o n) /\
  (∀ (β o n : Nat), Qdx (.nso β o n) = if isS β then .undef else .nso β o n) /\
  (∀ (β o n : Nat), Qdx (.np β o n) = if isS β then .undef else .np β o n) := by
 refine ⟨fun _ _ => rfl, fun _ => rfl, fun _ _ => rfl, fun _ => rfl, fun _ => rfl, rfl, rfl, ?_, ?_, ?_, ?_, ?_⟩ <;> intros <;> simp [Qdx, PV.refs, PV.sref]
theorem Qabu {β : Nat} : isS β = (isN β || decide (β < 1000000)) := rfl
theorem Qabv {β : Nat} : isN β = decide (2000000 <= β) := rfl
def rws (B n : Nat) (L : Nat -> Nat) : List (Nat × Nat) := (List.range n).map fun i => (B + i, L i)
theorem Qpt (B n : Nat) (L : Nat -> Nat) : (rws B n L).length = n := by simp [rws]
theorem Q4n {d γ n : Nat} {S : List Nat} {x : PV} {s : Nat} : Qadz d S γ n x fr s = if s = γ then x else if S.contains s then .nso γ 0 n else Qal d (fr s) := rfl
theorem Q8n {by_ ty d : Nat} {k k' : IntKind} {n c : Nat} (h2 : n <= c) (h3 : by_ * c <= 281474976710656) (h4 : c <= 9223372036854775807) :
  mkK 1 by_ ty .nilS (.int k (n : Int)) (.int k' (c : Int)) d fr hp K = K (upd (Qan d fr) d (.ms d n)) (Qk hp d ⟨1, ty, List.replicate n .nilS, false⟩) := by
 rw [Qsf (e := 1) (by omega) rfl (by omega) (by omega) (by omega) (by omega)]; rfl
theorem Qabw {k c : Nat} (h : c < 3000000) : (3000000 + k = c) = False := by simp; omega
theorem Q8o {k c : Nat} (h : c < 3000000) : (c = 3000000 + k) = False := by simp; omega
theorem Qabx {k j : Nat} : (3000000 + k = 3000000 + j) = (k = j) := by simp
attribute [go_sem] Qabw Q8o Qabx Q8n Q4n Q0a Q0b Q0c Q0d Q4i Q4j Qrr Qrs Qad0 Q4l Q4m Q0e Q4k Q8j Q8k Q8m Qad1 Qabu Qabv
end Go.FW
namespace Go.FW
open Go
variable {C C' : Ctx} {ρ ρ' : Nat -> Option Nat} {fr fr' : Fr} {hp hp' : HP} {w : World} {K R : Qg}
theorem Qbp {sk : List It} {r : RT} {fr0 : Fr} {hp0 : HP} (hw : Wk fr hp fr0 hp0) (h : vc C R (.o r :: sk) fr0 hp0) : vc C R (.o (.wk r) :: sk) fr hp := by rw [Qo5]; exact ⟨fr0, hp0, hw, h⟩
def rn1 (σ : Nat -> Nat) : PV -> PV
 | .mp β i o => .mp (σ β) i o
 | .mso β o n => .mso (σ β) o n
 | .rb β o n => .rb (σ β) o n
 | .np β i o => .np (σ β) i o
 | .nso β o n => .nso (σ β) o n
 | p => p
def rnP (σ : Nat -> Nat) : PV -> PV
 | .fn f a b => .fn f (a.map (rn1 σ)) (b.map (rn1 σ))
 | .rag cs => .rag (cs.map (rn1 σ))
 | .nst γ e ty xs => .nst (σ γ) e ty (xs.map fun x => Qc3 (x.ncells.map (rn1 σ)))
 | p => rn1 σ p
structure Rn1 (σ : Nat -> Nat) (ρ ρ' : Nat -> Option Nat) (hp hp' : HP) (β : Nat) : Prop where
 r : ρ' (σ β) = ρ β
 h : ∀ hb, hp β = some hb -> ∃ hb2, hp' (σ β) = some hb2 /\ hb2.e = hb.e /\ hb2.ty = hb.ty /\ hb2.xs = hb.xs
 b : isB β = true -> isB (σ β) = true
theorem Qds.ren {σ : Nat -> Nat} {β o n : Nat} {v : Value} (h : Qds ρ hp w β o n v) (hr : Rn1 σ ρ ρ' hp hp' β) : Qds ρ' hp' w (σ β) o n v := by
 obtain ⟨hb, h1, h2, h3⟩ := h
 obtain ⟨hb', k1, k2, k3, k4⟩ := hr.h hb h1
 refine ⟨hb', k1, by rw [k4]; exact h2, ?_⟩
 rw [hr.r, k2]; exact h3
theorem Qgu.ren {σ : Nat -> Nat} {γ o n : Nat} {v : Value} (h : Qgu ρ hp w γ o n v) (hr : Rn1 σ ρ ρ' hp hp' γ) : Qgu ρ' hp' w (σ γ) o n v := by
 obtain ⟨h0, hb, b, cap, h1, h2, h3⟩ := h
 obtain ⟨hb', k1, k2, k3, k4⟩ := hr.h hb h1
 exact ⟨hr.b h0, hb', b, cap, k1, by rw [hr.r]; exact h2, by rw [k2]; exact h3⟩
theorem Qu.sub {X X' : Nat -> Prop} {p : PV} {v : Value} (h : Qu w X p v) (hX : ∀ b, X' b -> X b) : Qu w X' p v := h.mono (fun _ _ _ => rfl) (fun b _ hn hx => hn (hX b hx)) (Nat.le_refl _)
theorem Qbg.ren {σ : Nat -> Nat} {p : PV} {v : Value} (h : Qbg C ρ hp w p v) (hX : ∀ b, Xof C' ρ' hp' b -> Xof C ρ hp b) (hr : ∀ β ∈ p.sref1, Rn1 σ ρ ρ' hp hp' β) : Qbg C' ρ' hp' w (rn1 σ p) v := by
 cases p with
 | undef => trivial
 | mso β o n => exact ⟨(hr β (by simp [PV.sref1])).b h.1, h.2.ren (hr β (by simp [PV.sref1]))⟩
 | nso γ o n => exact Qgu.ren h (hr γ (by simp [PV.sref1]))
 | mp => cases h
 | rb => cases h
 | np => cases h
 | _ => exact Qu.sub h hX
theorem Qa6.ren {σ : Nat -> Nat} {p : PV} {v : Value} (h : Qa6 C ρ hp w p v) (hX : ∀ b, Xof C' ρ' hp' b -> Xof C ρ hp b) (hr : ∀ β ∈ p.ref1 ++ p.nref1, Rn1 σ ρ ρ' hp hp' β) : Qa6 C' ρ' hp' w (rn1 σ p) v := by
 cases p with
 | mp β i o =>
  have hq := hr β (by simp [PV.ref1])
  obtain ⟨b, hb, h1, h2, h3⟩ := h
  obtain ⟨hb', k1, k2, k3, k4⟩ := hq.h hb h2
  exact ⟨b, hb', by rw [hq.r]; exact h1, k1, by rw [k2]; exact h3⟩
 | mso β o n => exact Qds.ren h (hr β (by simp [PV.ref1]))
 | rb β o n =>
  obtain ⟨b, u, h1, h2, h3, h4, h5⟩ := h
  exact ⟨b, u, h1, h2, fun hx => h3 (hX b hx), h4, h5.ren (hr β (by simp [PV.ref1]))⟩
 | np γ i o =>
  have hq := hr γ (by simp [PV.ref1, PV.nref1])
  obtain ⟨h0, b, hb, h1, h2, h3⟩ := h
  obtain ⟨hb', k1, k2, k3, k4⟩ := hq.h hb h2
  exact ⟨hq.b h0, b, hb', by rw [hq.r]; exact h1, k1, by rw [k2]; exact h3⟩
 | nso γ o n => exact Qgu.ren h (hr γ (by simp [PV.ref1, PV.nref1]))
 | _ => exact Qu.sub h hX
theorem Qn2 {cs : List PV} (h : ∀ c ∈ cs, (∀ ds, c ≠ .agg ds) /\ ∀ ds, c ≠ .rag ds) : (Qc3 cs).ncells = cs := by
 match cs, h with
 | [], _ => rfl
 | [c], h =>
  obtain ⟨h1, h2⟩ := h c (by simp)
  cases c with
  | agg ds => exact absurd rfl (h1 ds)
  | rag ds => exact absurd rfl (h2 ds)
  | _ => rfl
 | c :: d :: cs, _ =>
  simp only [Qc3, Qez]
  split <;> rfl
theorem Qbg.one {p : PV} {v : Value} (h : Qbg C ρ hp w p v) : (∀ ds, p ≠ .agg ds) /\ ∀ ds, p ≠ .rag ds := by
 refine ⟨fun ds e => ?_, fun ds e => ?_⟩ <;> subst e <;> cases h
theorem Ql.ren {σ : Nat -> Nat} {p : PV} {v : Value} (h : Ql C ρ hp w p v) (hX : ∀ b, Xof C' ρ' hp' b -> Xof C ρ hp b) (hr : ∀ β ∈ p.refs ++ p.sref, Rn1 σ ρ ρ' hp hp' β) : Ql C' ρ' hp' w (rnP σ p) v := by
 have hV : ∀ q u, Qu w (Xof C ρ hp) q u -> Qu w (Xof C' ρ' hp') q u := fun q u hq => Qu.sub hq hX
 cases p with
 | undef => trivial
 | mp β i o => exact Qa6.ren (w := w) (p := .mp β i o) h hX (by simpa [PV.refs, PV.sref, PV.ref1, PV.nref1] using hr)
 | mso β o n => exact Qa6.ren (w := w) (p := .mso β o n) h hX (by simpa [PV.refs, PV.sref, PV.ref1, PV.nref1] using hr)
 | rb β o n => exact Qa6.ren (w := w) (p := .rb β o n) h hX (by simpa [PV.refs, PV.sref, PV.ref1, PV.nref1] using hr)
 | np γ i o => exact Qa6.ren (w := w) (p := .np γ i o) h hX (by simpa [PV.refs, PV.sref, PV.ref1, PV.nref1] using hr)
 | nso γ o n => exact Qa6.ren (w := w) (p := .nso γ o n) h hX (by simpa [PV.refs, PV.sref, PV.ref1, PV.nref1] using hr)
 | rag cs =>
  obtain ⟨vs, rfl, h1, h2⟩ := h
  refine ⟨vs, rfl, by simpa using h1, fun i x hi => ?_⟩
  simp only [List.getElem?_map, Option.map_eq_some_iff] at hi
  obtain ⟨y, hy, rfl⟩ := hi
  exact (h2 i y hy).ren hX fun β hβ => hr β (List.mem_append_right _ (List.mem_flatMap.2 ⟨y, List.mem_of_getElem? hy, hβ⟩))
 | nst γ e ty xs =>
  obtain ⟨h0, he, b, hb, cur, cap, h1, h2, h3, h4, h5, h6, h7, h8, h9, h10, h11⟩ := h
  have hq := hr γ (by simp [PV.sref])
  have key : ∀ (i : Nat) (x : PV), xs[i]? = some x -> ∀ (j : Nat) (y : PV), x.ncells[j]? = some y -> Qbg C' ρ' hp' w (rn1 σ y) (cur.getD (i * e + j) undef) := fun i x hx j y hy =>
   (h11 i x hx j y hy).ren hX fun β hβ => hr β (List.mem_append_right _ (List.mem_cons_of_mem _ (List.mem_flatMap.2 ⟨x, List.mem_of_getElem? hx, List.mem_flatMap.2 ⟨y, List.mem_of_getElem? hy, hβ⟩⟩)))
  have hnc : ∀ (i : Nat) (x : PV), xs[i]? = some x -> (Qc3 (x.ncells.map (rn1 σ))).ncells = x.ncells.map (rn1 σ) := fun i x hx => by
   refine Qn2 fun c hc => ?_
   obtain ⟨y, hy, rfl⟩ := List.mem_map.1 hc
   obtain ⟨j, hj⟩ := List.getElem?_of_mem hy
   exact (key i x hx j y hj).one
  obtain ⟨hb', k1, k2, k3, k4⟩ := hq.h hb h2
  refine ⟨hq.b h0, he, b, hb', cur, cap, by rw [hq.r]; exact h1, k1, by rw [k4]; exact h3, by rw [k2]; exact h4, by rw [k3]; exact h5, h6, h7, by simpa using h8, h9, fun i x hx => ?_, fun i x hx j y hy => ?_⟩
  ·simp only [List.getElem?_map, Option.map_eq_some_iff] at hx
   obtain ⟨x0, hx0, rfl⟩ := hx
   rw [hnc i x0 hx0, List.length_map]; exact h10 i x0 hx0
  ·simp only [List.getElem?_map, Option.map_eq_some_iff] at hx
   obtain ⟨x0, hx0, rfl⟩ := hx
   rw [hnc i x0 hx0, List.getElem?_map, Option.map_eq_some_iff] at hy
   obtain ⟨y0, hy0, rfl⟩ := hy
   exact key i x0 hx0 j y0 hy0
 | fn f first cap =>
  obtain ⟨fv, cv, rfl, h1, h2, h3, h4⟩ := h
  have hm : ∀ (l : List PV) (x : PV), x ∈ l -> ∀ β ∈ x.ref1 ++ x.nref1, β ∈ l.flatMap PV.ref1 ++ l.flatMap PV.nref1 := fun l x hx β hβ => by
   rcases List.mem_append.1 hβ with hβ | hβ
   ·exact List.mem_append_left _ (List.mem_flatMap.2 ⟨x, hx, hβ⟩)
   ·exact List.mem_append_right _ (List.mem_flatMap.2 ⟨x, hx, hβ⟩)
  refine ⟨fv, cv, rfl, by simpa using h1, by simpa using h2, fun i x hi => ?_, fun i x hi => ?_⟩
  ·simp only [List.getElem?_map, Option.map_eq_some_iff] at hi
   obtain ⟨y, hy, rfl⟩ := hi
   refine (h3 i y hy).ren hX fun β hβ => hr β ?_
   have := hm first y (List.mem_of_getElem? hy) β hβ
   simp only [PV.refs, PV.sref, List.mem_append] at this ⊢
   rcases this with h | h
   ·exact .inl (.inl h)
   ·exact .inr (.inl h)
  ·simp only [List.getElem?_map, Option.map_eq_some_iff] at hi
   obtain ⟨y, hy, rfl⟩ := hi
   refine (h4 i y hy).ren hX fun β hβ => hr β ?_
   have := hm cap y (List.mem_of_getElem? hy) β hβ
   simp only [PV.refs, PV.sref, List.mem_append] at this ⊢
   rcases this with h | h
   ·exact .inl (.inr h)
   ·exact .inr (.inr h)
 | agg cs => exact Qcb.move (p := .agg cs) h hV
 | tup cs => exact Qcb.move (p := .tup cs) h hV
 | _ => exact hV _ _ h
theorem Qaby (σ τ : Nat -> Nat) (h1 : ∀ β hb, hp β = some hb -> hp' (σ β) = some hb /\ τ (σ β) = β) (h2 : ∀ γ hb, hp' γ = some hb -> hp (τ γ) = some hb /\ σ (τ γ) = γ)
  (hB : ∀ β, hp β ≠ none -> isB β = true -> isB (σ β) = true) (hY : ∀ β, hp β ≠ none -> isY (σ β) = isY β /\ (isY β = true -> σ β = β)) (hf : ∀ s, fr' s = rnP σ (fr s) ∨ fr' s = .undef) : Wk fr hp fr' hp' := by
 rintro C tmps w ⟨ρ, hs⟩
 obtain ⟨ρ', hρ⟩ : ∃ f : Nat -> Option Nat, f = fun γ => if hp' γ = none then none else ρ (τ γ) := ⟨_, rfl⟩
 have hr : ∀ β, hp β ≠ none -> Rn1 σ ρ ρ' hp hp' β := fun β hβ => by
  obtain ⟨hb, hq⟩ := Option.ne_none_iff_exists'.1 hβ
  obtain ⟨a1, a2⟩ := h1 β hb hq
  refine ⟨?_, (fun hb hq => ⟨hb, (h1 β hb hq).1, rfl, rfl, rfl⟩), hB β hβ⟩
  rw [hρ]; simp only []
  rw [if_neg (by rw [a1]; simp), a2]
 have hb' : ∀ γ hb, hp' γ = some hb -> ρ' γ = ρ (τ γ) := fun γ hb hq => by rw [hρ]; simp only []; rw [if_neg (by rw [hq]; simp)]
 have hX : ∀ b, Xof C ρ' hp' b -> Xof C ρ hp b := by
  rintro b (hx | ⟨γ, hg, g1, g2, g3⟩)
  ·exact .inl hx
  ·rw [hb' γ hg g1] at g3
   exact .inr ⟨τ γ, hg, (h2 γ hg g1).1, g2, g3⟩
 refine ⟨ρ', hs.sz, hs.ext, hs.keep, fun γ hb hγ => ?_, fun γ δ b g1 g2 g3 g4 => ?_, fun i => ?_⟩
 ·obtain ⟨a1, a2⟩ := h2 γ hb hγ
  obtain ⟨q1, q2, q3, q4, q5⟩ := hs.own (τ γ) hb a1
  obtain ⟨y1, y2⟩ := hY (τ γ) (by simp [a1])
  rw [a2] at y1 y2
  refine ⟨q1, q2, ?_, fun hy => ?_, fun hR => ?_⟩
  rotate_left
  rotate_left
  ·have hy : isY γ = true := by simp [isR] at hR; simp [isY]; omega
   have e := y2 (by rw [<- y1]; exact hy)
   exact q5 (by rw [<- e]; exact hR)
  ·rw [hb' γ hb hγ]
   cases hq : ρ (τ γ) with
   | none => rw [hq] at q3; exact q3
   | some b =>
    rw [hq] at q3
    refine ⟨?_, q3.2.1, q3.2.2.move rfl rfl rfl rfl fun q u hq => Qu.sub hq hX⟩
    have := q3.1
    unfold Ctx.cls at this ⊢
    rw [y1]
    split at this
    ·rename_i hy; rw [if_pos hy, y2 hy]; exact this
    ·rename_i hy; rw [if_neg hy]; exact this
  ·rw [hb' γ hb hγ, q4 (by rw [<- y1]; exact hy), <- y2 (by rw [<- y1]; exact hy)]
 ·obtain ⟨x1, k1⟩ := Option.ne_none_iff_exists'.1 g1
  obtain ⟨x2, k2⟩ := Option.ne_none_iff_exists'.1 g2
  rw [hb' γ x1 k1] at g3; rw [hb' δ x2 k2] at g4
  have := hs.inj (τ γ) (τ δ) b (by rw [(h2 γ x1 k1).1]; simp) (by rw [(h2 δ x2 k2).1]; simp) g3 g4
  rw [<- (h2 γ x1 k1).2, <- (h2 δ x2 k2).2, this]
 ·have hsl := hs.slots i
  rcases hf i with e | e
  ·rw [e]
   exact hsl.ren hX fun β hβ => hr β (by
    rcases List.mem_append.1 hβ with h | h
    ·exact hsl.known.1 β h
    ·exact hsl.known.2 β h)
  ·rw [e]; trivial
def mvN (β δ x : Nat) : Nat := if x = β then δ else x
def mvF (β δ : Nat) (fr : Fr) : Fr := fun s => rnP (mvN β δ) (fr s)
def mvH (β δ : Nat) (hp : HP) : HP := fun x => if x = δ then hp β else if x = β then none else hp x
theorem Qgl (β δ : Nat) (hδ : hp δ = none) (h2 : 2000000 <= δ) (hY : isY β = false) (hne : β ≠ δ) : Wk fr hp (mvF β δ fr) (mvH β δ hp) := by
 have bδ : isB δ = true := by simp [isB]; omega
 have yδ : isY δ = false := by simp [isY]; omega
 refine Qaby (mvN β δ) (fun y => if y = δ then β else y) (fun x hb hx => ?_) (fun y hb hy => ?_) (fun x hx hb => ?_) (fun x hx => ?_) (fun s => .inl rfl)
 ·unfold mvN mvH
  by_cases e : x = β
  ·subst e; simp [hx]
  ·have e2 : x ≠ δ := fun e2 => by rw [e2, hδ] at hx; cases hx
   simp [e, e2, hx]
 ·unfold mvH at hy
  unfold mvN
  by_cases e : y = δ
  ·subst e; simp at hy; simp [hy]
  ·rw [if_neg e] at hy
   by_cases e2 : y = β
   ·rw [if_pos e2] at hy; cases hy
   ·rw [if_neg e2] at hy; simp [e, e2, hy]
 ·unfold mvN; split
  ·exact bδ
  ·exact hb
 ·unfold mvN; split
  ·rename_i e; subst e; rw [yδ, hY]; simp
  ·simp
theorem Qabz {β δ x : Nat} : mvH β δ hp x = if x = δ then hp β else if x = β then none else hp x := rfl
theorem Qab0 {β δ s : Nat} : mvF β δ fr s = rnP (mvN β δ) (fr s) := rfl
theorem Qab1 {β δ x : Nat} : mvN β δ x = if x = β then δ else x := rfl
theorem Q8p {β δ d : Nat} {v : PV} : mvF β δ (upd fr d v) = upd (mvF β δ fr) d (rnP (mvN β δ) v) := by
 funext s; unfold mvF upd; split <;> rfl
theorem Q8q {W : List (Nat × Nat)} {β δ : Nat} {J F : Fr} : mvF β δ (ovr W J F) = ovr W (mvF β δ J) (mvF β δ F) := by
 funext s; unfold mvF ovr; split <;> rfl
theorem Q0f {σ : Nat -> Nat} {p : PV} (h : ∀ β ∈ p.ref1 ++ p.nref1, σ β = β) : rn1 σ p = p := by
 cases p with
 | mp β => simp only [rn1]; rw [h β (by simp [PV.ref1])]
 | mso β => simp only [rn1]; rw [h β (by simp [PV.ref1])]
 | rb β => simp only [rn1]; rw [h β (by simp [PV.ref1])]
 | np β => simp only [rn1]; rw [h β (by simp [PV.ref1, PV.nref1])]
 | nso β => simp only [rn1]; rw [h β (by simp [PV.ref1, PV.nref1])]
 | _ => rfl
theorem Q8r {σ : Nat -> Nat} {p : PV} (h : Cln p) (hσ : ∀ β ∈ p.refs ++ p.sref, σ β = β) : rnP σ p = p := by
 have hm : ∀ (l : List PV), (∀ β ∈ l.flatMap PV.ref1 ++ l.flatMap PV.nref1, σ β = β) -> l.map (rn1 σ) = l := fun l hl => by
  conv => rhs; rw [<- List.map_id l]
  refine List.map_congr_left fun x hx => Q0f fun β hβ => hl β ?_
  rcases List.mem_append.1 hβ with hβ | hβ
  ·exact List.mem_append_left _ (List.mem_flatMap.2 ⟨x, hx, hβ⟩)
  ·exact List.mem_append_right _ (List.mem_flatMap.2 ⟨x, hx, hβ⟩)
 cases p with
 | nst γ e ty xs => exact absurd rfl (h.2.2.1 _ _ _ _)
 | rag cs => exact absurd rfl (h.2.2.2 _)
 | fn f a b =>
  simp only [rnP]
  rw [hm a, hm b]
  ·intro β hβ; refine hσ β ?_
   simp only [PV.refs, PV.sref, List.mem_append] at hβ ⊢
   rcases hβ with h | h
   ·exact .inl (.inr h)
   ·exact .inr (.inr h)
  ·intro β hβ; refine hσ β ?_
   simp only [PV.refs, PV.sref, List.mem_append] at hβ ⊢
   rcases hβ with h | h
   ·exact .inl (.inl h)
   ·exact .inr (.inl h)
 | mp β => simp only [rnP, rn1]; rw [hσ β (by simp [PV.refs])]
 | mso β => simp only [rnP, rn1]; rw [hσ β (by simp [PV.refs])]
 | rb β => simp only [rnP, rn1]; rw [hσ β (by simp [PV.refs])]
 | np β => simp only [rnP, rn1]; rw [hσ β (by simp [PV.refs, PV.sref])]
 | nso β => simp only [rnP, rn1]; rw [hσ β (by simp [PV.refs, PV.sref])]
 | _ => rfl
theorem Q4o {B : List Nat} {F : Fr} {s β : Nat} (h : β ∈ (bse B F s).refs) : B.contains β = false := by
 cases hq : B.contains β with
 | false => rfl
 | true =>
  unfold bse Q5 at h
  split at h
  ·cases h
  ·rename_i hn; exact absurd (List.any_eq_true.2 ⟨β, h, hq⟩) hn
theorem Q8s {B : List Nat} {F : Fr} {β δ : Nat} (hβ : B.contains β = true ∨ 2000000 <= β) (hβ2 : β < 1000000 ∨ 2000000 <= β) : mvF β δ (bse B F) = bse B F := by
 funext s
 have hc := Qkn B F s
 refine Q8r hc fun x hx => if_neg fun e => ?_
 subst e
 rcases hβ with hβ | hβ
 ·rcases List.mem_append.1 hx with h | h
  ·rw [Q4o h] at hβ; cases hβ
  ·have h1 := hc.2.1 x h
   simp [isS, isN] at h1; omega
 ·rcases List.mem_append.1 hx with h | h
  ·have := hc.1 x h; simp [isN] at this; omega
  ·have := hc.2.1 x h; simp [isS, isN] at this; omega
end Go.FW
