/- Part 3 of the proof of PseudoEquation: C1, CI, C1b, N1, N2, N3, N4, N5, N6, N7, N8, N9, N10, N11, N12, N13, N14, N15, I1, R1, R2, L0, CM, CP. Own lemmas; no conditions. -/
import Derived.Test.YtmnkngmmfnncoaaGreatPseudoEquationPart2
import Derived.Test.YtmnkngmmfnncoaaGreatProg
import Derived.Test.YtmnkngmmfnncoaaGreatRows
import Derived.WalkKit
import Derived.ProofKit
import Derived.OpenShut
import Derived.JoinedCond
set_option linter.unusedSimpArgs false
set_option linter.unnecessarySimpa false
set_option linter.unusedVariables false
namespace Go.Proofs.YtmnkngmmfnncoaaGreat
open Go Go.FW
set_option maxRecDepth 100000
theorem Qk : Tryz.prog.follows .mixedOrders = true := by kernel_rfl
def Qv4 : SFn := ⟨21, [.t 2], .seq (.rg (.o none (.mv 2 (.c .nilS)) .nil)) <| .seq (.rg (.o none (.mv 4 (.t 0)) <|
 .o none (.len 5 (.t 4)) <|
 .o none (.mv 3 (.t 5)) .nil)) <| .seq (.block 0 (.loop (.seq (.seq (.rg (.o none (.mv 6 (.t 3)) <|
 .o none (.bin 7 .gtr false (.t 6) (.c (.int .i64 0))) <|
 .o none (.mv 8 (.t 7)) <|
 .o (some (8, true)) (.mv 9 (.t 0)) <|
 .o (some (8, true)) (.mv 10 (.t 3)) <|
 .o (some (8, true)) (.bin 11 .sub false (.t 10) (.c (.int .i64 1))) <|
 .o (some (8, true)) (.idx 12 1 (.t 9) (.t 11)) <|
 .o (some (8, true)) (.ld 13 1 false (.t 12)) <|
 .o (some (8, true)) (.bin 14 .eql false (.t 13) (.c (.int .u16 0))) <|
 .o none (.pick 15 (.t 8) (.t 14) (.c (.bool false))) .nil)) <| .cond (.t 15) (.skip) (.exit 0)) <| .block 1 (.rg (.o none (.mv 16 (.t 3)) <|
 .o none (.bin 17 .sub false (.t 16) (.c (.int .i64 1))) <|
 .o none (.mv 3 (.t 17)) .nil))))) <| .seq (.rg (.o none (.mv 18 (.t 0)) <|
 .o none (.mv 19 (.t 3)) <|
 .o none (.sl 20 1 (.t 18) none (some (.t 19)) none) <|
 .o none (.mv 2 (.t 20)) .nil)) <| .ret⟩
theorem Qye : Qf Tryz.prog Tryz.f177 = some Qv4 := by kernel_rfl
def Q48 : SFn := ⟨16, [.t 2], .seq (.rg (.o none (.mv 2 (.c .nilS)) .nil)) <| .seq (.rg (.o none (.mv 4 (.t 0)) <|
 .o none (.call (some 5) false (.c (.fn 177 [] [])) [(.t 4)]) <|
 .o none (.mv 0 (.t 5)) .nil)) <| .seq (.seq (.rg (.o none (.mv 6 (.t 0)) <|
 .o none (.len 7 (.t 6)) <|
 .o none (.bin 8 .eql false (.t 7) (.c (.int .i64 0))) .nil)) <| .cond (.t 8) (.seq (.rg (.o none (.mv 2 (.c .nilS)) .nil)) <| .ret) (.skip)) <| .seq (.rg (.o none (.mv 9 (.t 0)) <|
 .o none (.len 10 (.t 9)) <|
 .o none (.mk 11 1 2 156 (.int .u16 0) (.t 10) (.t 10)) <|
 .o none (.mv 3 (.t 11)) .nil)) <| .seq (.rg (.o none (.mv 12 (.t 3)) <|
 .o none (.mv 13 (.t 0)) <|
 .o none (.cpy 14 1 (.t 12) (.t 13)) .nil)) <| .seq (.rg (.o none (.mv 15 (.t 3)) <|
 .o none (.mv 2 (.t 15)) .nil)) <| .ret⟩
theorem Q99 : Qf Tryz.prog Tryz.f173 = some Q48 := by kernel_rfl
def Q49 : SFn := ⟨14, [.t 2], .seq (.rg (.o none (.mv 2 (.c .nilS)) .nil)) <| .seq (.rg (.o none (.mv 3 (.c .nilS)) .nil)) <| .seq (.block 0 (.loop (.seq (.seq (.rg (.o none (.mv 4 (.t 0)) <|
 .o none (.bin 5 .gtr false (.t 4) (.c (.int .u64 0))) .nil)) <| .cond (.t 5) (.skip) (.exit 0)) <| .seq (.block 1 (.rg (.o none (.mv 8 (.t 3)) <|
 .o none (.mv 9 (.t 0)) <|
 .o none (.conv 10 .u16 (.t 9)) <|
 .o none (.bs 11 1 156 [(.t 10)]) <|
 .o none (.app 12 1 2 156 (.t 8) (.t 11)) <|
 .o none (.mv 3 (.t 12)) .nil))) <| .rg (.o none (.mv 6 (.t 0)) <|
 .o none (.bin 7 .shr false (.t 6) (.c (.int .u64 16))) <|
 .o none (.mv 0 (.t 7)) .nil)))) <| .seq (.rg (.o none (.mv 13 (.t 3)) <|
 .o none (.mv 2 (.t 13)) .nil)) <| .ret⟩
theorem Qaaa : Qf Tryz.prog Tryz.f143 = some Q49 := by kernel_rfl
def Q5a : SFn := ⟨28, [.t 2, .t 3], .seq (.rg (.o none (.mv 2 (.c (.int .u64 0))) <|
 .o none (.mv 3 (.c (.bool false))) .nil)) <| .seq (.rg (.o none (.mv 7 (.t 0)) <|
 .o none (.call (some 8) false (.c (.fn 177 [] [])) [(.t 7)]) <|
 .o none (.mv 0 (.t 8)) .nil)) <| .seq (.seq (.rg (.o none (.mv 9 (.t 0)) <|
 .o none (.len 10 (.t 9)) <|
 .o none (.bin 11 .gtr false (.t 10) (.c (.int .i64 4))) .nil)) <| .cond (.t 11) (.seq (.rg (.o none (.mv 2 (.c (.int .u64 0))) <|
 .o none (.mv 3 (.c (.bool false))) .nil)) <| .ret) (.skip)) <| .seq (.rg (.o none (.mv 4 (.c (.int .u64 0))) .nil)) <| .seq (.seq (.rg (.o none (.mv 12 (.t 0)) <|
 .o none (.len 13 (.t 12)) <|
 .o none (.mv 14 (.c (.int .i64 0))) .nil)) <| .block 0 (.loop (.seq (.rg (.o none (.bin 15 .lss false (.t 14) (.t 13)) .nil)) <| .seq (.cond (.t 15) (.skip) (.exit 0)) <| .seq (.block 1 (.seq (.rg (.o none (.mv 16 (.t 14)) <|
 .o none (.idx 17 1 (.t 12) (.t 14)) <|
 .o none (.ld 18 1 false (.t 17)) <|
 .o none (.mv 5 (.t 16)) <|
 .o none (.mv 6 (.t 18)) .nil)) <| .rg (.o none (.mv 19 (.t 4)) <|
 .o none (.mv 20 (.t 6)) <|
 .o none (.conv 21 .u64 (.t 20)) <|
 .o none (.mv 22 (.t 5)) <|
 .o none (.bin 23 .mul false (.c (.int .i64 16)) (.t 22)) <|
 .o none (.bin 24 .shl false (.t 21) (.t 23)) <|
 .o none (.bin 25 .or false (.t 19) (.t 24)) <|
 .o none (.mv 4 (.t 25)) .nil))) <| .rg (.o none (.bin 26 .add false (.t 14) (.c (.int .i64 1))) <|
 .o none (.mv 14 (.t 26)) .nil)))) <| .seq (.rg (.o none (.mv 27 (.t 4)) <|
 .o none (.mv 2 (.t 27)) <|
 .o none (.mv 3 (.c (.bool true))) .nil)) <| .ret⟩
theorem Qaab : Qf Tryz.prog Tryz.f195 = some Q5a := by kernel_rfl
def Q5b : SFn := ⟨20, [.t 2], .seq (.rg (.o none (.mv 2 (.c (.int .i64 0))) .nil)) <| .seq (.rg (.o none (.mv 3 (.t 0)) <|
 .o none (.call (some 4) false (.c (.fn 177 [] [])) [(.t 3)]) <|
 .o none (.mv 0 (.t 4)) .nil)) <| .seq (.seq (.rg (.o none (.mv 5 (.t 0)) <|
 .o none (.len 6 (.t 5)) <|
 .o none (.bin 7 .eql false (.t 6) (.c (.int .i64 0))) .nil)) <| .cond (.t 7) (.seq (.rg (.o none (.mv 2 (.c (.int .i64 0))) .nil)) <| .ret) (.skip)) <| .seq (.rg (.o none (.mv 8 (.t 0)) <|
 .o none (.len 9 (.t 8)) <|
 .o none (.bin 10 .sub false (.t 9) (.c (.int .i64 1))) <|
 .o none (.bin 11 .mul false (.c (.int .i64 16)) (.t 10)) <|
 .o none (.mv 12 (.t 0)) <|
 .o none (.mv 13 (.t 0)) <|
 .o none (.len 14 (.t 13)) <|
 .o none (.bin 15 .sub false (.t 14) (.c (.int .i64 1))) <|
 .o none (.idx 16 1 (.t 12) (.t 15)) <|
 .o none (.ld 17 1 false (.t 16)) <|
 .o none (.call (some 18) false (.c (.fn 211 [] [])) [(.t 17)]) <|
 .o none (.bin 19 .add false (.t 11) (.t 18)) <|
 .o none (.mv 2 (.t 19)) .nil)) <| .ret⟩
theorem Qaac : Qf Tryz.prog Tryz.f172 = some Q5b := by kernel_rfl
def Q5c : SFn := ⟨45, [.t 4], .seq (.rg (.o none (.mv 4 (.c (.int .i64 0))) .nil)) <| .seq (.rg (.o none (.mv 6 (.t 0)) <|
 .o none (.call (some 7) false (.c (.fn 177 [] [])) [(.t 6)]) <|
 .o none (.mv 8 (.t 1)) <|
 .o none (.call (some 9) false (.c (.fn 177 [] [])) [(.t 8)]) <|
 .o none (.mv 0 (.t 7)) <|
 .o none (.mv 1 (.t 9)) .nil)) <| .seq (.seq (.rg (.o none (.mv 10 (.t 0)) <|
 .o none (.len 11 (.t 10)) <|
 .o none (.mv 12 (.t 1)) <|
 .o none (.len 13 (.t 12)) <|
 .o none (.bin 14 .neq false (.t 11) (.t 13)) .nil)) <| .cond (.t 14) (.seq (.seq (.rg (.o none (.mv 15 (.t 0)) <|
 .o none (.len 16 (.t 15)) <|
 .o none (.mv 17 (.t 1)) <|
 .o none (.len 18 (.t 17)) <|
 .o none (.bin 19 .lss false (.t 16) (.t 18)) .nil)) <| .cond (.t 19) (.seq (.rg (.o none (.mv 4 (.c (.int .i64 (-1)))) .nil)) <| .ret) (.skip)) <| .seq (.rg (.o none (.mv 4 (.c (.int .i64 1))) .nil)) <| .ret) (.skip)) <| .seq (.seq (.rg (.o none (.mv 20 (.t 0)) <|
 .o none (.len 21 (.t 20)) <|
 .o none (.bin 22 .sub false (.t 21) (.c (.int .i64 1))) <|
 .o none (.mv 5 (.t 22)) .nil)) <| .block 0 (.loop (.seq (.seq (.rg (.o none (.mv 23 (.t 5)) <|
 .o none (.bin 24 .geq false (.t 23) (.c (.int .i64 0))) .nil)) <| .cond (.t 24) (.skip) (.exit 0)) <| .seq (.block 1 (.seq (.seq (.rg (.o none (.mv 27 (.t 0)) <|
 .o none (.mv 28 (.t 5)) <|
 .o none (.idx 29 1 (.t 27) (.t 28)) <|
 .o none (.ld 30 1 false (.t 29)) <|
 .o none (.mv 31 (.t 1)) <|
 .o none (.mv 32 (.t 5)) <|
 .o none (.idx 33 1 (.t 31) (.t 32)) <|
 .o none (.ld 34 1 false (.t 33)) <|
 .o none (.bin 35 .lss false (.t 30) (.t 34)) .nil)) <| .cond (.t 35) (.seq (.rg (.o none (.mv 4 (.c (.int .i64 (-1)))) .nil)) <| .ret) (.skip)) <| .seq (.rg (.o none (.mv 36 (.t 0)) <|
 .o none (.mv 37 (.t 5)) <|
 .o none (.idx 38 1 (.t 36) (.t 37)) <|
 .o none (.ld 39 1 false (.t 38)) <|
 .o none (.mv 40 (.t 1)) <|
 .o none (.mv 41 (.t 5)) <|
 .o none (.idx 42 1 (.t 40) (.t 41)) <|
 .o none (.ld 43 1 false (.t 42)) <|
 .o none (.bin 44 .gtr false (.t 39) (.t 43)) .nil)) <| .cond (.t 44) (.seq (.rg (.o none (.mv 4 (.c (.int .i64 1))) .nil)) <| .ret) (.skip))) <| .rg (.o none (.mv 25 (.t 5)) <|
 .o none (.bin 26 .sub false (.t 25) (.c (.int .i64 1))) <|
 .o none (.mv 5 (.t 26)) .nil)))) <| .seq (.rg (.o none (.mv 4 (.c (.int .i64 0))) .nil)) <| .ret⟩
theorem Qaad : Qf Tryz.prog Tryz.f196 = some Q5c := by kernel_rfl
def Q5d : SFn := ⟨64, [.t 4], .seq (.rg (.o none (.mv 4 (.c .nilS)) .nil)) <| .seq (.rg (.o none (.mv 9 (.t 0)) <|
 .o none (.call (some 10) false (.c (.fn 177 [] [])) [(.t 9)]) <|
 .o none (.mv 11 (.t 1)) <|
 .o none (.call (some 12) false (.c (.fn 177 [] [])) [(.t 11)]) <|
 .o none (.mv 0 (.t 10)) <|
 .o none (.mv 1 (.t 12)) .nil)) <| .seq (.seq (.rg (.o none (.mv 13 (.t 0)) <|
 .o none (.len 14 (.t 13)) <|
 .o none (.mv 15 (.t 1)) <|
 .o none (.len 16 (.t 15)) <|
 .o none (.bin 17 .lss false (.t 14) (.t 16)) .nil)) <| .cond (.t 17) (.rg (.o none (.mv 18 (.t 1)) <|
 .o none (.mv 19 (.t 0)) <|
 .o none (.mv 0 (.t 18)) <|
 .o none (.mv 1 (.t 19)) .nil)) (.skip)) <| .seq (.rg (.o none (.mv 20 (.t 0)) <|
 .o none (.len 21 (.t 20)) <|
 .o none (.mv 22 (.t 0)) <|
 .o none (.len 23 (.t 22)) <|
 .o none (.bin 24 .add false (.t 23) (.c (.int .i64 1))) <|
 .o none (.mk 25 1 2 156 (.int .u16 0) (.t 21) (.t 24)) <|
 .o none (.mv 5 (.t 25)) .nil)) <| .seq (.rg (.o none (.mv 6 (.c (.int .u32 0))) .nil)) <| .seq (.seq (.rg (.o none (.mv 26 (.t 0)) <|
 .o none (.len 27 (.t 26)) <|
 .o none (.mv 28 (.c (.int .i64 0))) .nil)) <| .block 0 (.loop (.seq (.rg (.o none (.bin 29 .lss false (.t 28) (.t 27)) .nil)) <| .seq (.cond (.t 29) (.skip) (.exit 0)) <| .seq (.block 1 (.seq (.rg (.o none (.mv 30 (.t 28)) <|
 .o none (.idx 31 1 (.t 26) (.t 28)) <|
 .o none (.ld 32 1 false (.t 31)) <|
 .o none (.mv 7 (.t 30)) <|
 .o none (.mv 8 (.t 32)) .nil)) <| .seq (.rg (.o none (.mv 33 (.t 6)) <|
 .o none (.mv 34 (.t 8)) <|
 .o none (.conv 35 .u32 (.t 34)) <|
 .o none (.bin 36 .add false (.t 33) (.t 35)) <|
 .o none (.mv 6 (.t 36)) .nil)) <| .seq (.seq (.rg (.o none (.mv 37 (.t 7)) <|
 .o none (.mv 38 (.t 1)) <|
 .o none (.len 39 (.t 38)) <|
 .o none (.bin 40 .lss false (.t 37) (.t 39)) .nil)) <| .cond (.t 40) (.rg (.o none (.mv 41 (.t 6)) <|
 .o none (.mv 42 (.t 1)) <|
 .o none (.mv 43 (.t 7)) <|
 .o none (.idx 44 1 (.t 42) (.t 43)) <|
 .o none (.ld 45 1 false (.t 44)) <|
 .o none (.conv 46 .u32 (.t 45)) <|
 .o none (.bin 47 .add false (.t 41) (.t 46)) <|
 .o none (.mv 6 (.t 47)) .nil)) (.skip)) <| .seq (.rg (.o none (.mv 48 (.t 5)) <|
 .o none (.mv 49 (.t 7)) <|
 .o none (.mv 50 (.t 6)) <|
 .o none (.conv 51 .u16 (.t 50)) <|
 .o none (.idx 52 1 (.t 48) (.t 49)) <|
 .o none (.st 1 (.t 52) (.t 51)) .nil)) <| .rg (.o none (.mv 53 (.t 6)) <|
 .o none (.bin 54 .shr false (.t 53) (.c (.int .u64 16))) <|
 .o none (.mv 6 (.t 54)) .nil))) <| .rg (.o none (.bin 55 .add false (.t 28) (.c (.int .i64 1))) <|
 .o none (.mv 28 (.t 55)) .nil)))) <| .seq (.seq (.rg (.o none (.mv 56 (.t 6)) <|
 .o none (.bin 57 .gtr false (.t 56) (.c (.int .u32 0))) .nil)) <| .cond (.t 57) (.rg (.o none (.mv 58 (.t 5)) <|
 .o none (.mv 59 (.t 6)) <|
 .o none (.conv 60 .u16 (.t 59)) <|
 .o none (.bs 61 1 156 [(.t 60)]) <|
 .o none (.app 62 1 2 156 (.t 58) (.t 61)) <|
 .o none (.mv 5 (.t 62)) .nil)) (.skip)) <| .seq (.rg (.o none (.mv 63 (.t 5)) <|
 .o none (.mv 4 (.t 63)) .nil)) <| .ret⟩
theorem Qaae : Qf Tryz.prog Tryz.f213 = some Q5d := by kernel_rfl
def Q5e : SFn := ⟨56, [.t 4, .t 5], .seq (.rg (.o none (.mv 4 (.c .nilS)) <|
 .o none (.mv 5 (.c (.int .i64 0))) .nil)) <| .seq (.seq (.rg (.o none (.mv 11 (.t 0)) <|
 .o none (.mv 12 (.t 1)) <|
 .o none (.call (some 13) false (.c (.fn 196 [] [])) [(.t 11), (.t 12)]) <|
 .o none (.bin 14 .lss false (.t 13) (.c (.int .i64 0))) .nil)) <| .cond (.t 14) (.seq (.rg (.o none (.mv 4 (.c .nilS)) <|
 .o none (.mv 5 (.c (.int .i64 2))) .nil)) <| .ret) (.skip)) <| .seq (.rg (.o none (.mv 15 (.t 0)) <|
 .o none (.call (some 16) false (.c (.fn 177 [] [])) [(.t 15)]) <|
 .o none (.mv 17 (.t 1)) <|
 .o none (.call (some 18) false (.c (.fn 177 [] [])) [(.t 17)]) <|
 .o none (.mv 0 (.t 16)) <|
 .o none (.mv 1 (.t 18)) .nil)) <| .seq (.rg (.o none (.mv 19 (.t 0)) <|
 .o none (.len 20 (.t 19)) <|
 .o none (.mk 21 1 2 156 (.int .u16 0) (.t 20) (.t 20)) <|
 .o none (.mv 6 (.t 21)) .nil)) <| .seq (.rg (.o none (.mv 7 (.c (.int .i32 0))) .nil)) <| .seq (.seq (.rg (.o none (.mv 22 (.t 0)) <|
 .o none (.len 23 (.t 22)) <|
 .o none (.mv 24 (.c (.int .i64 0))) .nil)) <| .block 0 (.loop (.seq (.rg (.o none (.bin 25 .lss false (.t 24) (.t 23)) .nil)) <| .seq (.cond (.t 25) (.skip) (.exit 0)) <| .seq (.block 1 (.seq (.rg (.o none (.mv 26 (.t 24)) <|
 .o none (.idx 27 1 (.t 22) (.t 24)) <|
 .o none (.ld 28 1 false (.t 27)) <|
 .o none (.mv 8 (.t 26)) <|
 .o none (.mv 9 (.t 28)) .nil)) <| .seq (.rg (.o none (.mv 29 (.t 9)) <|
 .o none (.conv 30 .i32 (.t 29)) <|
 .o none (.mv 31 (.t 7)) <|
 .o none (.bin 32 .sub false (.t 30) (.t 31)) <|
 .o none (.mv 10 (.t 32)) .nil)) <| .seq (.seq (.rg (.o none (.mv 33 (.t 8)) <|
 .o none (.mv 34 (.t 1)) <|
 .o none (.len 35 (.t 34)) <|
 .o none (.bin 36 .lss false (.t 33) (.t 35)) .nil)) <| .cond (.t 36) (.rg (.o none (.mv 37 (.t 10)) <|
 .o none (.mv 38 (.t 1)) <|
 .o none (.mv 39 (.t 8)) <|
 .o none (.idx 40 1 (.t 38) (.t 39)) <|
 .o none (.ld 41 1 false (.t 40)) <|
 .o none (.conv 42 .i32 (.t 41)) <|
 .o none (.bin 43 .sub false (.t 37) (.t 42)) <|
 .o none (.mv 10 (.t 43)) .nil)) (.skip)) <| .seq (.rg (.o none (.mv 7 (.c (.int .i32 0))) .nil)) <| .seq (.seq (.rg (.o none (.mv 44 (.t 10)) <|
 .o none (.bin 45 .lss false (.t 44) (.c (.int .i32 0))) .nil)) <| .cond (.t 45) (.seq (.rg (.o none (.mv 46 (.t 10)) <|
 .o none (.bin 47 .add false (.t 46) (.c (.int .i32 65536))) <|
 .o none (.mv 10 (.t 47)) .nil)) <| .rg (.o none (.mv 7 (.c (.int .i32 1))) .nil)) (.skip)) <| .rg (.o none (.mv 48 (.t 6)) <|
 .o none (.mv 49 (.t 8)) <|
 .o none (.mv 50 (.t 10)) <|
 .o none (.conv 51 .u16 (.t 50)) <|
 .o none (.idx 52 1 (.t 48) (.t 49)) <|
 .o none (.st 1 (.t 52) (.t 51)) .nil))) <| .rg (.o none (.bin 53 .add false (.t 24) (.c (.int .i64 1))) <|
 .o none (.mv 24 (.t 53)) .nil)))) <| .seq (.rg (.o none (.mv 54 (.t 6)) <|
 .o none (.call (some 55) false (.c (.fn 177 [] [])) [(.t 54)]) <|
 .o none (.mv 4 (.t 55)) <|
 .o none (.mv 5 (.c (.int .i64 0))) .nil)) <| .ret⟩
theorem Qaaf : Qf Tryz.prog Tryz.f214 = some Q5e := by kernel_rfl
def Q5f : SFn := ⟨79, [.t 4], .seq (.rg (.o none (.mv 4 (.c .nilS)) .nil)) <| .seq (.rg (.o none (.mv 11 (.t 0)) <|
 .o none (.call (some 12) false (.c (.fn 177 [] [])) [(.t 11)]) <|
 .o none (.mv 13 (.t 1)) <|
 .o none (.call (some 14) false (.c (.fn 177 [] [])) [(.t 13)]) <|
 .o none (.mv 0 (.t 12)) <|
 .o none (.mv 1 (.t 14)) .nil)) <| .seq (.seq (.rg (.o none (.mv 15 (.t 0)) <|
 .o none (.len 16 (.t 15)) <|
 .o none (.bin 17 .eql false (.t 16) (.c (.int .i64 0))) <|
 .o none (.mv 18 (.t 17)) <|
 .o (some (18, false)) (.mv 19 (.t 1)) <|
 .o (some (18, false)) (.len 20 (.t 19)) <|
 .o (some (18, false)) (.bin 21 .eql false (.t 20) (.c (.int .i64 0))) <|
 .o none (.pick 22 (.t 18) (.c (.bool true)) (.t 21)) .nil)) <| .cond (.t 22) (.seq (.rg (.o none (.mv 4 (.c .nilS)) .nil)) <| .ret) (.skip)) <| .seq (.rg (.o none (.mv 23 (.t 0)) <|
 .o none (.len 24 (.t 23)) <|
 .o none (.mv 25 (.t 1)) <|
 .o none (.len 26 (.t 25)) <|
 .o none (.bin 27 .add false (.t 24) (.t 26)) <|
 .o none (.mk 28 1 2 156 (.int .u16 0) (.t 27) (.t 27)) <|
 .o none (.mv 5 (.t 28)) .nil)) <| .seq (.seq (.rg (.o none (.mv 29 (.t 0)) <|
 .o none (.len 30 (.t 29)) <|
 .o none (.mv 31 (.c (.int .i64 0))) .nil)) <| .block 0 (.loop (.seq (.rg (.o none (.bin 32 .lss false (.t 31) (.t 30)) .nil)) <| .seq (.cond (.t 32) (.skip) (.exit 0)) <| .seq (.block 1 (.seq (.rg (.o none (.mv 33 (.t 31)) <|
 .o none (.idx 34 1 (.t 29) (.t 31)) <|
 .o none (.ld 35 1 false (.t 34)) <|
 .o none (.mv 6 (.t 33)) <|
 .o none (.mv 7 (.t 35)) .nil)) <| .seq (.rg (.o none (.mv 8 (.c (.int .u32 0))) .nil)) <| .seq (.seq (.rg (.o none (.mv 36 (.t 1)) <|
 .o none (.len 37 (.t 36)) <|
 .o none (.mv 38 (.c (.int .i64 0))) .nil)) <| .block 2 (.loop (.seq (.rg (.o none (.bin 39 .lss false (.t 38) (.t 37)) .nil)) <| .seq (.cond (.t 39) (.skip) (.exit 2)) <| .seq (.block 3 (.seq (.rg (.o none (.mv 40 (.t 38)) <|
 .o none (.idx 41 1 (.t 36) (.t 38)) <|
 .o none (.ld 42 1 false (.t 41)) <|
 .o none (.mv 9 (.t 40)) <|
 .o none (.mv 10 (.t 42)) .nil)) <| .seq (.rg (.o none (.mv 43 (.t 8)) <|
 .o none (.mv 44 (.t 5)) <|
 .o none (.mv 45 (.t 6)) <|
 .o none (.mv 46 (.t 9)) <|
 .o none (.bin 47 .add false (.t 45) (.t 46)) <|
 .o none (.idx 48 1 (.t 44) (.t 47)) <|
 .o none (.ld 49 1 false (.t 48)) <|
 .o none (.conv 50 .u32 (.t 49)) <|
 .o none (.mv 51 (.t 7)) <|
 .o none (.conv 52 .u32 (.t 51)) <|
 .o none (.mv 53 (.t 10)) <|
 .o none (.conv 54 .u32 (.t 53)) <|
 .o none (.bin 55 .mul false (.t 52) (.t 54)) <|
 .o none (.bin 56 .add false (.t 50) (.t 55)) <|
 .o none (.bin 57 .add false (.t 43) (.t 56)) <|
 .o none (.mv 8 (.t 57)) .nil)) <| .seq (.rg (.o none (.mv 58 (.t 5)) <|
 .o none (.mv 59 (.t 6)) <|
 .o none (.mv 60 (.t 9)) <|
 .o none (.bin 61 .add false (.t 59) (.t 60)) <|
 .o none (.mv 62 (.t 8)) <|
 .o none (.conv 63 .u16 (.t 62)) <|
 .o none (.idx 64 1 (.t 58) (.t 61)) <|
 .o none (.st 1 (.t 64) (.t 63)) .nil)) <| .rg (.o none (.mv 65 (.t 8)) <|
 .o none (.bin 66 .shr false (.t 65) (.c (.int .u64 16))) <|
 .o none (.mv 8 (.t 66)) .nil))) <| .rg (.o none (.bin 67 .add false (.t 38) (.c (.int .i64 1))) <|
 .o none (.mv 38 (.t 67)) .nil)))) <| .rg (.o none (.mv 68 (.t 5)) <|
 .o none (.mv 69 (.t 6)) <|
 .o none (.mv 70 (.t 1)) <|
 .o none (.len 71 (.t 70)) <|
 .o none (.bin 72 .add false (.t 69) (.t 71)) <|
 .o none (.mv 73 (.t 8)) <|
 .o none (.conv 74 .u16 (.t 73)) <|
 .o none (.idx 75 1 (.t 68) (.t 72)) <|
 .o none (.st 1 (.t 75) (.t 74)) .nil))) <| .rg (.o none (.bin 76 .add false (.t 31) (.c (.int .i64 1))) <|
 .o none (.mv 31 (.t 76)) .nil)))) <| .seq (.rg (.o none (.mv 77 (.t 5)) <|
 .o none (.call (some 78) false (.c (.fn 177 [] [])) [(.t 77)]) <|
 .o none (.mv 4 (.t 78)) .nil)) <| .ret⟩
theorem Qaag : Qf Tryz.prog Tryz.f114 = some Q5f := by kernel_rfl
def Q5g : SFn := ⟨43, [.t 4, .t 5], .seq (.rg (.o none (.mv 4 (.c .nilS)) <|
 .o none (.mv 5 (.c (.int .u16 0))) .nil)) <| .seq (.rg (.o none (.mv 9 (.t 0)) <|
 .o none (.len 10 (.t 9)) <|
 .o none (.mk 11 1 2 156 (.int .u16 0) (.t 10) (.t 10)) <|
 .o none (.mv 6 (.t 11)) .nil)) <| .seq (.rg (.o none (.mv 7 (.c (.int .u32 0))) .nil)) <| .seq (.seq (.rg (.o none (.mv 12 (.t 0)) <|
 .o none (.len 13 (.t 12)) <|
 .o none (.bin 14 .sub false (.t 13) (.c (.int .i64 1))) <|
 .o none (.mv 8 (.t 14)) .nil)) <| .block 0 (.loop (.seq (.seq (.rg (.o none (.mv 15 (.t 8)) <|
 .o none (.bin 16 .geq false (.t 15) (.c (.int .i64 0))) .nil)) <| .cond (.t 16) (.skip) (.exit 0)) <| .seq (.block 1 (.seq (.rg (.o none (.mv 19 (.t 7)) <|
 .o none (.bin 20 .shl false (.t 19) (.c (.int .u64 16))) <|
 .o none (.mv 21 (.t 0)) <|
 .o none (.mv 22 (.t 8)) <|
 .o none (.idx 23 1 (.t 21) (.t 22)) <|
 .o none (.ld 24 1 false (.t 23)) <|
 .o none (.conv 25 .u32 (.t 24)) <|
 .o none (.bin 26 .or false (.t 20) (.t 25)) <|
 .o none (.mv 7 (.t 26)) .nil)) <| .seq (.rg (.o none (.mv 27 (.t 6)) <|
 .o none (.mv 28 (.t 8)) <|
 .o none (.mv 29 (.t 7)) <|
 .o none (.mv 30 (.t 1)) <|
 .o none (.conv 31 .u32 (.t 30)) <|
 .o none (.bin 32 .quo false (.t 29) (.t 31)) <|
 .o none (.conv 33 .u16 (.t 32)) <|
 .o none (.idx 34 1 (.t 27) (.t 28)) <|
 .o none (.st 1 (.t 34) (.t 33)) .nil)) <| .rg (.o none (.mv 35 (.t 7)) <|
 .o none (.mv 36 (.t 1)) <|
 .o none (.conv 37 .u32 (.t 36)) <|
 .o none (.bin 38 .rem false (.t 35) (.t 37)) <|
 .o none (.mv 7 (.t 38)) .nil))) <| .rg (.o none (.mv 17 (.t 8)) <|
 .o none (.bin 18 .sub false (.t 17) (.c (.int .i64 1))) <|
 .o none (.mv 8 (.t 18)) .nil)))) <| .seq (.rg (.o none (.mv 39 (.t 6)) <|
 .o none (.call (some 40) false (.c (.fn 177 [] [])) [(.t 39)]) <|
 .o none (.mv 41 (.t 7)) <|
 .o none (.conv 42 .u16 (.t 41)) <|
 .o none (.mv 4 (.t 40)) <|
 .o none (.mv 5 (.t 42)) .nil)) <| .ret⟩
theorem Qaah : Qf Tryz.prog Tryz.f197 = some Q5g := by kernel_rfl
def Q5h : SFn := ⟨71, [.t 4, .t 5, .t 6], .seq (.rg (.o none (.mv 4 (.c .nilS)) <|
 .o none (.mv 5 (.c .nilS)) <|
 .o none (.mv 6 (.c (.int .i64 0))) .nil)) <| .seq (.rg (.o none (.mv 12 (.t 0)) <|
 .o none (.call (some 13) false (.c (.fn 177 [] [])) [(.t 12)]) <|
 .o none (.mv 14 (.t 1)) <|
 .o none (.call (some 15) false (.c (.fn 177 [] [])) [(.t 14)]) <|
 .o none (.mv 0 (.t 13)) <|
 .o none (.mv 1 (.t 15)) .nil)) <| .seq (.block 0 (.seq (.rg (.o none (.mv 17 (.t 1)) <|
 .o none (.len 18 (.t 17)) <|
 .o none (.bin 19 .eql false (.t 18) (.c (.int .i64 0))) <|
 .o none (.mv 16 (.t 19)) .nil)) <| .cond (.t 16) (.seq (.rg (.o none (.mv 4 (.c .nilS)) <|
 .o none (.mv 5 (.c .nilS)) <|
 .o none (.mv 6 (.c (.int .i64 3))) .nil)) <| .ret) (.seq (.rg (.o none (.mv 21 (.t 0)) <|
 .o none (.mv 22 (.t 1)) <|
 .o none (.call (some 23) false (.c (.fn 196 [] [])) [(.t 21), (.t 22)]) <|
 .o none (.bin 24 .lss false (.t 23) (.c (.int .i64 0))) <|
 .o none (.mv 20 (.t 24)) .nil)) <| .cond (.t 20) (.seq (.rg (.o none (.mv 25 (.t 0)) <|
 .o none (.call (some 26) false (.c (.fn 173 [] [])) [(.t 25)]) <|
 .o none (.mv 4 (.c .nilS)) <|
 .o none (.mv 5 (.t 26)) <|
 .o none (.mv 6 (.c (.int .i64 0))) .nil)) <| .ret) (.seq (.rg (.o none (.mv 28 (.t 1)) <|
 .o none (.len 29 (.t 28)) <|
 .o none (.bin 30 .eql false (.t 29) (.c (.int .i64 1))) <|
 .o none (.mv 27 (.t 30)) .nil)) <| .cond (.t 27) (.seq (.rg (.o none (.mv 32 (.t 0)) <|
 .o none (.mv 33 (.t 1)) <|
 .o none (.idx 34 1 (.t 33) (.c (.int .i64 0))) <|
 .o none (.ld 35 1 false (.t 34)) <|
 .o none (.call (some 36) false (.c (.fn 197 [] [])) [(.t 32), (.t 35)]) <|
 .o none (.mv 31 (.t 36)) <|
 .o none (.ext 37 (.t 31) 0) <|
 .o none (.ext 38 (.t 31) 1) <|
 .o none (.mv 7 (.t 37)) <|
 .o none (.mv 8 (.t 38)) .nil)) <| .seq (.rg (.o none (.mv 39 (.t 7)) <|
 .o none (.mv 40 (.t 8)) <|
 .o none (.conv 41 .u64 (.t 40)) <|
 .o none (.call (some 42) false (.c (.fn 143 [] [])) [(.t 41)]) <|
 .o none (.mv 4 (.t 39)) <|
 .o none (.mv 5 (.t 42)) <|
 .o none (.mv 6 (.c (.int .i64 0))) .nil)) <| .ret) (.skip))))) <| .seq (.rg (.o none (.mv 43 (.t 1)) <|
 .o none (.mv 44 (.t 1)) <|
 .o none (.len 45 (.t 44)) <|
 .o none (.bin 46 .sub false (.t 45) (.c (.int .i64 1))) <|
 .o none (.idx 47 1 (.t 43) (.t 46)) <|
 .o none (.ld 48 1 false (.t 47)) <|
 .o none (.call (some 49) false (.c (.fn 198 [] [])) [(.t 48)]) <|
 .o none (.mv 9 (.t 49)) .nil)) <| .seq (.rg (.o none (.mv 50 (.t 0)) <|
 .o none (.mv 51 (.t 9)) <|
 .o none (.call (some 52) false (.c (.fn 199 [] [])) [(.t 50), (.t 51)]) <|
 .o none (.bs 53 1 156 [(.c (.int .u16 0)), (.c (.int .u16 0))]) <|
 .o none (.app 54 1 2 156 (.t 52) (.t 53)) <|
 .o none (.mv 55 (.t 0)) <|
 .o none (.len 56 (.t 55)) <|
 .o none (.bin 57 .add false (.t 56) (.c (.int .i64 1))) <|
 .o none (.sl 58 1 (.t 54) none (some (.t 57)) none) <|
 .o none (.mv 10 (.t 58)) .nil)) <| .seq (.rg (.o none (.mv 59 (.t 1)) <|
 .o none (.mv 60 (.t 9)) <|
 .o none (.call (some 61) false (.c (.fn 199 [] [])) [(.t 59), (.t 60)]) <|
 .o none (.mv 11 (.t 61)) .nil)) <| .seq (.rg (.o none (.mv 62 (.t 10)) <|
 .o none (.mv 63 (.t 11)) <|
 .o none (.call (some 64) false (.c (.fn 200 [] [])) [(.t 62), (.t 63)]) <|
 .o none (.mv 4 (.t 64)) .nil)) <| .seq (.rg (.o none (.mv 65 (.t 4)) <|
 .o none (.mv 66 (.t 10)) <|
 .o none (.call (some 67) false (.c (.fn 177 [] [])) [(.t 66)]) <|
 .o none (.mv 68 (.t 9)) <|
 .o none (.un 69 .neg (.t 68)) <|
 .o none (.call (some 70) false (.c (.fn 199 [] [])) [(.t 67), (.t 69)]) <|
 .o none (.mv 4 (.t 65)) <|
 .o none (.mv 5 (.t 70)) <|
 .o none (.mv 6 (.c (.int .i64 0))) .nil)) <| .ret⟩
theorem Qaai : Qf Tryz.prog Tryz.f145 = some Q5h := by kernel_rfl
def Q5i : SFn := ⟨31, [.t 6], .seq (.rg (.o none (.mv 6 (.c (.bool false))) .nil)) <| .seq (.rg (.o none (.ld 7 1 false (.t 0)) <|
 .o none (.bin 8 .geq false (.t 7) (.c (.int .u64 65536))) <|
 .o none (.mv 9 (.t 8)) <|
 .o (some (9, false)) (.ld 10 1 false (.t 0)) <|
 .o (some (9, false)) (.ld 11 1 false (.t 1)) <|
 .o (some (9, false)) (.ld 12 1 false (.t 2)) <|
 .o (some (9, false)) (.bin 13 .sub false (.t 12) (.c (.int .i64 2))) <|
 .o (some (9, false)) (.idx 14 1 (.t 11) (.t 13)) <|
 .o (some (9, false)) (.ld 15 1 false (.t 14)) <|
 .o (some (9, false)) (.conv 16 .u64 (.t 15)) <|
 .o (some (9, false)) (.bin 17 .mul false (.t 10) (.t 16)) <|
 .o (some (9, false)) (.ld 18 1 false (.t 3)) <|
 .o (some (9, false)) (.bin 19 .shl false (.t 18) (.c (.int .u64 16))) <|
 .o (some (9, false)) (.ld 20 1 false (.t 4)) <|
 .o (some (9, false)) (.ld 21 1 false (.t 5)) <|
 .o (some (9, false)) (.ld 22 1 false (.t 2)) <|
 .o (some (9, false)) (.bin 23 .add false (.t 21) (.t 22)) <|
 .o (some (9, false)) (.bin 24 .sub false (.t 23) (.c (.int .i64 2))) <|
 .o (some (9, false)) (.idx 25 1 (.t 20) (.t 24)) <|
 .o (some (9, false)) (.ld 26 1 false (.t 25)) <|
 .o (some (9, false)) (.conv 27 .u64 (.t 26)) <|
 .o (some (9, false)) (.bin 28 .or false (.t 19) (.t 27)) <|
 .o (some (9, false)) (.bin 29 .gtr false (.t 17) (.t 28)) <|
 .o none (.pick 30 (.t 9) (.c (.bool true)) (.t 29)) <|
 .o none (.mv 6 (.t 30)) .nil)) <| .ret⟩
theorem Qaaj : Qf Tryz.prog Tryz.f221 = some Q5i := by kernel_rfl
def Q5j : SFn := ⟨54, [.t 6], .seq (.rg (.o none (.mv 6 (.c (.bool false))) .nil)) <| .seq (.rg (.o none (.mv 7 (.c (.int .u32 0))) .nil)) <| .seq (.rg (.o none (.mv 8 (.c (.int .i32 0))) .nil)) <| .seq (.seq (.rg (.o none (.mv 11 (.t 0)) <|
 .o none (.len 12 (.t 11)) <|
 .o none (.mv 13 (.c (.int .i64 0))) .nil)) <| .block 0 (.loop (.seq (.rg (.o none (.bin 14 .lss false (.t 13) (.t 12)) .nil)) <| .seq (.cond (.t 14) (.skip) (.exit 0)) <| .seq (.block 1 (.seq (.rg (.o none (.mv 15 (.t 13)) <|
 .o none (.mv 9 (.t 15)) .nil)) <| .seq (.seq (.rg (.o none (.mv 16 (.t 9)) <|
 .o none (.mv 17 (.t 1)) <|
 .o none (.len 18 (.t 17)) <|
 .o none (.bin 19 .lss false (.t 16) (.t 18)) .nil)) <| .cond (.t 19) (.rg (.o none (.mv 20 (.t 7)) <|
 .o none (.mv 21 (.t 2)) <|
 .o none (.mv 22 (.t 1)) <|
 .o none (.mv 23 (.t 9)) <|
 .o none (.idx 24 1 (.t 22) (.t 23)) <|
 .o none (.ld 25 1 false (.t 24)) <|
 .o none (.conv 26 .u32 (.t 25)) <|
 .o none (.bin 27 .mul false (.t 21) (.t 26)) <|
 .o none (.bin 28 .add false (.t 20) (.t 27)) <|
 .o none (.mv 7 (.t 28)) .nil)) (.skip)) <| .seq (.rg (.o none (.mv 29 (.t 0)) <|
 .o none (.mv 30 (.t 9)) <|
 .o none (.idx 31 1 (.t 29) (.t 30)) <|
 .o none (.ld 32 1 false (.t 31)) <|
 .o none (.conv 33 .i32 (.t 32)) <|
 .o none (.mv 34 (.t 7)) <|
 .o none (.conv 35 .u16 (.t 34)) <|
 .o none (.conv 36 .i32 (.t 35)) <|
 .o none (.bin 37 .sub false (.t 33) (.t 36)) <|
 .o none (.mv 38 (.t 8)) <|
 .o none (.bin 39 .sub false (.t 37) (.t 38)) <|
 .o none (.mv 10 (.t 39)) .nil)) <| .seq (.rg (.o none (.mv 40 (.t 7)) <|
 .o none (.bin 41 .shr false (.t 40) (.c (.int .u64 16))) <|
 .o none (.mv 7 (.t 41)) .nil)) <| .seq (.rg (.o none (.mv 8 (.c (.int .i32 0))) .nil)) <| .seq (.seq (.rg (.o none (.mv 42 (.t 10)) <|
 .o none (.bin 43 .lss false (.t 42) (.c (.int .i32 0))) .nil)) <| .cond (.t 43) (.seq (.rg (.o none (.mv 44 (.t 10)) <|
 .o none (.bin 45 .add false (.t 44) (.c (.int .i32 65536))) <|
 .o none (.mv 10 (.t 45)) .nil)) <| .rg (.o none (.mv 8 (.c (.int .i32 1))) .nil)) (.skip)) <| .rg (.o none (.mv 46 (.t 0)) <|
 .o none (.mv 47 (.t 9)) <|
 .o none (.mv 48 (.t 10)) <|
 .o none (.conv 49 .u16 (.t 48)) <|
 .o none (.idx 50 1 (.t 46) (.t 47)) <|
 .o none (.st 1 (.t 50) (.t 49)) .nil))) <| .rg (.o none (.bin 51 .add false (.t 13) (.c (.int .i64 1))) <|
 .o none (.mv 13 (.t 51)) .nil)))) <| .seq (.rg (.o none (.mv 52 (.t 8)) <|
 .o none (.bin 53 .gtr false (.t 52) (.c (.int .i32 0))) <|
 .o none (.mv 6 (.t 53)) .nil)) <| .ret⟩
theorem Qaak : Qf Tryz.prog Tryz.f222 = some Q5j := by kernel_rfl
def Q5k : SFn := ⟨37, [], .seq (.rg (.o none (.mv 4 (.c (.int .u32 0))) .nil)) <| .seq (.rg (.o none (.mv 6 (.t 0)) <|
 .o none (.len 7 (.t 6)) <|
 .o none (.mv 8 (.c (.int .i64 0))) .nil)) <| .block 0 (.loop (.seq (.rg (.o none (.bin 9 .lss false (.t 8) (.t 7)) .nil)) <| .seq (.cond (.t 9) (.skip) (.exit 0)) <| .seq (.block 1 (.seq (.rg (.o none (.mv 10 (.t 8)) <|
 .o none (.mv 5 (.t 10)) .nil)) <| .seq (.rg (.o none (.mv 11 (.t 4)) <|
 .o none (.mv 12 (.t 0)) <|
 .o none (.mv 13 (.t 5)) <|
 .o none (.idx 14 1 (.t 12) (.t 13)) <|
 .o none (.ld 15 1 false (.t 14)) <|
 .o none (.conv 16 .u32 (.t 15)) <|
 .o none (.bin 17 .add false (.t 11) (.t 16)) <|
 .o none (.mv 4 (.t 17)) .nil)) <| .seq (.seq (.rg (.o none (.mv 18 (.t 5)) <|
 .o none (.mv 19 (.t 1)) <|
 .o none (.len 20 (.t 19)) <|
 .o none (.bin 21 .lss false (.t 18) (.t 20)) .nil)) <| .cond (.t 21) (.rg (.o none (.mv 22 (.t 4)) <|
 .o none (.mv 23 (.t 1)) <|
 .o none (.mv 24 (.t 5)) <|
 .o none (.idx 25 1 (.t 23) (.t 24)) <|
 .o none (.ld 26 1 false (.t 25)) <|
 .o none (.conv 27 .u32 (.t 26)) <|
 .o none (.bin 28 .add false (.t 22) (.t 27)) <|
 .o none (.mv 4 (.t 28)) .nil)) (.skip)) <| .seq (.rg (.o none (.mv 29 (.t 0)) <|
 .o none (.mv 30 (.t 5)) <|
 .o none (.mv 31 (.t 4)) <|
 .o none (.conv 32 .u16 (.t 31)) <|
 .o none (.idx 33 1 (.t 29) (.t 30)) <|
 .o none (.st 1 (.t 33) (.t 32)) .nil)) <| .rg (.o none (.mv 34 (.t 4)) <|
 .o none (.bin 35 .shr false (.t 34) (.c (.int .u64 16))) <|
 .o none (.mv 4 (.t 35)) .nil))) <| .rg (.o none (.bin 36 .add false (.t 8) (.c (.int .i64 1))) <|
 .o none (.mv 8 (.t 36)) .nil)))⟩
theorem Qaal : Qf Tryz.prog Tryz.f223 = some Q5k := by kernel_rfl
def Q5l : SFn := ⟨51, [.t 4], .seq (.rg (.o none (.mv 4 (.c .nilS)) .nil)) <| .seq (.rg (.o none (.mv 12 (.t 0)) <|
 .o none (.call (some 13) false (.c (.fn 173 [] [])) [(.t 12)]) <|
 .o none (.mv 14 (.t 1)) <|
 .o none (.call (some 15) false (.c (.fn 173 [] [])) [(.t 14)]) <|
 .o none (.mv 0 (.t 13)) <|
 .o none (.mv 1 (.t 15)) .nil)) <| .seq (.block 0 (.loop (.seq (.seq (.rg (.o none (.mv 16 (.t 1)) <|
 .o none (.len 17 (.t 16)) <|
 .o none (.bin 18 .gtr false (.t 17) (.c (.int .i64 0))) .nil)) <| .cond (.t 18) (.skip) (.exit 0)) <| .block 1 (.seq (.rg (.o none (.mv 20 (.t 0)) <|
 .o none (.call (some 21) false (.c (.fn 195 [] [])) [(.t 20)]) <|
 .o none (.mv 19 (.t 21)) <|
 .o none (.ext 22 (.t 19) 0) <|
 .o none (.ext 23 (.t 19) 1) <|
 .o none (.mv 5 (.t 22)) <|
 .o none (.mv 6 (.t 23)) .nil)) <| .seq (.rg (.o none (.mv 25 (.t 1)) <|
 .o none (.call (some 26) false (.c (.fn 195 [] [])) [(.t 25)]) <|
 .o none (.mv 24 (.t 26)) <|
 .o none (.ext 27 (.t 24) 0) <|
 .o none (.ext 28 (.t 24) 1) <|
 .o none (.mv 7 (.t 27)) <|
 .o none (.mv 8 (.t 28)) .nil)) <| .seq (.seq (.rg (.o none (.mv 29 (.t 6)) <|
 .o none (.mv 30 (.t 29)) <|
 .o (some (30, true)) (.mv 31 (.t 8)) <|
 .o none (.pick 32 (.t 30) (.t 31) (.c (.bool false))) .nil)) <| .cond (.t 32) (.seq (.block 2 (.loop (.seq (.seq (.rg (.o none (.mv 33 (.t 7)) <|
 .o none (.bin 34 .gtr false (.t 33) (.c (.int .u64 0))) .nil)) <| .cond (.t 34) (.skip) (.exit 2)) <| .block 3 (.rg (.o none (.mv 35 (.t 7)) <|
 .o none (.mv 36 (.t 5)) <|
 .o none (.mv 37 (.t 7)) <|
 .o none (.bin 38 .rem false (.t 36) (.t 37)) <|
 .o none (.mv 5 (.t 35)) <|
 .o none (.mv 7 (.t 38)) .nil))))) <| .seq (.rg (.o none (.mv 39 (.t 5)) <|
 .o none (.call (some 40) false (.c (.fn 143 [] [])) [(.t 39)]) <|
 .o none (.mv 4 (.t 40)) .nil)) <| .ret) (.skip)) <| .seq (.rg (.o none (.mv 42 (.t 0)) <|
 .o none (.mv 43 (.t 1)) <|
 .o none (.call (some 44) false (.c (.fn 145 [] [])) [(.t 42), (.t 43)]) <|
 .o none (.mv 41 (.t 44)) <|
 .o none (.ext 45 (.t 41) 0) <|
 .o none (.ext 46 (.t 41) 1) <|
 .o none (.ext 47 (.t 41) 2) <|
 .o none (.mv 9 (.t 45)) <|
 .o none (.mv 10 (.t 46)) <|
 .o none (.mv 11 (.t 47)) .nil)) <| .rg (.o none (.mv 48 (.t 1)) <|
 .o none (.mv 49 (.t 10)) <|
 .o none (.mv 0 (.t 48)) <|
 .o none (.mv 1 (.t 49)) .nil))))) <| .seq (.rg (.o none (.mv 50 (.t 0)) <|
 .o none (.mv 4 (.t 50)) .nil)) <| .ret⟩
theorem Qaam : Qf Tryz.prog Tryz.f144 = some Q5l := by kernel_rfl
def Qp6 : SFn := ⟨78, [.t 4], .seq (.rg (.o none (.mv 4 (.c .nilS)) .nil)) <| .seq (.rg (.o none (.mv 11 (.t 0)) <|
 .o none (.call (some 12) false (.c (.fn 177 [] [])) [(.t 11)]) <|
 .o none (.mv 0 (.t 12)) .nil)) <| .seq (.seq (.rg (.o none (.mv 13 (.t 1)) <|
 .o none (.bin 14 .lss false (.t 13) (.c (.int .i64 (-1048576)))) <|
 .o none (.mv 15 (.t 14)) <|
 .o (some (15, false)) (.mv 16 (.t 1)) <|
 .o (some (15, false)) (.bin 17 .gtr false (.t 16) (.c (.int .i64 1048576))) <|
 .o none (.pick 18 (.t 15) (.c (.bool true)) (.t 17)) <|
 .o none (.mv 19 (.t 18)) <|
 .o (some (19, false)) (.mv 20 (.t 0)) <|
 .o (some (19, false)) (.len 21 (.t 20)) <|
 .o (some (19, false)) (.bin 22 .eql false (.t 21) (.c (.int .i64 0))) <|
 .o none (.pick 23 (.t 19) (.c (.bool true)) (.t 22)) .nil)) <| .cond (.t 23) (.seq (.rg (.o none (.mv 4 (.c .nilS)) .nil)) <| .ret) (.skip)) <| .seq (.seq (.rg (.o none (.mv 24 (.t 1)) <|
 .o none (.bin 25 .lss false (.t 24) (.c (.int .i64 0))) .nil)) <| .cond (.t 25) (.seq (.rg (.o none (.mv 26 (.t 0)) <|
 .o none (.mv 27 (.t 1)) <|
 .o none (.un 28 .neg (.t 27)) <|
 .o none (.call (some 29) false (.c (.fn 220 [] [])) [(.t 26), (.t 28)]) <|
 .o none (.mv 4 (.t 29)) .nil)) <| .ret) (.skip)) <| .seq (.rg (.o none (.mv 30 (.t 1)) <|
 .o none (.bin 31 .quo false (.t 30) (.c (.int .i64 16))) <|
 .o none (.mv 32 (.t 1)) <|
 .o none (.bin 33 .rem false (.t 32) (.c (.int .i64 16))) <|
 .o none (.mv 5 (.t 31)) <|
 .o none (.mv 6 (.t 33)) .nil)) <| .seq (.rg (.o none (.mv 34 (.t 0)) <|
 .o none (.len 35 (.t 34)) <|
 .o none (.mv 36 (.t 5)) <|
 .o none (.bin 37 .add false (.t 35) (.t 36)) <|
 .o none (.bin 38 .add false (.t 37) (.c (.int .i64 1))) <|
 .o none (.mv 39 (.t 0)) <|
 .o none (.len 40 (.t 39)) <|
 .o none (.mv 41 (.t 5)) <|
 .o none (.bin 42 .add false (.t 40) (.t 41)) <|
 .o none (.bin 43 .add false (.t 42) (.c (.int .i64 3))) <|
 .o none (.mk 44 1 2 156 (.int .u16 0) (.t 38) (.t 43)) <|
 .o none (.mv 7 (.t 44)) .nil)) <| .seq (.seq (.rg (.o none (.mv 45 (.t 0)) <|
 .o none (.len 46 (.t 45)) <|
 .o none (.mv 47 (.c (.int .i64 0))) .nil)) <| .block 0 (.loop (.seq (.rg (.o none (.bin 48 .lss false (.t 47) (.t 46)) .nil)) <| .seq (.cond (.t 48) (.skip) (.exit 0)) <| .seq (.block 1 (.seq (.rg (.o none (.mv 49 (.t 47)) <|
 .o none (.idx 50 1 (.t 45) (.t 47)) <|
 .o none (.ld 51 1 false (.t 50)) <|
 .o none (.mv 8 (.t 49)) <|
 .o none (.mv 9 (.t 51)) .nil)) <| .seq (.rg (.o none (.mv 52 (.t 9)) <|
 .o none (.conv 53 .u32 (.t 52)) <|
 .o none (.mv 54 (.t 6)) <|
 .o none (.bin 55 .shl false (.t 53) (.t 54)) <|
 .o none (.mv 10 (.t 55)) .nil)) <| .seq (.rg (.o none (.mv 56 (.t 7)) <|
 .o none (.mv 57 (.t 8)) <|
 .o none (.mv 58 (.t 5)) <|
 .o none (.bin 59 .add false (.t 57) (.t 58)) <|
 .o none (.idx 60 1 (.t 56) (.t 59)) <|
 .o none (.ld 61 1 false (.t 60)) <|
 .o none (.mv 62 (.t 10)) <|
 .o none (.conv 63 .u16 (.t 62)) <|
 .o none (.bin 64 .or false (.t 61) (.t 63)) <|
 .o none (.idx 65 1 (.t 56) (.t 59)) <|
 .o none (.st 1 (.t 65) (.t 64)) .nil)) <| .rg (.o none (.mv 66 (.t 7)) <|
 .o none (.mv 67 (.t 8)) <|
 .o none (.mv 68 (.t 5)) <|
 .o none (.bin 69 .add false (.t 67) (.t 68)) <|
 .o none (.bin 70 .add false (.t 69) (.c (.int .i64 1))) <|
 .o none (.mv 71 (.t 10)) <|
 .o none (.bin 72 .shr false (.t 71) (.c (.int .u64 16))) <|
 .o none (.conv 73 .u16 (.t 72)) <|
 .o none (.idx 74 1 (.t 66) (.t 70)) <|
 .o none (.st 1 (.t 74) (.t 73)) .nil))) <| .rg (.o none (.bin 75 .add false (.t 47) (.c (.int .i64 1))) <|
 .o none (.mv 47 (.t 75)) .nil)))) <| .seq (.rg (.o none (.mv 76 (.t 7)) <|
 .o none (.call (some 77) false (.c (.fn 177 [] [])) [(.t 76)]) <|
 .o none (.mv 4 (.t 77)) .nil)) <| .ret⟩
theorem Qst : Qf Tryz.prog Tryz.f199 = some Qp6 := by kernel_rfl
def Q5m : SFn := ⟨63, [.t 4], .seq (.rg (.o none (.mv 4 (.c .nilS)) .nil)) <| .seq (.rg (.o none (.mv 10 (.t 1)) <|
 .o none (.bin 11 .quo false (.t 10) (.c (.int .i64 16))) <|
 .o none (.mv 12 (.t 1)) <|
 .o none (.bin 13 .rem false (.t 12) (.c (.int .i64 16))) <|
 .o none (.mv 5 (.t 11)) <|
 .o none (.mv 6 (.t 13)) .nil)) <| .seq (.seq (.rg (.o none (.mv 14 (.t 5)) <|
 .o none (.mv 15 (.t 0)) <|
 .o none (.len 16 (.t 15)) <|
 .o none (.bin 17 .geq false (.t 14) (.t 16)) .nil)) <| .cond (.t 17) (.seq (.rg (.o none (.mv 4 (.c .nilS)) .nil)) <| .ret) (.skip)) <| .seq (.rg (.o none (.mv 18 (.t 0)) <|
 .o none (.len 19 (.t 18)) <|
 .o none (.mv 20 (.t 5)) <|
 .o none (.bin 21 .sub false (.t 19) (.t 20)) <|
 .o none (.mk 22 1 2 156 (.int .u16 0) (.t 21) (.t 21)) <|
 .o none (.mv 7 (.t 22)) .nil)) <| .seq (.seq (.rg (.o none (.mv 23 (.t 7)) <|
 .o none (.len 24 (.t 23)) <|
 .o none (.mv 25 (.c (.int .i64 0))) .nil)) <| .block 0 (.loop (.seq (.rg (.o none (.bin 26 .lss false (.t 25) (.t 24)) .nil)) <| .seq (.cond (.t 26) (.skip) (.exit 0)) <| .seq (.block 1 (.seq (.rg (.o none (.mv 27 (.t 25)) <|
 .o none (.mv 8 (.t 27)) .nil)) <| .seq (.rg (.o none (.mv 28 (.t 0)) <|
 .o none (.mv 29 (.t 8)) <|
 .o none (.mv 30 (.t 5)) <|
 .o none (.bin 31 .add false (.t 29) (.t 30)) <|
 .o none (.idx 32 1 (.t 28) (.t 31)) <|
 .o none (.ld 33 1 false (.t 32)) <|
 .o none (.conv 34 .u32 (.t 33)) <|
 .o none (.mv 9 (.t 34)) .nil)) <| .seq (.seq (.rg (.o none (.mv 35 (.t 8)) <|
 .o none (.mv 36 (.t 5)) <|
 .o none (.bin 37 .add false (.t 35) (.t 36)) <|
 .o none (.bin 38 .add false (.t 37) (.c (.int .i64 1))) <|
 .o none (.mv 39 (.t 0)) <|
 .o none (.len 40 (.t 39)) <|
 .o none (.bin 41 .lss false (.t 38) (.t 40)) .nil)) <| .cond (.t 41) (.rg (.o none (.mv 42 (.t 9)) <|
 .o none (.mv 43 (.t 0)) <|
 .o none (.mv 44 (.t 8)) <|
 .o none (.mv 45 (.t 5)) <|
 .o none (.bin 46 .add false (.t 44) (.t 45)) <|
 .o none (.bin 47 .add false (.t 46) (.c (.int .i64 1))) <|
 .o none (.idx 48 1 (.t 43) (.t 47)) <|
 .o none (.ld 49 1 false (.t 48)) <|
 .o none (.conv 50 .u32 (.t 49)) <|
 .o none (.bin 51 .shl false (.t 50) (.c (.int .u64 16))) <|
 .o none (.bin 52 .or false (.t 42) (.t 51)) <|
 .o none (.mv 9 (.t 52)) .nil)) (.skip)) <| .rg (.o none (.mv 53 (.t 7)) <|
 .o none (.mv 54 (.t 8)) <|
 .o none (.mv 55 (.t 9)) <|
 .o none (.mv 56 (.t 6)) <|
 .o none (.bin 57 .shr false (.t 55) (.t 56)) <|
 .o none (.conv 58 .u16 (.t 57)) <|
 .o none (.idx 59 1 (.t 53) (.t 54)) <|
 .o none (.st 1 (.t 59) (.t 58)) .nil))) <| .rg (.o none (.bin 60 .add false (.t 25) (.c (.int .i64 1))) <|
 .o none (.mv 25 (.t 60)) .nil)))) <| .seq (.rg (.o none (.mv 61 (.t 7)) <|
 .o none (.call (some 62) false (.c (.fn 177 [] [])) [(.t 61)]) <|
 .o none (.mv 4 (.t 62)) .nil)) <| .ret⟩
theorem Qaan : Qf Tryz.prog Tryz.f220 = some Q5m := by kernel_rfl
def Q5n : SFn := ⟨6, [.t 2], .seq (.rg (.o none (.mv 2 (.c (.int .i64 0))) .nil)) <| .seq (.rg (.o none (.mv 3 (.t 0)) <|
 .o none (.call (some 4) false (.c (.fn 211 [] [])) [(.t 3)]) <|
 .o none (.bin 5 .sub false (.c (.int .i64 16)) (.t 4)) <|
 .o none (.mv 2 (.t 5)) .nil)) <| .ret⟩
theorem Qaao : Qf Tryz.prog Tryz.f198 = some Q5n := by kernel_rfl
end Go.Proofs.YtmnkngmmfnncoaaGreat
namespace Go.Proofs.YtmnkngmmfnncoaaGreat
open Go Go.FW
set_option maxRecDepth 100000
def Q5o : SFn := ⟨15, [.cell 4 2 true], .seq (.rg (.o none (.alloc 4 2 30 (.agg [(.bool false), .nilS])) .nil)) <| .seq (.rg (.o none (.mv 5 (.t 1)) <|
 .o none (.call (some 6) false (.c (.fn 173 [] [])) [(.t 5)]) <|
 .o none (.mv 1 (.t 6)) .nil)) <| .seq (.rg (.o none (.mv 7 (.t 0)) <|
 .o none (.mv 8 (.t 7)) <|
 .o (some (8, true)) (.mv 9 (.t 1)) <|
 .o (some (8, true)) (.len 10 (.t 9)) <|
 .o (some (8, true)) (.bin 11 .gtr false (.t 10) (.c (.int .i64 0))) <|
 .o none (.pick 12 (.t 8) (.t 11) (.c (.bool false))) <|
 .o none (.mv 13 (.t 1)) <|
 .o none (.bld 14 [(.bool false), .nilS] [(0, 1, (.t 12)), (1, 1, (.t 13))]) <|
 .o none (.st 2 (.t 4) (.t 14)) .nil)) <| .ret⟩
theorem Qaap : Qf Tryz.prog Tryz.f212 = some Q5o := by kernel_rfl
def Q5p : SFn := ⟨13, [.cell 4 2 true], .seq (.rg (.o none (.alloc 4 2 30 (.agg [(.bool false), .nilS])) .nil)) <| .seq (.rg (.o none (.mv 5 (.t 0)) <|
 .o none (.mv 6 (.t 5)) <|
 .o (some (6, true)) (.mv 7 (.t 1)) <|
 .o (some (6, true)) (.len 8 (.t 7)) <|
 .o (some (6, true)) (.bin 9 .gtr false (.t 8) (.c (.int .i64 0))) <|
 .o none (.pick 10 (.t 6) (.t 9) (.c (.bool false))) <|
 .o none (.mv 11 (.t 1)) <|
 .o none (.bld 12 [(.bool false), .nilS] [(0, 1, (.t 10)), (1, 1, (.t 11))]) <|
 .o none (.st 2 (.t 4) (.t 12)) .nil)) <| .ret⟩
theorem Qaaq : Qf Tryz.prog Tryz.f176 = some Q5p := by kernel_rfl
def Q5q : SFn := ⟨8, [.cell 2 2 true], .seq (.rg (.o none (.box 1 2 30 (.t 0)) <|
 .o none (.alloc 2 2 30 (.agg [(.bool false), .nilS])) .nil)) <| .seq (.rg (.o none (.fld 3 0 (.t 1)) <|
 .o none (.ld 4 1 false (.t 3)) <|
 .o none (.fld 5 1 (.t 1)) <|
 .o none (.ld 6 1 false (.t 5)) <|
 .o none (.call (some 7) false (.c (.fn 212 [] [])) [(.t 4), (.t 6)]) <|
 .o none (.st 2 (.t 2) (.t 7)) .nil)) <| .ret⟩
theorem Qaar : Qf Tryz.prog Tryz.f174 = some Q5q := by kernel_rfl
def Q5r : SFn := ⟨16, [.cell 2 2 true], .seq (.rg (.o none (.alloc 2 2 30 (.agg [(.bool false), .nilS])) .nil)) <| .seq (.seq (.rg (.o none (.mv 3 (.t 0)) <|
 .o none (.bin 4 .lss false (.t 3) (.c (.int .i64 0))) .nil)) <| .cond (.t 4) (.seq (.rg (.o none (.mv 5 (.t 0)) <|
 .o none (.bin 6 .add false (.t 5) (.c (.int .i64 1))) <|
 .o none (.un 7 .neg (.t 6)) <|
 .o none (.conv 8 .u64 (.t 7)) <|
 .o none (.bin 9 .add false (.t 8) (.c (.int .u64 1))) <|
 .o none (.call (some 10) false (.c (.fn 143 [] [])) [(.t 9)]) <|
 .o none (.call (some 11) false (.c (.fn 176 [] [])) [(.c (.bool true)), (.t 10)]) <|
 .o none (.st 2 (.t 2) (.t 11)) .nil)) <| .ret) (.skip)) <| .seq (.rg (.o none (.mv 12 (.t 0)) <|
 .o none (.conv 13 .u64 (.t 12)) <|
 .o none (.call (some 14) false (.c (.fn 143 [] [])) [(.t 13)]) <|
 .o none (.call (some 15) false (.c (.fn 176 [] [])) [(.c (.bool false)), (.t 14)]) <|
 .o none (.st 2 (.t 2) (.t 15)) .nil)) <| .ret⟩
theorem Qaas : Qf Tryz.prog Tryz.f154 = some Q5r := by kernel_rfl
def Q5s : SFn := ⟨11, [.t 2], .seq (.rg (.o none (.box 1 2 30 (.t 0)) <|
 .o none (.mv 2 (.c (.int .i64 0))) .nil)) <| .seq (.block 0 (.seq (.rg (.o none (.fld 4 1 (.t 1)) <|
 .o none (.ld 5 1 false (.t 4)) <|
 .o none (.call (some 6) false (.c (.fn 172 [] [])) [(.t 5)]) <|
 .o none (.bin 7 .eql false (.t 6) (.c (.int .i64 0))) <|
 .o none (.mv 3 (.t 7)) .nil)) <| .cond (.t 3) (.seq (.rg (.o none (.mv 2 (.c (.int .i64 0))) .nil)) <| .ret) (.seq (.rg (.o none (.fld 9 0 (.t 1)) <|
 .o none (.ld 10 1 false (.t 9)) <|
 .o none (.mv 8 (.t 10)) .nil)) <| .cond (.t 8) (.seq (.rg (.o none (.mv 2 (.c (.int .i64 (-1)))) .nil)) <| .ret) (.skip)))) <| .seq (.rg (.o none (.mv 2 (.c (.int .i64 1))) .nil)) <| .ret⟩
theorem Qaat : Qf Tryz.prog Tryz.f108 = some Q5s := by kernel_rfl
def Q5t : SFn := ⟨35, [.t 4], .seq (.rg (.o none (.box 2 2 30 (.t 0)) <|
 .o none (.box 3 2 30 (.t 1)) <|
 .o none (.mv 4 (.c (.int .i64 0))) .nil)) <| .seq (.rg (.o none (.ld 8 2 true (.t 2)) <|
 .o none (.ld 10 2 true (.t 3)) <|
 .o none (.call (some 9) true (.c (.fn 108 [] [])) [(.t 8)]) <|
 .o none (.call (some 11) true (.c (.fn 108 [] [])) [(.t 10)]) <|
 .o none (.mv 5 (.t 9)) <|
 .o none (.mv 6 (.t 11)) .nil)) <| .seq (.rg (.o none (.mv 7 (.c (.fn 215 [] []))) .nil)) <| .seq (.block 0 (.seq (.rg (.o none (.mv 13 (.t 5)) <|
 .o none (.mv 14 (.t 6)) <|
 .o none (.bin 15 .lss false (.t 13) (.t 14)) <|
 .o none (.mv 12 (.t 15)) .nil)) <| .cond (.t 12) (.seq (.rg (.o none (.mv 4 (.c (.int .i64 (-1)))) .nil)) <| .ret) (.seq (.rg (.o none (.mv 17 (.t 5)) <|
 .o none (.mv 18 (.t 6)) <|
 .o none (.bin 19 .gtr false (.t 17) (.t 18)) <|
 .o none (.mv 16 (.t 19)) .nil)) <| .cond (.t 16) (.seq (.rg (.o none (.mv 4 (.c (.int .i64 1))) .nil)) <| .ret) (.seq (.rg (.o none (.mv 21 (.t 5)) <|
 .o none (.bin 22 .lss false (.t 21) (.c (.int .i64 0))) <|
 .o none (.mv 20 (.t 22)) .nil)) <| .cond (.t 20) (.seq (.rg (.o none (.mv 23 (.t 7)) <|
 .o none (.fld 24 1 (.t 3)) <|
 .o none (.ld 25 1 false (.t 24)) <|
 .o none (.fld 26 1 (.t 2)) <|
 .o none (.ld 27 1 false (.t 26)) <|
 .o none (.call (some 28) false (.t 23) [(.t 25), (.t 27)]) <|
 .o none (.mv 4 (.t 28)) .nil)) <| .ret) (.skip))))) <| .seq (.rg (.o none (.mv 29 (.t 7)) <|
 .o none (.fld 30 1 (.t 2)) <|
 .o none (.ld 31 1 false (.t 30)) <|
 .o none (.fld 32 1 (.t 3)) <|
 .o none (.ld 33 1 false (.t 32)) <|
 .o none (.call (some 34) false (.t 29) [(.t 31), (.t 33)]) <|
 .o none (.mv 4 (.t 34)) .nil)) <| .ret⟩
theorem Qaau : Qf Tryz.prog Tryz.f178 = some Q5t := by kernel_rfl
def Q5u : SFn := ⟨8, [.t 4], .seq (.rg (.o none (.mv 4 (.c (.int .i64 0))) .nil)) <| .seq (.rg (.o none (.mv 5 (.t 0)) <|
 .o none (.mv 6 (.t 1)) <|
 .o none (.call (some 7) false (.c (.fn 196 [] [])) [(.t 5), (.t 6)]) <|
 .o none (.mv 4 (.t 7)) .nil)) <| .ret⟩
theorem Qaav : Qf Tryz.prog Tryz.f215 = some Q5u := by kernel_rfl
def Q5v : SFn := ⟨40, [.cell 4 2 true], .seq (.rg (.o none (.box 2 2 30 (.t 0)) <|
 .o none (.box 3 2 30 (.t 1)) <|
 .o none (.alloc 4 2 30 (.agg [(.bool false), .nilS])) .nil)) <| .seq (.seq (.rg (.o none (.fld 7 0 (.t 2)) <|
 .o none (.ld 8 1 false (.t 7)) <|
 .o none (.fld 9 0 (.t 3)) <|
 .o none (.ld 10 1 false (.t 9)) <|
 .o none (.bin 11 .eql true (.t 8) (.t 10)) .nil)) <| .cond (.t 11) (.seq (.rg (.o none (.fld 12 0 (.t 2)) <|
 .o none (.ld 13 1 false (.t 12)) <|
 .o none (.fld 14 1 (.t 2)) <|
 .o none (.ld 15 1 false (.t 14)) <|
 .o none (.fld 16 1 (.t 3)) <|
 .o none (.ld 17 1 false (.t 16)) <|
 .o none (.call (some 18) true (.c (.fn 213 [] [])) [(.t 15), (.t 17)]) <|
 .o none (.call (some 19) true (.c (.fn 176 [] [])) [(.t 13), (.t 18)]) <|
 .o none (.st 2 (.t 4) (.t 19)) .nil)) <| .ret) (.skip)) <| .seq (.seq (.rg (.o none (.fld 20 1 (.t 2)) <|
 .o none (.ld 21 1 false (.t 20)) <|
 .o none (.fld 22 1 (.t 3)) <|
 .o none (.ld 23 1 false (.t 22)) <|
 .o none (.call (some 24) false (.c (.fn 196 [] [])) [(.t 21), (.t 23)]) <|
 .o none (.bin 25 .lss false (.t 24) (.c (.int .i64 0))) .nil)) <| .cond (.t 25) (.rg (.o none (.ld 26 2 true (.t 3)) <|
 .o none (.ld 27 2 true (.t 2)) <|
 .o none (.st 2 (.t 2) (.t 26)) <|
 .o none (.st 2 (.t 3) (.t 27)) .nil)) (.skip)) <| .seq (.rg (.o none (.fld 29 1 (.t 2)) <|
 .o none (.ld 30 1 false (.t 29)) <|
 .o none (.fld 31 1 (.t 3)) <|
 .o none (.ld 32 1 false (.t 31)) <|
 .o none (.call (some 33) false (.c (.fn 214 [] [])) [(.t 30), (.t 32)]) <|
 .o none (.mv 28 (.t 33)) <|
 .o none (.ext 34 (.t 28) 0) <|
 .o none (.ext 35 (.t 28) 1) <|
 .o none (.mv 5 (.t 34)) <|
 .o none (.mv 6 (.t 35)) .nil)) <| .seq (.rg (.o none (.fld 36 0 (.t 2)) <|
 .o none (.ld 37 1 false (.t 36)) <|
 .o none (.mv 38 (.t 5)) <|
 .o none (.call (some 39) false (.c (.fn 176 [] [])) [(.t 37), (.t 38)]) <|
 .o none (.st 2 (.t 4) (.t 39)) .nil)) <| .ret⟩
theorem Qaaw : Qf Tryz.prog Tryz.f175 = some Q5v := by kernel_rfl
def Q5w : SFn := ⟨16, [.cell 4 2 true], .seq (.rg (.o none (.box 2 2 30 (.t 0)) <|
 .o none (.box 3 2 30 (.t 1)) <|
 .o none (.alloc 4 2 30 (.agg [(.bool false), .nilS])) .nil)) <| .seq (.rg (.o none (.fld 5 0 (.t 2)) <|
 .o none (.ld 6 1 false (.t 5)) <|
 .o none (.fld 7 0 (.t 3)) <|
 .o none (.ld 8 1 false (.t 7)) <|
 .o none (.bin 9 .neq true (.t 6) (.t 8)) <|
 .o none (.fld 10 1 (.t 2)) <|
 .o none (.ld 11 1 false (.t 10)) <|
 .o none (.fld 12 1 (.t 3)) <|
 .o none (.ld 13 1 false (.t 12)) <|
 .o none (.call (some 14) true (.c (.fn 114 [] [])) [(.t 11), (.t 13)]) <|
 .o none (.call (some 15) true (.c (.fn 176 [] [])) [(.t 9), (.t 14)]) <|
 .o none (.st 2 (.t 4) (.t 15)) .nil)) <| .ret⟩
theorem Qaax : Qf Tryz.prog Tryz.f112 = some Q5w := by kernel_rfl
def Q5x : SFn := ⟨17, [.t 2], .seq (.rg (.o none (.mv 2 (.c (.bool false))) .nil)) <| .seq (.rg (.o none (.mv 4 (.t 0)) <|
 .o none (.len 5 (.t 4)) <|
 .o none (.bld 6 [(.int .i64 0), (.int .u16 0)] [(0, 1, (.t 5))]) <|
 .o none (.alloc 3 2 161 (.agg [(.int .i64 0), (.int .u16 0)])) <|
 .o none (.st 2 (.t 3) (.t 6)) .nil)) <| .seq (.seq (.rg (.o none (.mv 7 (.t 0)) <|
 .o none (.len 8 (.t 7)) <|
 .o none (.bin 9 .gtr false (.t 8) (.c (.int .i64 0))) .nil)) <| .cond (.t 9) (.rg (.o none (.mv 10 (.t 0)) <|
 .o none (.idx 11 1 (.t 10) (.c (.int .i64 0))) <|
 .o none (.ld 12 1 false (.t 11)) <|
 .o none (.fld 13 1 (.t 3)) <|
 .o none (.st 1 (.t 13) (.t 12)) .nil)) (.skip)) <| .seq (.rg (.o none (.ld 14 2 true (.t 3)) <|
 .o none (.bld 15 [(.int .i64 0), (.int .u16 0)] [(0, 1, (.c (.int .i64 1))), (1, 1, (.c (.int .u16 1)))]) <|
 .o none (.eqs 16 false (.t 14) (.t 15)) <|
 .o none (.mv 2 (.t 16)) .nil)) <| .ret⟩
theorem Qaay : Qf Tryz.prog Tryz.f109 = some Q5x := by kernel_rfl
def Q5y : SFn := ⟨2, [.t 0], .seq (.rg (.o none (.mv 0 (.c .nilS)) .nil)) <| .seq (.rg (.o none (.bs 1 1 156 [(.c (.int .u16 1))]) <|
 .o none (.mv 0 (.t 1)) .nil)) <| .ret⟩
theorem Qaaz : Qf Tryz.prog Tryz.f155 = some Q5y := by kernel_rfl
def Q5z : SFn := ⟨52, [.cell 4 3 true], .seq (.rg (.o none (.box 2 2 30 (.t 0)) <|
 .o none (.alloc 4 3 32 (.agg [(.bool false), .nilS, .nilS])) .nil)) <| .seq (.rg (.o none (.mv 6 (.t 1)) <|
 .o none (.call (some 7) false (.c (.fn 173 [] [])) [(.t 6)]) <|
 .o none (.mv 1 (.t 7)) .nil)) <| .seq (.rg (.o none (.ld 8 2 true (.t 2)) <|
 .o none (.call (some 9) false (.c (.fn 174 [] [])) [(.t 8)]) <|
 .o none (.st 2 (.t 2) (.t 9)) .nil)) <| .seq (.seq (.rg (.o none (.mv 10 (.t 1)) <|
 .o none (.len 11 (.t 10)) <|
 .o none (.bin 12 .eql false (.t 11) (.c (.int .i64 0))) <|
 .o none (.mv 13 (.t 12)) <|
 .o (some (13, false)) (.fld 14 1 (.t 2)) <|
 .o (some (13, false)) (.ld 15 1 false (.t 14)) <|
 .o (some (13, false)) (.len 16 (.t 15)) <|
 .o (some (13, false)) (.bin 17 .eql false (.t 16) (.c (.int .i64 0))) <|
 .o none (.pick 18 (.t 13) (.c (.bool true)) (.t 17)) .nil)) <| .cond (.t 18) (.seq (.rg (.o none (.call (some 19) false (.c (.fn 155 [] [])) []) <|
 .o none (.bld 20 [(.bool false), .nilS, .nilS] [(2, 1, (.t 19))]) <|
 .o none (.st 3 (.t 4) (.t 20)) .nil)) <| .ret) (.skip)) <| .seq (.seq (.rg (.o none (.mv 21 (.t 1)) <|
 .o none (.call (some 22) false (.c (.fn 109 [] [])) [(.t 21)]) .nil)) <| .cond (.t 22) (.seq (.rg (.o none (.ld 23 2 true (.t 2)) <|
 .o none (.mv 24 (.t 1)) <|
 .o none (.bld 25 [(.bool false), .nilS, .nilS] [(0, 2, (.t 23)), (2, 1, (.t 24))]) <|
 .o none (.st 3 (.t 4) (.t 25)) .nil)) <| .ret) (.skip)) <| .seq (.rg (.o none (.fld 26 1 (.t 2)) <|
 .o none (.ld 27 1 false (.t 26)) <|
 .o none (.mv 28 (.t 1)) <|
 .o none (.call (some 29) false (.c (.fn 144 [] [])) [(.t 27), (.t 28)]) <|
 .o none (.mv 5 (.t 29)) .nil)) <| .seq (.seq (.rg (.o none (.mv 30 (.t 5)) <|
 .o none (.call (some 31) false (.c (.fn 109 [] [])) [(.t 30)]) <|
 .o none (.un 32 .not (.t 31)) .nil)) <| .cond (.t 32) (.seq (.rg (.o none (.fld 34 1 (.t 2)) <|
 .o none (.ld 35 1 false (.t 34)) <|
 .o none (.mv 36 (.t 5)) <|
 .o none (.call (some 37) false (.c (.fn 145 [] [])) [(.t 35), (.t 36)]) <|
 .o none (.mv 33 (.t 37)) <|
 .o none (.ext 38 (.t 33) 0) <|
 .o none (.ext 39 (.t 33) 1) <|
 .o none (.ext 40 (.t 33) 2) <|
 .o none (.fld 41 1 (.t 2)) <|
 .o none (.st 1 (.t 41) (.t 38)) .nil)) <| .rg (.o none (.mv 43 (.t 1)) <|
 .o none (.mv 44 (.t 5)) <|
 .o none (.call (some 45) false (.c (.fn 145 [] [])) [(.t 43), (.t 44)]) <|
 .o none (.mv 42 (.t 45)) <|
 .o none (.ext 46 (.t 42) 0) <|
 .o none (.ext 47 (.t 42) 1) <|
 .o none (.ext 48 (.t 42) 2) <|
 .o none (.mv 1 (.t 46)) .nil)) (.skip)) <| .seq (.rg (.o none (.ld 49 2 true (.t 2)) <|
 .o none (.mv 50 (.t 1)) <|
 .o none (.bld 51 [(.bool false), .nilS, .nilS] [(0, 2, (.t 49)), (2, 1, (.t 50))]) <|
 .o none (.st 3 (.t 4) (.t 51)) .nil)) <| .ret⟩
theorem Qaa0 : Qf Tryz.prog Tryz.f110 = some Q5z := by kernel_rfl
def Q50 : SFn := ⟨14, [.cell 2 2 true, .t 3], .seq (.rg (.o none (.box 1 3 32 (.t 0)) <|
 .o none (.alloc 2 2 30 (.agg [(.bool false), .nilS])) <|
 .o none (.mv 3 (.c .nilS)) .nil)) <| .seq (.seq (.rg (.o none (.fld 4 2 (.t 1)) <|
 .o none (.ld 5 1 false (.t 4)) <|
 .o none (.call (some 6) false (.c (.fn 172 [] [])) [(.t 5)]) <|
 .o none (.bin 7 .eql false (.t 6) (.c (.int .i64 0))) .nil)) <| .cond (.t 7) (.seq (.rg (.o none (.bld 8 [(.bool false), .nilS] []) <|
 .o none (.call (some 9) false (.c (.fn 155 [] [])) []) <|
 .o none (.st 2 (.t 2) (.t 8)) <|
 .o none (.mv 3 (.t 9)) .nil)) <| .ret) (.skip)) <| .seq (.rg (.o none (.fld 10 0 (.t 1)) <|
 .o none (.ld 11 2 true (.t 10)) <|
 .o none (.fld 12 2 (.t 1)) <|
 .br (.o none (.ld 13 1 false (.t 12)) <|
 .o none (.st 2 (.t 2) (.t 11)) <|
 .o none (.mv 3 (.t 13)) .nil) (.o none (.st 2 (.t 2) (.t 11)) <|
 .o none (.ld 13 1 false (.t 12)) <|
 .o none (.mv 3 (.t 13)) .nil))) <| .ret⟩
theorem Qaa1 : Qf Tryz.prog Tryz.f107 = some Q50 := by kernel_rfl
def Q51 : SFn := ⟨5, [.cell 2 2 true], .seq (.rg (.o none (.alloc 2 2 30 (.agg [(.bool false), .nilS])) .nil)) <| .seq (.rg (.o none (.mv 3 (.t 0)) <|
 .o none (.bld 4 [(.bool false), .nilS] [(1, 1, (.t 3))]) <|
 .o none (.st 2 (.t 2) (.t 4)) .nil)) <| .ret⟩
theorem Qaa2 : Qf Tryz.prog Tryz.f113 = some Q51 := by kernel_rfl
def c79 : SFn := ⟨7, [.cell 2 3 true], .seq (.rg (.o none (.alloc 2 3 32 (.agg [(.bool false), .nilS, .nilS])) .nil)) <| .seq (.rg (.o none (.mv 3 (.t 0)) <|
 .o none (.call (some 4) false (.c (.fn 154 [] [])) [(.t 3)]) <|
 .o none (.call (some 5) false (.c (.fn 155 [] [])) []) <|
 .o none (.bld 6 [(.bool false), .nilS, .nilS] [(0, 2, (.t 4)), (2, 1, (.t 5))]) <|
 .o none (.st 3 (.t 2) (.t 6)) .nil)) <| .ret⟩
theorem Qae9 : Qf Tryz.prog Tryz.f79 = some c79 := by kernel_rfl
def c36 : SFn := ⟨12, [.t 2], .seq (.rg (.o none (.box 1 3 32 (.t 0)) <|
 .o none (.mv 2 (.c (.int .i64 0))) .nil)) <| .seq (.rg (.o none (.ld 6 3 true (.t 1)) <|
 .o none (.call (some 7) false (.c (.fn 107 [] [])) [(.t 6)]) <|
 .o none (.mv 5 (.t 7)) <|
 .o none (.ext 8 (.t 5) 0) <|
 .o none (.ext 9 (.t 5) 1) <|
 .o none (.alloc 3 2 30 (.agg [(.bool false), .nilS])) <|
 .o none (.st 2 (.t 3) (.t 8)) <|
 .o none (.mv 4 (.t 9)) .nil)) <| .seq (.rg (.o none (.ld 10 2 true (.t 3)) <|
 .o none (.call (some 11) false (.c (.fn 108 [] [])) [(.t 10)]) <|
 .o none (.mv 2 (.t 11)) .nil)) <| .ret⟩
theorem Qafa : Qf Tryz.prog Tryz.f36 = some c36 := by kernel_rfl
def Q52 : SFn := ⟨40, [.t 4], .seq (.rg (.o none (.box 2 3 32 (.t 0)) <|
 .o none (.box 3 3 32 (.t 1)) <|
 .o none (.mv 4 (.c (.int .i64 0))) .nil)) <| .seq (.rg (.o none (.ld 11 3 true (.t 2)) <|
 .o none (.ld 13 3 true (.t 3)) <|
 .o none (.call (some 12) true (.c (.fn 36 [] [])) [(.t 11)]) <|
 .o none (.call (some 14) true (.c (.fn 36 [] [])) [(.t 13)]) <|
 .o none (.mv 5 (.t 12)) <|
 .o none (.mv 6 (.t 14)) .nil)) <| .seq (.seq (.rg (.o none (.mv 15 (.t 5)) <|
 .o none (.mv 16 (.t 6)) <|
 .o none (.bin 17 .neq false (.t 15) (.t 16)) .nil)) <| .cond (.t 17) (.seq (.seq (.rg (.o none (.mv 18 (.t 5)) <|
 .o none (.mv 19 (.t 6)) <|
 .o none (.bin 20 .lss false (.t 18) (.t 19)) .nil)) <| .cond (.t 20) (.seq (.rg (.o none (.mv 4 (.c (.int .i64 (-1)))) .nil)) <| .ret) (.skip)) <| .seq (.rg (.o none (.mv 4 (.c (.int .i64 1))) .nil)) <| .ret) (.skip)) <| .seq (.rg (.o none (.ld 22 3 true (.t 2)) <|
 .o none (.call (some 23) false (.c (.fn 107 [] [])) [(.t 22)]) <|
 .o none (.mv 21 (.t 23)) <|
 .o none (.ext 24 (.t 21) 0) <|
 .o none (.ext 25 (.t 21) 1) <|
 .o none (.alloc 7 2 30 (.agg [(.bool false), .nilS])) <|
 .o none (.st 2 (.t 7) (.t 24)) <|
 .o none (.mv 8 (.t 25)) .nil)) <| .seq (.rg (.o none (.ld 27 3 true (.t 3)) <|
 .o none (.call (some 28) false (.c (.fn 107 [] [])) [(.t 27)]) <|
 .o none (.mv 26 (.t 28)) <|
 .o none (.ext 29 (.t 26) 0) <|
 .o none (.ext 30 (.t 26) 1) <|
 .o none (.alloc 9 2 30 (.agg [(.bool false), .nilS])) <|
 .o none (.st 2 (.t 9) (.t 29)) <|
 .o none (.mv 10 (.t 30)) .nil)) <| .seq (.rg (.o none (.ld 31 2 true (.t 7)) <|
 .o none (.mv 32 (.t 10)) <|
 .o none (.ld 35 2 true (.t 9)) <|
 .o none (.mv 36 (.t 8)) <|
 .o none (.call (some 33) true (.c (.fn 113 [] [])) [(.t 32)]) <|
 .o none (.call (some 34) true (.c (.fn 112 [] [])) [(.t 31), (.t 33)]) <|
 .o none (.call (some 37) true (.c (.fn 113 [] [])) [(.t 36)]) <|
 .o none (.call (some 38) true (.c (.fn 112 [] [])) [(.t 35), (.t 37)]) <|
 .o none (.call (some 39) true (.c (.fn 178 [] [])) [(.t 34), (.t 38)]) <|
 .o none (.mv 4 (.t 39)) .nil)) <| .ret⟩
theorem Qaa3 : Qf Tryz.prog Tryz.f115 = some Q52 := by kernel_rfl
def Q53 : SFn := ⟨17, [.cell 2 2 true], .seq (.rg (.o none (.alloc 2 2 30 (.agg [(.bool false), .nilS])) .nil)) <| .seq (.rg (.o none (.alloc 3 2 30 (.agg [(.bool false), .nilS])) .nil)) <| .seq (.seq (.rg (.o none (.mv 6 (.t 0)) <|
 .o none (.len 7 (.t 6)) <|
 .o none (.mv 8 (.c (.int .i64 0))) .nil)) <| .block 0 (.loop (.seq (.rg (.o none (.bin 9 .lss false (.t 8) (.t 7)) .nil)) <| .seq (.cond (.t 9) (.skip) (.exit 0)) <| .seq (.block 1 (.seq (.rg (.o none (.idx 10 2 (.t 6) (.t 8)) <|
 .o none (.ld 11 2 true (.t 10)) <|
 .o none (.alloc 5 2 30 (.agg [(.bool false), .nilS])) <|
 .o none (.st 2 (.t 5) (.t 11)) .nil)) <| .rg (.o none (.ld 12 2 true (.t 3)) <|
 .o none (.ld 13 2 true (.t 5)) <|
 .o none (.call (some 14) false (.c (.fn 175 [] [])) [(.t 12), (.t 13)]) <|
 .o none (.st 2 (.t 3) (.t 14)) .nil))) <| .rg (.o none (.bin 15 .add false (.t 8) (.c (.int .i64 1))) <|
 .o none (.mv 8 (.t 15)) .nil)))) <| .seq (.rg (.o none (.ld 16 2 true (.t 3)) <|
 .o none (.st 2 (.t 2) (.t 16)) .nil)) <| .ret⟩
theorem Qaa4 : Qf Tryz.prog Tryz.f111 = some Q53 := by kernel_rfl
def c37 : SFn := ⟨45, [.cell 4 3 true], .seq (.rg (.o none (.box 2 3 32 (.t 0)) <|
 .o none (.box 3 3 32 (.t 1)) <|
 .o none (.alloc 4 3 32 (.agg [(.bool false), .nilS, .nilS])) .nil)) <| .seq (.rg (.o none (.ld 10 3 true (.t 2)) <|
 .o none (.call (some 11) false (.c (.fn 107 [] [])) [(.t 10)]) <|
 .o none (.mv 9 (.t 11)) <|
 .o none (.ext 12 (.t 9) 0) <|
 .o none (.ext 13 (.t 9) 1) <|
 .o none (.alloc 5 2 30 (.agg [(.bool false), .nilS])) <|
 .o none (.st 2 (.t 5) (.t 12)) <|
 .o none (.mv 6 (.t 13)) .nil)) <| .seq (.rg (.o none (.ld 15 3 true (.t 3)) <|
 .o none (.call (some 16) false (.c (.fn 107 [] [])) [(.t 15)]) <|
 .o none (.mv 14 (.t 16)) <|
 .o none (.ext 17 (.t 14) 0) <|
 .o none (.ext 18 (.t 14) 1) <|
 .o none (.alloc 7 2 30 (.agg [(.bool false), .nilS])) <|
 .o none (.st 2 (.t 7) (.t 17)) <|
 .o none (.mv 8 (.t 18)) .nil)) <| .seq (.seq (.rg (.o none (.mv 19 (.t 6)) <|
 .o none (.call (some 20) false (.c (.fn 109 [] [])) [(.t 19)]) <|
 .o none (.mv 21 (.t 20)) <|
 .o (some (21, true)) (.mv 22 (.t 8)) <|
 .o (some (21, true)) (.call (some 23) false (.c (.fn 109 [] [])) [(.t 22)]) <|
 .o none (.pick 24 (.t 21) (.t 23) (.c (.bool false))) .nil)) <| .cond (.t 24) (.seq (.rg (.o none (.ld 25 2 true (.t 5)) <|
 .o none (.ld 26 2 true (.t 7)) <|
 .o none (.bs 27 2 30 [(.t 25), (.t 26)]) <|
 .o none (.call (some 28) false (.c (.fn 111 [] [])) [(.t 27)]) <|
 .o none (.mv 29 (.t 6)) <|
 .o none (.call (some 30) false (.c (.fn 110 [] [])) [(.t 28), (.t 29)]) <|
 .o none (.st 3 (.t 4) (.t 30)) .nil)) <| .ret) (.skip)) <| .seq (.rg (.o none (.ld 31 2 true (.t 5)) <|
 .o none (.mv 32 (.t 8)) <|
 .o none (.ld 35 2 true (.t 7)) <|
 .o none (.mv 36 (.t 6)) <|
 .o none (.mv 41 (.t 6)) <|
 .o none (.mv 42 (.t 8)) <|
 .o none (.call (some 33) true (.c (.fn 113 [] [])) [(.t 32)]) <|
 .o none (.call (some 34) true (.c (.fn 112 [] [])) [(.t 31), (.t 33)]) <|
 .o none (.call (some 37) true (.c (.fn 113 [] [])) [(.t 36)]) <|
 .o none (.call (some 38) true (.c (.fn 112 [] [])) [(.t 35), (.t 37)]) <|
 .o none (.bs 39 2 30 [(.t 34), (.t 38)]) <|
 .o none (.call (some 40) true (.c (.fn 111 [] [])) [(.t 39)]) <|
 .o none (.call (some 43) true (.c (.fn 114 [] [])) [(.t 41), (.t 42)]) <|
 .o none (.call (some 44) true (.c (.fn 110 [] [])) [(.t 40), (.t 43)]) <|
 .o none (.st 3 (.t 4) (.t 44)) .nil)) <| .ret⟩
theorem Qafb : Qf Tryz.prog Tryz.f37 = some c37 := by kernel_rfl
def c38 : SFn := ⟨26, [.cell 4 3 true], .seq (.rg (.o none (.box 2 3 32 (.t 0)) <|
 .o none (.box 3 3 32 (.t 1)) <|
 .o none (.alloc 4 3 32 (.agg [(.bool false), .nilS, .nilS])) .nil)) <| .seq (.rg (.o none (.ld 10 3 true (.t 2)) <|
 .o none (.call (some 11) false (.c (.fn 107 [] [])) [(.t 10)]) <|
 .o none (.mv 9 (.t 11)) <|
 .o none (.ext 12 (.t 9) 0) <|
 .o none (.ext 13 (.t 9) 1) <|
 .o none (.alloc 5 2 30 (.agg [(.bool false), .nilS])) <|
 .o none (.st 2 (.t 5) (.t 12)) <|
 .o none (.mv 6 (.t 13)) .nil)) <| .seq (.rg (.o none (.ld 15 3 true (.t 3)) <|
 .o none (.call (some 16) false (.c (.fn 107 [] [])) [(.t 15)]) <|
 .o none (.mv 14 (.t 16)) <|
 .o none (.ext 17 (.t 14) 0) <|
 .o none (.ext 18 (.t 14) 1) <|
 .o none (.alloc 7 2 30 (.agg [(.bool false), .nilS])) <|
 .o none (.st 2 (.t 7) (.t 17)) <|
 .o none (.mv 8 (.t 18)) .nil)) <| .seq (.rg (.o none (.ld 19 2 true (.t 5)) <|
 .o none (.ld 20 2 true (.t 7)) <|
 .o none (.call (some 21) false (.c (.fn 112 [] [])) [(.t 19), (.t 20)]) <|
 .o none (.mv 22 (.t 6)) <|
 .o none (.mv 23 (.t 8)) <|
 .o none (.call (some 24) false (.c (.fn 114 [] [])) [(.t 22), (.t 23)]) <|
 .o none (.call (some 25) false (.c (.fn 110 [] [])) [(.t 21), (.t 24)]) <|
 .o none (.st 3 (.t 4) (.t 25)) .nil)) <| .ret⟩
theorem Qafc : Qf Tryz.prog Tryz.f38 = some c38 := by kernel_rfl
def Q54 : SFn := ⟨21, [.cell 4 3 true, .t 5], .seq (.rg (.o none (.box 2 2 30 (.t 0)) <|
 .o none (.box 3 2 30 (.t 1)) <|
 .o none (.alloc 4 3 32 (.agg [(.bool false), .nilS, .nilS])) <|
 .o none (.mv 5 (.c (.int .i64 0))) .nil)) <| .seq (.seq (.rg (.o none (.ld 6 2 true (.t 3)) <|
 .o none (.call (some 7) false (.c (.fn 108 [] [])) [(.t 6)]) <|
 .o none (.bin 8 .eql false (.t 7) (.c (.int .i64 0))) .nil)) <| .cond (.t 8) (.seq (.rg (.o none (.bld 9 [(.bool false), .nilS, .nilS] []) <|
 .o none (.st 3 (.t 4) (.t 9)) <|
 .o none (.mv 5 (.c (.int .i64 3))) .nil)) <| .ret) (.skip)) <| .seq (.rg (.o none (.fld 10 0 (.t 2)) <|
 .o none (.ld 11 1 false (.t 10)) <|
 .o none (.fld 12 0 (.t 3)) <|
 .o none (.ld 13 1 false (.t 12)) <|
 .o none (.bin 14 .neq true (.t 11) (.t 13)) <|
 .o none (.fld 15 1 (.t 2)) <|
 .o none (.ld 16 1 false (.t 15)) <|
 .o none (.bld 17 [(.bool false), .nilS] [(0, 1, (.t 14)), (1, 1, (.t 16))]) <|
 .o none (.fld 18 1 (.t 3)) <|
 .o none (.ld 19 1 false (.t 18)) <|
 .o none (.call (some 20) false (.c (.fn 110 [] [])) [(.t 17), (.t 19)]) <|
 .o none (.st 3 (.t 4) (.t 20)) <|
 .o none (.mv 5 (.c (.int .i64 0))) .nil)) <| .ret⟩
theorem Qaa5 : Qf Tryz.prog Tryz.f146 = some Q54 := by kernel_rfl
def Q55 : SFn := ⟨31, [.cell 4 3 true, .t 5], .seq (.rg (.o none (.box 2 3 32 (.t 0)) <|
 .o none (.box 3 3 32 (.t 1)) <|
 .o none (.alloc 4 3 32 (.agg [(.bool false), .nilS, .nilS])) <|
 .o none (.mv 5 (.c (.int .i64 0))) .nil)) <| .seq (.rg (.o none (.ld 11 3 true (.t 2)) <|
 .o none (.call (some 12) false (.c (.fn 107 [] [])) [(.t 11)]) <|
 .o none (.mv 10 (.t 12)) <|
 .o none (.ext 13 (.t 10) 0) <|
 .o none (.ext 14 (.t 10) 1) <|
 .o none (.alloc 6 2 30 (.agg [(.bool false), .nilS])) <|
 .o none (.st 2 (.t 6) (.t 13)) <|
 .o none (.mv 7 (.t 14)) .nil)) <| .seq (.rg (.o none (.ld 16 3 true (.t 3)) <|
 .o none (.call (some 17) false (.c (.fn 107 [] [])) [(.t 16)]) <|
 .o none (.mv 15 (.t 17)) <|
 .o none (.ext 18 (.t 15) 0) <|
 .o none (.ext 19 (.t 15) 1) <|
 .o none (.alloc 8 2 30 (.agg [(.bool false), .nilS])) <|
 .o none (.st 2 (.t 8) (.t 18)) <|
 .o none (.mv 9 (.t 19)) .nil)) <| .seq (.rg (.o none (.ld 20 2 true (.t 6)) <|
 .o none (.mv 21 (.t 9)) <|
 .o none (.ld 24 2 true (.t 8)) <|
 .o none (.mv 25 (.t 7)) <|
 .o none (.call (some 22) true (.c (.fn 113 [] [])) [(.t 21)]) <|
 .o none (.call (some 23) true (.c (.fn 112 [] [])) [(.t 20), (.t 22)]) <|
 .o none (.call (some 26) true (.c (.fn 113 [] [])) [(.t 25)]) <|
 .o none (.call (some 27) true (.c (.fn 112 [] [])) [(.t 24), (.t 26)]) <|
 .o none (.call (some 28) true (.c (.fn 146 [] [])) [(.t 23), (.t 27)]) <|
 .o none (.ext 29 (.t 28) 0) <|
 .o none (.ext 30 (.t 28) 1) <|
 .o none (.st 3 (.t 4) (.t 29)) <|
 .o none (.mv 5 (.t 30)) .nil)) <| .ret⟩
theorem Qaa6 : Qf Tryz.prog Tryz.f139 = some Q55 := by kernel_rfl
end Go.Proofs.YtmnkngmmfnncoaaGreat
namespace Go.Proofs.YtmnkngmmfnncoaaGreat
open Go Go.FW
set_option maxRecDepth 100000
def Q56 : SFn := ⟨108, [.t 4], .seq (.rg (.o none (.box 2 1 28 (.t 0)) <|
 .o none (.box 3 1 28 (.t 1)) <|
 .o none (.mv 4 (.c .nilS)) .nil)) <| .seq (.rg (.o none (.ld 12 1 false (.t 3)) <|
 .o none (.len 13 (.t 12)) <|
 .o none (.alloc 5 1 3 (.int .i64 0)) <|
 .o none (.st 1 (.t 5) (.t 13)) .nil)) <| .seq (.rg (.o none (.ld 14 1 false (.t 2)) <|
 .o none (.len 15 (.t 14)) <|
 .o none (.ld 16 1 false (.t 5)) <|
 .o none (.bin 17 .sub false (.t 15) (.t 16)) <|
 .o none (.mk 18 1 2 156 (.int .u16 0) (.t 17) (.t 17)) <|
 .o none (.mv 6 (.t 18)) .nil)) <| .seq (.seq (.rg (.o none (.ld 19 1 false (.t 2)) <|
 .o none (.len 20 (.t 19)) <|
 .o none (.ld 21 1 false (.t 5)) <|
 .o none (.bin 22 .sub false (.t 20) (.t 21)) <|
 .o none (.bin 23 .sub false (.t 22) (.c (.int .i64 1))) <|
 .o none (.alloc 7 1 3 (.int .i64 0)) <|
 .o none (.st 1 (.t 7) (.t 23)) .nil)) <| .block 0 (.loop (.seq (.seq (.rg (.o none (.ld 24 1 false (.t 7)) <|
 .o none (.bin 25 .geq false (.t 24) (.c (.int .i64 0))) .nil)) <| .cond (.t 25) (.skip) (.exit 0)) <| .seq (.block 1 (.seq (.rg (.o none (.ld 28 1 false (.t 2)) <|
 .o none (.ld 29 1 false (.t 7)) <|
 .o none (.ld 30 1 false (.t 5)) <|
 .o none (.bin 31 .add false (.t 29) (.t 30)) <|
 .o none (.idx 32 1 (.t 28) (.t 31)) <|
 .o none (.ld 33 1 false (.t 32)) <|
 .o none (.conv 34 .u64 (.t 33)) <|
 .o none (.bin 35 .shl false (.t 34) (.c (.int .u64 16))) <|
 .o none (.ld 36 1 false (.t 2)) <|
 .o none (.ld 37 1 false (.t 7)) <|
 .o none (.ld 38 1 false (.t 5)) <|
 .o none (.bin 39 .add false (.t 37) (.t 38)) <|
 .o none (.bin 40 .sub false (.t 39) (.c (.int .i64 1))) <|
 .o none (.idx 41 1 (.t 36) (.t 40)) <|
 .o none (.ld 42 1 false (.t 41)) <|
 .o none (.conv 43 .u64 (.t 42)) <|
 .o none (.bin 44 .or false (.t 35) (.t 43)) <|
 .o none (.mv 8 (.t 44)) .nil)) <| .seq (.rg (.o none (.mv 45 (.t 8)) <|
 .o none (.ld 46 1 false (.t 3)) <|
 .o none (.ld 47 1 false (.t 5)) <|
 .o none (.bin 48 .sub false (.t 47) (.c (.int .i64 1))) <|
 .o none (.idx 49 1 (.t 46) (.t 48)) <|
 .o none (.ld 50 1 false (.t 49)) <|
 .o none (.conv 51 .u64 (.t 50)) <|
 .o none (.bin 52 .quo false (.t 45) (.t 51)) <|
 .o none (.mv 53 (.t 8)) <|
 .br (.o none (.ld 54 1 false (.t 3)) <|
 .br (.o none (.ld 55 1 false (.t 5)) <|
 .o none (.bin 56 .sub false (.t 55) (.c (.int .i64 1))) <|
 .o none (.idx 57 1 (.t 54) (.t 56)) <|
 .br (.o none (.ld 58 1 false (.t 57)) <|
 .o none (.conv 59 .u64 (.t 58)) <|
 .o none (.bin 60 .rem false (.t 53) (.t 59)) <|
 .br (.o none (.alloc 9 1 120 (.int .u64 0)) <|
 .o none (.alloc 10 1 120 (.int .u64 0)) <|
 .o none (.st 1 (.t 9) (.t 52)) <|
 .o none (.st 1 (.t 10) (.t 60)) .nil) (.o none (.alloc 10 1 120 (.int .u64 0)) <|
 .o none (.alloc 9 1 120 (.int .u64 0)) <|
 .o none (.st 1 (.t 9) (.t 52)) <|
 .o none (.st 1 (.t 10) (.t 60)) .nil)) (.br (.o none (.alloc 9 1 120 (.int .u64 0)) <|
 .br (.o none (.ld 58 1 false (.t 57)) <|
 .o none (.conv 59 .u64 (.t 58)) <|
 .o none (.bin 60 .rem false (.t 53) (.t 59)) <|
 .o none (.alloc 10 1 120 (.int .u64 0)) <|
 .o none (.st 1 (.t 9) (.t 52)) <|
 .o none (.st 1 (.t 10) (.t 60)) .nil) (.o none (.alloc 10 1 120 (.int .u64 0)) <|
 .br (.o none (.ld 58 1 false (.t 57)) <|
 .o none (.conv 59 .u64 (.t 58)) <|
 .o none (.bin 60 .rem false (.t 53) (.t 59)) <|
 .o none (.st 1 (.t 9) (.t 52)) <|
 .o none (.st 1 (.t 10) (.t 60)) .nil) (.o none (.st 1 (.t 9) (.t 52)) <|
 .o none (.ld 58 1 false (.t 57)) <|
 .o none (.conv 59 .u64 (.t 58)) <|
 .o none (.bin 60 .rem false (.t 53) (.t 59)) <|
 .o none (.st 1 (.t 10) (.t 60)) .nil))) (.o none (.alloc 10 1 120 (.int .u64 0)) <|
 .br (.o none (.ld 58 1 false (.t 57)) <|
 .o none (.conv 59 .u64 (.t 58)) <|
 .o none (.bin 60 .rem false (.t 53) (.t 59)) <|
 .o none (.alloc 9 1 120 (.int .u64 0)) <|
 .o none (.st 1 (.t 9) (.t 52)) <|
 .o none (.st 1 (.t 10) (.t 60)) .nil) (.o none (.alloc 9 1 120 (.int .u64 0)) <|
 .br (.o none (.ld 58 1 false (.t 57)) <|
 .o none (.conv 59 .u64 (.t 58)) <|
 .o none (.bin 60 .rem false (.t 53) (.t 59)) <|
 .o none (.st 1 (.t 9) (.t 52)) <|
 .o none (.st 1 (.t 10) (.t 60)) .nil) (.o none (.st 1 (.t 9) (.t 52)) <|
 .o none (.ld 58 1 false (.t 57)) <|
 .o none (.conv 59 .u64 (.t 58)) <|
 .o none (.bin 60 .rem false (.t 53) (.t 59)) <|
 .o none (.st 1 (.t 10) (.t 60)) .nil))))) (.br (.o none (.alloc 9 1 120 (.int .u64 0)) <|
 .br (.o none (.ld 55 1 false (.t 5)) <|
 .o none (.bin 56 .sub false (.t 55) (.c (.int .i64 1))) <|
 .o none (.idx 57 1 (.t 54) (.t 56)) <|
 .br (.o none (.ld 58 1 false (.t 57)) <|
 .o none (.conv 59 .u64 (.t 58)) <|
 .o none (.bin 60 .rem false (.t 53) (.t 59)) <|
 .o none (.alloc 10 1 120 (.int .u64 0)) <|
 .o none (.st 1 (.t 9) (.t 52)) <|
 .o none (.st 1 (.t 10) (.t 60)) .nil) (.o none (.alloc 10 1 120 (.int .u64 0)) <|
 .br (.o none (.ld 58 1 false (.t 57)) <|
 .o none (.conv 59 .u64 (.t 58)) <|
 .o none (.bin 60 .rem false (.t 53) (.t 59)) <|
 .o none (.st 1 (.t 9) (.t 52)) <|
 .o none (.st 1 (.t 10) (.t 60)) .nil) (.o none (.st 1 (.t 9) (.t 52)) <|
 .o none (.ld 58 1 false (.t 57)) <|
 .o none (.conv 59 .u64 (.t 58)) <|
 .o none (.bin 60 .rem false (.t 53) (.t 59)) <|
 .o none (.st 1 (.t 10) (.t 60)) .nil))) (.o none (.alloc 10 1 120 (.int .u64 0)) <|
 .br (.o none (.ld 55 1 false (.t 5)) <|
 .o none (.bin 56 .sub false (.t 55) (.c (.int .i64 1))) <|
 .o none (.idx 57 1 (.t 54) (.t 56)) <|
 .br (.o none (.ld 58 1 false (.t 57)) <|
 .o none (.conv 59 .u64 (.t 58)) <|
 .o none (.bin 60 .rem false (.t 53) (.t 59)) <|
 .o none (.st 1 (.t 9) (.t 52)) <|
 .o none (.st 1 (.t 10) (.t 60)) .nil) (.o none (.st 1 (.t 9) (.t 52)) <|
 .o none (.ld 58 1 false (.t 57)) <|
 .o none (.conv 59 .u64 (.t 58)) <|
 .o none (.bin 60 .rem false (.t 53) (.t 59)) <|
 .o none (.st 1 (.t 10) (.t 60)) .nil)) (.o none (.st 1 (.t 9) (.t 52)) <|
 .o none (.ld 55 1 false (.t 5)) <|
 .o none (.bin 56 .sub false (.t 55) (.c (.int .i64 1))) <|
 .o none (.idx 57 1 (.t 54) (.t 56)) <|
 .o none (.ld 58 1 false (.t 57)) <|
 .o none (.conv 59 .u64 (.t 58)) <|
 .o none (.bin 60 .rem false (.t 53) (.t 59)) <|
 .o none (.st 1 (.t 10) (.t 60)) .nil))) (.o none (.alloc 10 1 120 (.int .u64 0)) <|
 .br (.o none (.ld 55 1 false (.t 5)) <|
 .o none (.bin 56 .sub false (.t 55) (.c (.int .i64 1))) <|
 .o none (.idx 57 1 (.t 54) (.t 56)) <|
 .br (.o none (.ld 58 1 false (.t 57)) <|
 .o none (.conv 59 .u64 (.t 58)) <|
 .o none (.bin 60 .rem false (.t 53) (.t 59)) <|
 .o none (.alloc 9 1 120 (.int .u64 0)) <|
 .o none (.st 1 (.t 9) (.t 52)) <|
 .o none (.st 1 (.t 10) (.t 60)) .nil) (.o none (.alloc 9 1 120 (.int .u64 0)) <|
 .br (.o none (.ld 58 1 false (.t 57)) <|
 .o none (.conv 59 .u64 (.t 58)) <|
 .o none (.bin 60 .rem false (.t 53) (.t 59)) <|
 .o none (.st 1 (.t 9) (.t 52)) <|
 .o none (.st 1 (.t 10) (.t 60)) .nil) (.o none (.st 1 (.t 9) (.t 52)) <|
 .o none (.ld 58 1 false (.t 57)) <|
 .o none (.conv 59 .u64 (.t 58)) <|
 .o none (.bin 60 .rem false (.t 53) (.t 59)) <|
 .o none (.st 1 (.t 10) (.t 60)) .nil))) (.o none (.alloc 9 1 120 (.int .u64 0)) <|
 .br (.o none (.ld 55 1 false (.t 5)) <|
 .o none (.bin 56 .sub false (.t 55) (.c (.int .i64 1))) <|
 .o none (.idx 57 1 (.t 54) (.t 56)) <|
 .br (.o none (.ld 58 1 false (.t 57)) <|
 .o none (.conv 59 .u64 (.t 58)) <|
 .o none (.bin 60 .rem false (.t 53) (.t 59)) <|
 .o none (.st 1 (.t 9) (.t 52)) <|
 .o none (.st 1 (.t 10) (.t 60)) .nil) (.o none (.st 1 (.t 9) (.t 52)) <|
 .o none (.ld 58 1 false (.t 57)) <|
 .o none (.conv 59 .u64 (.t 58)) <|
 .o none (.bin 60 .rem false (.t 53) (.t 59)) <|
 .o none (.st 1 (.t 10) (.t 60)) .nil)) (.o none (.st 1 (.t 9) (.t 52)) <|
 .o none (.ld 55 1 false (.t 5)) <|
 .o none (.bin 56 .sub false (.t 55) (.c (.int .i64 1))) <|
 .o none (.idx 57 1 (.t 54) (.t 56)) <|
 .o none (.ld 58 1 false (.t 57)) <|
 .o none (.conv 59 .u64 (.t 58)) <|
 .o none (.bin 60 .rem false (.t 53) (.t 59)) <|
 .o none (.st 1 (.t 10) (.t 60)) .nil))))) (.br (.o none (.ld 55 1 false (.t 5)) <|
 .o none (.bin 56 .sub false (.t 55) (.c (.int .i64 1))) <|
 .br (.o none (.ld 54 1 false (.t 3)) <|
 .o none (.idx 57 1 (.t 54) (.t 56)) <|
 .br (.o none (.ld 58 1 false (.t 57)) <|
 .o none (.conv 59 .u64 (.t 58)) <|
 .o none (.bin 60 .rem false (.t 53) (.t 59)) <|
 .br (.o none (.alloc 9 1 120 (.int .u64 0)) <|
 .o none (.alloc 10 1 120 (.int .u64 0)) <|
 .o none (.st 1 (.t 9) (.t 52)) <|
 .o none (.st 1 (.t 10) (.t 60)) .nil) (.o none (.alloc 10 1 120 (.int .u64 0)) <|
 .o none (.alloc 9 1 120 (.int .u64 0)) <|
 .o none (.st 1 (.t 9) (.t 52)) <|
 .o none (.st 1 (.t 10) (.t 60)) .nil)) (.br (.o none (.alloc 9 1 120 (.int .u64 0)) <|
 .br (.o none (.ld 58 1 false (.t 57)) <|
 .o none (.conv 59 .u64 (.t 58)) <|
 .o none (.bin 60 .rem false (.t 53) (.t 59)) <|
 .o none (.alloc 10 1 120 (.int .u64 0)) <|
 .o none (.st 1 (.t 9) (.t 52)) <|
 .o none (.st 1 (.t 10) (.t 60)) .nil) (.o none (.alloc 10 1 120 (.int .u64 0)) <|
 .br (.o none (.ld 58 1 false (.t 57)) <|
 .o none (.conv 59 .u64 (.t 58)) <|
 .o none (.bin 60 .rem false (.t 53) (.t 59)) <|
 .o none (.st 1 (.t 9) (.t 52)) <|
 .o none (.st 1 (.t 10) (.t 60)) .nil) (.o none (.st 1 (.t 9) (.t 52)) <|
 .o none (.ld 58 1 false (.t 57)) <|
 .o none (.conv 59 .u64 (.t 58)) <|
 .o none (.bin 60 .rem false (.t 53) (.t 59)) <|
 .o none (.st 1 (.t 10) (.t 60)) .nil))) (.o none (.alloc 10 1 120 (.int .u64 0)) <|
 .br (.o none (.ld 58 1 false (.t 57)) <|
 .o none (.conv 59 .u64 (.t 58)) <|
 .o none (.bin 60 .rem false (.t 53) (.t 59)) <|
 .o none (.alloc 9 1 120 (.int .u64 0)) <|
 .o none (.st 1 (.t 9) (.t 52)) <|
 .o none (.st 1 (.t 10) (.t 60)) .nil) (.o none (.alloc 9 1 120 (.int .u64 0)) <|
 .br (.o none (.ld 58 1 false (.t 57)) <|
 .o none (.conv 59 .u64 (.t 58)) <|
 .o none (.bin 60 .rem false (.t 53) (.t 59)) <|
 .o none (.st 1 (.t 9) (.t 52)) <|
 .o none (.st 1 (.t 10) (.t 60)) .nil) (.o none (.st 1 (.t 9) (.t 52)) <|
 .o none (.ld 58 1 false (.t 57)) <|
 .o none (.conv 59 .u64 (.t 58)) <|
 .o none (.bin 60 .rem false (.t 53) (.t 59)) <|
 .o none (.st 1 (.t 10) (.t 60)) .nil))))) (.br (.o none (.alloc 9 1 120 (.int .u64 0)) <|
 .br (.o none (.ld 54 1 false (.t 3)) <|
 .o none (.idx 57 1 (.t 54) (.t 56)) <|
 .br (.o none (.ld 58 1 false (.t 57)) <|
 .o none (.conv 59 .u64 (.t 58)) <|
 .o none (.bin 60 .rem false (.t 53) (.t 59)) <|
 .o none (.alloc 10 1 120 (.int .u64 0)) <|
 .o none (.st 1 (.t 9) (.t 52)) <|
 .o none (.st 1 (.t 10) (.t 60)) .nil) (.o none (.alloc 10 1 120 (.int .u64 0)) <|
 .br (.o none (.ld 58 1 false (.t 57)) <|
 .o none (.conv 59 .u64 (.t 58)) <|
 .o none (.bin 60 .rem false (.t 53) (.t 59)) <|
 .o none (.st 1 (.t 9) (.t 52)) <|
 .o none (.st 1 (.t 10) (.t 60)) .nil) (.o none (.st 1 (.t 9) (.t 52)) <|
 .o none (.ld 58 1 false (.t 57)) <|
 .o none (.conv 59 .u64 (.t 58)) <|
 .o none (.bin 60 .rem false (.t 53) (.t 59)) <|
 .o none (.st 1 (.t 10) (.t 60)) .nil))) (.o none (.alloc 10 1 120 (.int .u64 0)) <|
 .br (.o none (.ld 54 1 false (.t 3)) <|
 .o none (.idx 57 1 (.t 54) (.t 56)) <|
 .br (.o none (.ld 58 1 false (.t 57)) <|
 .o none (.conv 59 .u64 (.t 58)) <|
 .o none (.bin 60 .rem false (.t 53) (.t 59)) <|
 .o none (.st 1 (.t 9) (.t 52)) <|
 .o none (.st 1 (.t 10) (.t 60)) .nil) (.o none (.st 1 (.t 9) (.t 52)) <|
 .o none (.ld 58 1 false (.t 57)) <|
 .o none (.conv 59 .u64 (.t 58)) <|
 .o none (.bin 60 .rem false (.t 53) (.t 59)) <|
 .o none (.st 1 (.t 10) (.t 60)) .nil)) (.o none (.st 1 (.t 9) (.t 52)) <|
 .o none (.ld 54 1 false (.t 3)) <|
 .o none (.idx 57 1 (.t 54) (.t 56)) <|
 .o none (.ld 58 1 false (.t 57)) <|
 .o none (.conv 59 .u64 (.t 58)) <|
 .o none (.bin 60 .rem false (.t 53) (.t 59)) <|
 .o none (.st 1 (.t 10) (.t 60)) .nil))) (.o none (.alloc 10 1 120 (.int .u64 0)) <|
 .br (.o none (.ld 54 1 false (.t 3)) <|
 .o none (.idx 57 1 (.t 54) (.t 56)) <|
 .br (.o none (.ld 58 1 false (.t 57)) <|
 .o none (.conv 59 .u64 (.t 58)) <|
 .o none (.bin 60 .rem false (.t 53) (.t 59)) <|
 .o none (.alloc 9 1 120 (.int .u64 0)) <|
 .o none (.st 1 (.t 9) (.t 52)) <|
 .o none (.st 1 (.t 10) (.t 60)) .nil) (.o none (.alloc 9 1 120 (.int .u64 0)) <|
 .br (.o none (.ld 58 1 false (.t 57)) <|
 .o none (.conv 59 .u64 (.t 58)) <|
 .o none (.bin 60 .rem false (.t 53) (.t 59)) <|
 .o none (.st 1 (.t 9) (.t 52)) <|
 .o none (.st 1 (.t 10) (.t 60)) .nil) (.o none (.st 1 (.t 9) (.t 52)) <|
 .o none (.ld 58 1 false (.t 57)) <|
 .o none (.conv 59 .u64 (.t 58)) <|
 .o none (.bin 60 .rem false (.t 53) (.t 59)) <|
 .o none (.st 1 (.t 10) (.t 60)) .nil))) (.o none (.alloc 9 1 120 (.int .u64 0)) <|
 .br (.o none (.ld 54 1 false (.t 3)) <|
 .o none (.idx 57 1 (.t 54) (.t 56)) <|
 .br (.o none (.ld 58 1 false (.t 57)) <|
 .o none (.conv 59 .u64 (.t 58)) <|
 .o none (.bin 60 .rem false (.t 53) (.t 59)) <|
 .o none (.st 1 (.t 9) (.t 52)) <|
 .o none (.st 1 (.t 10) (.t 60)) .nil) (.o none (.st 1 (.t 9) (.t 52)) <|
 .o none (.ld 58 1 false (.t 57)) <|
 .o none (.conv 59 .u64 (.t 58)) <|
 .o none (.bin 60 .rem false (.t 53) (.t 59)) <|
 .o none (.st 1 (.t 10) (.t 60)) .nil)) (.o none (.st 1 (.t 9) (.t 52)) <|
 .o none (.ld 54 1 false (.t 3)) <|
 .o none (.idx 57 1 (.t 54) (.t 56)) <|
 .o none (.ld 58 1 false (.t 57)) <|
 .o none (.conv 59 .u64 (.t 58)) <|
 .o none (.bin 60 .rem false (.t 53) (.t 59)) <|
 .o none (.st 1 (.t 10) (.t 60)) .nil))))) (.br (.o none (.alloc 9 1 120 (.int .u64 0)) <|
 .br (.o none (.ld 54 1 false (.t 3)) <|
 .br (.o none (.ld 55 1 false (.t 5)) <|
 .o none (.bin 56 .sub false (.t 55) (.c (.int .i64 1))) <|
 .o none (.idx 57 1 (.t 54) (.t 56)) <|
 .br (.o none (.ld 58 1 false (.t 57)) <|
 .o none (.conv 59 .u64 (.t 58)) <|
 .o none (.bin 60 .rem false (.t 53) (.t 59)) <|
 .o none (.alloc 10 1 120 (.int .u64 0)) <|
 .o none (.st 1 (.t 9) (.t 52)) <|
 .o none (.st 1 (.t 10) (.t 60)) .nil) (.o none (.alloc 10 1 120 (.int .u64 0)) <|
 .br (.o none (.ld 58 1 false (.t 57)) <|
 .o none (.conv 59 .u64 (.t 58)) <|
 .o none (.bin 60 .rem false (.t 53) (.t 59)) <|
 .o none (.st 1 (.t 9) (.t 52)) <|
 .o none (.st 1 (.t 10) (.t 60)) .nil) (.o none (.st 1 (.t 9) (.t 52)) <|
 .o none (.ld 58 1 false (.t 57)) <|
 .o none (.conv 59 .u64 (.t 58)) <|
 .o none (.bin 60 .rem false (.t 53) (.t 59)) <|
 .o none (.st 1 (.t 10) (.t 60)) .nil))) (.o none (.alloc 10 1 120 (.int .u64 0)) <|
 .br (.o none (.ld 55 1 false (.t 5)) <|
 .o none (.bin 56 .sub false (.t 55) (.c (.int .i64 1))) <|
 .o none (.idx 57 1 (.t 54) (.t 56)) <|
 .br (.o none (.ld 58 1 false (.t 57)) <|
 .o none (.conv 59 .u64 (.t 58)) <|
 .o none (.bin 60 .rem false (.t 53) (.t 59)) <|
 .o none (.st 1 (.t 9) (.t 52)) <|
 .o none (.st 1 (.t 10) (.t 60)) .nil) (.o none (.st 1 (.t 9) (.t 52)) <|
 .o none (.ld 58 1 false (.t 57)) <|
 .o none (.conv 59 .u64 (.t 58)) <|
 .o none (.bin 60 .rem false (.t 53) (.t 59)) <|
 .o none (.st 1 (.t 10) (.t 60)) .nil)) (.o none (.st 1 (.t 9) (.t 52)) <|
 .o none (.ld 55 1 false (.t 5)) <|
 .o none (.bin 56 .sub false (.t 55) (.c (.int .i64 1))) <|
 .o none (.idx 57 1 (.t 54) (.t 56)) <|
 .o none (.ld 58 1 false (.t 57)) <|
 .o none (.conv 59 .u64 (.t 58)) <|
 .o none (.bin 60 .rem false (.t 53) (.t 59)) <|
 .o none (.st 1 (.t 10) (.t 60)) .nil))) (.br (.o none (.ld 55 1 false (.t 5)) <|
 .o none (.bin 56 .sub false (.t 55) (.c (.int .i64 1))) <|
 .br (.o none (.ld 54 1 false (.t 3)) <|
 .o none (.idx 57 1 (.t 54) (.t 56)) <|
 .br (.o none (.ld 58 1 false (.t 57)) <|
 .o none (.conv 59 .u64 (.t 58)) <|
 .o none (.bin 60 .rem false (.t 53) (.t 59)) <|
 .o none (.alloc 10 1 120 (.int .u64 0)) <|
 .o none (.st 1 (.t 9) (.t 52)) <|
 .o none (.st 1 (.t 10) (.t 60)) .nil) (.o none (.alloc 10 1 120 (.int .u64 0)) <|
 .br (.o none (.ld 58 1 false (.t 57)) <|
 .o none (.conv 59 .u64 (.t 58)) <|
 .o none (.bin 60 .rem false (.t 53) (.t 59)) <|
 .o none (.st 1 (.t 9) (.t 52)) <|
 .o none (.st 1 (.t 10) (.t 60)) .nil) (.o none (.st 1 (.t 9) (.t 52)) <|
 .o none (.ld 58 1 false (.t 57)) <|
 .o none (.conv 59 .u64 (.t 58)) <|
 .o none (.bin 60 .rem false (.t 53) (.t 59)) <|
 .o none (.st 1 (.t 10) (.t 60)) .nil))) (.o none (.alloc 10 1 120 (.int .u64 0)) <|
 .br (.o none (.ld 54 1 false (.t 3)) <|
 .o none (.idx 57 1 (.t 54) (.t 56)) <|
 .br (.o none (.ld 58 1 false (.t 57)) <|
 .o none (.conv 59 .u64 (.t 58)) <|
 .o none (.bin 60 .rem false (.t 53) (.t 59)) <|
 .o none (.st 1 (.t 9) (.t 52)) <|
 .o none (.st 1 (.t 10) (.t 60)) .nil) (.o none (.st 1 (.t 9) (.t 52)) <|
 .o none (.ld 58 1 false (.t 57)) <|
 .o none (.conv 59 .u64 (.t 58)) <|
 .o none (.bin 60 .rem false (.t 53) (.t 59)) <|
 .o none (.st 1 (.t 10) (.t 60)) .nil)) (.o none (.st 1 (.t 9) (.t 52)) <|
 .o none (.ld 54 1 false (.t 3)) <|
 .o none (.idx 57 1 (.t 54) (.t 56)) <|
 .o none (.ld 58 1 false (.t 57)) <|
 .o none (.conv 59 .u64 (.t 58)) <|
 .o none (.bin 60 .rem false (.t 53) (.t 59)) <|
 .o none (.st 1 (.t 10) (.t 60)) .nil))) (.o none (.alloc 10 1 120 (.int .u64 0)) <|
 .br (.o none (.ld 54 1 false (.t 3)) <|
 .br (.o none (.ld 55 1 false (.t 5)) <|
 .o none (.bin 56 .sub false (.t 55) (.c (.int .i64 1))) <|
 .o none (.idx 57 1 (.t 54) (.t 56)) <|
 .br (.o none (.ld 58 1 false (.t 57)) <|
 .o none (.conv 59 .u64 (.t 58)) <|
 .o none (.bin 60 .rem false (.t 53) (.t 59)) <|
 .o none (.st 1 (.t 9) (.t 52)) <|
 .o none (.st 1 (.t 10) (.t 60)) .nil) (.o none (.st 1 (.t 9) (.t 52)) <|
 .o none (.ld 58 1 false (.t 57)) <|
 .o none (.conv 59 .u64 (.t 58)) <|
 .o none (.bin 60 .rem false (.t 53) (.t 59)) <|
 .o none (.st 1 (.t 10) (.t 60)) .nil)) (.o none (.st 1 (.t 9) (.t 52)) <|
 .o none (.ld 55 1 false (.t 5)) <|
 .o none (.bin 56 .sub false (.t 55) (.c (.int .i64 1))) <|
 .o none (.idx 57 1 (.t 54) (.t 56)) <|
 .o none (.ld 58 1 false (.t 57)) <|
 .o none (.conv 59 .u64 (.t 58)) <|
 .o none (.bin 60 .rem false (.t 53) (.t 59)) <|
 .o none (.st 1 (.t 10) (.t 60)) .nil)) (.br (.o none (.ld 55 1 false (.t 5)) <|
 .o none (.bin 56 .sub false (.t 55) (.c (.int .i64 1))) <|
 .br (.o none (.ld 54 1 false (.t 3)) <|
 .o none (.idx 57 1 (.t 54) (.t 56)) <|
 .br (.o none (.ld 58 1 false (.t 57)) <|
 .o none (.conv 59 .u64 (.t 58)) <|
 .o none (.bin 60 .rem false (.t 53) (.t 59)) <|
 .o none (.st 1 (.t 9) (.t 52)) <|
 .o none (.st 1 (.t 10) (.t 60)) .nil) (.o none (.st 1 (.t 9) (.t 52)) <|
 .o none (.ld 58 1 false (.t 57)) <|
 .o none (.conv 59 .u64 (.t 58)) <|
 .o none (.bin 60 .rem false (.t 53) (.t 59)) <|
 .o none (.st 1 (.t 10) (.t 60)) .nil)) (.o none (.st 1 (.t 9) (.t 52)) <|
 .o none (.ld 54 1 false (.t 3)) <|
 .o none (.idx 57 1 (.t 54) (.t 56)) <|
 .o none (.ld 58 1 false (.t 57)) <|
 .o none (.conv 59 .u64 (.t 58)) <|
 .o none (.bin 60 .rem false (.t 53) (.t 59)) <|
 .o none (.st 1 (.t 10) (.t 60)) .nil)) (.o none (.st 1 (.t 9) (.t 52)) <|
 .br (.o none (.ld 54 1 false (.t 3)) <|
 .o none (.ld 55 1 false (.t 5)) <|
 .o none (.bin 56 .sub false (.t 55) (.c (.int .i64 1))) <|
 .o none (.idx 57 1 (.t 54) (.t 56)) <|
 .o none (.ld 58 1 false (.t 57)) <|
 .o none (.conv 59 .u64 (.t 58)) <|
 .o none (.bin 60 .rem false (.t 53) (.t 59)) <|
 .o none (.st 1 (.t 10) (.t 60)) .nil) (.o none (.ld 55 1 false (.t 5)) <|
 .o none (.bin 56 .sub false (.t 55) (.c (.int .i64 1))) <|
 .o none (.ld 54 1 false (.t 3)) <|
 .o none (.idx 57 1 (.t 54) (.t 56)) <|
 .o none (.ld 58 1 false (.t 57)) <|
 .o none (.conv 59 .u64 (.t 58)) <|
 .o none (.bin 60 .rem false (.t 53) (.t 59)) <|
 .o none (.st 1 (.t 10) (.t 60)) .nil)))))) (.o none (.alloc 10 1 120 (.int .u64 0)) <|
 .br (.o none (.ld 54 1 false (.t 3)) <|
 .br (.o none (.ld 55 1 false (.t 5)) <|
 .o none (.bin 56 .sub false (.t 55) (.c (.int .i64 1))) <|
 .o none (.idx 57 1 (.t 54) (.t 56)) <|
 .br (.o none (.ld 58 1 false (.t 57)) <|
 .o none (.conv 59 .u64 (.t 58)) <|
 .o none (.bin 60 .rem false (.t 53) (.t 59)) <|
 .o none (.alloc 9 1 120 (.int .u64 0)) <|
 .o none (.st 1 (.t 9) (.t 52)) <|
 .o none (.st 1 (.t 10) (.t 60)) .nil) (.o none (.alloc 9 1 120 (.int .u64 0)) <|
 .br (.o none (.ld 58 1 false (.t 57)) <|
 .o none (.conv 59 .u64 (.t 58)) <|
 .o none (.bin 60 .rem false (.t 53) (.t 59)) <|
 .o none (.st 1 (.t 9) (.t 52)) <|
 .o none (.st 1 (.t 10) (.t 60)) .nil) (.o none (.st 1 (.t 9) (.t 52)) <|
 .o none (.ld 58 1 false (.t 57)) <|
 .o none (.conv 59 .u64 (.t 58)) <|
 .o none (.bin 60 .rem false (.t 53) (.t 59)) <|
 .o none (.st 1 (.t 10) (.t 60)) .nil))) (.o none (.alloc 9 1 120 (.int .u64 0)) <|
 .br (.o none (.ld 55 1 false (.t 5)) <|
 .o none (.bin 56 .sub false (.t 55) (.c (.int .i64 1))) <|
 .o none (.idx 57 1 (.t 54) (.t 56)) <|
 .br (.o none (.ld 58 1 false (.t 57)) <|
 .o none (.conv 59 .u64 (.t 58)) <|
 .o none (.bin 60 .rem false (.t 53) (.t 59)) <|
 .o none (.st 1 (.t 9) (.t 52)) <|
 .o none (.st 1 (.t 10) (.t 60)) .nil) (.o none (.st 1 (.t 9) (.t 52)) <|
 .o none (.ld 58 1 false (.t 57)) <|
 .o none (.conv 59 .u64 (.t 58)) <|
 .o none (.bin 60 .rem false (.t 53) (.t 59)) <|
 .o none (.st 1 (.t 10) (.t 60)) .nil)) (.o none (.st 1 (.t 9) (.t 52)) <|
 .o none (.ld 55 1 false (.t 5)) <|
 .o none (.bin 56 .sub false (.t 55) (.c (.int .i64 1))) <|
 .o none (.idx 57 1 (.t 54) (.t 56)) <|
 .o none (.ld 58 1 false (.t 57)) <|
 .o none (.conv 59 .u64 (.t 58)) <|
 .o none (.bin 60 .rem false (.t 53) (.t 59)) <|
 .o none (.st 1 (.t 10) (.t 60)) .nil))) (.br (.o none (.ld 55 1 false (.t 5)) <|
 .o none (.bin 56 .sub false (.t 55) (.c (.int .i64 1))) <|
 .br (.o none (.ld 54 1 false (.t 3)) <|
 .o none (.idx 57 1 (.t 54) (.t 56)) <|
 .br (.o none (.ld 58 1 false (.t 57)) <|
 .o none (.conv 59 .u64 (.t 58)) <|
 .o none (.bin 60 .rem false (.t 53) (.t 59)) <|
 .o none (.alloc 9 1 120 (.int .u64 0)) <|
 .o none (.st 1 (.t 9) (.t 52)) <|
 .o none (.st 1 (.t 10) (.t 60)) .nil) (.o none (.alloc 9 1 120 (.int .u64 0)) <|
 .br (.o none (.ld 58 1 false (.t 57)) <|
 .o none (.conv 59 .u64 (.t 58)) <|
 .o none (.bin 60 .rem false (.t 53) (.t 59)) <|
 .o none (.st 1 (.t 9) (.t 52)) <|
 .o none (.st 1 (.t 10) (.t 60)) .nil) (.o none (.st 1 (.t 9) (.t 52)) <|
 .o none (.ld 58 1 false (.t 57)) <|
 .o none (.conv 59 .u64 (.t 58)) <|
 .o none (.bin 60 .rem false (.t 53) (.t 59)) <|
 .o none (.st 1 (.t 10) (.t 60)) .nil))) (.o none (.alloc 9 1 120 (.int .u64 0)) <|
 .br (.o none (.ld 54 1 false (.t 3)) <|
 .o none (.idx 57 1 (.t 54) (.t 56)) <|
 .br (.o none (.ld 58 1 false (.t 57)) <|
 .o none (.conv 59 .u64 (.t 58)) <|
 .o none (.bin 60 .rem false (.t 53) (.t 59)) <|
 .o none (.st 1 (.t 9) (.t 52)) <|
 .o none (.st 1 (.t 10) (.t 60)) .nil) (.o none (.st 1 (.t 9) (.t 52)) <|
 .o none (.ld 58 1 false (.t 57)) <|
 .o none (.conv 59 .u64 (.t 58)) <|
 .o none (.bin 60 .rem false (.t 53) (.t 59)) <|
 .o none (.st 1 (.t 10) (.t 60)) .nil)) (.o none (.st 1 (.t 9) (.t 52)) <|
 .o none (.ld 54 1 false (.t 3)) <|
 .o none (.idx 57 1 (.t 54) (.t 56)) <|
 .o none (.ld 58 1 false (.t 57)) <|
 .o none (.conv 59 .u64 (.t 58)) <|
 .o none (.bin 60 .rem false (.t 53) (.t 59)) <|
 .o none (.st 1 (.t 10) (.t 60)) .nil))) (.o none (.alloc 9 1 120 (.int .u64 0)) <|
 .br (.o none (.ld 54 1 false (.t 3)) <|
 .br (.o none (.ld 55 1 false (.t 5)) <|
 .o none (.bin 56 .sub false (.t 55) (.c (.int .i64 1))) <|
 .o none (.idx 57 1 (.t 54) (.t 56)) <|
 .br (.o none (.ld 58 1 false (.t 57)) <|
 .o none (.conv 59 .u64 (.t 58)) <|
 .o none (.bin 60 .rem false (.t 53) (.t 59)) <|
 .o none (.st 1 (.t 9) (.t 52)) <|
 .o none (.st 1 (.t 10) (.t 60)) .nil) (.o none (.st 1 (.t 9) (.t 52)) <|
 .o none (.ld 58 1 false (.t 57)) <|
 .o none (.conv 59 .u64 (.t 58)) <|
 .o none (.bin 60 .rem false (.t 53) (.t 59)) <|
 .o none (.st 1 (.t 10) (.t 60)) .nil)) (.o none (.st 1 (.t 9) (.t 52)) <|
 .o none (.ld 55 1 false (.t 5)) <|
 .o none (.bin 56 .sub false (.t 55) (.c (.int .i64 1))) <|
 .o none (.idx 57 1 (.t 54) (.t 56)) <|
 .o none (.ld 58 1 false (.t 57)) <|
 .o none (.conv 59 .u64 (.t 58)) <|
 .o none (.bin 60 .rem false (.t 53) (.t 59)) <|
 .o none (.st 1 (.t 10) (.t 60)) .nil)) (.br (.o none (.ld 55 1 false (.t 5)) <|
 .o none (.bin 56 .sub false (.t 55) (.c (.int .i64 1))) <|
 .br (.o none (.ld 54 1 false (.t 3)) <|
 .o none (.idx 57 1 (.t 54) (.t 56)) <|
 .br (.o none (.ld 58 1 false (.t 57)) <|
 .o none (.conv 59 .u64 (.t 58)) <|
 .o none (.bin 60 .rem false (.t 53) (.t 59)) <|
 .o none (.st 1 (.t 9) (.t 52)) <|
 .o none (.st 1 (.t 10) (.t 60)) .nil) (.o none (.st 1 (.t 9) (.t 52)) <|
 .o none (.ld 58 1 false (.t 57)) <|
 .o none (.conv 59 .u64 (.t 58)) <|
 .o none (.bin 60 .rem false (.t 53) (.t 59)) <|
 .o none (.st 1 (.t 10) (.t 60)) .nil)) (.o none (.st 1 (.t 9) (.t 52)) <|
 .o none (.ld 54 1 false (.t 3)) <|
 .o none (.idx 57 1 (.t 54) (.t 56)) <|
 .o none (.ld 58 1 false (.t 57)) <|
 .o none (.conv 59 .u64 (.t 58)) <|
 .o none (.bin 60 .rem false (.t 53) (.t 59)) <|
 .o none (.st 1 (.t 10) (.t 60)) .nil)) (.o none (.st 1 (.t 9) (.t 52)) <|
 .br (.o none (.ld 54 1 false (.t 3)) <|
 .o none (.ld 55 1 false (.t 5)) <|
 .o none (.bin 56 .sub false (.t 55) (.c (.int .i64 1))) <|
 .o none (.idx 57 1 (.t 54) (.t 56)) <|
 .o none (.ld 58 1 false (.t 57)) <|
 .o none (.conv 59 .u64 (.t 58)) <|
 .o none (.bin 60 .rem false (.t 53) (.t 59)) <|
 .o none (.st 1 (.t 10) (.t 60)) .nil) (.o none (.ld 55 1 false (.t 5)) <|
 .o none (.bin 56 .sub false (.t 55) (.c (.int .i64 1))) <|
 .o none (.ld 54 1 false (.t 3)) <|
 .o none (.idx 57 1 (.t 54) (.t 56)) <|
 .o none (.ld 58 1 false (.t 57)) <|
 .o none (.conv 59 .u64 (.t 58)) <|
 .o none (.bin 60 .rem false (.t 53) (.t 59)) <|
 .o none (.st 1 (.t 10) (.t 60)) .nil)))))))))) <| .seq (.rg (.o none (.fn 61 221 [] [(.t 9), (.t 3), (.t 5), (.t 10), (.t 2), (.t 7)]) <|
 .o none (.mv 11 (.t 61)) .nil)) <| .seq (.block 2 (.loop (.seq (.seq (.rg (.o none (.ld 62 1 false (.t 10)) <|
 .o none (.bin 63 .lss false (.t 62) (.c (.int .u64 65536))) <|
 .o none (.mv 64 (.t 63)) <|
 .o (some (64, true)) (.mv 65 (.t 11)) <|
 .o (some (64, true)) (.call (some 66) false (.t 65) []) <|
 .o none (.pick 67 (.t 64) (.t 66) (.c (.bool false))) .nil)) <| .cond (.t 67) (.skip) (.exit 2)) <| .block 3 (.seq (.rg (.o none (.ld 68 1 false (.t 9)) <|
 .o none (.bin 69 .sub false (.t 68) (.c (.int .u64 1))) <|
 .o none (.st 1 (.t 9) (.t 69)) .nil)) <| .rg (.o none (.ld 70 1 false (.t 10)) <|
 .o none (.ld 71 1 false (.t 3)) <|
 .o none (.ld 72 1 false (.t 5)) <|
 .o none (.bin 73 .sub false (.t 72) (.c (.int .i64 1))) <|
 .o none (.idx 74 1 (.t 71) (.t 73)) <|
 .o none (.ld 75 1 false (.t 74)) <|
 .o none (.conv 76 .u64 (.t 75)) <|
 .o none (.bin 77 .add false (.t 70) (.t 76)) <|
 .o none (.st 1 (.t 10) (.t 77)) .nil))))) <| .seq (.seq (.rg (.o none (.ld 78 1 false (.t 2)) <|
 .o none (.ld 79 1 false (.t 7)) <|
 .o none (.ld 80 1 false (.t 7)) <|
 .o none (.ld 81 1 false (.t 5)) <|
 .o none (.bin 82 .add false (.t 80) (.t 81)) <|
 .o none (.bin 83 .add false (.t 82) (.c (.int .i64 1))) <|
 .o none (.sl 84 1 (.t 78) (some (.t 79)) (some (.t 83)) none) <|
 .o none (.ld 85 1 false (.t 3)) <|
 .o none (.ld 86 1 false (.t 9)) <|
 .o none (.conv 87 .u32 (.t 86)) <|
 .o none (.call (some 88) false (.c (.fn 222 [] [])) [(.t 84), (.t 85), (.t 87)]) .nil)) <| .cond (.t 88) (.seq (.rg (.o none (.ld 89 1 false (.t 9)) <|
 .o none (.bin 90 .sub false (.t 89) (.c (.int .u64 1))) <|
 .o none (.st 1 (.t 9) (.t 90)) .nil)) <| .rg (.o none (.ld 91 1 false (.t 2)) <|
 .o none (.ld 92 1 false (.t 7)) <|
 .o none (.ld 93 1 false (.t 7)) <|
 .o none (.ld 94 1 false (.t 5)) <|
 .o none (.bin 95 .add false (.t 93) (.t 94)) <|
 .o none (.bin 96 .add false (.t 95) (.c (.int .i64 1))) <|
 .o none (.sl 97 1 (.t 91) (some (.t 92)) (some (.t 96)) none) <|
 .o none (.ld 98 1 false (.t 3)) <|
 .o none (.call (some 99) false (.c (.fn 223 [] [])) [(.t 97), (.t 98)]) .nil)) (.skip)) <| .rg (.o none (.mv 100 (.t 6)) <|
 .o none (.ld 101 1 false (.t 7)) <|
 .o none (.ld 102 1 false (.t 9)) <|
 .o none (.conv 103 .u16 (.t 102)) <|
 .o none (.idx 104 1 (.t 100) (.t 101)) <|
 .o none (.st 1 (.t 104) (.t 103)) .nil))) <| .seq (.seq (.rg (.o none (.ld 105 1 false (.t 7)) .nil)) <| .rg (.o none (.alloc 7 1 3 (.int .i64 0)) <|
 .o none (.st 1 (.t 7) (.t 105)) .nil)) <| .rg (.o none (.ld 26 1 false (.t 7)) <|
 .o none (.bin 27 .sub false (.t 26) (.c (.int .i64 1))) <|
 .o none (.st 1 (.t 7) (.t 27)) .nil)))) <| .seq (.rg (.o none (.mv 106 (.t 6)) <|
 .o none (.call (some 107) false (.c (.fn 177 [] [])) [(.t 106)]) <|
 .o none (.mv 4 (.t 107)) .nil)) <| .ret⟩
theorem Qaa7 : Qf Tryz.prog Tryz.f200 = some Q56 := by kernel_rfl
end Go.Proofs.YtmnkngmmfnncoaaGreat
namespace Go.Proofs.YtmnkngmmfnncoaaGreat
open Go Go.FW
set_option linter.unusedSimpArgs false
set_option linter.unusedVariables false
set_option maxRecDepth 100000
theorem Qa4 {l : List Nat} (hv : Qi l) (hl : l.length < 2 ^ 42) : Qe Tryz.prog 177 [PV.nat l] (· = PV.num (val l)) := by
 refine Qg Qk Tryz.func177 rfl Qye (by simp [Qv4]) fun C hP => ?_; simp only [Qv4]
 simp +decide (disch := first | omega | rfl | (simp +decide only [go_sem, ↓reduceIte] <;> rfl) | fail) only [go_sem, ↓reduceIte]
 refine Qeg (fun m fr hp => m <= l.length /\ cut l m = dig (val l) /\ fr 0 = PV.nat l /\ fr 3 = .int .i64 m /\ hp = hp0) l.length ?_ ?_
 ·exact ⟨Nat.le_refl _, Qla hv, rfl, rfl, rfl⟩
 rintro n fr _ ⟨hn, hc, h0, h3, rfl⟩
 simp +decide (disch := first | omega | rfl | (simp +decide only [go_sem, ↓reduceIte, h0, h3] <;> rfl) | fail) only [go_sem, ↓reduceIte, h0, h3]
 refine Qar (fun hg => ?_) (fun hg => ?_)
 ·simp +decide (disch := first | omega | rfl | (simp +decide only [go_sem, ↓reduceIte, h0, h3, Qk8, Qqq] <;> rfl) | fail) only [go_sem, ↓reduceIte, h0, h3, Qk8, Qqq]
  obtain _ | n := n
  ·omega
  have e : ((n + 1 : Nat) : Int) - 1 = n := by omega
  simp only [cut] at hc
  refine Qb (fun hz => ?_) (fun hz => ?_)
  ·rw [if_pos (by grind)] at hc
   simp +decide (disch := first | omega | rfl | (simp +decide only [go_sem, ↓reduceIte, h0, h3, e] <;> rfl) | fail) only [go_sem, ↓reduceIte, h0, h3, e]
   refine Qbu (m := n) (by omega) ⟨by omega, hc, ?_⟩
   simp +decide (disch := first | omega | rfl | (simp +decide only [go_sem, ↓reduceIte, h0, true_and, and_true] <;> rfl) | fail) only [go_sem, ↓reduceIte, h0, true_and, and_true]
  ·simp +decide (disch := first | omega | rfl | (simp +decide only [go_sem, ↓reduceIte, h0, h3, Qh5] <;> rfl) | fail) only [go_sem, ↓reduceIte, h0, h3, Qh5]
   rw [if_neg (by grind)] at hc
   exact Qc (by simp [hc]) rfl
 ·obtain rfl : n = 0 := by omega
  simp +decide (disch := first | omega | rfl | (simp +decide only [go_sem, ↓reduceIte, h0, h3, Qh5] <;> rfl) | fail) only [go_sem, ↓reduceIte, h0, h3, Qh5]
  exact Qc (by simp [<- hc, cut]) rfl
theorem Qid {l : List Nat} (hv : Qi l) (hl : l.length < 2 ^ 42) : Qe Tryz.prog 173 [PV.nat l] (· = PV.num (val l)) := by
 have hd := Qah hv
 unfold nl at hd
 refine Qg Qk Tryz.func173 rfl Q99 (by simp [Q48]) fun C hP => ?_; simp only [Q48]
 simp +decide (disch := first | omega | rfl | (simp +decide only [go_sem, ↓reduceIte] <;> rfl) | fail) only [go_sem, ↓reduceIte]
 refine Qa hP (Qa4 hv hl) rfl rfl rfl ?_
 simp +decide (disch := first | omega | rfl | (simp +decide only [go_sem, ↓reduceIte] <;> rfl) | fail) only [go_sem, ↓reduceIte]
 refine Qb (fun hz => ?_) (fun hz => ?_)
 ·simp +decide (disch := first | omega | rfl | (simp +decide only [go_sem, ↓reduceIte] <;> rfl) | fail) only [go_sem, ↓reduceIte]
  have : dig (val l) = [] := List.length_eq_zero_iff.1 (by omega)
  exact Qc3 (by rw [PV.num, this]; exact Qaee) rfl
 ·simp +decide (disch := first | omega | rfl | (simp +decide only [go_sem, ↓reduceIte] <;> rfl) | fail) only [go_sem, ↓reduceIte]
  rw [Q9l rfl (by simp)]
  simp +decide (disch := first | omega | rfl | (simp +decide only [go_sem, ↓reduceIte] <;> rfl) | fail) only [go_sem, ↓reduceIte]
  exact Qok rfl (by simp [List.take_of_length_le])
theorem Qli {n : Nat} (hn : n < 18446744073709551616) : Qe Tryz.prog 143 [.int .u64 n] (· = PV.num n) := by
 have hlen := Qdr hn
 unfold nl at hlen
 refine Qg Qk Tryz.func143 rfl Qaaa (by simp [Q49]) fun C hP => ?_; simp only [Q49]
 simp +decide (disch := first | omega | rfl | (simp +decide only [go_sem, ↓reduceIte] <;> rfl) | fail) only [go_sem, ↓reduceIte]
 refine Qh6 (fun m fr hp => ∃ done : List Nat, dig n = done ++ dig m /\ m <= n /\ fr 0 = .int .u64 m /\ fr 3 = .ms 12 done.length /\ hp 12 = some ⟨1, 156, done.map fun (x : Nat) => .int .u16 x, false⟩) n (Q0w 3 12 1 156 (by omega) ?_) ?_ ?_
 ·simp +decide (disch := first | omega | rfl | (simp +decide only [go_sem, ↓reduceIte] <;> rfl) | fail) only [go_sem, ↓reduceIte]
 ·refine ⟨[], ?_⟩
  simp +decide (disch := first | omega | rfl | (simp +decide only [go_sem, ↓reduceIte, List.nil_append, List.map_nil, List.length_nil, true_and, and_true, Nat.le_refl] <;> rfl) | fail) only [go_sem, ↓reduceIte, List.nil_append, List.map_nil, List.length_nil, true_and, and_true, Nat.le_refl]
 rintro m fr hp ⟨done, hd, hm, h0, h3, hh⟩
 rw [hd, List.length_append] at hlen
 simp +decide (disch := first | omega | rfl | (simp +decide only [go_sem, ↓reduceIte, h0] <;> rfl) | fail) only [go_sem, ↓reduceIte, h0]
 refine Qb (fun hz => ?_) (fun hz => ?_)
 ·have hne : m ≠ 0 := by omega
  have hd2 : dig n = (done ++ [m % 65536]) ++ dig (m / 65536) := by rw [hd, Qgh hne]; simp
  simp +decide (disch := first | omega | rfl | (simp +decide only [go_sem, ↓reduceIte, h0, h3] <;> rfl) | fail) only [go_sem, ↓reduceIte, h0, h3]
  rw [Qpx (xs := done.map fun (x : Nat) => .int .u16 x) (by simp +decide (disch := first | omega | rfl | (simp +decide only [go_sem, ↓reduceIte, hh] <;> rfl) | fail) only [go_sem, ↓reduceIte, hh]) rfl (by omega) (by simp) (by omega) (by omega)]
  simp +decide (disch := first | omega | rfl | (simp +decide only [go_sem, ↓reduceIte, h0, h3, Qji, Qnk] <;> rfl) | fail) only [go_sem, ↓reduceIte, h0, h3, Qji, Qnk]
  refine Qbu (m := m / 65536) (by omega) ⟨done ++ [m % 65536], hd2, by omega, ?_⟩
  simp +decide (disch := first | omega | rfl | (simp +decide only [go_sem, ↓reduceIte, h0, h3, hh] <;> rfl) | fail) only [go_sem, ↓reduceIte, h0, h3, hh]
  simp
 ·obtain rfl : m = 0 := by omega
  simp +decide (disch := first | omega | rfl | (simp +decide only [go_sem, ↓reduceIte, h3] <;> rfl) | fail) only [go_sem, ↓reduceIte, h3]
  exact Qok hh (by simp [PV.num, PV.nat, hd, Qa1, List.take_of_length_le])
end Go.Proofs.YtmnkngmmfnncoaaGreat
namespace Go.Proofs.YtmnkngmmfnncoaaGreat
open Go Go.FW
set_option linter.unusedSimpArgs false
set_option linter.unusedVariables false
set_option maxRecDepth 100000
theorem Qml {a b : List Nat} (ha : Qi a) (hb : Qi b) (hla : a.length < 2 ^ 40) (hlb : b.length < 2 ^ 40) : Qe Tryz.prog 196 [PV.nat a, PV.nat b] (· = .int .i64 (Qdf (val a) (val b))) := by
 have hda := Qah ha
 have hdb := Qah hb
 have hnl1 := @Qve (val a) (val b)
 have hnl2 := @Qve (val b) (val a)
 have hla' := Qj (val a)
 have hlb' := Qj (val b)
 have hva := Qw (val a)
 have hvb := Qw (val b)
 unfold nl at hda hdb hnl1 hnl2
 refine Qg Qk Tryz.func196 rfl Qaad (by simp [Q5c]) fun C hP => ?_; simp only [Q5c]
 simp +decide (disch := first | omega | rfl | (simp +decide only [go_sem, ↓reduceIte] <;> rfl) | fail) only [go_sem, ↓reduceIte]
 refine Qa hP (Qa4 ha (by omega)) rfl rfl rfl ?_
 simp +decide (disch := first | omega | rfl | (simp +decide only [go_sem, ↓reduceIte] <;> rfl) | fail) only [go_sem, ↓reduceIte]
 refine Qa hP (Qa4 hb (by omega)) rfl rfl rfl ?_
 simp +decide (disch := first | omega | rfl | (simp +decide only [go_sem, ↓reduceIte] <;> rfl) | fail) only [go_sem, ↓reduceIte]
 generalize val a = x at *
 generalize val b = y at *
 refine Qb (fun hz => ?_) (fun hz => ?_)
 ·simp +decide (disch := first | omega | rfl | (simp +decide only [go_sem, ↓reduceIte] <;> rfl) | fail) only [go_sem, ↓reduceIte]
  refine Qb (fun hz => ?_) (fun hz => ?_)
  ·simp +decide (disch := first | omega | rfl | (simp +decide only [go_sem, ↓reduceIte] <;> rfl) | fail) only [go_sem, ↓reduceIte]
   exact Qc (by rw [Qse (hnl1 (by omega))]) rfl
  ·simp +decide (disch := first | omega | rfl | (simp +decide only [go_sem, ↓reduceIte] <;> rfl) | fail) only [go_sem, ↓reduceIte]
   exact Qc (by rw [Qsf (hnl2 (by omega))]) rfl
 simp +decide (disch := first | omega | rfl | (simp +decide only [go_sem, ↓reduceIte] <;> rfl) | fail) only [go_sem, ↓reduceIte]
 refine Qeg (fun m fr hp => m <= (dig x).length /\ val ((dig x).drop m) = val ((dig y).drop m) /\ fr 0 = PV.num x /\ fr 1 = PV.num y /\ fr 5 = .int .i64 ((m : Int) - 1) /\ hp = hp0) (dig x).length ?_ ?_
 ·refine ⟨Nat.le_refl _, ?_, ?_⟩
  ·rw [List.drop_of_length_le (Nat.le_refl _), List.drop_of_length_le (by omega)]
  ·simp +decide (disch := first | omega | rfl | (simp +decide only [go_sem, ↓reduceIte, true_and, and_true] <;> rfl) | fail) only [go_sem, ↓reduceIte, true_and, and_true]
 rintro m fr _ ⟨hm, hd, h0, h1, h5, rfl⟩
 simp +decide (disch := first | omega | rfl | (simp +decide only [go_sem, ↓reduceIte, h0, h1, h5] <;> rfl) | fail) only [go_sem, ↓reduceIte, h0, h1, h5]
 refine Qb (fun hg => ?_) (fun hg => ?_)
 ·obtain _ | m := m
  ·omega
  have e : ((m + 1 : Nat) : Int) - 1 = m := by omega
  have hm1 : m < (dig x).length := by omega
  have hm2 : m < (dig y).length := by omega
  simp +decide (disch := first | omega | rfl | (simp +decide only [go_sem, ↓reduceIte, h0, h1, h5, e] <;> rfl) | fail) only [go_sem, ↓reduceIte, h0, h1, h5, e]
  refine Qb (fun hq => ?_) (fun hq => ?_)
  ·simp +decide (disch := first | omega | rfl | (simp +decide only [go_sem, ↓reduceIte] <;> rfl) | fail) only [go_sem, ↓reduceIte]
   exact Qc (by rw [Qse]; have := Qs7 hla' hm1 hm2 (by omega) hd; omega) rfl
  simp +decide (disch := first | omega | rfl | (simp +decide only [go_sem, ↓reduceIte, h0, h1, h5, e] <;> rfl) | fail) only [go_sem, ↓reduceIte, h0, h1, h5, e]
  refine Qb (fun hq2 => ?_) (fun hq2 => ?_)
  ·simp +decide (disch := first | omega | rfl | (simp +decide only [go_sem, ↓reduceIte] <;> rfl) | fail) only [go_sem, ↓reduceIte]
   exact Qc (by rw [Qsf]; have := Qs7 hlb' hm2 hm1 (by omega) hd.symm; omega) rfl
  simp +decide (disch := first | omega | rfl | (simp +decide only [go_sem, ↓reduceIte, h0, h1, h5, e] <;> rfl) | fail) only [go_sem, ↓reduceIte, h0, h1, h5, e]
  refine Qbu (m := m) (by omega) ⟨by omega, ?_, ?_⟩
  ·rw [Qcc hm1, Qcc hm2, hd]; omega
  ·simp +decide (disch := first | omega | rfl | (simp +decide only [go_sem, ↓reduceIte, h0, h1, true_and, and_true] <;> rfl) | fail) only [go_sem, ↓reduceIte, h0, h1, true_and, and_true]
 ·obtain rfl : m = 0 := by omega
  simp +decide (disch := first | omega | rfl | (simp +decide only [go_sem, ↓reduceIte] <;> rfl) | fail) only [go_sem, ↓reduceIte]
  refine Qc ?_ rfl
  rw [Qxy]
  simp at hd; omega
end Go.Proofs.YtmnkngmmfnncoaaGreat
namespace Go.Proofs.YtmnkngmmfnncoaaGreat
open Go Go.FW
set_option linter.unusedSimpArgs false
set_option linter.unusedVariables false
set_option maxRecDepth 100000
theorem Q57 {a b : List Nat} (ha : Qi a) (hb : Qi b) (hla : a.length < 2 ^ 40) (hlb : b.length < 2 ^ 40) : Qe Tryz.prog 213 [PV.nat a, PV.nat b] (· = PV.num (val a + val b)) := by
 have hda := Qah ha
 have hdb := Qah hb
 unfold nl at hda hdb
 refine Qg Qk Tryz.func213 rfl Qaae (by simp [Q5d]) fun C hP => ?_; simp only [Q5d]
 simp +decide (disch := first | omega | rfl | (simp +decide only [go_sem, ↓reduceIte] <;> rfl) | fail) only [go_sem, ↓reduceIte]
 refine Qa hP (Qa4 ha (by omega)) rfl rfl rfl ?_
 simp +decide (disch := first | omega | rfl | (simp +decide only [go_sem, ↓reduceIte] <;> rfl) | fail) only [go_sem, ↓reduceIte]
 refine Qa hP (Qa4 hb (by omega)) rfl rfl rfl ?_
 simp +decide (disch := first | omega | rfl | (simp +decide only [go_sem, ↓reduceIte] <;> rfl) | fail) only [go_sem, ↓reduceIte]
 generalize val a = x0 at *
 generalize val b = y0 at *
 refine Qh8 (fun fr hp => ∃ x y, x + y = x0 + y0 /\ (dig x).length < 2 ^ 40 /\ (dig y).length <= (dig x).length /\ fr 0 = PV.num x /\ fr 1 = PV.num y /\ hp = hp0) ?_ ?_
 ·refine Qb (fun hz => ?_) (fun hz => ?_)
  ·simp +decide (disch := first | omega | rfl | (simp +decide only [go_sem, ↓reduceIte] <;> rfl) | fail) only [go_sem, ↓reduceIte]
   refine ⟨y0, x0, by omega, by omega, by omega, ?_⟩
   simp +decide (disch := first | omega | rfl | (simp +decide only [go_sem, ↓reduceIte, true_and, and_true] <;> rfl) | fail) only [go_sem, ↓reduceIte, true_and, and_true]
  ·simp +decide (disch := first | omega | rfl | (simp +decide only [go_sem, ↓reduceIte] <;> rfl) | fail) only [go_sem, ↓reduceIte]
   refine ⟨x0, y0, by omega, by omega, by omega, ?_⟩
   simp +decide (disch := first | omega | rfl | (simp +decide only [go_sem, ↓reduceIte, true_and, and_true] <;> rfl) | fail) only [go_sem, ↓reduceIte, true_and, and_true]
 rintro fr _ ⟨x, y, hsum, hx, hy, h0, h1, rfl⟩
 rw [<- hsum]
 clear hsum hda hdb
 have hxl := Qj x
 have hyl := Qj y
 simp +decide (disch := first | omega | rfl | (simp +decide only [go_sem, ↓reduceIte, h0, h1] <;> rfl) | fail) only [go_sem, ↓reduceIte, h0, h1]
 refine Qeg (fun m fr hp => ∃ i c done, m = (dig x).length - i /\ i <= (dig x).length /\ c <= 1 /\ done.length = i /\ done ++ Qeq ((dig x).drop i) ((dig y).drop i) c = dig (x + y) /\
  fr 1 = PV.num y /\ fr 5 = .ms 25 (dig x).length /\ fr 6 = .int .u32 c /\ fr 26 = PV.num x /\ fr 27 = .int .i64 (dig x).length /\ fr 28 = .int .i64 i /\ hp = Qs hp0 25 ⟨1, 156, Qa2 (done ++ List.replicate ((dig x).length - i) 0), false⟩) (dig x).length ?_ ?_
 ·refine ⟨0, 0, [], rfl, by omega, by omega, rfl, by simpa using Q4d hy, ?_⟩
  simp +decide (disch := first | omega | rfl | (simp +decide only [go_sem, ↓reduceIte, h0, h1, true_and, and_true, Nat.sub_zero, List.nil_append] <;> rfl) | fail) only [go_sem, ↓reduceIte, h0, h1, true_and, and_true, Nat.sub_zero, List.nil_append]
  simp
 rintro _ fr _ ⟨i, c, done, rfl, hi, hc, hdl, hd, h1, h5, h6, h26, h27, h28, rfl⟩
 simp +decide (disch := first | omega | rfl | (simp +decide only [go_sem, ↓reduceIte, h26, h27, h28] <;> rfl) | fail) only [go_sem, ↓reduceIte, h26, h27, h28]
 refine Qb (fun hg => ?_) (fun hg => ?_)
 ·have hi' : i < (dig x).length := by omega
  have hxi := Qag hxl hi'
  rw [Q1a hi'] at hd
  have hlen := Qpz (n := (dig x).length - i) hdl (by omega : _ = (dig x).length)
  simp +decide (disch := first | omega | rfl | (simp +decide only [go_sem, ↓reduceIte, h1, h5, h6, h26, h27, h28] <;> rfl) | fail) only [go_sem, ↓reduceIte, h1, h5, h6, h26, h27, h28]
  refine Qb (fun hq => ?_) (fun hq => ?_)
  ·have hq' : i < (dig y).length := by omega
   have hyi := Qag hyl hq'
   rw [Qbd hq'] at hd
   simp +decide (disch := first | omega | rfl | (simp +decide only [go_sem, ↓reduceIte, h1, h5, h6, h26, h27, h28] <;> rfl) | fail) only [go_sem, ↓reduceIte, h1, h5, h6, h26, h27, h28]
   refine Qbu (m := (dig x).length - (i + 1)) (by omega) ⟨i + 1, _, _, rfl, by omega, ?_, ?_, (List.append_cons ..).symm.trans hd, ?_⟩
   ·omega
   ·simp [hdl]
   ·simp +decide (disch := first | omega | rfl | (simp +decide only [go_sem, ↓reduceIte, h1, h5, h6, h26, h27, h28, true_and, and_true, Qeh, Nat.sub_sub] <;> rfl) | fail) only [go_sem, ↓reduceIte, h1, h5, h6, h26, h27, h28, true_and, and_true, Qeh, Nat.sub_sub]
  ·rw [Qbe (by omega)] at hd
   simp +decide (disch := first | omega | rfl | (simp +decide only [go_sem, ↓reduceIte, h1, h5, h6, h26, h27, h28] <;> rfl) | fail) only [go_sem, ↓reduceIte, h1, h5, h6, h26, h27, h28]
   refine Qbu (m := (dig x).length - (i + 1)) (by omega) ⟨i + 1, _, _, rfl, by omega, ?_, ?_, (List.append_cons ..).symm.trans hd, ?_⟩
   ·omega
   ·simp [hdl]
   ·simp +decide (disch := first | omega | rfl | (simp +decide only [go_sem, ↓reduceIte, h1, h5, h6, h26, h27, h28, true_and, and_true, Qeh, Nat.sub_sub, Nat.add_zero] <;> rfl) | fail) only [go_sem, ↓reduceIte, h1, h5, h6, h26, h27, h28, true_and, and_true, Qeh, Nat.sub_sub, Nat.add_zero]
 ·obtain rfl : i = (dig x).length := by omega
  rw [List.drop_of_length_le (Nat.le_refl _), List.drop_of_length_le hy] at hd
  simp +decide (disch := first | omega | rfl | (simp +decide only [go_sem, ↓reduceIte, h5, h6, Nat.sub_self, List.replicate_zero, List.append_nil] <;> rfl) | fail) only [go_sem, ↓reduceIte, h5, h6, Nat.sub_self, List.replicate_zero, List.append_nil]
  refine Qb (fun hq => ?_) (fun hq => ?_)
  ·simp +decide (disch := first | omega | rfl | (simp +decide only [go_sem, ↓reduceIte, h5, h6] <;> rfl) | fail) only [go_sem, ↓reduceIte, h5, h6]
   rw [Qpx (xs := Qa2 done) (by simp +decide (disch := first | omega | rfl | (simp +decide only [go_sem, ↓reduceIte] <;> rfl) | fail) only [go_sem, ↓reduceIte]) rfl (by omega) (by simp [hdl]) (by omega) (by omega)]
   simp +decide (disch := first | omega | rfl | (simp +decide only [go_sem, ↓reduceIte, h5] <;> rfl) | fail) only [go_sem, ↓reduceIte, h5]
   refine Qok rfl ?_
   rw [Qeq, if_neg (by omega)] at hd
   rw [PV.num, <- hd]
   simp [Qa2, hdl, List.take_of_length_le]
   omega
  ·simp +decide (disch := first | omega | rfl | (simp +decide only [go_sem, ↓reduceIte, h5] <;> rfl) | fail) only [go_sem, ↓reduceIte, h5]
   refine Qok rfl ?_
   rw [Qeq, if_pos (by omega)] at hd
   rw [PV.num, <- hd]
   simp [Qa2, hdl, List.take_of_length_le]
end Go.Proofs.YtmnkngmmfnncoaaGreat
namespace Go.Proofs.YtmnkngmmfnncoaaGreat
open Go Go.FW
set_option linter.unusedSimpArgs false
set_option linter.unusedVariables false
set_option maxRecDepth 100000
theorem Qv5 {a b : List Nat} (ha : Qi a) (hb : Qi b) (hla : a.length < 2 ^ 40) (hlb : b.length < 2 ^ 40) (hle : val b <= val a) : Qe Tryz.prog 214 [PV.nat a, PV.nat b] (· = .tup [PV.num (val a - val b), .int .i64 0]) := by
 have hda := Qah ha
 have hdb := Qah hb
 have hnl := Qbo hle
 unfold nl at hda hdb hnl
 refine Qg Qk Tryz.func214 rfl Qaaf (by simp [Q5e]) fun C hP => ?_; simp only [Q5e]
 simp +decide (disch := first | omega | rfl | (simp +decide only [go_sem, ↓reduceIte] <;> rfl) | fail) only [go_sem, ↓reduceIte]
 refine Qa hP (Qml ha hb hla hlb) rfl rfl rfl ?_
 have hcmp : ¬ Qdf (val a) (val b) < 0 := by unfold Qdf; split <;> (try split) <;> omega
 simp +decide (disch := first | omega | rfl | (simp +decide only [go_sem, ↓reduceIte] <;> rfl) | fail) only [go_sem, ↓reduceIte]
 refine Qb (fun hz => absurd hz hcmp) (fun hz => ?_)
 simp +decide (disch := first | omega | rfl | (simp +decide only [go_sem, ↓reduceIte] <;> rfl) | fail) only [go_sem, ↓reduceIte]
 refine Qa hP (Qa4 ha (by omega)) rfl rfl rfl ?_
 simp +decide (disch := first | omega | rfl | (simp +decide only [go_sem, ↓reduceIte] <;> rfl) | fail) only [go_sem, ↓reduceIte]
 refine Qa hP (Qa4 hb (by omega)) rfl rfl rfl ?_
 simp +decide (disch := first | omega | rfl | (simp +decide only [go_sem, ↓reduceIte] <;> rfl) | fail) only [go_sem, ↓reduceIte]
 generalize val a = x at *
 generalize val b = y at *
 have hxl := Qj x
 have hyl := Qj y
 have Qcl := Qvg (dig x) (dig y) 0 (by omega) hxl hyl hnl (by rw [Qw, Qw]; exact hle)
 rw [Qw, Qw, Nat.add_zero] at Qcl
 have hvl := Qqs (dig x) (dig y) 0
 have hln := Qo4 (dig x) (dig y) 0
 refine Qeg (fun m fr hp => ∃ i c done, m = (dig x).length - i /\ i <= (dig x).length /\ c <= 1 /\ done.length = i /\ done ++ Qgd ((dig x).drop i) ((dig y).drop i) c = Qgd (dig x) (dig y) 0 /\
  fr 1 = PV.num y /\ fr 6 = .ms 21 (dig x).length /\ fr 7 = .int .i32 (c : Nat) /\ fr 22 = PV.num x /\ fr 23 = .int .i64 (dig x).length /\ fr 24 = .int .i64 i /\ hp = Qs hp0 21 ⟨1, 156, Qa2 (done ++ List.replicate ((dig x).length - i) 0), false⟩) (dig x).length ?_ ?_
 ·refine ⟨0, 0, [], rfl, by omega, by omega, rfl, rfl, ?_⟩
  simp +decide (disch := first | omega | rfl | (simp +decide only [go_sem, ↓reduceIte, true_and, and_true, Nat.sub_zero, List.nil_append] <;> rfl) | fail) only [go_sem, ↓reduceIte, true_and, and_true, Nat.sub_zero, List.nil_append]
  simp
 rintro _ fr _ ⟨i, c, done, rfl, hi, hc, hdl, hd, h1, h6, h7, h22, h23, h24, rfl⟩
 simp +decide (disch := first | omega | rfl | (simp +decide only [go_sem, ↓reduceIte, h22, h23, h24] <;> rfl) | fail) only [go_sem, ↓reduceIte, h22, h23, h24]
 refine Qb (fun hg => ?_) (fun hg => ?_)
 ·have hi' : i < (dig x).length := by omega
  have hxi := Qag hxl hi'
  rw [Q1b hi'] at hd
  have hlen := Qpz (n := (dig x).length - i) hdl (by omega : _ = (dig x).length)
  simp +decide (disch := first | omega | rfl | (simp +decide only [go_sem, ↓reduceIte, h1, h6, h7, h22, h23, h24] <;> rfl) | fail) only [go_sem, ↓reduceIte, h1, h6, h7, h22, h23, h24]
  refine Qh8 (fun fr hp => fr 1 = PV.num y /\ fr 6 = .ms 21 (dig x).length /\ fr 8 = .int .i64 i /\ fr 10 = .int .i32 ((dig x)[i] - (c : Int) - ((dig y).getD i 0 : Nat)) /\ (dig y).getD i 0 < 65536 /\ fr 22 = PV.num x /\ fr 23 = .int .i64 (dig x).length /\ fr 24 = .int .i64 i /\ hp = Qs hp0 21 ⟨1, 156, Qa2 (done ++ List.replicate ((dig x).length - i) 0), false⟩) ?_ ?_
  ·refine Qb (fun hq => ?_) (fun hq => ?_)
   ·have hq' : i < (dig y).length := by omega
    have hyi := Qag hyl hq'
    simp +decide (disch := first | omega | rfl | (simp +decide only [go_sem, ↓reduceIte, h1, h6, h7, h22, h23, h24, Qbd hq', true_and, and_true] <;> rfl) | fail) only [go_sem, ↓reduceIte, h1, h6, h7, h22, h23, h24, Qbd hq', true_and, and_true]
    exact hyi
   ·simp +decide (disch := first | omega | rfl | (simp +decide only [go_sem, ↓reduceIte, h1, h6, h7, h22, h23, h24, true_and, and_true, Qbe (by omega : ¬ i < (dig y).length)] <;> rfl) | fail) only [go_sem, ↓reduceIte, h1, h6, h7, h22, h23, h24, true_and, and_true, Qbe (by omega : ¬ i < (dig y).length)]
    simp
  clear h1 h6 h22 h23 h24
  rintro fr _ ⟨h1, h6, h8, h10, hyi, h22, h23, h24, rfl⟩
  generalize hw : (dig y).getD i 0 = yi at *
  simp +decide (disch := first | omega | rfl | (simp +decide only [go_sem, ↓reduceIte, h10] <;> rfl) | fail) only [go_sem, ↓reduceIte, h10]
  refine Qh8 (fun fr hp => fr 1 = PV.num y /\ fr 6 = .ms 21 (dig x).length /\ fr 8 = .int .i64 i /\ fr 10 = .int .i32 (((dig x)[i] + 65536 - c - yi) % 65536 : Nat) /\ fr 7 = .int .i32 ((if (dig x)[i] < c + yi then 1 else 0) : Nat) /\ fr 22 = PV.num x /\ fr 23 = .int .i64 (dig x).length /\ fr 24 = .int .i64 i /\ hp = Qs hp0 21 ⟨1, 156, Qa2 (done ++ List.replicate ((dig x).length - i) 0), false⟩) ?_ ?_
  ·refine Qb (fun hq => ?_) (fun hq => ?_)
   ·rw [if_pos (by omega)]
    simp +decide (disch := first | omega | rfl | (simp +decide only [go_sem, ↓reduceIte, h1, h6, h8, h10, h22, h23, h24, true_and, and_true] <;> rfl) | fail) only [go_sem, ↓reduceIte, h1, h6, h8, h10, h22, h23, h24, true_and, and_true]
    simp; omega
   ·rw [if_neg (by omega)]
    simp +decide (disch := first | omega | rfl | (simp +decide only [go_sem, ↓reduceIte, h1, h6, h8, h10, h22, h23, h24, true_and, and_true] <;> rfl) | fail) only [go_sem, ↓reduceIte, h1, h6, h8, h10, h22, h23, h24, true_and, and_true]
    simp; omega
  clear h1 h6 h8 h10 h22 h23 h24
  rintro fr _ ⟨h1, h6, h8, h10, h7, h22, h23, h24, rfl⟩
  simp +decide (disch := first | omega | rfl | (simp +decide only [go_sem, ↓reduceIte, h1, h6, h7, h8, h10, h22, h23, h24] <;> rfl) | fail) only [go_sem, ↓reduceIte, h1, h6, h7, h8, h10, h22, h23, h24]
  refine Qbu (m := (dig x).length - (i + 1)) (by omega) ⟨i + 1, _, _, rfl, by omega, ?_, ?_, (List.append_cons ..).symm.trans hd, ?_⟩
  ·split <;> omega
  ·simp [hdl]
  ·simp +decide (disch := first | omega | rfl | (simp +decide only [go_sem, ↓reduceIte, h1, h6, h7, h8, h10, h22, h23, h24, true_and, and_true, Qeh, Nat.sub_sub, Nat.mod_mod] <;> rfl) | fail) only [go_sem, ↓reduceIte, h1, h6, h7, h8, h10, h22, h23, h24, true_and, and_true, Qeh, Nat.sub_sub, Nat.mod_mod]
 ·obtain rfl : i = (dig x).length := by omega
  rw [List.drop_of_length_le (Nat.le_refl _), Qgd, List.append_nil] at hd
  simp +decide (disch := first | omega | rfl | (simp +decide only [go_sem, ↓reduceIte, h6, Nat.sub_self, List.replicate_zero, List.append_nil] <;> rfl) | fail) only [go_sem, ↓reduceIte, h6, Nat.sub_self, List.replicate_zero, List.append_nil]
  rw [hd]
  refine Qfn hP (Qa4 hvl (by omega)) (Qjj rfl hln.symm) rfl fun hp' => ?_
  simp +decide (disch := first | omega | rfl | (simp +decide only [go_sem, ↓reduceIte] <;> rfl) | fail) only [go_sem, ↓reduceIte]
  exact Qfe rfl rfl rfl (Qfo (by rw [show val (Qgd (dig x) (dig y) 0) = x - y by omega])) (Qt _)
end Go.Proofs.YtmnkngmmfnncoaaGreat
namespace Go.Proofs.YtmnkngmmfnncoaaGreat
open Go Go.FW
set_option linter.unusedSimpArgs false
set_option linter.unusedVariables false
set_option maxRecDepth 100000
theorem Qjn {a b : List Nat} (ha : Qi a) (hb : Qi b) (hla : a.length < 2 ^ 40) (hlb : b.length < 2 ^ 40) : Qe Tryz.prog 114 [PV.nat a, PV.nat b] (· = PV.num (val a * val b)) := by
 have hda := Qah ha
 have hdb := Qah hb
 unfold nl at hda hdb
 refine Qg Qk Tryz.func114 rfl Qaag (by simp [Q5f]) fun C hP => ?_; simp only [Q5f]
 simp +decide (disch := first | omega | rfl | (simp +decide only [go_sem, ↓reduceIte] <;> rfl) | fail) only [go_sem, ↓reduceIte]
 refine Qa hP (Qa4 ha (by omega)) rfl rfl rfl ?_
 simp +decide (disch := first | omega | rfl | (simp +decide only [go_sem, ↓reduceIte] <;> rfl) | fail) only [go_sem, ↓reduceIte]
 refine Qa hP (Qa4 hb (by omega)) rfl rfl rfl ?_
 simp +decide (disch := first | omega | rfl | (simp +decide only [go_sem, ↓reduceIte] <;> rfl) | fail) only [go_sem, ↓reduceIte]
 generalize val a = x at *
 generalize val b = y at *
 have hxl := Qj x
 have hyl := Qj y
 refine Q6 (fun hz => ?_) (fun hz => ?_)
 ·simp +decide (disch := first | omega | rfl | (simp +decide only [go_sem, ↓reduceIte] <;> rfl) | fail) only [go_sem, ↓reduceIte]
  have := Qcp (by omega : (dig x).length = 0)
  rw [Qbp] at this
  exact Qc3 (Qlb (by simp [this])) rfl
 simp +decide (disch := first | omega | rfl | (simp +decide only [go_sem, ↓reduceIte] <;> rfl) | fail) only [go_sem, ↓reduceIte]
 refine Qb (fun hz2 => ?_) (fun hz2 => ?_)
 ·simp +decide (disch := first | omega | rfl | (simp +decide only [go_sem, ↓reduceIte] <;> rfl) | fail) only [go_sem, ↓reduceIte]
  have := Qcp (by omega : (dig y).length = 0)
  rw [Qbp] at this
  exact Qc3 (Qlb (by simp [this])) rfl
 simp +decide (disch := first | omega | rfl | (simp +decide only [go_sem, ↓reduceIte] <;> rfl) | fail) only [go_sem, ↓reduceIte]
 refine Qeg (fun m fr hp => ∃ i lo, m = (dig x).length - i /\ i <= (dig x).length /\ Qi lo /\ lo.length = i + (dig y).length /\ val lo = val ((dig x).take i) * val (dig y) /\
  fr 1 = PV.num y /\ fr 5 = .ms 28 ((dig x).length + (dig y).length) /\ fr 29 = PV.num x /\ fr 30 = .int .i64 (dig x).length /\ fr 31 = .int .i64 i /\ hp = Qs hp0 28 ⟨1, 156, Qa2 (lo ++ List.replicate ((dig x).length - i) 0), false⟩) (dig x).length ?_ ?_
 ·refine ⟨0, List.replicate (dig y).length 0, rfl, by omega, ?_, by simp, by simp [Qs6, val], ?_⟩
  ·intro z hz; rw [List.eq_of_mem_replicate hz]; omega
  ·simp +decide (disch := first | omega | rfl | (simp +decide only [go_sem, ↓reduceIte, true_and, and_true, Nat.sub_zero] <;> rfl) | fail) only [go_sem, ↓reduceIte, true_and, and_true, Nat.sub_zero]
   simp [Nat.add_comm]
 rintro _ fr _ ⟨i, lo, rfl, hi, hlo, hlol, hv, h1, h5, h29, h30, h31, rfl⟩
 simp +decide (disch := first | omega | rfl | (simp +decide only [go_sem, ↓reduceIte, h29, h30, h31] <;> rfl) | fail) only [go_sem, ↓reduceIte, h29, h30, h31]
 refine Qb (fun hg => ?_) (fun hg => ?_)
 ·have hi' : i < (dig x).length := by omega
  have hxi := Qag hxl hi'
  have hstep := Q4e hi' hlol hv
  have hlims : Qi (lo.take i ++ Qff (lo.drop i) (dig y) (dig x)[i] 0) := Qbk.2 ⟨Qfw hlo i, Qqu _ _ _ _ (by omega) hxi (Qgp hlo i) hyl⟩
  have hlenr : (lo.take i ++ Qff (lo.drop i) (dig y) (dig x)[i] 0).length = i + (dig y).length + 1 := by
   rw [List.length_append, Qo5 _ _ _ _ (by simp [hlol])]; simp; omega
  generalize hxx : (dig x)[i] = xi at *
  simp +decide (disch := first | omega | rfl | (simp +decide only [go_sem, ↓reduceIte, h1, h5, h29, h30, h31, hxx] <;> rfl) | fail) only [go_sem, ↓reduceIte, h1, h5, h29, h30, h31, hxx]
  refine Qeg (fun m fr hp => ∃ k c p rs, m = (dig y).length - k /\ k <= (dig y).length /\ c < 65536 /\ Qi rs /\ p.length = i + k /\ rs.length = (dig y).length - k /\ p ++ Qff rs ((dig y).drop k) xi c = lo.take i ++ Qff (lo.drop i) (dig y) xi 0 /\
   fr 1 = PV.num y /\ fr 5 = .ms 28 ((dig x).length + (dig y).length) /\ fr 6 = .int .i64 i /\ fr 7 = .int .u16 xi /\ fr 8 = .int .u32 c /\ fr 29 = PV.num x /\ fr 30 = .int .i64 (dig x).length /\ fr 31 = .int .i64 i /\ fr 36 = PV.num y /\ fr 37 = .int .i64 (dig y).length /\ fr 38 = .int .i64 k /\
   hp = Qs hp0 28 ⟨1, 156, Qa2 (p ++ (rs ++ List.replicate ((dig x).length - i) 0)), false⟩) (dig y).length ?_ ?_
  ·refine ⟨0, 0, lo.take i, lo.drop i, rfl, by omega, by omega, Qgp hlo i, by simp; omega, by simp; omega, rfl, ?_⟩
   simp +decide (disch := first | omega | rfl | (simp +decide only [go_sem, ↓reduceIte, h1, h5, h29, h30, h31, true_and, and_true] <;> rfl) | fail) only [go_sem, ↓reduceIte, h1, h5, h29, h30, h31, true_and, and_true]
   rw [<- List.append_assoc, List.take_append_drop]
   simp
  clear h1 h5 h29 h30 h31
  rintro _ fr _ ⟨k, c, p, rs, rfl, hk, hc, hrs, hpl, hrl, hinv, h1, h5, h6, h7, h8, h29, h30, h31, h36, h37, h38, rfl⟩
  simp +decide (disch := first | omega | rfl | (simp +decide only [go_sem, ↓reduceIte, h36, h37, h38] <;> rfl) | fail) only [go_sem, ↓reduceIte, h36, h37, h38]
  refine Qb (fun hq => ?_) (fun hq => ?_)
  ·have hk' : k < (dig y).length := by omega
   have hyk := Qag hyl hk'
   rw [List.drop_eq_getElem_cons hk'] at hinv
   generalize hyy : (dig y)[k] = yk at *
   obtain _ | ⟨r, rs⟩ := rs
   ·simp at hrl; omega
   rw [Qax] at hrs
   have hr0 := hrs.1
   have hxy := Qev hxi hyk
   rw [Qff] at hinv
   have hlt : i + k < (p ++ r :: (rs ++ List.replicate ((dig x).length - i) 0)).length := by simp; omega
   have hget := Qoo hpl hlt
   simp +decide (disch := first | omega | rfl | (simp +decide only [go_sem, ↓reduceIte, h1, h5, h6, h7, h8, h36, h37, h38, hyy, List.cons_append, hget] <;> rfl) | fail) only [go_sem, ↓reduceIte, h1, h5, h6, h7, h8, h36, h37, h38, hyy, List.cons_append, hget]
   refine Qbu (m := (dig y).length - (k + 1)) (by omega) ⟨k + 1, _, _, _, rfl, by omega, ?_, hrs.2, ?_, ?_, (List.append_cons ..).symm.trans hinv, ?_⟩
   ·omega
   ·simp [hpl]; omega
   ·simp at hrl; omega
   ·simp +decide (disch := first | omega | rfl | (simp +decide only [go_sem, ↓reduceIte, h1, h5, h6, h7, h8, h29, h30, h31, h36, h37, h38, true_and, and_true, Qbv] <;> rfl) | fail) only [go_sem, ↓reduceIte, h1, h5, h6, h7, h8, h29, h30, h31, h36, h37, h38, true_and, and_true, Qbv]
    simp
  ·obtain rfl : k = (dig y).length := by omega
   obtain rfl : rs = [] := List.length_eq_zero_iff.1 (by omega)
   rw [List.drop_of_length_le (Nat.le_refl _), Qff] at hinv
   rotate_left
   ·intros; simp_all
   obtain ⟨z, hz⟩ : ∃ z, (dig x).length - i = z + 1 := ⟨(dig x).length - i - 1, by omega⟩
   have hlt : i + (dig y).length < (p ++ 0 :: (List.replicate z 0)).length := by simp; omega
   simp +decide (disch := first | omega | rfl | (simp +decide only [go_sem, ↓reduceIte, h1, h5, h6, h8, h29, h30, h31, List.nil_append, hz, List.replicate_succ] <;> rfl) | fail) only [go_sem, ↓reduceIte, h1, h5, h6, h8, h29, h30, h31, List.nil_append, hz, List.replicate_succ]
   refine Qbu (m := (dig x).length - (i + 1)) (by omega) ⟨i + 1, lo.take i ++ Qff (lo.drop i) (dig y) xi 0, rfl, by omega, hlims, by omega, ?_, ?_⟩
   ·rw [hstep]
   ·simp +decide (disch := first | omega | rfl | (simp +decide only [go_sem, ↓reduceIte, h1, h5, h29, h30, h31, true_and, and_true, Qbv] <;> rfl) | fail) only [go_sem, ↓reduceIte, h1, h5, h29, h30, h31, true_and, and_true, Qbv]
    rw [<- hinv, show (dig x).length - (i + 1) = z by omega, Nat.mod_eq_of_lt hc]
    simp
 ·obtain rfl : i = (dig x).length := by omega
  rw [List.take_length, Qw, Qw] at hv
  simp +decide (disch := first | omega | rfl | (simp +decide only [go_sem, ↓reduceIte, h5, Nat.sub_self, List.replicate_zero, List.append_nil] <;> rfl) | fail) only [go_sem, ↓reduceIte, h5, Nat.sub_self, List.replicate_zero, List.append_nil]
  refine Qfn hP (Qa4 hlo (by omega)) (Qjj rfl hlol.symm) rfl fun hp' => ?_
  simp +decide (disch := first | omega | rfl | (simp +decide only [go_sem, ↓reduceIte] <;> rfl) | fail) only [go_sem, ↓reduceIte]
  exact Qc (by rw [hv]) rfl
end Go.Proofs.YtmnkngmmfnncoaaGreat
namespace Go.Proofs.YtmnkngmmfnncoaaGreat
open Go Go.FW
set_option linter.unusedSimpArgs false
set_option linter.unusedVariables false
set_option maxRecDepth 100000
theorem Qv6 {pre w post v : List Nat} {j m : Nat} (hw : Qi w) (hv : Qi v) (hj : pre.length = j) (hm : w.length = m) (hle : v.length <= w.length) (hlen : (pre ++ (w ++ post)).length < 2 ^ 43) :
  Qi4 Tryz.prog 223 [.mso B0 j m, PV.nat v] 156 (Qa2 (pre ++ (w ++ post))) (fun r xs' => r = .tup [] /\ xs' = Qa2 (pre ++ (Qfp w v 0 ++ post))) := by
 simp only [List.length_append] at hlen
 refine Qj5 Qk Tryz.func223 rfl Qaal (by simp [Q5k]) fun C hP => ?_; simp only [Q5k]
 simp +decide (disch := first | omega | rfl | (simp +decide only [go_sem, ↓reduceIte] <;> rfl) | fail) only [go_sem, ↓reduceIte]
 refine Qeg (fun k fr hp => ∃ i c done, k = w.length - i /\ i <= w.length /\ c <= 1 /\ done.length = i /\ done ++ Qfp (w.drop i) (v.drop i) c = Qfp w v 0 /\
  fr 0 = .mso 1000000 j m /\ fr 1 = PV.nat v /\ fr 4 = .int .u32 c /\ fr 7 = .int .i64 m /\ fr 8 = .int .i64 i /\ hp = Qs hp0 1000000 ⟨1, 156, Qa2 ((pre ++ done) ++ (w.drop i ++ post)), false⟩) w.length ?_ ?_
 ·refine ⟨0, 0, [], rfl, by omega, by omega, rfl, rfl, ?_⟩
  simp +decide (disch := first | omega | rfl | (simp +decide only [go_sem, ↓reduceIte, true_and, and_true, List.append_nil, List.drop_zero] <;> rfl) | fail) only [go_sem, ↓reduceIte, true_and, and_true, List.append_nil, List.drop_zero]
  simp
 rintro _ fr _ ⟨i, c, done, rfl, hi, hc, hdl, hd, h0, h1, h4, h7, h8, rfl⟩
 simp +decide (disch := first | omega | rfl | (simp +decide only [go_sem, ↓reduceIte, h7, h8] <;> rfl) | fail) only [go_sem, ↓reduceIte, h7, h8]
 refine Qb (fun hg => ?_) (fun hg => ?_)
 ·have hi' : i < w.length := by omega
  have hwi := Qag hw hi'
  rw [Q1j hi'] at hd
  have hpl : (pre ++ done).length = j + i := by simp [hj, hdl]
  rw [List.drop_eq_getElem_cons hi']
  generalize hww : w[i] = wi at *
  have hlt : j + i < ((pre ++ done) ++ wi :: (w.drop (i + 1) ++ post)).length := by simp; omega
  have hget := Qoo hpl hlt
  simp +decide (disch := first | omega | rfl | (simp +decide only [go_sem, ↓reduceIte, h0, h1, h4, h7, h8, List.cons_append, hget] <;> rfl) | fail) only [go_sem, ↓reduceIte, h0, h1, h4, h7, h8, List.cons_append, hget]
  refine Qb (fun hq => ?_) (fun hq => ?_)
  ·have hq' : i < v.length := by omega
   have hvi := Qag hv hq'
   rw [Qbd hq'] at hd
   simp +decide (disch := first | omega | rfl | (simp +decide only [go_sem, ↓reduceIte, h0, h1, h4, h7, h8, Qbv] <;> rfl) | fail) only [go_sem, ↓reduceIte, h0, h1, h4, h7, h8, Qbv]
   refine Qbu (m := w.length - (i + 1)) (by omega) ⟨i + 1, _, _, rfl, by omega, ?_, ?_, (List.append_cons ..).symm.trans hd, ?_⟩
   ·omega
   ·simp [hdl]
   ·simp +decide (disch := first | omega | rfl | (simp +decide only [go_sem, ↓reduceIte, h0, h1, h4, h7, h8, true_and, and_true, Qbv] <;> rfl) | fail) only [go_sem, ↓reduceIte, h0, h1, h4, h7, h8, true_and, and_true, Qbv]
    simp
  ·rw [Qbe (by omega)] at hd
   simp +decide (disch := first | omega | rfl | (simp +decide only [go_sem, ↓reduceIte, h0, h1, h4, h7, h8, Qbv] <;> rfl) | fail) only [go_sem, ↓reduceIte, h0, h1, h4, h7, h8, Qbv]
   refine Qbu (m := w.length - (i + 1)) (by omega) ⟨i + 1, _, _, rfl, by omega, ?_, ?_, (List.append_cons ..).symm.trans hd, ?_⟩
   ·omega
   ·simp [hdl]
   ·simp +decide (disch := first | omega | rfl | (simp +decide only [go_sem, ↓reduceIte, h0, h1, h4, h7, h8, true_and, and_true, Qbv] <;> rfl) | fail) only [go_sem, ↓reduceIte, h0, h1, h4, h7, h8, true_and, and_true, Qbv]
    simp
 ·obtain rfl : i = w.length := by omega
  rw [List.drop_of_length_le (Nat.le_refl _), Qfp, List.append_nil] at hd
  simp +decide (disch := first | omega | rfl | (simp +decide only [go_sem, ↓reduceIte] <;> rfl) | fail) only [go_sem, ↓reduceIte]
  refine Qaeu rfl (Qei _) ?_ ⟨rfl, ?_⟩
  ·simp [hdl]
  ·rw [List.drop_of_length_le (Nat.le_refl _), hd]; simp
end Go.Proofs.YtmnkngmmfnncoaaGreat
namespace Go.Proofs.YtmnkngmmfnncoaaGreat
open Go Go.FW
set_option linter.unusedSimpArgs false
set_option linter.unusedVariables false
set_option maxRecDepth 100000
theorem Qt6 {pre w post v : List Nat} {j m q : Nat} (hw : Qi w) (hv : Qi v) (hq : q < 65536) (hj : pre.length = j) (hm : w.length = m) (hle : v.length <= w.length) (hlen : (pre ++ (w ++ post)).length < 2 ^ 43) :
  Qi4 Tryz.prog 222 [.mso B0 j m, PV.nat v, .int .u32 q] 156 (Qa2 (pre ++ (w ++ post))) (fun r xs' => r = .bool (decide (0 < (Qcq w v q 0 0).2.2)) /\ xs' = Qa2 (pre ++ ((Qcq w v q 0 0).1 ++ post))) := by
 simp only [List.length_append] at hlen
 refine Qj5 Qk Tryz.func222 rfl Qaak (by simp [Q5j]) fun C hP => ?_; simp only [Q5j]
 simp +decide (disch := first | omega | rfl | (simp +decide only [go_sem, ↓reduceIte] <;> rfl) | fail) only [go_sem, ↓reduceIte]
 refine Qeg (fun k fr hp => ∃ i c b done, k = w.length - i /\ i <= w.length /\ c < 65536 /\ b <= 1 /\ done.length = i /\ done ++ (Qcq (w.drop i) (v.drop i) q c b).1 = (Qcq w v q 0 0).1 /\ (Qcq (w.drop i) (v.drop i) q c b).2 = (Qcq w v q 0 0).2 /\
  fr 0 = .mso 1000000 j m /\ fr 1 = PV.nat v /\ fr 2 = .int .u32 q /\ fr 7 = .int .u32 c /\ fr 8 = .int .i32 (b : Nat) /\ fr 12 = .int .i64 m /\ fr 13 = .int .i64 i /\ hp = Qs hp0 1000000 ⟨1, 156, Qa2 ((pre ++ done) ++ (w.drop i ++ post)), false⟩) w.length ?_ ?_
 ·refine ⟨0, 0, 0, [], rfl, by omega, by omega, by omega, rfl, rfl, rfl, ?_⟩
  simp +decide (disch := first | omega | rfl | (simp +decide only [go_sem, ↓reduceIte, true_and, and_true, List.append_nil, List.drop_zero] <;> rfl) | fail) only [go_sem, ↓reduceIte, true_and, and_true, List.append_nil, List.drop_zero]
  simp
 rintro _ fr _ ⟨i, c, b, done, rfl, hi, hc, hb, hdl, hd, hd2, h0, h1, h2, h7, h8, h12, h13, rfl⟩
 simp +decide (disch := first | omega | rfl | (simp +decide only [go_sem, ↓reduceIte, h12, h13] <;> rfl) | fail) only [go_sem, ↓reduceIte, h12, h13]
 refine Qb (fun hg => ?_) (fun hg => ?_)
 ·have hi' : i < w.length := by omega
  have hwi := Qag hw hi'
  rw [Q1k hi'] at hd hd2
  simp only at hd hd2
  have hpl : (pre ++ done).length = j + i := by simp [hj, hdl]
  rw [List.drop_eq_getElem_cons hi']
  generalize hww : w[i] = wi at *
  have hlt : j + i < ((pre ++ done) ++ wi :: (w.drop (i + 1) ++ post)).length := by simp; omega
  have hget := Qoo hpl hlt
  simp +decide (disch := first | omega | rfl | (simp +decide only [go_sem, ↓reduceIte, h0, h1, h2, h7, h8, h12, h13, List.cons_append, hget] <;> rfl) | fail) only [go_sem, ↓reduceIte, h0, h1, h2, h7, h8, h12, h13, List.cons_append, hget]
  refine Qh8 (fun fr hp => c + q * v.getD i 0 <= 4294967295 /\ fr 0 = .mso 1000000 j m /\ fr 1 = PV.nat v /\ fr 2 = .int .u32 q /\ fr 7 = .int .u32 (c + q * v.getD i 0 : Nat) /\ fr 8 = .int .i32 (b : Nat) /\ fr 9 = .int .i64 i /\ fr 12 = .int .i64 m /\ fr 13 = .int .i64 i /\ hp = Qs hp0 1000000 ⟨1, 156, Qa2 ((pre ++ done) ++ wi :: (w.drop (i + 1) ++ post)), false⟩) ?_ ?_
  ·refine Qb (fun hqv => ?_) (fun hqv => ?_)
   ·have hq' : i < v.length := by omega
    have hvi := Qag hv hq'
    have hqv := Qev hq hvi
    simp +decide (disch := first | omega | rfl | (simp +decide only [go_sem, ↓reduceIte, h0, h1, h2, h7, h8, h12, h13, Qbd hq', true_and, and_true] <;> rfl) | fail) only [go_sem, ↓reduceIte, h0, h1, h2, h7, h8, h12, h13, Qbd hq', true_and, and_true]
    omega
   ·simp +decide (disch := first | omega | rfl | (simp +decide only [go_sem, ↓reduceIte, h0, h1, h2, h7, h8, h12, h13, true_and, and_true, Qbe (by omega : ¬ i < v.length), Nat.mul_zero, Nat.add_zero] <;> rfl) | fail) only [go_sem, ↓reduceIte, h0, h1, h2, h7, h8, h12, h13, true_and, and_true, Qbe (by omega : ¬ i < v.length), Nat.mul_zero, Nat.add_zero]
    omega
  clear h0 h1 h2 h7 h8 h12 h13
  rintro fr _ ⟨hc1, h0, h1, h2, h7, h8, h9, h12, h13, rfl⟩
  generalize c + q * v.getD i 0 = c1 at *
  simp +decide (disch := first | omega | rfl | (simp +decide only [go_sem, ↓reduceIte, h0, h1, h2, h7, h8, h9, h12, h13, hget] <;> rfl) | fail) only [go_sem, ↓reduceIte, h0, h1, h2, h7, h8, h9, h12, h13, hget]
  refine Qh8 (fun fr hp => fr 0 = .mso 1000000 j m /\ fr 1 = PV.nat v /\ fr 2 = .int .u32 q /\ fr 7 = .int .u32 (c1 / 65536 : Nat) /\ fr 8 = .int .i32 ((if wi < c1 % 65536 + b then 1 else 0) : Nat) /\ fr 9 = .int .i64 i /\ fr 10 = .int .i32 ((wi + 65536 - c1 % 65536 - b) % 65536 : Nat) /\ fr 12 = .int .i64 m /\ fr 13 = .int .i64 i /\ hp = Qs hp0 1000000 ⟨1, 156, Qa2 ((pre ++ done) ++ wi :: (w.drop (i + 1) ++ post)), false⟩) ?_ ?_
  ·refine Qb (fun hq => ?_) (fun hq => ?_)
   ·rw [if_pos (by omega)]
    simp +decide (disch := first | omega | rfl | (simp +decide only [go_sem, ↓reduceIte, h0, h1, h2, h7, h8, h9, h12, h13, true_and, and_true] <;> rfl) | fail) only [go_sem, ↓reduceIte, h0, h1, h2, h7, h8, h9, h12, h13, true_and, and_true]
    simp; omega
   ·rw [if_neg (by omega)]
    simp +decide (disch := first | omega | rfl | (simp +decide only [go_sem, ↓reduceIte, h0, h1, h2, h7, h8, h9, h12, h13, true_and, and_true] <;> rfl) | fail) only [go_sem, ↓reduceIte, h0, h1, h2, h7, h8, h9, h12, h13, true_and, and_true]
    simp; omega
  clear h0 h1 h2 h7 h8 h9 h12 h13
  rintro fr _ ⟨h0, h1, h2, h7, h8, h9, h10, h12, h13, rfl⟩
  simp +decide (disch := first | omega | rfl | (simp +decide only [go_sem, ↓reduceIte, h0, h1, h2, h7, h8, h9, h10, h12, h13, Qbv] <;> rfl) | fail) only [go_sem, ↓reduceIte, h0, h1, h2, h7, h8, h9, h10, h12, h13, Qbv]
  refine Qbu (m := w.length - (i + 1)) (by omega) ⟨i + 1, c1 / 65536, _, _, rfl, by omega, by omega, ?_, ?_, (List.append_cons ..).symm.trans hd, hd2, ?_⟩
  ·split <;> omega
  ·simp [hdl]
  ·simp +decide (disch := first | omega | rfl | (simp +decide only [go_sem, ↓reduceIte, h0, h1, h2, h7, h8, h9, h10, h12, h13, true_and, and_true, Qbv, Nat.mod_mod] <;> rfl) | fail) only [go_sem, ↓reduceIte, h0, h1, h2, h7, h8, h9, h10, h12, h13, true_and, and_true, Qbv, Nat.mod_mod]
   simp
 ·obtain rfl : i = w.length := by omega
  rw [List.drop_of_length_le (Nat.le_refl _), Qcq] at hd hd2
  simp only [List.append_nil] at hd
  simp +decide (disch := first | omega | rfl | (simp +decide only [go_sem, ↓reduceIte, h8] <;> rfl) | fail) only [go_sem, ↓reduceIte, h8]
  refine Q1l (p := .bool (decide (0 < (b : Int)))) rfl (Qei _) ?_ (by simp +decide (disch := first | omega | rfl | (simp +decide only [go_sem, ↓reduceIte] <;> rfl) | fail) only [go_sem, ↓reduceIte]) rfl ⟨?_, ?_⟩
  ·simp [hdl]
  ·rw [<- hd2]; simp
  ·rw [List.drop_of_length_le (Nat.le_refl _), hd]; simp
end Go.Proofs.YtmnkngmmfnncoaaGreat
namespace Go.Proofs.YtmnkngmmfnncoaaGreat
open Go Go.FW
set_option linter.unusedSimpArgs false
set_option linter.unusedVariables false
set_option maxRecDepth 100000
theorem Qt7 {v u : List Nat} {dg n r j : Nat} (hv : Qi v) (hu : Qi u) (hn : 2 <= n) (hnv : n = v.length) (hju : j + n < u.length) (hd : dg < 4294967296) (hr : r < 65536) (hul : u.length < 2 ^ 43) :
  Qe Tryz.prog 221 [.pt [.int .u64 dg], .pt [PV.nat v], .pt [.int .i64 n], .pt [.int .u64 r], .pt [PV.nat u], .pt [.int .i64 j]]
   (· = .bool (decide (65536 <= dg ∨ r * 65536 + u.getD (j + n - 2) 0 < dg * v.getD (n - 2) 0))) := by
 have h1 : n - 2 < v.length := by omega
 have h2 : j + n - 2 < u.length := by omega
 have hv1 := Qag hv h1
 have hu1 := Qag hu h2
 rw [Qbd h1, Qbd h2]
 refine Qg Qk Tryz.func221 rfl Qaaj (by simp [Q5i]) fun C hP => ?_; simp only [Q5i]
 simp +decide (disch := first | omega | rfl | (simp +decide only [go_sem, ↓reduceIte] <;> rfl) | fail) only [go_sem, ↓reduceIte]
 refine Q6 (fun hz => ?_) (fun hz => ?_)
 ·simp +decide (disch := first | omega | rfl | (simp +decide only [go_sem, ↓reduceIte] <;> rfl) | fail) only [go_sem, ↓reduceIte]
  exact Qc (by simp; omega) rfl
 ·have hd' : dg < 65536 := by omega
  have e1 : (n : Int) - 2 = ((n - 2 : Nat) : Int) := by omega
  have e2 : ((j + n : Nat) : Int) - 2 = ((j + n - 2 : Nat) : Int) := by omega
  generalize hvv : v[n - 2] = vi at *
  generalize huu : u[j + n - 2] = ui at *
  have hm := Qev hd' hv1
  simp +decide (disch := first | omega | rfl | (simp +decide only [go_sem, ↓reduceIte, e1, e2, hvv, huu, Qj7, Ql3] <;> rfl) | fail) only [go_sem, ↓reduceIte, e1, e2, hvv, huu, Qj7, Ql3]
  exact Qc (congrArg PV.bool (decide_eq_decide.2 ⟨fun h => .inr (by omega), fun h => by rcases h with h | h <;> omega⟩)) rfl
end Go.Proofs.YtmnkngmmfnncoaaGreat
namespace Go.Proofs.YtmnkngmmfnncoaaGreat
open Go Go.FW
set_option linter.unusedSimpArgs false
set_option linter.unusedVariables false
set_option maxRecDepth 100000
theorem Qzl {l post : List Nat} (hv : Qi l) (hl : (l ++ post).length < 2 ^ 43) (hlen : 0 < l.length) :
  Qi4 Tryz.prog 177 [.mso B0 0 l.length] 156 (Qa2 (l ++ post)) (fun r xs' => r = .mso B0 0 (nl (val l)) /\ xs' = Qa2 (l ++ post)) := by
 simp only [List.length_append] at hl
 have hlen2 : l.length <= (l ++ post).length := by simp
 refine Qj5 Qk Tryz.func177 rfl Qye (by simp [Qv4]) fun C hP => ?_; simp only [Qv4]
 simp +decide (disch := first | omega | rfl | (simp +decide only [go_sem, ↓reduceIte] <;> rfl) | fail) only [go_sem, ↓reduceIte]
 refine Qeg (fun m fr hp => m <= l.length /\ cut l m = dig (val l) /\ fr 0 = .mso 1000000 0 l.length /\ fr 3 = .int .i64 m /\ hp = Qs hp0 1000000 ⟨1, 156, Qa2 (l ++ post), false⟩) l.length ?_ ?_
 ·exact ⟨Nat.le_refl _, Qla hv, rfl, rfl, rfl⟩
 rintro n fr _ ⟨hn, hc, h0, h3, rfl⟩
 simp +decide (disch := first | omega | rfl | (simp +decide only [go_sem, ↓reduceIte, h0, h3] <;> rfl) | fail) only [go_sem, ↓reduceIte, h0, h3]
 refine Qar (fun hg => ?_) (fun hg => ?_)
 ·obtain _ | n := n
  ·omega
  have e : ((n + 1 : Nat) : Int) - 1 = n := by omega
  have hlt : n < (l ++ post).length := by simp; omega
  have hget : (l ++ post)[n] = l[n] := by simp [List.getElem_append, show n < l.length by omega]
  simp +decide (disch := first | omega | rfl | (simp +decide only [go_sem, ↓reduceIte, h0, h3, e, hget] <;> rfl) | fail) only [go_sem, ↓reduceIte, h0, h3, e, hget]
  simp only [cut] at hc
  refine Qb (fun hz => ?_) (fun hz => ?_)
  ·rw [if_pos (by grind)] at hc
   simp +decide (disch := first | omega | rfl | (simp +decide only [go_sem, ↓reduceIte, h0, h3, e] <;> rfl) | fail) only [go_sem, ↓reduceIte, h0, h3, e]
   refine Qbu (m := n) (by omega) ⟨by omega, hc, ?_⟩
   simp +decide (disch := first | omega | rfl | (simp +decide only [go_sem, ↓reduceIte, h0, true_and, and_true] <;> rfl) | fail) only [go_sem, ↓reduceIte, h0, true_and, and_true]
  ·rw [if_neg (by grind)] at hc
   have hnl : nl (val l) = n + 1 := by rw [nl, <- hc]; simp; omega
   simp +decide (disch := first | omega | rfl | (simp +decide only [go_sem, ↓reduceIte, h0, h3] <;> rfl) | fail) only [go_sem, ↓reduceIte, h0, h3]
   exact Qxz rfl (Qei _) (by simp) (by simp +decide (disch := first | omega | rfl | (simp +decide only [go_sem, ↓reduceIte, hnl] <;> rfl) | fail) only [go_sem, ↓reduceIte, hnl]) ⟨rfl, rfl⟩
 ·obtain rfl : n = 0 := by omega
  have hnl : nl (val l) = 0 := by rw [nl, <- hc, cut]; rfl
  simp +decide (disch := first | omega | rfl | (simp +decide only [go_sem, ↓reduceIte, h0, h3] <;> rfl) | fail) only [go_sem, ↓reduceIte, h0, h3]
  exact Qxz rfl (Qei _) (by simp) (by simp +decide (disch := first | omega | rfl | (simp +decide only [go_sem, ↓reduceIte, hnl] <;> rfl) | fail) only [go_sem, ↓reduceIte, hnl]) ⟨rfl, rfl⟩
end Go.Proofs.YtmnkngmmfnncoaaGreat
namespace Go.Proofs.YtmnkngmmfnncoaaGreat
open Go Go.FW
set_option linter.unusedSimpArgs false
set_option linter.unusedVariables false
set_option maxRecDepth 100000
theorem Qkw {a : List Nat} {s : Nat} (ha : Qi a) (hla : a.length < 2 ^ 40) (hs : s <= 15) (hne : val a ≠ 0) : Qlc Tryz.prog 199 [PV.nat a, .int .i64 s] 156 (fun ys => ys = Qa2 (dig (val a * 2 ^ s))) := by
 have hda := Qah ha
 unfold nl at hda
 have hnz : (dig (val a)).length ≠ 0 := by
  intro h; exact hne (Qbp.1 (Qcp h))
 refine Q1h Qk Tryz.func199 rfl Qst (by simp [Qp6]) fun C hP => ?_; simp only [Qp6]
 simp +decide (disch := first | omega | rfl | (simp +decide only [go_sem, ↓reduceIte] <;> rfl) | fail) only [go_sem, ↓reduceIte]
 refine Qa hP (Qa4 ha (by omega)) rfl rfl rfl ?_
 simp +decide (disch := first | omega | rfl | (simp +decide only [go_sem, ↓reduceIte] <;> rfl) | fail) only [go_sem, ↓reduceIte]
 generalize val a = x at *
 have hxl := Qj x
 have e1 : s / 16 = 0 := Nat.div_eq_of_lt (by omega)
 have e2 : s % 16 = s := Nat.mod_eq_of_lt (by omega)
 refine Q6 (fun hz => by omega) (fun hz => ?_)
 simp +decide (disch := first | omega | rfl | (simp +decide only [go_sem, ↓reduceIte] <;> rfl) | fail) only [go_sem, ↓reduceIte]
 refine Q6 (fun hz => by omega) (fun hz => ?_)
 simp +decide (disch := first | omega | rfl | (simp +decide only [go_sem, ↓reduceIte] <;> rfl) | fail) only [go_sem, ↓reduceIte]
 refine Qb (fun hz => by omega) (fun hz => ?_)
 simp +decide (disch := first | omega | rfl | (simp +decide only [go_sem, ↓reduceIte] <;> rfl) | fail) only [go_sem, ↓reduceIte]
 refine Qb (fun hz => by omega) (fun hz => ?_)
 simp +decide (disch := first | omega | rfl | (simp +decide only [go_sem, ↓reduceIte, Qj9, Qka, e1, e2] <;> rfl) | fail) only [go_sem, ↓reduceIte, Qj9, Qka, e1, e2]
 refine Qeg (fun k fr hp => ∃ i c done, k = (dig x).length - i /\ i <= (dig x).length /\ c < 2 ^ s /\ done.length = i /\ done ++ Qha s ((dig x).drop i) c = Qha s (dig x) 0 /\
  fr 5 = .int .i64 (0 : Nat) /\ fr 6 = .int .i64 s /\ fr 7 = .ms 44 ((dig x).length + 1) /\ fr 45 = PV.num x /\ fr 46 = .int .i64 (dig x).length /\ fr 47 = .int .i64 i /\
  hp = Qs hp0 44 ⟨1, 156, Qa2 (done ++ c :: List.replicate ((dig x).length - i) 0), false⟩) (dig x).length ?_ ?_
 ·refine ⟨0, 0, [], rfl, by omega, Nat.pow_pos (by omega), rfl, rfl, ?_⟩
  simp +decide (disch := first | omega | rfl | (simp +decide only [go_sem, ↓reduceIte, true_and, and_true, List.nil_append, Nat.sub_zero] <;> rfl) | fail) only [go_sem, ↓reduceIte, true_and, and_true, List.nil_append, Nat.sub_zero]
  simp [List.replicate_succ]
 rintro _ fr _ ⟨i, c, done, rfl, hi, hc, hdl, hd, h5, h6, h7, h45, h46, h47, rfl⟩
 simp +decide (disch := first | omega | rfl | (simp +decide only [go_sem, ↓reduceIte, h45, h46, h47] <;> rfl) | fail) only [go_sem, ↓reduceIte, h45, h46, h47]
 have hp15 : 2 ^ s <= 2 ^ 15 := Nat.pow_le_pow_right (by omega) hs
 refine Qb (fun hg => ?_) (fun hg => ?_)
 ·have hi' : i < (dig x).length := by omega
  have hxi := Qag hxl hi'
  rw [List.drop_eq_getElem_cons hi', Qha] at hd
  generalize hxx : (dig x)[i] = xi at *
  obtain ⟨z, hz⟩ : ∃ z, (dig x).length - i = z + 1 := ⟨(dig x).length - i - 1, by omega⟩
  have hlt : i < (done ++ c :: List.replicate (z + 1) 0).length := by simp; omega
  have hget := Qoo hdl hlt
  have hsp := Qvn (x := xi) (show s <= 16 by omega) hc
  have hcl := Qta (show s <= 16 by omega) hxi
  have hl := Qaev hs hxi
  simp +decide (disch := first | omega | rfl | (simp +decide only [go_sem, ↓reduceIte, h5, h6, h7, h45, h46, h47, hxx, hz, hget, Qsh, Q1n, hsp.2, Qbv] <;> rfl) | fail) only [go_sem, ↓reduceIte, h5, h6, h7, h45, h46, h47, hxx, hz, hget, Qsh, Q1n, hsp.2, Qbv]
  have hset : ∀ v u, (done ++ v :: List.replicate (z + 1) 0).set (i + 1) u = (done ++ [v]) ++ u :: List.replicate z 0 := fun v u => by
   rw [List.append_cons, List.replicate_succ, Qbv (by simp [hdl])]
  rw [Q09 (by simp; omega), hset, Nat.mod_eq_of_lt (by omega : xi * 2 ^ s / 65536 < 65536)]
  simp +decide (disch := first | omega | rfl | (simp +decide only [go_sem, ↓reduceIte, h5, h6, h7, h45, h46, h47] <;> rfl) | fail) only [go_sem, ↓reduceIte, h5, h6, h7, h45, h46, h47]
  refine Qbu (m := (dig x).length - (i + 1)) (by omega) ⟨i + 1, xi * 2 ^ s / 65536, done ++ [xi * 2 ^ s % 65536 + c], rfl, by omega, hcl, by simp [hdl], (List.append_cons ..).symm.trans hd, ?_⟩
  simp +decide (disch := first | omega | rfl | (simp +decide only [go_sem, ↓reduceIte, h5, h6, h7, h45, h46, h47, true_and, and_true] <;> rfl) | fail) only [go_sem, ↓reduceIte, h5, h6, h7, h45, h46, h47, true_and, and_true]
  rw [show (dig x).length - (i + 1) = z by omega]
 ·obtain rfl : i = (dig x).length := by omega
  rw [List.drop_of_length_le (Nat.le_refl _), Qha] at hd
  have hlim := Qq0 hs (dig x) 0 hxl (Nat.pow_pos (by omega))
  have hvs := Qvm s (dig x) 0
  have hln := Qo8 s (dig x) 0
  rw [Qw, Nat.add_zero] at hvs
  rw [<- hd] at hlim hvs hln
  have hnz2 : x * 2 ^ s ≠ 0 := Nat.mul_ne_zero hne (Nat.ne_of_gt (Nat.pow_pos (by omega)))
  simp +decide (disch := first | omega | rfl | (simp +decide only [go_sem, ↓reduceIte, h7, Nat.sub_self, List.replicate_zero] <;> rfl) | fail) only [go_sem, ↓reduceIte, h7, Nat.sub_self, List.replicate_zero]
  have ht := Qzl (l := done ++ [c]) (post := []) hlim (by simp [hdl]; omega) (by simp)
  rw [List.append_nil, hvs] at ht
  refine Qqv hP ht (β := 44) (by simp +decide (disch := first | omega | rfl | (simp +decide only [go_sem, ↓reduceIte] <;> rfl) | fail) only [go_sem, ↓reduceIte]) (Qei _) (by simp) (by simp [toB, hln]) rfl ?_
  rintro r xs' _ _ ⟨rfl, rfl⟩
  simp +decide (disch := first | omega | rfl | (simp +decide only [go_sem, ↓reduceIte, Qfy] <;> rfl) | fail) only [go_sem, ↓reduceIte, Qfy]
  refine ⟨4, 44, nl (x * 2 ^ s), _, rfl, by simp +decide (disch := first | omega | rfl | (simp +decide only [go_sem, ↓reduceIte] <;> rfl) | fail) only [go_sem, ↓reduceIte], rfl, by simp +decide (disch := first | omega | rfl | (simp +decide only [go_sem, ↓reduceIte] <;> rfl) | fail) only [go_sem, ↓reduceIte]; rfl, Qei _, ?_, ?_⟩
  ·have := @Qiv (x * 2 ^ s); omega
  ·rw [<- hvs, <- List.map_take, Q4f hlim]
end Go.Proofs.YtmnkngmmfnncoaaGreat
namespace Go.Proofs.YtmnkngmmfnncoaaGreat
open Go Go.FW
set_option linter.unusedSimpArgs false
set_option linter.unusedVariables false
set_option maxRecDepth 100000
theorem Qzm {a : List Nat} {s : Nat} (ha : Qi a) (hla : a.length < 2 ^ 42) (hs : s <= 15) : Qe Tryz.prog 220 [PV.nat a, .int .i64 s] (· = PV.num (val a / 2 ^ s)) := by
 have e1 : s / 16 = 0 := Nat.div_eq_of_lt (by omega)
 have e2 : s % 16 = s := Nat.mod_eq_of_lt (by omega)
 refine Qg Qk Tryz.func220 rfl Qaan (by simp [Q5m]) fun C hP => ?_; simp only [Q5m]
 simp +decide (disch := first | omega | rfl | (simp +decide only [go_sem, ↓reduceIte, Qj9, Qka, e1, e2] <;> rfl) | fail) only [go_sem, ↓reduceIte, Qj9, Qka, e1, e2]
 refine Qb (fun hz => ?_) (fun hz => ?_)
 ·have : a = [] := List.length_eq_zero_iff.1 (by omega)
  subst this
  simp +decide (disch := first | omega | rfl | (simp +decide only [go_sem, ↓reduceIte] <;> rfl) | fail) only [go_sem, ↓reduceIte]
  exact Qc3 (Qlb (by simp [val])) rfl
 have e3 : ((a.length : Int) - ((0 : Nat) : Int)) = ((a.length : Nat) : Int) := by omega
 simp +decide (disch := first | omega | rfl | (simp +decide only [go_sem, ↓reduceIte, e3] <;> rfl) | fail) only [go_sem, ↓reduceIte, e3]
 refine Qy (by repeat (first | exact Qv | exact Qp | exact Qq | exact Qr | apply Qo | apply Qu | apply Qz | apply Q8 | apply Q9 | apply Qn)) [(8, 9), (25, 60)] [] (fun k J hp => ∃ i done, k = a.length - i /\ i <= a.length /\ done.length = i /\ done ++ Qgs s (a.drop i) = Qgs s a /\ J 25 = .int .i64 i /\
  hp = Qs hp0 22 ⟨1, 156, Qa2 (done ++ List.replicate (a.length - i) 0), false⟩) a.length ?_ ?_
 ·refine ⟨0, [], rfl, by omega, rfl, rfl, ?_⟩
  simp +decide (disch := first | omega | rfl | (simp +decide only [go_sem, ↓reduceIte, true_and, and_true, List.nil_append, Nat.sub_zero] <;> rfl) | fail) only [go_sem, ↓reduceIte, true_and, and_true, List.nil_append, Nat.sub_zero]
  simp
 rintro _ J _ ⟨i, done, rfl, hi, hdl, hd, h25, rfl⟩
 simp +decide (disch := first | omega | rfl | (simp +decide only [go_sem, ↓reduceIte, h25] <;> rfl) | fail) only [go_sem, ↓reduceIte, h25]
 refine Qb (fun hg => ?_) (fun hg => ?_)
 ·have hi' : i < a.length := by omega
  have hai := Qag ha hi'
  rw [Q1r hi'] at hd
  generalize hxx : a[i] = xi at *
  have hlen := Qpz (n := a.length - i) hdl (by omega : _ = a.length)
  simp +decide (disch := first | omega | rfl | (simp +decide only [go_sem, ↓reduceIte, h25, hxx] <;> rfl) | fail) only [go_sem, ↓reduceIte, h25, hxx]
  refine Qb (fun hq => ?_) (fun hq => ?_)
  ·have hq' : i + 1 < a.length := by omega
   have haj := Qag ha hq'
   rw [Qbd hq'] at hd
   simp +decide (disch := first | omega | rfl | (simp +decide only [go_sem, ↓reduceIte, h25, Qj8, Qs9, Qoq] <;> rfl) | fail) only [go_sem, ↓reduceIte, h25, Qj8, Qs9, Qoq]
   refine Ql (a.length - (i + 1)) (by omega) ⟨i + 1, _, rfl, by omega, by simp [hdl], (List.append_cons ..).symm.trans hd, ?_⟩
   simp +decide (disch := first | omega | rfl | (simp +decide only [go_sem, ↓reduceIte, h25, true_and, and_true, Qeh, Nat.sub_sub] <;> rfl) | fail) only [go_sem, ↓reduceIte, h25, true_and, and_true, Qeh, Nat.sub_sub]
  ·rw [Qbe (by omega), Nat.zero_mul, Nat.zero_add] at hd
   simp +decide (disch := first | omega | rfl | (simp +decide only [go_sem, ↓reduceIte, h25, Qoq] <;> rfl) | fail) only [go_sem, ↓reduceIte, h25, Qoq]
   refine Ql (a.length - (i + 1)) (by omega) ⟨i + 1, _, rfl, by omega, by simp [hdl], (List.append_cons ..).symm.trans hd, ?_⟩
   simp +decide (disch := first | omega | rfl | (simp +decide only [go_sem, ↓reduceIte, h25, true_and, and_true, Qeh, Nat.sub_sub] <;> rfl) | fail) only [go_sem, ↓reduceIte, h25, true_and, and_true, Qeh, Nat.sub_sub]
 ·obtain rfl : i = a.length := by omega
  rw [List.drop_of_length_le (Nat.le_refl _), Qgs, List.append_nil] at hd
  simp +decide (disch := first | omega | rfl | (simp +decide only [go_sem, ↓reduceIte, Nat.sub_self, List.replicate_zero, List.append_nil] <;> rfl) | fail) only [go_sem, ↓reduceIte, Nat.sub_self, List.replicate_zero, List.append_nil]
  rw [hd]
  refine Qfn hP (Qa4 (Qq1 s a) (by rw [Qkt]; exact hla)) (Qjj rfl (Qkt s a).symm) rfl fun hp' => ?_
  simp +decide (disch := first | omega | rfl | (simp +decide only [go_sem, ↓reduceIte] <;> rfl) | fail) only [go_sem, ↓reduceIte]
  exact Qc (by rw [Qvp (by omega) a ha]) rfl
theorem Qw7 {x V d q : Nat} (hd : 0 < d) (h : q = V / d) : (V % d * 65536 + x) / d + 65536 * q = (x + 65536 * V) / d /\ (V % d * 65536 + x) % d = (x + 65536 * V) % d := by
 subst h
 have e : x + 65536 * V = (V % d * 65536 + x) + d * (65536 * (V / d)) := by
  have := Nat.div_add_mod V d
  calc x + 65536 * V = x + 65536 * (d * (V / d) + V % d) := by rw [this]
   _ = _ := by rw [Nat.mul_add, Nat.mul_left_comm]; omega
 rw [e, Nat.add_mul_div_left _ _ hd, Nat.add_mul_mod_self_left]
 exact ⟨rfl, rfl⟩
theorem Qw8 {a : List Nat} {d : Nat} (ha : Qi a) (hla : a.length < 2 ^ 42) (hd : 0 < d) (hd2 : d < 65536) : Qe Tryz.prog 197 [PV.nat a, .int .u16 d] (· = .tup [PV.num (val a / d), .int .u16 (val a % d : Nat)]) := by
 refine Qg Qk Tryz.func197 rfl Qaah (by simp [Q5g]) fun C hP => ?_; simp only [Q5g]
 simp +decide (disch := first | omega | rfl | (simp +decide only [go_sem, ↓reduceIte] <;> rfl) | fail) only [go_sem, ↓reduceIte]
 refine Qy (by repeat (first | exact Qv | exact Qp | exact Qq | exact Qr | apply Qo | apply Qu | apply Qz | apply Q8 | apply Q9 | apply Qn)) [(7, 8), (15, 38)] [] (fun k J hp => ∃ qs, k <= a.length /\ qs.length = a.length - k /\ Qi qs /\ val qs = val (a.drop k) / d /\ J 7 = .int .u32 (val (a.drop k) % d : Nat) /\ J 8 = .int .i64 ((k : Int) - 1) /\
  hp = Qs hp0 11 ⟨1, 156, Qa2 (List.replicate k 0 ++ qs), false⟩) a.length ?_ ?_
 ·refine ⟨[], Nat.le_refl _, by simp, Qcg, by simp [val], ?_⟩
  simp +decide (disch := first | omega | rfl | (simp +decide only [go_sem, ↓reduceIte, true_and, and_true] <;> rfl) | fail) only [go_sem, ↓reduceIte, true_and, and_true]
  simp [val]
 rintro k J _ ⟨qs, hk, hql, hqs, hv, h7, h8, rfl⟩
 simp +decide (disch := first | omega | rfl | (simp +decide only [go_sem, ↓reduceIte, h7, h8] <;> rfl) | fail) only [go_sem, ↓reduceIte, h7, h8]
 have hr := Nat.mod_lt (val (a.drop k)) hd
 refine Qb (fun hg => ?_) (fun hg => ?_)
 ·obtain _ | n := k
  ·omega
  have hn : n < a.length := by omega
  have han := Qag ha hn
  have e : ((n + 1 : Nat) : Int) - 1 = n := by omega
  have hst := Qw7 (x := a[n]) hd hv
  rw [<- Qcc hn] at hst
  have hlt : (val (a.drop (n + 1)) % d * 65536 + a[n]) / d < 65536 := by
   rw [Nat.div_lt_iff_lt_mul hd]
   have : (val (a.drop (n + 1)) % d + 1) * 65536 <= d * 65536 := Nat.mul_le_mul_right _ hr
   omega
  generalize hxx : a[n] = xn at *
  generalize val (a.drop (n + 1)) % d = r at *
  have hlen : n < (List.replicate (n + 1) 0 ++ qs).length := by simp; omega
  simp +decide (disch := first | omega | rfl | (simp +decide only [go_sem, ↓reduceIte, h7, h8, e, hxx, Qj8, Qvl, Qx0, Qdo] <;> rfl) | fail) only [go_sem, ↓reduceIte, h7, h8, e, hxx, Qj8, Qvl, Qx0, Qdo]
  refine Ql n (by omega) ⟨(r * 65536 + xn) / d :: qs, by omega, ?_, ?_, ?_, ?_⟩
  ·simp; omega
  ·rw [Qax]; exact ⟨hlt, hqs⟩
  ·rw [val, hst.1]
  ·simp +decide (disch := first | omega | rfl | (simp +decide only [go_sem, ↓reduceIte, h7, h8, true_and, and_true, hst.2] <;> rfl) | fail) only [go_sem, ↓reduceIte, h7, h8, true_and, and_true, hst.2]
   rw [Nat.mod_eq_of_lt hlt, List.replicate_succ', List.append_assoc, List.singleton_append, Qbv (by simp)]
 ·obtain rfl : k = 0 := by omega
  rw [List.drop_zero] at hv h7
  have hlt := Nat.mod_lt (val a) hd
  simp +decide (disch := first | omega | rfl | (simp +decide only [go_sem, ↓reduceIte, h7, h8, List.replicate_zero, List.nil_append] <;> rfl) | fail) only [go_sem, ↓reduceIte, h7, h8, List.replicate_zero, List.nil_append]
  refine Qfn hP (Qa4 hqs (by omega)) (Qjj rfl (by omega)) rfl fun hp' => ?_
  simp +decide (disch := first | omega | rfl | (simp +decide only [go_sem, ↓reduceIte, h7] <;> rfl) | fail) only [go_sem, ↓reduceIte, h7]
  refine Qfe rfl rfl rfl (Qfo (by rw [hv])) (Qfo ?_)
  rw [Nat.mod_eq_of_lt (by omega)]
end Go.Proofs.YtmnkngmmfnncoaaGreat
namespace Go.Proofs.YtmnkngmmfnncoaaGreat
open Go Go.FW
set_option linter.unusedSimpArgs false
set_option linter.unusedVariables false
set_option maxRecDepth 100000
theorem Qra {x : Nat} (h : x < 65536) : Qe Tryz.prog 211 [.int .u16 x] (· = .int .i64 (Lib.bitLen x : Nat)) :=
 Qw2 (by simp [Qly]; exact ⟨rfl, by decide⟩) (fun w => Qw9 x w (by omega) (by omega)) (fun _ _ => Qx.int _ _)
theorem Qkx {x : Nat} (h : x < 65536) : Lib.bitLen x <= 16 := Lib.bitLen_le x 16 (by omega) (by omega)
theorem Qmm {x : Nat} (h : x < 65536) (h0 : x ≠ 0) : 1 <= Lib.bitLen x := by
 have := Lib.bitLen_half x h0 (by omega); omega
theorem Qxa : Lib.bitLen 0 = 0 := by decide
theorem Qzn : ∀ (n x : Nat), Lib.bitLen x = n -> x ≠ 0 -> x < 65536 -> 2 ^ n <= 2 * x /\ x < 2 ^ n := by
 intro n
 induction n with
 | zero => intro x h h0 hx; have := Qmm hx h0; omega
 | succ n ih =>
  intro x h h0 hx
  have e := Lib.bitLen_half x h0 (by omega)
  by_cases h2 : x / 2 = 0
  ·have : x = 1 := by omega
   subst this
   have : n = 0 := by rw [h] at e; simp [Qxa] at e; exact e
   subst this; simp
  ·have := ih (x / 2) (by omega) h2 (by omega)
   rw [Nat.pow_succ]; omega
theorem Qm7 {x : Nat} (h : x < 65536) : Qe Tryz.prog 198 [.int .u16 x] (· = .int .i64 (16 - Lib.bitLen x : Nat)) := by
 have := Qkx h
 refine Qg Qk Tryz.func198 rfl Qaao (by simp [Q5n]) fun C hP => ?_; simp only [Q5n]
 simp +decide (disch := first | omega | rfl | (simp +decide only [go_sem, ↓reduceIte] <;> rfl) | fail) only [go_sem, ↓reduceIte]
 refine Qa hP (Qra h) rfl rfl rfl ?_
 simp +decide (disch := first | omega | rfl | (simp +decide only [go_sem, ↓reduceIte] <;> rfl) | fail) only [go_sem, ↓reduceIte]
 exact Qc (by congr 1; omega) rfl
theorem Qtn {a : List Nat} (ha : Qi a) (hla : a.length < 2 ^ 40) : Qe Tryz.prog 172 [PV.nat a] (fun r => ∃ n : Nat, r = .int .i64 n /\ (n = 0 ↔ val a = 0)) := by
 have hd := Qah ha
 unfold nl at hd
 refine Qg Qk Tryz.func172 rfl Qaac (by simp [Q5b]) fun C hP => ?_; simp only [Q5b]
 simp +decide (disch := first | omega | rfl | (simp +decide only [go_sem, ↓reduceIte] <;> rfl) | fail) only [go_sem, ↓reduceIte]
 refine Qa hP (Qa4 ha (by omega)) rfl rfl rfl ?_
 simp +decide (disch := first | omega | rfl | (simp +decide only [go_sem, ↓reduceIte] <;> rfl) | fail) only [go_sem, ↓reduceIte]
 refine Qb (fun hz => ?_) (fun hz => ?_)
 ·simp +decide (disch := first | omega | rfl | (simp +decide only [go_sem, ↓reduceIte] <;> rfl) | fail) only [go_sem, ↓reduceIte]
  have : val a = 0 := Qbp.1 (List.length_eq_zero_iff.1 (by omega))
  exact ⟨rfl, _, Qt _, 0, rfl, by simp [this]⟩
 ·have hne : val a ≠ 0 := fun h => by rw [h, Qa1] at hz; simp at hz
  have hlast := Qpy (val a)
  have hlx := Qj (val a)
  generalize val a = x at *
  obtain ⟨k, hk⟩ : ∃ k, (dig x).length = k + 1 := ⟨(dig x).length - 1, by omega⟩
  have hlt : k < (dig x).length := by omega
  have hxk := Qag hlx hlt
  have hnz : (dig x)[k] ≠ 0 := by
   intro h; apply hlast
   rw [List.getLast?_eq_getElem?, hk, Nat.add_sub_cancel, List.getElem?_eq_getElem hlt, h]
  have e : ((k + 1 : Nat) : Int) - 1 = k := by omega
  generalize hxx : (dig x)[k] = xi at *
  have hb := Qkx hxk
  have hb1 := Qmm hxk hnz
  simp +decide (disch := first | omega | rfl | (simp +decide only [go_sem, ↓reduceIte, hk, e, hxx] <;> rfl) | fail) only [go_sem, ↓reduceIte, hk, e, hxx]
  refine Qa hP (Qra hxk) rfl rfl rfl ?_
  have e2 : (16 : Int) * (k : Int) = ((16 * k : Nat) : Int) := by omega
  simp +decide (disch := first | omega | rfl | (simp +decide only [go_sem, ↓reduceIte, e2] <;> rfl) | fail) only [go_sem, ↓reduceIte, e2]
  exact ⟨rfl, _, Qt _, 16 * k + Lib.bitLen xi, rfl, by omega⟩
theorem Qagv (i : Nat) : 2 ^ (16 * i) = 65536 ^ i := by rw [Nat.pow_mul]
theorem Qnr {a : List Nat} (ha : Qi a) (hla : a.length < 2 ^ 40) : Qe Tryz.prog 195 [PV.nat a] (· = if nl (val a) <= 4 then .tup [.int .u64 (val a), .bool true] else .tup [.int .u64 0, .bool false]) := by
 have hd := Qah ha
 unfold nl at hd
 refine Qg Qk Tryz.func195 rfl Qaab (by simp [Q5a]) fun C hP => ?_; simp only [Q5a]
 simp +decide (disch := first | omega | rfl | (simp +decide only [go_sem, ↓reduceIte] <;> rfl) | fail) only [go_sem, ↓reduceIte]
 refine Qa hP (Qa4 ha (by omega)) rfl rfl rfl ?_
 simp +decide (disch := first | omega | rfl | (simp +decide only [go_sem, ↓reduceIte] <;> rfl) | fail) only [go_sem, ↓reduceIte]
 have hlx := Qj (val a)
 have Qcl := Qw (val a)
 unfold nl
 generalize val a = x at *
 refine Qb (fun hz => ?_) (fun hz => ?_)
 ·simp +decide (disch := first | omega | rfl | (simp +decide only [go_sem, ↓reduceIte] <;> rfl) | fail) only [go_sem, ↓reduceIte]
  rw [if_neg (by omega)]
  exact Qfe rfl rfl rfl (Qt _) (Qt _)
 ·simp +decide (disch := first | omega | rfl | (simp +decide only [go_sem, ↓reduceIte] <;> rfl) | fail) only [go_sem, ↓reduceIte]
  rw [if_pos (by omega)]
  refine Qy (by repeat (first | exact Qv | exact Qp | exact Qq | exact Qr | apply Qo | apply Qu | apply Qz | apply Q8 | apply Q9 | apply Qn)) [(4, 6), (14, 26)] [] (fun k J hp => ∃ i, k = (dig x).length - i /\ i <= (dig x).length /\ J 14 = .int .i64 i /\ J 4 = .int .u64 (val ((dig x).take i)) /\ hp = hp0) (dig x).length ?_ ?_
  ·refine ⟨0, rfl, by omega, ?_⟩
   simp +decide (disch := first | omega | rfl | (simp +decide only [go_sem, ↓reduceIte, true_and, and_true, List.take_zero] <;> rfl) | fail) only [go_sem, ↓reduceIte, true_and, and_true, List.take_zero]
   simp [val]
  rintro _ J _ ⟨i, rfl, hi, h14, h4, rfl⟩
  simp +decide (disch := first | omega | rfl | (simp +decide only [go_sem, ↓reduceIte, h14, h4] <;> rfl) | fail) only [go_sem, ↓reduceIte, h14, h4]
  refine Qb (fun hg => ?_) (fun hg => ?_)
  ·have hi' : i < (dig x).length := by omega
   have hxi := Qag hlx hi'
   have hts := Qe8 hi'
   have hvt := Qdl hlx i (by omega)
   generalize hxx : (dig x)[i] = xi at *
   have e2 : (16 : Int) * (i : Int) = ((16 * i : Nat) : Int) := by omega
   have hb : xi * 2 ^ (16 * i) + 2 ^ (16 * i) <= 18446744073709551616 := by
    have h3 : 2 ^ (16 * i) <= 2 ^ 48 := Nat.pow_le_pow_right (by omega) (by omega)
    have : (xi + 1) * 2 ^ (16 * i) <= 65536 * 2 ^ 48 := Nat.mul_le_mul (by omega) h3
    rw [Nat.add_mul] at this; omega
   have hpp : 0 < 2 ^ (16 * i) := Nat.pow_pos (by omega)
   rw [<- Qagv] at hts hvt
   have hor : (val ((dig x).take i) ||| xi * 2 ^ (16 * i)) = val ((dig x).take (i + 1)) := by
    rw [Nat.or_comm, Qnm hvt, hts, Nat.mul_comm, Nat.add_comm]
   simp +decide (disch := first | omega | rfl | (simp +decide only [go_sem, ↓reduceIte, h14, h4, hxx, e2, Qsg, Qvk, hor] <;> rfl) | fail) only [go_sem, ↓reduceIte, h14, h4, hxx, e2, Qsg, Qvk, hor]
   refine Ql ((dig x).length - (i + 1)) (by omega) ⟨i + 1, rfl, by omega, ?_⟩
   simp +decide (disch := first | omega | rfl | (simp +decide only [go_sem, ↓reduceIte, h14, true_and, and_true] <;> rfl) | fail) only [go_sem, ↓reduceIte, h14, true_and, and_true]
  ·obtain rfl : i = (dig x).length := by omega
   rw [List.take_length, Qcl] at h4
   simp +decide (disch := first | omega | rfl | (simp +decide only [go_sem, ↓reduceIte, h4] <;> rfl) | fail) only [go_sem, ↓reduceIte, h4]
   exact Qfe rfl rfl rfl (Qt _) (Qt _)
end Go.Proofs.YtmnkngmmfnncoaaGreat
namespace Go.Proofs.YtmnkngmmfnncoaaGreat
open Go Go.FW
set_option linter.unusedSimpArgs false
set_option linter.unusedVariables false
set_option maxRecDepth 100000
set_option maxHeartbeats 2000000 in
theorem Q2a {u v ex : List Nat} (hu : Qi u) (hv : Qi v) (hn : 2 <= v.length) (hlt : v.length < u.length) (htop : 32768 <= v.getD (v.length - 1) 0) (hinit : val (u.drop (u.length - v.length)) < val v) (hul : u.length + ex.length < 2 ^ 42) :
  Qi4 Tryz.prog 200 [.mso B0 0 u.length, PV.nat v] 156 (Qa2 (u ++ ex)) (fun r xs' => r = PV.num (val u / val v) /\ ∃ l, xs' = Qa2 (l ++ ex) /\ Qi l /\ l.length = u.length /\ val l = val u % val v) := by
 obtain ⟨n, hnv⟩ : ∃ n, v.length = n + 2 := ⟨v.length - 2, by omega⟩
 have e1 : (u.length : Int) - (v.length : Int) = ((u.length - v.length : Nat) : Int) := by omega
 have hvt := Qx3 hnv
 have hv0 := Qdl hv n (by omega)
 have hvlt := Qe6 hv
 have hv1 := Qag hv (show n + 1 < v.length by omega)
 have hv2 := Qag hv (show n < v.length by omega)
 have hg1 : v[n + 1]'(by omega) = v.getD (n + 1) 0 := (Qbd _).symm
 have hg2 : v[n]'(by omega) = v.getD n 0 := (Qbd _).symm
 have htop' : 32768 <= v.getD (n + 1) 0 := by rw [hnv] at htop; exact htop
 rw [hg1] at hv1
 rw [hg2] at hv2
 rw [hnv] at hvlt
 have hvp : 0 < val v := by
  rw [hvt]
  have : 0 < 65536 ^ n := Nat.pow_pos (by omega)
  have : 0 < (v.getD (n + 1) 0 * 65536 + v.getD n 0) * 65536 ^ n := Nat.mul_pos (by omega) this
  omega
 refine Qj5 Qk Tryz.func200 rfl Qaa7 (by simp [Q56]) fun C hP => ?_; simp only [Q56]
 simp +decide (disch := first | omega | rfl | (simp +decide only [go_sem, ↓reduceIte, e1] <;> rfl) | fail) only [go_sem, ↓reduceIte, e1]
 refine Qvq (by repeat (first | exact Qv | exact Qp | exact Qq | exact Qr | apply Qo | apply Qu | apply Qz | apply Q8 | apply Q9 | apply Qn)) [(7, 11), (24, 105)] [7, 9, 10] (fun k J hp => ∃ l qs, k + qs.length = u.length - v.length /\ Qi l /\ l.length = u.length /\ Qi qs /\ val (l.drop k) < val v /\ val u = val l + val v * (65536 ^ k * val qs) /\ J 7 = .mp 7 0 0 /\
  hp 7 = some ⟨1, 3, [.int .i64 ((k : Int) - 1)], false⟩ /\ hp 1000000 = some ⟨1, 156, Qa2 (l ++ ex), false⟩ /\ hp 18 = some ⟨1, 156, Qa2 (List.replicate k 0 ++ qs), false⟩ /\
  hp 3 = some ⟨1, 28, [PV.nat v], false⟩ /\ hp 5 = some ⟨1, 3, [.int .i64 v.length], false⟩) (u.length - v.length) ?_ ?_
 ·refine ⟨u, [], rfl, hu, rfl, Qcg, hinit, by simp [val], ?_⟩
  simp +decide (disch := first | omega | rfl | (simp +decide only [go_sem, ↓reduceIte, true_and, and_true] <;> rfl) | fail) only [go_sem, ↓reduceIte, true_and, and_true]
  simp
 intro F hF
 have hF2 : F 2 = .rb 1000000 0 u.length := by rw [hF]; simp +decide (disch := first | omega | rfl | (simp +decide only [go_sem, ↓reduceIte] <;> rfl) | fail) only [go_sem, ↓reduceIte]
 have hF3 : F 3 = .mp 3 0 0 := by rw [hF]; simp +decide (disch := first | omega | rfl | (simp +decide only [go_sem, ↓reduceIte] <;> rfl) | fail) only [go_sem, ↓reduceIte]
 have hF5 : F 5 = .mp 5 0 0 := by rw [hF]; simp +decide (disch := first | omega | rfl | (simp +decide only [go_sem, ↓reduceIte] <;> rfl) | fail) only [go_sem, ↓reduceIte]
 have hF6 : F 6 = .ms 18 (u.length - v.length) := by rw [hF]; simp +decide (disch := first | omega | rfl | (simp +decide only [go_sem, ↓reduceIte] <;> rfl) | fail) only [go_sem, ↓reduceIte]
 have hkF : ∀ β, [7, 9, 10].contains β = true -> Qav β F = F := fun β h => by rw [hF]; exact Qgu h
 have hk9 := hkF 9 rfl
 have hk10 := hkF 10 rfl
 have hk7 := hkF 7 rfl
 have hkk : Qaj [9, 10] F = F := by rw [hF]; exact Qt5 rfl
 clear hkF hF
 rintro k J h ⟨l, qs, hsum, hl, hll, hqs, hred, Qcl, hJ7, hh7, hhB, hh18, hh3, hh5⟩
 simp +decide (disch := first | omega | rfl | (simp +decide only [go_sem, ↓reduceIte, hJ7, hh7, hhB, hh18, hh3, hh5, hF2, hF3, hF5, hF6] <;> rfl) | fail) only [go_sem, ↓reduceIte, hJ7, hh7, hhB, hh18, hh3, hh5, hF2, hF3, hF5, hF6]
 refine Qb (fun hg => ?_) (fun hg => ?_)
 ·obtain _ | j := k
  ·omega
  have e2 : ((j + 1 : Nat) : Int) - 1 = j := by omega
  have e3 : ((n + 2 : Nat) : Int) - 1 = ((n + 1 : Nat) : Int) := by omega
  have e4 : ((j + (n + 2) : Nat) : Int) - 1 = ((j + (n + 1) : Nat) : Int) := by omega
  obtain ⟨pre, w, post, hlw, hpl, hwl, hpre, hw, hpost, hpost0, hdj, hwlt, w0, hw0, hwv⟩ := Qaex (n := n) hl (by omega) (by omega) hred
  have hl2 := Qag hl (show j + (n + 2) < l.length by omega)
  have hl1 := Qag hl (show j + (n + 1) < l.length by omega)
  have hl0 := Qag hl (show j + n < l.length by omega)
  have hlel : (l ++ ex).length = u.length + ex.length := by rw [List.length_append, hll]
  have hgl2 : (l ++ ex)[j + (n + 2)]'(by omega) = l.getD (j + (n + 2)) 0 := by rw [List.getElem_append_left (by omega)]; exact (Qbd _).symm
  have hgl1 : (l ++ ex)[j + (n + 1)]'(by omega) = l.getD (j + (n + 1)) 0 := by rw [List.getElem_append_left (by omega)]; exact (Qbd _).symm
  rw [<- Qbd (by omega)] at hl2 hl1
  have htk2 : (Qa2 (l ++ ex)).take u.length = Qa2 l := by rw [<- List.map_take, <- hll, List.take_left]
  have hlw2 : l ++ ex = pre ++ (w ++ (post ++ ex)) := by rw [hlw]; simp
  generalize l.getD (j + (n + 2)) 0 = w2 at *
  generalize l.getD (j + (n + 1)) 0 = w1 at *
  simp +decide (disch := first | omega | rfl | (simp +decide only [go_sem, ↓reduceIte, hJ7, hh7, hhB, hh18, hh3, hh5, hF2, hF3, hF5, hF6, hnv, e2, e3, e4, hgl2, hgl1, hg1, Qj7, Ql3, Qi5, Qdo] <;> rfl) | fail) only [go_sem, ↓reduceIte, hJ7, hh7, hhB, hh18, hh3, hh5, hF2, hF3, hF5, hF6, hnv, e2, e3, e4, hgl2, hgl1, hg1, Qj7, Ql3, Qi5, Qdo]
  have hwl2 : w.length = n + 3 := hwl
  have hdigit := Qy8 hvt hwv hw0 (by rw [<- Qbd (show j + n < l.length by omega)] at hl0; omega) (by omega : 0 < v.getD (n + 1) 0)
  have hhi := Q4o hvt hwv hv0 hwlt (Nat.pow_pos (by omega))
  have hdm := Nat.div_add_mod (w2 * 65536 + w1) (v.getD (n + 1) 0)
  have hdlt : (w2 * 65536 + w1) / v.getD (n + 1) 0 < 131072 := by rw [Nat.div_lt_iff_lt_mul (by omega)]; omega
  have hrlt := Nat.mod_lt (w2 * 65536 + w1) (by omega : 0 < v.getD (n + 1) 0)
  rw [Nat.mul_comm] at hdm
  generalize hd0 : (w2 * 65536 + w1) / v.getD (n + 1) 0 = d0 at *
  generalize hr0 : (w2 * 65536 + w1) % v.getD (n + 1) 0 = r0 at *
  have hcomm : ∀ (h : HP) v w, Qs (Qs h 10 v) 9 w = Qs (Qs h 9 w) 10 v := fun h v w => Q1v 10 9 (by decide) h v w
  refine Q9u (fun J => J 7 = .mp 7 0 0 /\ J 52 = .int .u64 d0 /\ J 53 = .int .u64 (w2 * 65536 + w1 : Nat)) (by simp +decide (disch := first | omega | rfl | (simp +decide only [go_sem, ↓reduceIte, hJ7, true_and, and_true] <;> rfl) | fail) only [go_sem, ↓reduceIte, hJ7, true_and, and_true]) ?_
  clear hJ7
  rintro J ⟨hJ7, hJ52, hJ53⟩
  refine Q4p (by repeat (first | exact Qv | exact Qp | exact Qq | exact Qr | apply Qo | apply Qu | apply Qz | apply Q8 | apply Q9 | apply Qn)) [9, 10] (fun J2 hp2 => J2 7 = .mp 7 0 0 /\ J2 9 = .mp 9 0 0 /\ J2 10 = .mp 10 0 0 /\ hp2 = Qs (Qs h 9 ⟨1, 120, [.int .u64 d0], false⟩) 10 ⟨1, 120, [.int .u64 r0], false⟩) ?_ ?_
  ·intro F' hF'
   have hF'3 : F' 3 = .mp 3 0 0 := by rw [hF']; simp +decide (disch := first | omega | rfl | (simp +decide only [go_sem, ↓reduceIte, hF3] <;> rfl) | fail) only [go_sem, ↓reduceIte, hF3]
   have hF'5 : F' 5 = .mp 5 0 0 := by rw [hF']; simp +decide (disch := first | omega | rfl | (simp +decide only [go_sem, ↓reduceIte, hF5] <;> rfl) | fail) only [go_sem, ↓reduceIte, hF5]
   have hk9' : Qav 9 F' = F' := by rw [hF']; exact Qgu rfl
   have hk10' : Qav 10 F' = F' := by rw [hF']; exact Qgu rfl
   clear hF'
   repeat' (first | refine Qe0 ?_ ?_ | simp +decide (disch := first | omega | rfl | (simp +decide only [go_sem, ↓reduceIte, hJ7, hJ52, hJ53, hh3, hh5, hF'3, hF'5, hk9', hk10', hnv, e3, hg1, Qdo] <;> rfl) | fail) only [go_sem, ↓reduceIte, hJ7, hJ52, hJ53, hh3, hh5, hF'3, hF'5, hk9', hk10', hnv, e3, hg1, Qdo])
   all_goals refine Qsl (J := _) ?_
   all_goals simp +decide (disch := first | omega | rfl | (simp +decide only [go_sem, ↓reduceIte, hJ7, hr0, hcomm, true_and, and_true] <;> rfl) | fail) only [go_sem, ↓reduceIte, hJ7, hr0, hcomm, true_and, and_true]
  clear hJ7 hJ52 hJ53 J
  rintro J _ ⟨hJ7, hJ9, hJ10, rfl⟩
  simp +decide (disch := first | omega | rfl | (simp +decide only [go_sem, ↓reduceIte, hJ7, hJ9, hJ10, hF2, hF3, hF5, hF6, caps, List.all_cons, List.all_nil, List.cons_append, List.nil_append, true_and] <;> rfl) | fail) only [go_sem, ↓reduceIte, hJ7, hJ9, hJ10, hF2, hF3, hF5, hF6, caps, List.all_cons, List.all_nil, List.cons_append, List.nil_append, true_and]
  refine Qvq (by repeat (first | exact Qv | exact Qp | exact Qq | exact Qr | apply Qo | apply Qu | apply Qz | apply Q8 | apply Q9 | apply Qn)) [(62, 77)] [] (fun m J hp => ∃ d r, m = d /\ d * v.getD (n + 1) 0 + r = w2 * 65536 + w1 /\ val w < (d + 1) * val v /\ hp = Qs (Qs h 9 ⟨1, 120, [.int .u64 d], false⟩) 10 ⟨1, 120, [.int .u64 r], false⟩) d0 ?_ ?_
  ·exact ⟨d0, r0, rfl, hdm, hdigit, rfl⟩
  intro F1 hF1
  have hE9 : F1 9 = .mp 9 0 0 := by rw [hF1, Qcr]; simp +decide (disch := first | omega | rfl | (simp +decide only [go_sem, ↓reduceIte, hJ9] <;> rfl) | fail) only [go_sem, ↓reduceIte, hJ9]
  have hE10 : F1 10 = .mp 10 0 0 := by rw [hF1, Qcr]; simp +decide (disch := first | omega | rfl | (simp +decide only [go_sem, ↓reduceIte, hJ10] <;> rfl) | fail) only [go_sem, ↓reduceIte, hJ10]
  have hE11 : F1 11 = .fn 221 [] [.mp 9 0 0, .mp 3 0 0, .mp 5 0 0, .mp 10 0 0, .rb 1000000 0 u.length, .mp 7 0 0] := by rw [hF1, Qcr]; simp +decide (disch := first | omega | rfl | (simp +decide only [go_sem, ↓reduceIte] <;> rfl) | fail) only [go_sem, ↓reduceIte]
  have hE3 : F1 3 = .mp 3 0 0 := by rw [hF1, Qcr]; simp +decide (disch := first | omega | rfl | (simp +decide only [go_sem, ↓reduceIte, hF3] <;> rfl) | fail) only [go_sem, ↓reduceIte, hF3]
  have hE5 : F1 5 = .mp 5 0 0 := by rw [hF1, Qcr]; simp +decide (disch := first | omega | rfl | (simp +decide only [go_sem, ↓reduceIte, hF5] <;> rfl) | fail) only [go_sem, ↓reduceIte, hF5]
  rintro d J2 _ ⟨_, r, rfl, hdr, hdW, rfl⟩
  have hd17 : d < 131072 := by
   have : d * 32768 <= d * v.getD (n + 1) 0 := Nat.mul_le_mul_left _ htop'
   omega
  simp +decide (disch := first | omega | rfl | (simp +decide only [go_sem, ↓reduceIte, hE9, hE10, hE11] <;> rfl) | fail) only [go_sem, ↓reduceIte, hE9, hE10, hE11]
  refine Qw3 (by repeat (first | exact Qv | exact Qp | exact Qq | exact Qr | apply Qo | apply Qu | apply Qz | apply Q8 | apply Q9 | apply Qn)) [(62, 67)] [] (fun J hp => J 67 = .bool (decide (r < 65536 /\ (65536 <= d ∨ r * 65536 + l.getD (j + n) 0 < d * v.getD n 0))) /\ hp = Qs (Qs h 9 ⟨1, 120, [.int .u64 d], false⟩) 10 ⟨1, 120, [.int .u64 r], false⟩) ?_ ?_
  ·refine Qar (fun hr => ?_) (fun hr => ?_)
   ·simp +decide (disch := first | omega | rfl | (simp +decide only [go_sem, ↓reduceIte, hE9, hE10, hE11] <;> rfl) | fail) only [go_sem, ↓reduceIte, hE9, hE10, hE11]
    refine Q1i hP (Qt7 (dg := d) (r := r) (j := j) hv hl hn rfl (by omega) (by omega) (by omega) (by omega)) (by simp +decide (disch := first | omega | rfl | (simp +decide only [go_sem, ↓reduceIte, Qcj, hhB, hh3, hh5, hh7, e2, List.append_nil, List.nil_append, List.getElem?_cons_zero, List.drop_zero, List.take_of_length_le] <;> rfl) | fail) only [go_sem, ↓reduceIte, Qcj, hhB, hh3, hh5, hh7, e2, List.append_nil, List.nil_append, List.getElem?_cons_zero, List.drop_zero, List.take_of_length_le]; simp only [List.drop_zero, htk2]) rfl rfl ?_
    simp +decide (disch := first | omega | rfl | (simp +decide only [go_sem, ↓reduceIte, hnv] <;> rfl) | fail) only [go_sem, ↓reduceIte, hnv]
    refine Qsl ⟨?_, rfl⟩
    simp +decide (disch := first | omega | rfl | (simp +decide only [go_sem, ↓reduceIte] <;> rfl) | fail) only [go_sem, ↓reduceIte]
    rw [show j + (n + 2) - 2 = j + n by omega, show n + 2 - 2 = n by omega]
    exact congrArg PV.bool (decide_eq_decide.2 ⟨fun h => ⟨by omega, h⟩, fun h => h.2⟩)
   ·simp +decide (disch := first | omega | rfl | (simp +decide only [go_sem, ↓reduceIte, hE9, hE10, hE11] <;> rfl) | fail) only [go_sem, ↓reduceIte, hE9, hE10, hE11]
    refine Qsl ⟨?_, rfl⟩
    simp +decide (disch := first | omega | rfl | (simp +decide only [go_sem, ↓reduceIte] <;> rfl) | fail) only [go_sem, ↓reduceIte]
    simp; omega
  rintro J3 _ ⟨h67, rfl⟩
  simp (disch := decide) only [Qcr, Qle]
  simp +decide (disch := first | omega | rfl | (simp +decide only [go_sem, ↓reduceIte, h67] <;> rfl) | fail) only [go_sem, ↓reduceIte, h67]
  refine Qb (fun ht => ?_) (fun ht => ?_)
  ·obtain ⟨hr, ht⟩ := ht
   have hlt2 : val w < d * val v := by
    rcases ht with ht | ht
    ·exact Nat.lt_of_lt_of_le hwlt (Nat.mul_le_mul_right _ ht)
    ·exact Q4m hvt hwv hw0 hdr ht
   obtain _ | d := d
   ·omega
   have e5 : ((d + 1 : Nat) : Int) - 1 = (d : Nat) := by omega
   simp +decide (disch := first | omega | rfl | (simp +decide only [go_sem, ↓reduceIte, hE9, hE10, hE3, hE5, hh3, hh5, hnv, e3, e5, hg1, hcomm] <;> rfl) | fail) only [go_sem, ↓reduceIte, hE9, hE10, hE3, hE5, hh3, hh5, hnv, e3, e5, hg1, hcomm]
   refine Ql d (by omega) ⟨d, r + v.getD (n + 1) 0, rfl, ?_, hlt2, rfl⟩
   rw [Nat.add_mul] at hdr; omega
  have hd65 : d < 65536 := by
   apply Decidable.byContradiction
   intro hge
   apply ht
   refine ⟨?_, .inl (by omega)⟩
   have : 65536 * v.getD (n + 1) 0 <= d * v.getD (n + 1) 0 := Nat.mul_le_mul_right _ (by omega)
   omega
  have htest : ¬ r * 65536 + l.getD (j + n) 0 < d * v.getD n 0 := by
   intro hlt3
   by_cases hr : r < 65536
   ·exact ht ⟨hr, .inr hlt3⟩
   ·have := Qev hd65 hv2
    omega
  have e5 : j + (n + 2) + 1 - j = n + 3 := by omega
  subst hF1
  simp (disch := decide) only [Qcr, hkk, Qle]
  simp +decide (disch := first | omega | rfl | (simp +decide only [go_sem, ↓reduceIte, hJ7, hJ9, hJ10, hF2, hF3, hF5, hF6, hh3, hh5, hh7, hhB, e2, hnv, e5] <;> rfl) | fail) only [go_sem, ↓reduceIte, hJ7, hJ9, hJ10, hF2, hF3, hF5, hF6, hh3, hh5, hh7, hhB, e2, hnv, e5]
  have hsq := Qvj w v d 0 0 hw (by omega) (by omega)
  have hcar := Qq2 w v d 0 0 (by omega) (by omega) hd65 hv
  have hsl := Qqz w v d 0 0
  have hsln := Qo7 w v d 0 0
  have hwB := Qe6 hw
  rw [hwl] at hsq hwB
  refine Qqv hP (Qt6 (pre := pre) (w := w) (post := post ++ ex) (j := j) (m := n + 3) (q := d) hw hv hd65 hpl hwl (by omega) (by rw [<- hlw2]; omega)) (β := 1000000) (by simp +decide (disch := first | omega | rfl | (simp +decide only [go_sem, ↓reduceIte, hhB, hlw2] <;> rfl) | fail) only [go_sem, ↓reduceIte, hhB, hlw2]) (Qei _) (by simp; omega) (by simp [toB, B0]) rfl ?_
  rintro _ _ _ _ ⟨rfl, rfl⟩
  generalize Qcq w v d 0 0 = sq at *
  obtain ⟨⟨hsq, hb1⟩, hcar⟩ := And.intro hsq hcar
  have hSB := Qe6 hsl
  rw [hsln, hwl] at hSB
  have hpll : pre.length + (w.length + post.length) = u.length := by rw [<- hll, hlw]; simp
  have hs18 : j < (List.replicate (j + 1) 0 ++ qs).length := by simp; omega
  have hvl2 : val l = val pre + 65536 ^ j * val w := by
   rw [hlw, Qby, Qby, hpost0, hpl, Nat.mul_zero, Nat.add_zero]
  simp +decide (disch := first | omega | rfl | (simp +decide only [go_sem, ↓reduceIte, Qfy, hJ7, hJ9, hJ10, hF2, hF3, hF5, hF6] <;> rfl) | fail) only [go_sem, ↓reduceIte, Qfy, hJ7, hJ9, hJ10, hF2, hF3, hF5, hF6]
  refine Qb (fun hb => ?_) (fun hb => ?_)
  ·have hb2 : sq.2.2 = 1 := by omega
   rw [hcar, hb2] at hsq
   obtain _ | d := d
   ·omega
   have heV := Q4n hvt hwv hv0 (by omega) hd65 hdr htest
   obtain ⟨k, hk⟩ := Qvi sq.1 v 0 (by omega)
   have hrl := Qqy sq.1 v 0
   have hrln := Qo6 sq.1 v 0
   rw [hsln, hwl] at hk hrln
   have hrB := Qe6 hrl
   rw [hrln] at hrB
   obtain ⟨hR1, hR2⟩ := Q9v (B := 65536 ^ (n + 3)) (S := val sq.1) (e := d) (by omega) hSB heV (by omega) hrB hwB
   have e6 : ((d + 1 : Nat) : Int) - 1 = (d : Nat) := by omega
   simp +decide (disch := first | omega | rfl | (simp +decide only [go_sem, ↓reduceIte, hJ7, hJ9, hJ10, hF2, hF3, hF5, hF6, hh3, hh5, hh7, hhB, e2, e6, hnv, e5] <;> rfl) | fail) only [go_sem, ↓reduceIte, hJ7, hJ9, hJ10, hF2, hF3, hF5, hF6, hh3, hh5, hh7, hhB, e2, e6, hnv, e5]
   refine Qqv hP (Qv6 (pre := pre) (w := sq.1) (post := post ++ ex) (j := j) (m := n + 3) hsl hv hpl (by omega) (by omega) (by simp; omega)) (β := 1000000) (by simp +decide (disch := first | omega | rfl | (simp +decide only [go_sem, ↓reduceIte] <;> rfl) | fail) only [go_sem, ↓reduceIte]) (Qei _) (by simp; omega) (by simp [toB, B0]) rfl ?_
   rintro _ _ _ _ ⟨rfl, rfl⟩
   have hback := Qtb (q := d) (R := Qfp sq.1 v 0) hpl hpost0 Qcl hvl2 hR2
   simp +decide (disch := first | omega | rfl | (simp +decide only [go_sem, ↓reduceIte, Qfy, hJ7, hJ9, hJ10, hF2, hF3, hF5, hF6, hh3, hh5, hh7, hhB, hh18, e2, e6, hnv, e5, Qos, Nat.mod_eq_of_lt (by omega : d < 65536), hk7] <;> rfl) | fail) only [go_sem, ↓reduceIte, Qfy, hJ7, hJ9, hJ10, hF2, hF3, hF5, hF6, hh3, hh5, hh7, hhB, hh18, e2, e6, hnv, e5, Qos, Nat.mod_eq_of_lt (by omega : d < 65536), hk7]
   refine Ql j (by omega) ⟨pre ++ (Qfp sq.1 v 0 ++ post), d :: qs, by simp; omega, ?_, ?_, ?_, ?_, hback.2, ?_⟩
   ·rw [Qbk, Qbk]; exact ⟨hpre, hrl, hpost⟩
   ·simp; omega
   ·rw [Qax]; exact ⟨by omega, hqs⟩
   ·rw [hback.1]; exact hR1
   ·simp +decide (disch := first | omega | rfl | (simp +decide only [go_sem, ↓reduceIte, hh3, hh5, true_and, and_true, hnv, List.append_assoc] <;> rfl) | fail) only [go_sem, ↓reduceIte, hh3, hh5, true_and, and_true, hnv, List.append_assoc]
  ·have hb2 : sq.2.2 = 0 := by omega
   rw [hcar, hb2] at hsq
   obtain ⟨hR1, hR2⟩ := Qaez (S := val sq.1) (d := d) (by omega) hdW
   have hback := Qtb (q := d) (R := sq.1) hpl hpost0 Qcl hvl2 hR2
   simp +decide (disch := first | omega | rfl | (simp +decide only [go_sem, ↓reduceIte, Qfy, hJ7, hJ9, hJ10, hF2, hF3, hF5, hF6, hh3, hh5, hh7, hhB, hh18, e2, hnv, e5, Qos, Nat.mod_eq_of_lt hd65, hk7] <;> rfl) | fail) only [go_sem, ↓reduceIte, Qfy, hJ7, hJ9, hJ10, hF2, hF3, hF5, hF6, hh3, hh5, hh7, hhB, hh18, e2, hnv, e5, Qos, Nat.mod_eq_of_lt hd65, hk7]
   refine Ql j (by omega) ⟨pre ++ (sq.1 ++ post), d :: qs, by simp; omega, ?_, ?_, ?_, ?_, hback.2, ?_⟩
   ·rw [Qbk, Qbk]; exact ⟨hpre, hsl, hpost⟩
   ·simp; omega
   ·rw [Qax]; exact ⟨hd65, hqs⟩
   ·rw [hback.1]; exact hR1
   ·simp +decide (disch := first | omega | rfl | (simp +decide only [go_sem, ↓reduceIte, hh3, hh5, true_and, and_true, hnv, List.append_assoc] <;> rfl) | fail) only [go_sem, ↓reduceIte, hh3, hh5, true_and, and_true, hnv, List.append_assoc]
 ·obtain rfl : k = 0 := by omega
  rw [List.drop_zero] at hred
  rw [Nat.pow_zero, Nat.one_mul] at Qcl
  have hdiv : val u / val v = val qs := by
   rw [Qcl, Nat.add_mul_div_left _ _ hvp, Nat.div_eq_of_lt hred, Nat.zero_add]
  have hmod : val u % val v = val l := by
   rw [Qcl, Nat.add_mul_mod_self_left, Nat.mod_eq_of_lt hred]
  simp +decide (disch := first | omega | rfl | (simp +decide only [go_sem, ↓reduceIte, hJ7, hh7, hhB, hh18, hh3, hh5, hF2, hF3, hF5, hF6, List.replicate_zero, List.nil_append] <;> rfl) | fail) only [go_sem, ↓reduceIte, hJ7, hh7, hhB, hh18, hh3, hh5, hF2, hF3, hF5, hF6, List.replicate_zero, List.nil_append]
  refine Qbz hP (Qa4 hqs (by omega)) (Qjj (ty := 156) (fz := false) (by simp +decide (disch := first | omega | rfl | (simp +decide only [go_sem, ↓reduceIte, hh18, List.replicate_zero, List.nil_append] <;> rfl) | fail) only [go_sem, ↓reduceIte, hh18, List.replicate_zero, List.nil_append]) (by omega)) rfl ?_
  simp +decide (disch := first | omega | rfl | (simp +decide only [go_sem, ↓reduceIte] <;> rfl) | fail) only [go_sem, ↓reduceIte]
  refine Q1l (xs' := Qa2 (l ++ ex)) (p := PV.num (val qs)) ?_ (Qei _) (by simp; omega) (by simp +decide (disch := first | omega | rfl | (simp +decide only [go_sem, ↓reduceIte] <;> rfl) | fail) only [go_sem, ↓reduceIte]) rfl ⟨by rw [hdiv], l, rfl, hl, hll, hmod.symm⟩
  show FW.Qan h [18] 1000000 = _
  simp only [FW.Qan]
  rw [if_neg (by decide), hhB]
end Go.Proofs.YtmnkngmmfnncoaaGreat
namespace Go.Proofs.YtmnkngmmfnncoaaGreat
open Go Go.FW
set_option linter.unusedSimpArgs false
set_option linter.unusedVariables false
set_option maxRecDepth 100000
theorem Qzo {a : List Nat} {s : Nat} (ha : Qi a) (hla : a.length < 2 ^ 40) (hs : s <= 15) : Qe Tryz.prog 199 [PV.nat a, .int .i64 (-(s : Int))] (· = PV.num (val a / 2 ^ s)) := by
 have hda := Qah ha
 unfold nl at hda
 by_cases h0 : val a = 0
 ·refine Qg Qk Tryz.func199 rfl Qst (by simp [Qp6]) fun C hP => ?_; simp only [Qp6]
  simp +decide (disch := first | omega | rfl | (simp +decide only [go_sem, ↓reduceIte] <;> rfl) | fail) only [go_sem, ↓reduceIte]
  refine Qa hP (Qa4 ha (by omega)) rfl rfl rfl ?_
  simp +decide (disch := first | omega | rfl | (simp +decide only [go_sem, ↓reduceIte] <;> rfl) | fail) only [go_sem, ↓reduceIte]
  refine Q6 (fun hz => by omega) (fun hz => ?_)
  simp +decide (disch := first | omega | rfl | (simp +decide only [go_sem, ↓reduceIte] <;> rfl) | fail) only [go_sem, ↓reduceIte]
  refine Q6 (fun hz => by omega) (fun hz => ?_)
  simp +decide (disch := first | omega | rfl | (simp +decide only [go_sem, ↓reduceIte] <;> rfl) | fail) only [go_sem, ↓reduceIte]
  refine Qb (fun hz => ?_) (fun hz => absurd (by rw [h0, Qa1]; rfl) hz)
  simp +decide (disch := first | omega | rfl | (simp +decide only [go_sem, ↓reduceIte] <;> rfl) | fail) only [go_sem, ↓reduceIte]
  exact Qc3 (Qlb (by simp [h0])) rfl
 by_cases hs0 : s = 0
 ·subst hs0
  have := (Qkw (s := 0) ha hla (by omega) h0).toV
  rw [Nat.pow_zero, Nat.mul_one] at this
  rw [Nat.pow_zero, Nat.div_one]
  exact this
 have hnz : (dig (val a)).length ≠ 0 := fun h => h0 (Qbp.1 (Qcp h))
 refine Qg Qk Tryz.func199 rfl Qst (by simp [Qp6]) fun C hP => ?_; simp only [Qp6]
 simp +decide (disch := first | omega | rfl | (simp +decide only [go_sem, ↓reduceIte] <;> rfl) | fail) only [go_sem, ↓reduceIte]
 refine Qa hP (Qa4 ha (by omega)) rfl rfl rfl ?_
 simp +decide (disch := first | omega | rfl | (simp +decide only [go_sem, ↓reduceIte] <;> rfl) | fail) only [go_sem, ↓reduceIte]
 refine Q6 (fun hz => by omega) (fun hz => ?_)
 simp +decide (disch := first | omega | rfl | (simp +decide only [go_sem, ↓reduceIte] <;> rfl) | fail) only [go_sem, ↓reduceIte]
 refine Q6 (fun hz => by omega) (fun hz => ?_)
 simp +decide (disch := first | omega | rfl | (simp +decide only [go_sem, ↓reduceIte] <;> rfl) | fail) only [go_sem, ↓reduceIte]
 refine Qb (fun hz => by omega) (fun hz => ?_)
 simp +decide (disch := first | omega | rfl | (simp +decide only [go_sem, ↓reduceIte] <;> rfl) | fail) only [go_sem, ↓reduceIte]
 refine Qb (fun hz => ?_) (fun hz => by omega)
 have e : (0 : Int) - -(s : Int) = (s : Nat) := by omega
 simp +decide (disch := first | omega | rfl | (simp +decide only [go_sem, ↓reduceIte, e] <;> rfl) | fail) only [go_sem, ↓reduceIte, e]
 refine Qa hP (Qzm (Qj (val a)) (by omega) hs) rfl rfl rfl ?_
 simp +decide (disch := first | omega | rfl | (simp +decide only [go_sem, ↓reduceIte, Qw] <;> rfl) | fail) only [go_sem, ↓reduceIte, Qw]
 exact Qc rfl rfl
theorem Qzp {x d : Nat} (hx : (dig x).length < 2 ^ 42) (hd : 0 < d) (hd2 : d < 65536) : Qe Tryz.prog 197 [PV.num x, .int .u16 d] (· = .tup [PV.num (x / d), .int .u16 (x % d : Nat)]) := by
 have := Qw8 (Qj x) hx hd hd2
 rwa [Qw] at this
theorem Qky {a b : List Nat} (ha : Qi a) (hb : Qi b) (hla : a.length < 2 ^ 38) (hlb : b.length < 2 ^ 38) : Qe Tryz.prog 145 [PV.nat a, PV.nat b]
  (· = if val b = 0 then .tup [PV.num 0, PV.num 0, .int .i64 3] else .tup [PV.num (val a / val b), PV.num (val a % val b), .int .i64 0]) := by
 have hda := Qah ha
 have hdb := Qah hb
 unfold nl at hda hdb
 refine Qg Qk Tryz.func145 rfl Qaai (by simp [Q5h]) fun C hP => ?_; simp only [Q5h]
 simp +decide (disch := first | omega | rfl | (simp +decide only [go_sem, ↓reduceIte] <;> rfl) | fail) only [go_sem, ↓reduceIte]
 refine Qa hP (Qa4 ha (by omega)) rfl rfl rfl ?_
 simp +decide (disch := first | omega | rfl | (simp +decide only [go_sem, ↓reduceIte] <;> rfl) | fail) only [go_sem, ↓reduceIte]
 refine Qa hP (Qa4 hb (by omega)) rfl rfl rfl ?_
 simp +decide (disch := first | omega | rfl | (simp +decide only [go_sem, ↓reduceIte] <;> rfl) | fail) only [go_sem, ↓reduceIte]
 have hxl := Qj (val a)
 have hyl := Qj (val b)
 have hxv := Qw (val a)
 have hyv := Qw (val b)
 have hylast := Qpy (val b)
 generalize val a = x at *
 generalize val b = y at *
 refine Qb (fun hz => ?_) (fun hz => ?_)
 ·have hy0 : y = 0 := Qbp.1 (Qcp (by omega))
  simp +decide (disch := first | omega | rfl | (simp +decide only [go_sem, ↓reduceIte] <;> rfl) | fail) only [go_sem, ↓reduceIte]
  rw [if_pos hy0]
  exact Qnl rfl rfl rfl rfl Qg8 Qg8 (Qt _)
 have hy0 : y ≠ 0 := fun h => by rw [h, Qa1] at hz; simp at hz
 rw [if_neg hy0]
 simp +decide (disch := first | omega | rfl | (simp +decide only [go_sem, ↓reduceIte] <;> rfl) | fail) only [go_sem, ↓reduceIte]
 refine Qa hP (Qml hxl hyl (by omega) (by omega)) rfl rfl rfl ?_
 simp +decide (disch := first | omega | rfl | (simp +decide only [go_sem, ↓reduceIte, hxv, hyv] <;> rfl) | fail) only [go_sem, ↓reduceIte, hxv, hyv]
 refine Qb (fun hc => ?_) (fun hc => ?_)
 ·have hlt : x < y := by
   unfold Qdf at hc; split at hc
   ·assumption
   ·split at hc <;> omega
  simp +decide (disch := first | omega | rfl | (simp +decide only [go_sem, ↓reduceIte] <;> rfl) | fail) only [go_sem, ↓reduceIte]
  refine Qa hP (Qid hxl (by omega)) rfl rfl rfl ?_
  simp +decide (disch := first | omega | rfl | (simp +decide only [go_sem, ↓reduceIte, hxv] <;> rfl) | fail) only [go_sem, ↓reduceIte, hxv]
  exact Qnl rfl rfl rfl rfl (Qlb (Nat.div_eq_of_lt hlt)) (Qfo (by rw [Nat.mod_eq_of_lt hlt])) (Qt _)
 have hge : y <= x := by
  unfold Qdf at hc; split at hc <;> omega
 simp +decide (disch := first | omega | rfl | (simp +decide only [go_sem, ↓reduceIte] <;> rfl) | fail) only [go_sem, ↓reduceIte]
 refine Qb (fun h1 => ?_) (fun h1 => ?_)
 ·obtain ⟨d, hd⟩ : ∃ d, dig y = [d] := by
   match h : dig y, h1 with
   | [d], _ => exact ⟨d, rfl⟩
   | [], h1 => simp at h1
   | _ :: _ :: _, h1 => simp at h1; omega
  have hyd : y = d := by rw [<- hyv, hd]; simp [val]
  have hd1 : d < 65536 := by rw [hd] at hyl; exact hyl d (by simp)
  simp +decide (disch := first | omega | rfl | (simp +decide only [go_sem, ↓reduceIte, hd, List.map_cons, List.map_nil, List.length_cons, List.length_nil] <;> rfl) | fail) only [go_sem, ↓reduceIte, hd, List.map_cons, List.map_nil, List.length_cons, List.length_nil]
  refine Qa hP (Qzp (x := x) (d := d) (by omega) (by omega) hd1) (by rw [PV.num]; rfl) rfl rfl ?_
  have hm : x % d < 18446744073709551616 := by have := Nat.mod_lt x (show 0 < d by omega); omega
  simp +decide (disch := first | omega | rfl | (simp +decide only [go_sem, ↓reduceIte] <;> rfl) | fail) only [go_sem, ↓reduceIte]
  refine Qa hP (Qli hm) rfl rfl rfl ?_
  simp +decide (disch := first | omega | rfl | (simp +decide only [go_sem, ↓reduceIte] <;> rfl) | fail) only [go_sem, ↓reduceIte]
  rw [hyd]
  exact Qnl rfl rfl rfl rfl (Qt _) (Qt _) (Qt _)
 obtain ⟨n, hn⟩ : ∃ n, (dig y).length = n + 2 := ⟨(dig y).length - 2, by omega⟩
 obtain ⟨m, hm⟩ : ∃ m, (dig x).length = m + 2 := by
  have := Qbo hge
  unfold nl at this
  exact ⟨(dig x).length - 2, by omega⟩
 have e1 : ((n + 2 : Nat) : Int) - 1 = ((n + 1 : Nat) : Int) := by omega
 have hlast : (dig y)[n + 1]'(by omega) ≠ 0 := by
  intro h; apply hylast
  have : (dig y).getLast? = some ((dig y)[n + 1]'(by omega)) := by
   rw [List.getLast?_eq_getElem?, show (dig y).length - 1 = n + 1 by omega]; exact List.getElem?_eq_getElem _
  rw [this, h]
 have hy1 := Qag hyl (show n + 1 < (dig y).length by omega)
 have hdyv : val (dig y) = y := Qw y
 generalize hyi : (dig y)[n + 1]'(by omega) = yi at *
 have hbl := Qkx hy1
 have hbp := Qmm hy1 hlast
 obtain ⟨htp, htp2⟩ := Qzn _ yi rfl hlast hy1
 obtain ⟨s, hs, hs15⟩ : ∃ s, 16 - Lib.bitLen yi = s /\ s <= 15 := ⟨_, rfl, by omega⟩
 simp +decide (disch := first | omega | rfl | (simp +decide only [go_sem, ↓reduceIte, hn, e1, hyi] <;> rfl) | fail) only [go_sem, ↓reduceIte, hn, e1, hyi]
 refine Qa hP (Qm7 hy1) rfl rfl rfl ?_
 simp +decide (disch := first | omega | rfl | (simp +decide only [go_sem, ↓reduceIte, hs] <;> rfl) | fail) only [go_sem, ↓reduceIte, hs]
 have hso := Qkw (a := dig x) (s := s) hxl (by omega) hs15 (by rw [hxv]; omega)
 refine Qaet hP hso rfl rfl rfl (by decide) ?_
 rintro _ _ rfl
 rw [hxv]
 have hDl : (dig (x * 2 ^ s)).length <= m + 3 := by
  have h1 := Qe7 x (2 ^ s)
  have h2 : nl (2 ^ s) <= 1 := Qfk.2 (by have : 2 ^ s <= 2 ^ 15 := Nat.pow_le_pow_right (by omega) hs15; omega)
  unfold nl at h1 h2; omega
 have hDl2 : m + 2 <= (dig (x * 2 ^ s)).length := by
  have := Qbo (show x <= x * 2 ^ s from Nat.le_mul_of_pos_right _ (Nat.pow_pos (by omega)))
  unfold nl at this; omega
 simp +decide (disch := first | omega | rfl | (simp +decide only [go_sem, ↓reduceIte, hm] <;> rfl) | fail) only [go_sem, ↓reduceIte, hm]
 rw [Ql1 (ys := Qa2 [0, 0]) (xs := Qa2 (dig (x * 2 ^ s))) (by simp +decide (disch := first | omega | rfl | (simp +decide only [go_sem, ↓reduceIte, Qdx] <;> rfl) | fail) only [go_sem, ↓reduceIte, Qdx]; rfl) (by simp +decide (disch := first | omega | rfl | (simp +decide only [go_sem, ↓reduceIte] <;> rfl) | fail) only [go_sem, ↓reduceIte]) (by omega) (by simp) (by simp; omega) (by simp; omega)]
 rw [List.take_of_length_le (by simp), <- List.map_append]
 simp +decide (disch := first | omega | rfl | (simp +decide only [go_sem, ↓reduceIte, hm, List.length_cons, List.length_nil] <;> rfl) | fail) only [go_sem, ↓reduceIte, hm, List.length_cons, List.length_nil]
 have hsoy := (Qkw (a := dig y) (s := s) hyl (by omega) hs15 (by rw [hyv]; omega)).toV
 rw [hyv] at hsoy
 refine Qa hP hsoy rfl rfl rfl ?_
 obtain ⟨g1, g2⟩ := Q1y hs15 (by rw [show 16 - s = Lib.bitLen yi by omega]; exact htp) (by rw [show 16 - s = Lib.bitLen yi by omega]; exact htp2)
 obtain ⟨hYl, hYt, hYge⟩ := Qw4 hn hyi g1 g2
 have hnm : n <= m := by have := Qbo hge; unfold nl at this; omega
 obtain ⟨u, ex, hu1, hu2, hu3, hu4, hu5, hu6⟩ := Qw5 (s := s) hm hs15 hnm hYge
 have hdm1 : x * 2 ^ s / (y * 2 ^ s) = x / y := Nat.mul_div_mul_right _ _ (Nat.pow_pos (by omega))
 have hdm2 : x * 2 ^ s % (y * 2 ^ s) = x % y * 2 ^ s := Nat.mul_mod_mul_right _ _ _
 rw [hu1]
 simp +decide (disch := first | omega | rfl | (simp +decide only [go_sem, ↓reduceIte] <;> rfl) | fail) only [go_sem, ↓reduceIte]
 have hlg := Q2a (u := u) (v := dig (y * 2 ^ s)) (ex := ex) hu3 (Qj _) (by omega) (by omega) (by rw [hYl]; exact hYt) (by rw [hYl, hu2, Qw]; exact hu6) (by omega)
 rw [hu2, hu4, Qw, hdm1, hdm2] at hlg
 refine Qqv hP hlg (β := 52) (by simp +decide (disch := first | omega | rfl | (simp +decide only [go_sem, ↓reduceIte] <;> rfl) | fail) only [go_sem, ↓reduceIte]) (Qei _) (by simp; omega) (by simp [toB]) rfl ?_
 rintro _ _ _ _ ⟨rfl, l, rfl, hl1, hl2, hl3⟩
 have e5 : IntKind.i64.wrap (0 - (s : Int)) = -(s : Int) := by rw [Qgc (by omega) (by omega)]; omega
 have htk : (Qa2 (l ++ ex)).take (m + 2 + 1) = Qa2 l := by rw [<- List.map_take, show m + 2 + 1 = l.length by omega, List.take_left]
 simp +decide (disch := first | omega | rfl | (simp +decide only [go_sem, ↓reduceIte, Qfy] <;> rfl) | fail) only [go_sem, ↓reduceIte, Qfy]
 refine Qbz hP (Qa4 hl1 (by omega)) (by simp [Q4, Qa6, isB, Qs, <- List.map_append, htk]) rfl ?_
 simp +decide (disch := first | omega | rfl | (simp +decide only [go_sem, ↓reduceIte, e5] <;> rfl) | fail) only [go_sem, ↓reduceIte, e5]
 rw [hl3]
 have hsb := Qzo (a := dig (x % y * 2 ^ s)) (s := s) (Qj _) (by have := Qbo (show x % y * 2 ^ s <= x * 2 ^ s from Nat.mul_le_mul_right _ (Nat.mod_le _ _)); unfold nl at this; omega) hs15
 rw [Qw, Nat.mul_div_cancel _ (Nat.pow_pos (by omega))] at hsb
 refine Qa hP hsb rfl rfl rfl ?_
 simp +decide (disch := first | omega | rfl | (simp +decide only [go_sem, ↓reduceIte] <;> rfl) | fail) only [go_sem, ↓reduceIte]
 exact Qnl rfl rfl rfl rfl (Qt _) (Qt _) (Qt _)
end Go.Proofs.YtmnkngmmfnncoaaGreat
namespace Go.Proofs.YtmnkngmmfnncoaaGreat
open Go Go.FW
set_option linter.unusedSimpArgs false
set_option linter.unusedVariables false
set_option maxRecDepth 100000
theorem Q58 {a b : List Nat} (ha : Qi a) (hb : Qi b) (hla : a.length < 2 ^ 38) (hlb : b.length < 2 ^ 38) : Qe Tryz.prog 144 [PV.nat a, PV.nat b] (· = PV.num (Nat.gcd (val a) (val b))) := by
 have hda := Qah ha
 have hdb := Qah hb
 unfold nl at hda hdb
 refine Qg Qk Tryz.func144 rfl Qaam (by simp [Q5l]) fun C hP => ?_; simp only [Q5l]
 simp +decide (disch := first | omega | rfl | (simp +decide only [go_sem, ↓reduceIte] <;> rfl) | fail) only [go_sem, ↓reduceIte]
 refine Qa hP (Qid ha (by omega)) rfl rfl rfl ?_
 simp +decide (disch := first | omega | rfl | (simp +decide only [go_sem, ↓reduceIte] <;> rfl) | fail) only [go_sem, ↓reduceIte]
 refine Qa hP (Qid hb (by omega)) rfl rfl rfl ?_
 simp +decide (disch := first | omega | rfl | (simp +decide only [go_sem, ↓reduceIte] <;> rfl) | fail) only [go_sem, ↓reduceIte]
 refine Qy (by repeat (first | exact Qv | exact Qp | exact Qq | exact Qr | apply Qo | apply Qu | apply Qz | apply Q8 | apply Q9 | apply Qn)) [(0, 1), (4, 11), (16, 49)] [] (fun m J hp => ∃ x y, m = y /\ Nat.gcd x y = Nat.gcd (val a) (val b) /\ (dig x).length < 2 ^ 38 /\ (dig y).length < 2 ^ 38 /\ J 0 = PV.num x /\ J 1 = PV.num y /\ hp = hp0) (val b) ?_ ?_
 ·refine ⟨val a, val b, rfl, rfl, by omega, by omega, ?_⟩
  simp +decide (disch := first | omega | rfl | (simp +decide only [go_sem, ↓reduceIte, true_and, and_true] <;> rfl) | fail) only [go_sem, ↓reduceIte, true_and, and_true]
 rintro y J _ ⟨x, _, rfl, hg, hx, hy, h0, h1, rfl⟩
 generalize Nat.gcd (val a) (val b) = g at *
 simp +decide (disch := first | omega | rfl | (simp +decide only [go_sem, ↓reduceIte, h0, h1] <;> rfl) | fail) only [go_sem, ↓reduceIte, h0, h1]
 refine Qb (fun hc => ?_) (fun hc => ?_)
 ·have hy0 : y ≠ 0 := fun h => by rw [h, Qa1] at hc; simp at hc
  have hmod : (dig (x % y)).length < 2 ^ 38 := by
   have := Qbo (Nat.le_of_lt (Nat.mod_lt x (Nat.pos_of_ne_zero hy0))); unfold nl at this; omega
  simp +decide (disch := first | omega | rfl | (simp +decide only [go_sem, ↓reduceIte, h0, h1] <;> rfl) | fail) only [go_sem, ↓reduceIte, h0, h1]
  refine Qa hP (Qnr (Qj x) (by omega)) rfl rfl rfl ?_
  simp +decide (disch := first | omega | rfl | (simp +decide only [go_sem, ↓reduceIte, h0, h1] <;> rfl) | fail) only [go_sem, ↓reduceIte, h0, h1]
  rw [Qw]
  by_cases hs1 : nl x <= 4
  ·have hxs := Qj4.1 hs1
   rw [if_pos hs1]
   simp +decide (disch := first | omega | rfl | (simp +decide only [go_sem, ↓reduceIte, h0, h1] <;> rfl) | fail) only [go_sem, ↓reduceIte, h0, h1]
   refine Qa hP (Qnr (Qj y) (by omega)) rfl rfl rfl ?_
   rw [Qw]
   by_cases hs2 : nl y <= 4
   ·have hys := Qj4.1 hs2
    rw [if_pos hs2]
    simp +decide (disch := first | omega | rfl | (simp +decide only [go_sem, ↓reduceIte, h0, h1] <;> rfl) | fail) only [go_sem, ↓reduceIte, h0, h1]
    refine Qy (by repeat (first | exact Qv | exact Qp | exact Qq | exact Qr | apply Qo | apply Qu | apply Qz | apply Q8 | apply Q9 | apply Qn)) [(5, 5), (7, 7), (33, 38)] [] (fun m J hp => ∃ p q, m = q /\ Nat.gcd p q = g /\ p < 18446744073709551616 /\ q < 18446744073709551616 /\ J 5 = .int .u64 p /\ J 7 = .int .u64 q /\ hp = hp0) y ?_ ?_
    ·refine ⟨x, y, rfl, hg, hxs, hys, ?_⟩
     simp +decide (disch := first | omega | rfl | (simp +decide only [go_sem, ↓reduceIte, true_and, and_true] <;> rfl) | fail) only [go_sem, ↓reduceIte, true_and, and_true]
    rintro q J2 _ ⟨p, _, rfl, hg2, hp1, hp2, h5, h7, rfl⟩
    simp +decide (disch := first | omega | rfl | (simp +decide only [go_sem, ↓reduceIte, h5, h7] <;> rfl) | fail) only [go_sem, ↓reduceIte, h5, h7]
    refine Qb (fun hq => ?_) (fun hq => ?_)
    ·have hq0 : 0 < q := by omega
     simp +decide (disch := first | omega | rfl | (simp +decide only [go_sem, ↓reduceIte, h5, h7, Qdo] <;> rfl) | fail) only [go_sem, ↓reduceIte, h5, h7, Qdo]
     refine Ql (p % q) (Nat.mod_lt _ hq0) ⟨q, p % q, rfl, ?_, hp2, ?_, ?_⟩
     ·rw [<- hg2, Nat.gcd_comm p q, Nat.gcd_rec q p, Nat.gcd_comm]
     ·have := Nat.mod_lt p hq0; omega
     ·simp +decide (disch := first | omega | rfl | (simp +decide only [go_sem, ↓reduceIte, true_and, and_true] <;> rfl) | fail) only [go_sem, ↓reduceIte, true_and, and_true]
    ·obtain rfl : q = 0 := by omega
     simp +decide (disch := first | omega | rfl | (simp +decide only [go_sem, ↓reduceIte, h5, h7] <;> rfl) | fail) only [go_sem, ↓reduceIte, h5, h7]
     refine Qa hP (Qli hp1) rfl rfl rfl ?_
     simp +decide (disch := first | omega | rfl | (simp +decide only [go_sem, ↓reduceIte] <;> rfl) | fail) only [go_sem, ↓reduceIte]
     exact Qc (by rw [<- hg2, Nat.gcd_zero_right]) rfl
   ·rw [if_neg hs2]
    simp +decide (disch := first | omega | rfl | (simp +decide only [go_sem, ↓reduceIte, h0, h1] <;> rfl) | fail) only [go_sem, ↓reduceIte, h0, h1]
    refine Qa hP (Qky (Qj x) (Qj y) (by omega) (by omega)) rfl rfl rfl ?_
    rw [Qw, Qw, if_neg hy0]
    simp +decide (disch := first | omega | rfl | (simp +decide only [go_sem, ↓reduceIte, h0, h1] <;> rfl) | fail) only [go_sem, ↓reduceIte, h0, h1]
    refine Ql (x % y) (Nat.mod_lt _ (Nat.pos_of_ne_zero hy0)) ⟨y, x % y, rfl, ?_, hy, hmod, ?_⟩
    ·rw [<- hg, Nat.gcd_comm x y, Nat.gcd_rec y x, Nat.gcd_comm]
    ·simp +decide (disch := first | omega | rfl | (simp +decide only [go_sem, ↓reduceIte, true_and, and_true] <;> rfl) | fail) only [go_sem, ↓reduceIte, true_and, and_true]
  ·rw [if_neg hs1]
   simp +decide (disch := first | omega | rfl | (simp +decide only [go_sem, ↓reduceIte, h0, h1] <;> rfl) | fail) only [go_sem, ↓reduceIte, h0, h1]
   refine Qa hP (Qnr (Qj y) (by omega)) rfl rfl rfl ?_
   obtain ⟨r1, r2, hr⟩ : ∃ r1 r2, (if nl (val (dig y)) <= 4 then PV.tup [.int .u64 (val (dig y)), .bool true] else .tup [.int .u64 0, .bool false]) = .tup [.int .u64 r1, .bool r2] := by
    split <;> exact ⟨_, _, rfl⟩
   rw [hr]
   simp +decide (disch := first | omega | rfl | (simp +decide only [go_sem, ↓reduceIte, h0, h1] <;> rfl) | fail) only [go_sem, ↓reduceIte, h0, h1]
   refine Qa hP (Qky (Qj x) (Qj y) (by omega) (by omega)) rfl rfl rfl ?_
   rw [Qw, Qw, if_neg hy0]
   simp +decide (disch := first | omega | rfl | (simp +decide only [go_sem, ↓reduceIte, h0, h1] <;> rfl) | fail) only [go_sem, ↓reduceIte, h0, h1]
   refine Ql (x % y) (Nat.mod_lt _ (Nat.pos_of_ne_zero hy0)) ⟨y, x % y, rfl, ?_, hy, hmod, ?_⟩
   ·rw [<- hg, Nat.gcd_comm x y, Nat.gcd_rec y x, Nat.gcd_comm]
   ·simp +decide (disch := first | omega | rfl | (simp +decide only [go_sem, ↓reduceIte, true_and, and_true] <;> rfl) | fail) only [go_sem, ↓reduceIte, true_and, and_true]
 ·have hy0 : y = 0 := Qbp.1 (Qcp (by omega))
  subst hy0
  simp +decide (disch := first | omega | rfl | (simp +decide only [go_sem, ↓reduceIte, h0] <;> rfl) | fail) only [go_sem, ↓reduceIte, h0]
  exact Qc (by rw [<- hg, Nat.gcd_zero_right]) rfl
end Go.Proofs.YtmnkngmmfnncoaaGreat
namespace Go.Proofs.YtmnkngmmfnncoaaGreat
open Go Go.FW
set_option linter.unusedSimpArgs false
set_option linter.unusedVariables false
set_option maxRecDepth 100000
theorem Qfa (n : Bool) (x : Nat) : Qe Tryz.prog 176 [.bool n, PV.num x] (· = PV.zz (if n then -(x : Int) else x)) := by
 refine Qg Qk Tryz.func176 rfl Qaaq (by simp [Q5p]) fun C hP => ?_; simp only [Q5p]
 simp +decide (disch := first | omega | rfl | (simp +decide only [go_sem, ↓reduceIte] <;> rfl) | fail) only [go_sem, ↓reduceIte]
 refine Qfv (fun hn => ?_) (fun hn => ?_)
 all_goals
  simp +decide (disch := first | omega | rfl | (simp +decide only [go_sem, ↓reduceIte] <;> rfl) | fail) only [go_sem, ↓reduceIte]
  refine Qa7 ?_
  simp +decide (disch := first | omega | rfl | (simp +decide only [go_sem, ↓reduceIte] <;> rfl) | fail) only [go_sem, ↓reduceIte]
  exact Qc (by rw [<- Qsn, hn]; simp) rfl
theorem Q2b {n : Bool} {a : List Nat} (ha : Qi a) (hla : a.length < 2 ^ 42) : Qe Tryz.prog 212 [.bool n, PV.nat a] (· = PV.zz (zv n a)) := by
 refine Qg Qk Tryz.func212 rfl Qaap (by simp [Q5o]) fun C hP => ?_; simp only [Q5o]
 simp +decide (disch := first | omega | rfl | (simp +decide only [go_sem, ↓reduceIte] <;> rfl) | fail) only [go_sem, ↓reduceIte]
 refine Qa hP (Qid ha hla) rfl rfl rfl ?_
 simp +decide (disch := first | omega | rfl | (simp +decide only [go_sem, ↓reduceIte] <;> rfl) | fail) only [go_sem, ↓reduceIte]
 refine Qfv (fun hn => ?_) (fun hn => ?_)
 all_goals
  simp +decide (disch := first | omega | rfl | (simp +decide only [go_sem, ↓reduceIte] <;> rfl) | fail) only [go_sem, ↓reduceIte]
  refine Qa7 ?_
  simp +decide (disch := first | omega | rfl | (simp +decide only [go_sem, ↓reduceIte] <;> rfl) | fail) only [go_sem, ↓reduceIte]
  exact Qc (by have := Qsn n (val a); rw [hn] at this; subst hn; simpa [zv] using this) rfl
theorem Qxb {n : Bool} {a : List Nat} (ha : Qi a) (hla : a.length < 2 ^ 42) : Qe Tryz.prog 174 [PV.zi n a] (· = PV.zz (zv n a)) := by
 refine Qg Qk Tryz.func174 rfl Qaar (by simp [Q5q]) fun C hP => ?_; simp only [Q5q]
 simp +decide (disch := first | omega | rfl | (simp +decide only [go_sem, ↓reduceIte] <;> rfl) | fail) only [go_sem, ↓reduceIte]
 refine Qa hP (Q2b ha hla) rfl rfl rfl ?_
 simp +decide (disch := first | omega | rfl | (simp +decide only [go_sem, ↓reduceIte] <;> rfl) | fail) only [go_sem, ↓reduceIte]
 refine Qa7 ?_
 simp +decide (disch := first | omega | rfl | (simp +decide only [go_sem, ↓reduceIte] <;> rfl) | fail) only [go_sem, ↓reduceIte]
 exact Qc rfl rfl
theorem Qhu {n : Bool} {a : List Nat} (ha : Qi a) (hla : a.length < 2 ^ 40) : Qe Tryz.prog 108 [PV.zi n a] (· = .int .i64 (sgn (zv n a))) := by
 refine Qg Qk Tryz.func108 rfl Qaat (by simp [Q5s]) fun C hP => ?_; simp only [Q5s]
 simp +decide (disch := first | omega | rfl | (simp +decide only [go_sem, ↓reduceIte] <;> rfl) | fail) only [go_sem, ↓reduceIte]
 refine Qco hP (Qtn ha hla) rfl rfl rfl ?_
 rintro _ ⟨k, rfl, hk⟩
 simp +decide (disch := first | omega | rfl | (simp +decide only [go_sem, ↓reduceIte] <;> rfl) | fail) only [go_sem, ↓reduceIte]
 rw [Qvr]
 refine Qb (fun hz => ?_) (fun hz => ?_)
 ·simp +decide (disch := first | omega | rfl | (simp +decide only [go_sem, ↓reduceIte] <;> rfl) | fail) only [go_sem, ↓reduceIte]
  rw [if_pos (hk.1 (by omega))]
  exact Qc rfl rfl
 ·rw [if_neg (fun h => hz (by rw [hk.2 h]; rfl))]
  simp +decide (disch := first | omega | rfl | (simp +decide only [go_sem, ↓reduceIte] <;> rfl) | fail) only [go_sem, ↓reduceIte]
  refine Qh4 (fun hn => ?_) (fun hn => ?_)
  ·simp +decide (disch := first | omega | rfl | (simp +decide only [go_sem, ↓reduceIte] <;> rfl) | fail) only [go_sem, ↓reduceIte]
   exact Qc (by simp [hn]) rfl
  ·simp +decide (disch := first | omega | rfl | (simp +decide only [go_sem, ↓reduceIte] <;> rfl) | fail) only [go_sem, ↓reduceIte]
   exact Qc (by simp [hn]) rfl
theorem Qpe {a b : List Nat} (ha : Qi a) (hb : Qi b) (hla : a.length < 2 ^ 40) (hlb : b.length < 2 ^ 40) : Qe Tryz.prog 215 [PV.nat a, PV.nat b] (· = .int .i64 (Qdf (val a) (val b))) := by
 refine Qg Qk Tryz.func215 rfl Qaav (by simp [Q5u]) fun C hP => ?_; simp only [Q5u]
 simp +decide (disch := first | omega | rfl | (simp +decide only [go_sem, ↓reduceIte] <;> rfl) | fail) only [go_sem, ↓reduceIte]
 refine Qa hP (Qml ha hb hla hlb) rfl rfl rfl ?_
 simp +decide (disch := first | omega | rfl | (simp +decide only [go_sem, ↓reduceIte] <;> rfl) | fail) only [go_sem, ↓reduceIte]
 exact Qc rfl rfl
theorem Qzq {n m : Bool} {a b : List Nat} (ha : Qi a) (hb : Qi b) (hla : a.length < 2 ^ 40) (hlb : b.length < 2 ^ 40) : Qe Tryz.prog 178 [PV.zi n a, PV.zi m b] (· = .int .i64 (Qbr (zv n a) (zv m b))) := by
 have hx := Qvr n a
 have hy := Qvr m b
 refine Qg Qk Tryz.func178 rfl Qaau (by simp [Q5t]) fun C hP => ?_; simp only [Q5t]
 simp +decide (disch := first | omega | rfl | (simp +decide only [go_sem, ↓reduceIte] <;> rfl) | fail) only [go_sem, ↓reduceIte]
 refine Qa hP (Qhu ha hla) rfl rfl rfl ?_
 simp +decide (disch := first | omega | rfl | (simp +decide only [go_sem, ↓reduceIte] <;> rfl) | fail) only [go_sem, ↓reduceIte]
 refine Qa hP (Qhu hb hlb) rfl rfl rfl ?_
 simp +decide (disch := first | omega | rfl | (simp +decide only [go_sem, ↓reduceIte] <;> rfl) | fail) only [go_sem, ↓reduceIte]
 refine Qb (fun hs => ?_) (fun hs => ?_)
 ·simp +decide (disch := first | omega | rfl | (simp +decide only [go_sem, ↓reduceIte] <;> rfl) | fail) only [go_sem, ↓reduceIte]
  exact Qc (by rw [Q9z hs]) rfl
 simp +decide (disch := first | omega | rfl | (simp +decide only [go_sem, ↓reduceIte] <;> rfl) | fail) only [go_sem, ↓reduceIte]
 refine Qb (fun hs2 => ?_) (fun hs2 => ?_)
 ·simp +decide (disch := first | omega | rfl | (simp +decide only [go_sem, ↓reduceIte] <;> rfl) | fail) only [go_sem, ↓reduceIte]
  exact Qc (by rw [Q90 hs2]) rfl
 have he : sgn (zv n a) = sgn (zv m b) := by omega
 simp +decide (disch := first | omega | rfl | (simp +decide only [go_sem, ↓reduceIte] <;> rfl) | fail) only [go_sem, ↓reduceIte]
 refine Qb (fun hs3 => ?_) (fun hs3 => ?_)
 ·simp +decide (disch := first | omega | rfl | (simp +decide only [go_sem, ↓reduceIte] <;> rfl) | fail) only [go_sem, ↓reduceIte]
  refine Qa hP (Qpe hb ha hlb hla) rfl rfl rfl ?_
  simp +decide (disch := first | omega | rfl | (simp +decide only [go_sem, ↓reduceIte] <;> rfl) | fail) only [go_sem, ↓reduceIte]
  exact Qc (by rw [Q91 (Qlf.1 hs3) (Qlf.1 (he ▸ hs3))]) rfl
 ·simp +decide (disch := first | omega | rfl | (simp +decide only [go_sem, ↓reduceIte] <;> rfl) | fail) only [go_sem, ↓reduceIte]
  refine Qa hP (Qpe ha hb hla hlb) rfl rfl rfl ?_
  simp +decide (disch := first | omega | rfl | (simp +decide only [go_sem, ↓reduceIte] <;> rfl) | fail) only [go_sem, ↓reduceIte]
  exact Qc (by rw [Q92 (fun h => hs3 (Qlf.2 h)) (fun h => hs3 (he ▸ Qlf.2 h))]) rfl
theorem Qrb {n m : Bool} {a b : List Nat} (ha : Qi a) (hb : Qi b) (hla : a.length < 2 ^ 40) (hlb : b.length < 2 ^ 40) : Qe Tryz.prog 175 [PV.zi n a, PV.zi m b] (· = PV.zz (zv n a + zv m b)) := by
 refine Qg Qk Tryz.func175 rfl Qaaw (by simp [Q5v]) fun C hP => ?_; simp only [Q5v]
 simp +decide (disch := first | omega | rfl | (simp +decide only [go_sem, ↓reduceIte] <;> rfl) | fail) only [go_sem, ↓reduceIte]
 refine Qh4 (fun hnm => ?_) (fun hnm => ?_)
 ·have hnm : n = m := by simpa using hnm
  subst hnm
  simp +decide (disch := first | omega | rfl | (simp +decide only [go_sem, ↓reduceIte] <;> rfl) | fail) only [go_sem, ↓reduceIte]
  refine Qa hP (Q57 ha hb hla hlb) rfl rfl rfl ?_
  simp +decide (disch := first | omega | rfl | (simp +decide only [go_sem, ↓reduceIte] <;> rfl) | fail) only [go_sem, ↓reduceIte]
  refine Qa hP (Qfa n (val a + val b)) rfl rfl rfl ?_
  simp +decide (disch := first | omega | rfl | (simp +decide only [go_sem, ↓reduceIte] <;> rfl) | fail) only [go_sem, ↓reduceIte]
  refine Qa7 ?_
  simp +decide (disch := first | omega | rfl | (simp +decide only [go_sem, ↓reduceIte] <;> rfl) | fail) only [go_sem, ↓reduceIte]
  exact Qc (congrArg PV.zz (by unfold zv; split <;> simp <;> omega)) rfl
 have hnm : n = !m := by cases n <;> cases m <;> simp_all
 subst hnm
 simp +decide (disch := first | omega | rfl | (simp +decide only [go_sem, ↓reduceIte] <;> rfl) | fail) only [go_sem, ↓reduceIte]
 refine Qa hP (Qml ha hb hla hlb) rfl rfl rfl ?_
 simp +decide (disch := first | omega | rfl | (simp +decide only [go_sem, ↓reduceIte] <;> rfl) | fail) only [go_sem, ↓reduceIte]
 refine Qb (fun hc => ?_) (fun hc => ?_)
 ·rw [Ql8] at hc
  simp +decide (disch := first | omega | rfl | (simp +decide only [go_sem, ↓reduceIte] <;> rfl) | fail) only [go_sem, ↓reduceIte]
  refine Qa hP (Qv5 hb ha hlb hla (by omega)) rfl rfl rfl ?_
  simp +decide (disch := first | omega | rfl | (simp +decide only [go_sem, ↓reduceIte] <;> rfl) | fail) only [go_sem, ↓reduceIte]
  refine Qa hP (Qfa m (val b - val a)) rfl rfl rfl ?_
  simp +decide (disch := first | omega | rfl | (simp +decide only [go_sem, ↓reduceIte] <;> rfl) | fail) only [go_sem, ↓reduceIte]
  refine Qa7 ?_
  simp +decide (disch := first | omega | rfl | (simp +decide only [go_sem, ↓reduceIte] <;> rfl) | fail) only [go_sem, ↓reduceIte]
  exact Qc (congrArg PV.zz (by unfold zv; cases m <;> simp <;> omega)) rfl
 ·rw [Ql8] at hc
  simp +decide (disch := first | omega | rfl | (simp +decide only [go_sem, ↓reduceIte] <;> rfl) | fail) only [go_sem, ↓reduceIte]
  refine Qa hP (Qv5 ha hb hla hlb (by omega)) rfl rfl rfl ?_
  simp +decide (disch := first | omega | rfl | (simp +decide only [go_sem, ↓reduceIte] <;> rfl) | fail) only [go_sem, ↓reduceIte]
  refine Qa hP (Qfa (!m) (val a - val b)) rfl rfl rfl ?_
  simp +decide (disch := first | omega | rfl | (simp +decide only [go_sem, ↓reduceIte] <;> rfl) | fail) only [go_sem, ↓reduceIte]
  refine Qa7 ?_
  simp +decide (disch := first | omega | rfl | (simp +decide only [go_sem, ↓reduceIte] <;> rfl) | fail) only [go_sem, ↓reduceIte]
  exact Qc (congrArg PV.zz (by unfold zv; cases m <;> simp <;> omega)) rfl
theorem Qdh {n m : Bool} {a b : List Nat} (ha : Qi a) (hb : Qi b) (hla : a.length < 2 ^ 40) (hlb : b.length < 2 ^ 40) : Qe Tryz.prog 112 [PV.zi n a, PV.zi m b] (· = PV.zz (zv n a * zv m b)) := by
 refine Qg Qk Tryz.func112 rfl Qaax (by simp [Q5w]) fun C hP => ?_; simp only [Q5w]
 simp +decide (disch := first | omega | rfl | (simp +decide only [go_sem, ↓reduceIte] <;> rfl) | fail) only [go_sem, ↓reduceIte]
 refine Qa hP (Qjn ha hb hla hlb) rfl rfl rfl ?_
 simp +decide (disch := first | omega | rfl | (simp +decide only [go_sem, ↓reduceIte] <;> rfl) | fail) only [go_sem, ↓reduceIte]
 refine Qa hP (Qfa (!(n == m)) (val a * val b)) rfl rfl rfl ?_
 simp +decide (disch := first | omega | rfl | (simp +decide only [go_sem, ↓reduceIte] <;> rfl) | fail) only [go_sem, ↓reduceIte]
 refine Qa7 ?_
 simp +decide (disch := first | omega | rfl | (simp +decide only [go_sem, ↓reduceIte] <;> rfl) | fail) only [go_sem, ↓reduceIte]
 exact Qc (congrArg PV.zz (by unfold zv; cases n <;> cases m <;> simp [Int.neg_mul, Int.mul_neg])) rfl
end Go.Proofs.YtmnkngmmfnncoaaGreat
namespace Go.Proofs.YtmnkngmmfnncoaaGreat
open Go Go.FW
set_option linter.unusedSimpArgs false
set_option linter.unusedVariables false
set_option maxRecDepth 100000
theorem Qp7 {a : List Nat} (hl : a.length < 2 ^ 43) : Qe Tryz.prog 109 [PV.nat a] (· = .bool (decide (a = [1]))) := by
 refine Qg Qk Tryz.func109 rfl Qaay (by simp [Q5x]) fun C hP => ?_; simp only [Q5x]
 simp +decide (disch := first | omega | rfl | (simp +decide only [go_sem, ↓reduceIte] <;> rfl) | fail) only [go_sem, ↓reduceIte]
 refine Qb (fun hz => ?_) (fun hz => ?_)
 ·obtain ⟨x, xs, rfl⟩ : ∃ x xs, a = x :: xs := by
   match a, hz with
   | x :: xs, _ => exact ⟨x, xs, rfl⟩
  simp +decide (disch := first | omega | rfl | (simp +decide only [go_sem, ↓reduceIte, List.map_cons, List.getElem_cons_zero] <;> rfl) | fail) only [go_sem, ↓reduceIte, List.map_cons, List.getElem_cons_zero]
  refine Qc (congrArg PV.bool ?_) rfl
  rw [<- Bool.decide_and]
  exact decide_eq_decide.2 ⟨fun ⟨h1, h2⟩ => by
   have : xs = [] := List.length_eq_zero_iff.1 (by omega)
   subst this; congr 1; omega, fun h => by
   injection h with h1 h2; subst h1 h2; simp⟩
 ·have : a = [] := List.length_eq_zero_iff.1 (by omega)
  subst this
  simp +decide (disch := first | omega | rfl | (simp +decide only [go_sem, ↓reduceIte] <;> rfl) | fail) only [go_sem, ↓reduceIte]
  exact Qc rfl rfl
theorem Qpf (x : Nat) : (dig x = [1]) ↔ x = 1 := ⟨fun h => by have := Qw x; rw [h] at this; simpa [val] using this.symm, fun h => by rw [h, Qfx]⟩
theorem Qyf {x : Nat} (hl : (dig x).length < 2 ^ 43) : Qe Tryz.prog 109 [PV.num x] (· = .bool (decide (x = 1))) := by
 have := Qp7 hl
 rwa [decide_eq_decide.2 (Qpf x)] at this
theorem Qkg : Qe Tryz.prog 155 [] (· = PV.nat [1]) := by
 refine Qg Qk Tryz.func155 rfl Qaaz (by simp [Q5y]) fun C hP => ?_; simp only [Q5y]
 simp +decide (disch := first | omega | rfl | (simp +decide only [go_sem, ↓reduceIte] <;> rfl) | fail) only [go_sem, ↓reduceIte]
 exact Qc rfl rfl
theorem Qmn {x y : Nat} (hx : (dig x).length < 2 ^ 38) (hy : (dig y).length < 2 ^ 38) (h0 : y ≠ 0) : Qe Tryz.prog 145 [PV.num x, PV.num y] (· = .tup [PV.num (x / y), PV.num (x % y), .int .i64 0]) := by
 have := Qky (Qj x) (Qj y) hx hy
 rwa [Qw, Qw, if_neg h0] at this
theorem Qsu {x y : Nat} (hx : (dig x).length < 2 ^ 38) (hy : (dig y).length < 2 ^ 38) : Qe Tryz.prog 144 [PV.num x, PV.num y] (· = PV.num (Nat.gcd x y)) := by
 have := Q58 (Qj x) (Qj y) hx hy
 rwa [Qw, Qw] at this
theorem Qns {n : Bool} {a d : List Nat} (ha : Qi a) (hd : Qi d) (hla : a.length < 2 ^ 38) (hld : d.length < 2 ^ 38) : Qe Tryz.prog 110 [PV.zi n a, PV.nat d] (· = PV.rat (rv n a d)) := by
 have hna := Qah ha
 have hnd := Qah hd
 rw [<- Qa9 n a] at hna
 unfold rv
 unfold nl at hna hnd
 refine Qg Qk Tryz.func110 rfl Qaa0 (by simp [Q5z]) fun C hP => ?_; simp only [Q5z]
 simp +decide (disch := first | omega | rfl | (simp +decide only [go_sem, ↓reduceIte] <;> rfl) | fail) only [go_sem, ↓reduceIte]
 refine Qa hP (Qid hd (by omega)) rfl rfl rfl ?_
 simp +decide (disch := first | omega | rfl | (simp +decide only [go_sem, ↓reduceIte] <;> rfl) | fail) only [go_sem, ↓reduceIte]
 refine Qa hP (Qxb ha (by omega)) rfl rfl rfl ?_
 simp +decide (disch := first | omega | rfl | (simp +decide only [go_sem, ↓reduceIte] <;> rfl) | fail) only [go_sem, ↓reduceIte]
 generalize zv n a = z at *
 generalize val d = D at *
 have hlen : ∀ x : Nat, ((dig x).length : Int) = 0 ↔ x = 0 := fun x => by
  rw [<- Qbp, <- List.length_eq_zero_iff]; omega
 have fin0 : ∀ {fr : Fr} {hp : HP}, (D = 0 ∨ z = 0) -> Qsd (· = PV.rat (mkRat z D)) (.agg [.bool false, .nilS, PV.nat [1]]) := fun h => by
  rw [Qo9 h]; exact Qc3 Qx5 rfl
 refine Q6 (fun hz => ?_) (fun hz => ?_)
 ·simp +decide (disch := first | omega | rfl | (simp +decide only [go_sem, ↓reduceIte] <;> rfl) | fail) only [go_sem, ↓reduceIte]
  refine Qa hP Qkg rfl rfl rfl ?_
  simp +decide (disch := first | omega | rfl | (simp +decide only [go_sem, ↓reduceIte] <;> rfl) | fail) only [go_sem, ↓reduceIte]
  refine Qa7 ?_
  simp +decide (disch := first | omega | rfl | (simp +decide only [go_sem, ↓reduceIte] <;> rfl) | fail) only [go_sem, ↓reduceIte]
  exact fin0 (fr := fr0) (hp := hp0) (.inl ((hlen _).1 hz))
 simp +decide (disch := first | omega | rfl | (simp +decide only [go_sem, ↓reduceIte] <;> rfl) | fail) only [go_sem, ↓reduceIte]
 refine Qb (fun hz2 => ?_) (fun hz2 => ?_)
 ·simp +decide (disch := first | omega | rfl | (simp +decide only [go_sem, ↓reduceIte] <;> rfl) | fail) only [go_sem, ↓reduceIte]
  refine Qa hP Qkg rfl rfl rfl ?_
  simp +decide (disch := first | omega | rfl | (simp +decide only [go_sem, ↓reduceIte] <;> rfl) | fail) only [go_sem, ↓reduceIte]
  refine Qa7 ?_
  simp +decide (disch := first | omega | rfl | (simp +decide only [go_sem, ↓reduceIte] <;> rfl) | fail) only [go_sem, ↓reduceIte]
  exact fin0 (fr := fr0) (hp := hp0) (.inr (Int.natAbs_eq_zero.1 ((hlen _).1 hz2)))
 have hD : D ≠ 0 := fun h => hz ((hlen _).2 h)
 simp +decide (disch := first | omega | rfl | (simp +decide only [go_sem, ↓reduceIte] <;> rfl) | fail) only [go_sem, ↓reduceIte]
 refine Qa hP (Qyf (by omega)) rfl rfl rfl ?_
 simp +decide (disch := first | omega | rfl | (simp +decide only [go_sem, ↓reduceIte] <;> rfl) | fail) only [go_sem, ↓reduceIte]
 refine Qb (fun h1 => ?_) (fun h1 => ?_)
 ·subst h1
  simp +decide (disch := first | omega | rfl | (simp +decide only [go_sem, ↓reduceIte] <;> rfl) | fail) only [go_sem, ↓reduceIte]
  refine Qa7 ?_
  simp +decide (disch := first | omega | rfl | (simp +decide only [go_sem, ↓reduceIte] <;> rfl) | fail) only [go_sem, ↓reduceIte]
  exact Qc (by rw [<- Qagt]; simp only [Qfx]) rfl
 simp +decide (disch := first | omega | rfl | (simp +decide only [go_sem, ↓reduceIte] <;> rfl) | fail) only [go_sem, ↓reduceIte]
 refine Qa hP (Qsu (by omega) (by omega)) rfl rfl rfl ?_
 have hg0 : Nat.gcd z.natAbs D ≠ 0 := fun h => hD (Nat.eq_zero_of_gcd_eq_zero_right h)
 have hgl : (dig (Nat.gcd z.natAbs D)).length < 2 ^ 38 := by
  have := Qbo (Nat.gcd_le_right z.natAbs (Nat.pos_of_ne_zero hD)); unfold nl at this; omega
 have hfin := Q11 (z := z) hD
 generalize Nat.gcd z.natAbs D = g at *
 simp +decide (disch := first | omega | rfl | (simp +decide only [go_sem, ↓reduceIte] <;> rfl) | fail) only [go_sem, ↓reduceIte]
 refine Qa hP (Qyf (by omega)) rfl rfl rfl ?_
 simp +decide (disch := first | omega | rfl | (simp +decide only [go_sem, ↓reduceIte] <;> rfl) | fail) only [go_sem, ↓reduceIte]
 refine Qh4 (fun h2 => ?_) (fun h2 => ?_)
 ·simp +decide (disch := first | omega | rfl | (simp +decide only [go_sem, ↓reduceIte] <;> rfl) | fail) only [go_sem, ↓reduceIte]
  refine Qa hP (Qmn (by omega) hgl hg0) rfl rfl rfl ?_
  simp +decide (disch := first | omega | rfl | (simp +decide only [go_sem, ↓reduceIte] <;> rfl) | fail) only [go_sem, ↓reduceIte]
  refine Qa hP (Qmn (by omega) hgl hg0) rfl rfl rfl ?_
  simp +decide (disch := first | omega | rfl | (simp +decide only [go_sem, ↓reduceIte] <;> rfl) | fail) only [go_sem, ↓reduceIte]
  refine Qa7 ?_
  simp +decide (disch := first | omega | rfl | (simp +decide only [go_sem, ↓reduceIte] <;> rfl) | fail) only [go_sem, ↓reduceIte]
  exact Qc hfin rfl
 ·have : g = 1 := by simpa using h2
  subst this
  rw [Nat.div_one, Nat.div_one] at hfin
  simp +decide (disch := first | omega | rfl | (simp +decide only [go_sem, ↓reduceIte] <;> rfl) | fail) only [go_sem, ↓reduceIte]
  refine Qa7 ?_
  simp +decide (disch := first | omega | rfl | (simp +decide only [go_sem, ↓reduceIte] <;> rfl) | fail) only [go_sem, ↓reduceIte]
  exact Qc hfin rfl
theorem Qd9 (a : List Nat) : Qe Tryz.prog 113 [PV.nat a] (· = PV.zi false a) := by
 refine Qg Qk Tryz.func113 rfl Qaa2 (by simp [Q51]) fun C hP => ?_; simp only [Q51]
 simp +decide (disch := first | omega | rfl | (simp +decide only [go_sem, ↓reduceIte] <;> rfl) | fail) only [go_sem, ↓reduceIte]
 refine Qa7 ?_
 simp +decide (disch := first | omega | rfl | (simp +decide only [go_sem, ↓reduceIte] <;> rfl) | fail) only [go_sem, ↓reduceIte]
 exact Qc rfl rfl
def Qafd (k : Nat) (q : Rat) (r : PV) : Prop := ∃ n a d, r = .tup [PV.zi n a, PV.nat d] /\ Qi a /\ Qi d /\ a.length <= k /\ d.length <= k /\ val d ≠ 0 /\ rv n a d = q
theorem Qdi {n : Bool} {a d : List Nat} {k : Nat} (ha : Qi a) (hd : Qi d) (hk : 1 <= k) (hla : a.length <= k) (hld : d.length <= k) (hk2 : k < 2 ^ 38) : Qe Tryz.prog 107 [PV.rr n a d] (Qafd k (rv n a d)) := by
 refine Qg Qk Tryz.func107 rfl Qaa1 (by simp [Q50]) fun C hP => ?_; simp only [Q50]
 simp +decide (disch := first | omega | rfl | (simp +decide only [go_sem, ↓reduceIte] <;> rfl) | fail) only [go_sem, ↓reduceIte]
 refine Qco hP (Qtn hd (by omega)) rfl rfl rfl ?_
 rintro _ ⟨b, rfl, hb⟩
 simp +decide (disch := first | omega | rfl | (simp +decide only [go_sem, ↓reduceIte] <;> rfl) | fail) only [go_sem, ↓reduceIte]
 refine Qb (fun hz => ?_) (fun hz => ?_)
 ·have h0 : val d = 0 := hb.1 (by omega)
  simp +decide (disch := first | omega | rfl | (simp +decide only [go_sem, ↓reduceIte] <;> rfl) | fail) only [go_sem, ↓reduceIte]
  refine Qa hP Qkg rfl rfl rfl ?_
  simp +decide (disch := first | omega | rfl | (simp +decide only [go_sem, ↓reduceIte] <;> rfl) | fail) only [go_sem, ↓reduceIte]
  refine Qkc ?_
  simp +decide (disch := first | omega | rfl | (simp +decide only [go_sem, ↓reduceIte] <;> rfl) | fail) only [go_sem, ↓reduceIte]
  refine ⟨⟨rfl, rfl⟩, .tup [PV.zi false [], PV.nat [1]], ⟨⟨rfl, trivial, trivial⟩, Qt _, trivial⟩, false, [], [1], rfl, Qcg, by intro x hx; simp at hx; omega, by simp, by simpa using hk, by simp [val], ?_⟩
  unfold rv; rw [h0, Rat.mkRat_zero]; rfl
 ·have h0 : val d ≠ 0 := fun h => hz (by rw [hb.2 h]; rfl)
  simp +decide (disch := first | omega | rfl | (simp +decide only [go_sem, ↓reduceIte] <;> rfl) | fail) only [go_sem, ↓reduceIte]
  refine Qe0 ?_ ?_
  all_goals
   simp +decide (disch := first | omega | rfl | (simp +decide only [go_sem, ↓reduceIte] <;> rfl) | fail) only [go_sem, ↓reduceIte]
   refine Qkc ?_
   simp +decide (disch := first | omega | rfl | (simp +decide only [go_sem, ↓reduceIte] <;> rfl) | fail) only [go_sem, ↓reduceIte]
   exact ⟨⟨rfl, rfl⟩, .tup [PV.zi n a, PV.nat d], ⟨Qt _, Qt _, trivial⟩, n, a, d, rfl, ha, hd, hla, hld, h0, rfl⟩
theorem Q59 {z : Int} {m : Bool} {b : List Nat} (hb : Qi b) (hla : nl z.natAbs < 2 ^ 40) (hlb : b.length < 2 ^ 40) : Qe Tryz.prog 175 [PV.zz z, PV.zi m b] (· = PV.zz (z + zv m b)) := by
 have := Qrb (n := decide (z < 0)) (a := dig z.natAbs) (m := m) (Qj _) hb hla hlb
 rwa [Qe1] at this
theorem Qv7 {n m : Bool} {a b : List Nat} (ha : Qi a) (hb : Qi b) (hla : a.length < 2 ^ 39) (hlb : b.length < 2 ^ 39) : Qe Tryz.prog 111 [.sl 2 [PV.zi n a, PV.zi m b]] (· = PV.zz (zv n a + zv m b)) := by
  have hna := Qah ha
  rw [<- Qa9 n a] at hna
  refine Qg Qk Tryz.func111 rfl Qaa4 (by simp [Q53]) fun C hP => ?_; simp only [Q53]
  simp +decide (disch := first | omega | rfl | (simp +decide only [go_sem, ↓reduceIte] <;> rfl) | fail) only [go_sem, ↓reduceIte]
  refine Qy (by repeat (first | exact Qv | exact Qp | exact Qq | exact Qr | apply Qo | apply Qu | apply Qz | apply Q8 | apply Q9 | apply Qn)) [(5, 5), (8, 15)] [5] (fun k J hp => ∃ i, k = 2 - i /\ i <= 2 /\ J 8 = .int .i64 (i : Nat) /\ hp 2 = some ⟨2, 30, [.agg [.bool false, .nilS]], false⟩ /\ hp 3 = some ⟨2, 30, [if i = 0 then .agg [.bool false, .nilS] else if i = 1 then PV.zz (zv n a) else PV.zz (zv n a + zv m b)], false⟩) 2 ?_ ?_
  · refine ⟨0, rfl, by omega, ?_⟩
    simp +decide (disch := first | omega | rfl | (simp +decide only [go_sem, ↓reduceIte] <;> rfl) | fail) only [go_sem, ↓reduceIte]
    simp
  rintro _ J h ⟨i, rfl, hi, h8, hh2, hh3⟩
  simp +decide (disch := first | omega | rfl | (simp +decide only [go_sem, ↓reduceIte, h8] <;> rfl) | fail) only [go_sem, ↓reduceIte, h8]
  refine Qb (fun hg => ?_) (fun hg => ?_)
  · have hi2 : i = 0 ∨ i = 1 := by have : i < 2 := by omega
                                   omega
    rcases hi2 with rfl | rfl
    · have h8' : J 8 = .int .i64 0 := h8
      simp +decide (disch := first | omega | rfl | (simp +decide only [go_sem, ↓reduceIte, h8', hh2, hh3] <;> rfl) | fail) only [go_sem, ↓reduceIte, h8', hh2, hh3]
      refine Qa hP ((Qrb (n := false) (a := []) (m := n) (b := a) Qcg ha (by simp) (by omega)).le (args' := [.agg [.bool false, .nilS], PV.zi n a]) ⟨⟨rfl, trivial, trivial⟩, Qt _, trivial⟩) rfl rfl rfl ?_
      simp +decide (disch := first | omega | rfl | (simp +decide only [go_sem, ↓reduceIte, h8', hh2, hh3] <;> rfl) | fail) only [go_sem, ↓reduceIte, h8', hh2, hh3]
      refine Ql 1 (by omega) ⟨1, rfl, by omega, ?_⟩
      simp +decide (disch := first | omega | rfl | (simp +decide only [go_sem, ↓reduceIte, hh2, hh3] <;> rfl) | fail) only [go_sem, ↓reduceIte, hh2, hh3]
      simp [zv, val]
    · rw [if_neg (by omega), if_pos rfl] at hh3
      have h8' : J 8 = .int .i64 1 := h8
      simp +decide (disch := first | omega | rfl | (simp +decide only [go_sem, ↓reduceIte, h8', hh2, hh3] <;> rfl) | fail) only [go_sem, ↓reduceIte, h8', hh2, hh3]
      refine Qa hP (Q59 (z := zv n a) hb (by omega) (by omega)) rfl rfl rfl ?_
      simp +decide (disch := first | omega | rfl | (simp +decide only [go_sem, ↓reduceIte, h8', hh2, hh3] <;> rfl) | fail) only [go_sem, ↓reduceIte, h8', hh2, hh3]
      refine Ql 0 (by omega) ⟨2, rfl, by omega, ?_⟩
      simp +decide (disch := first | omega | rfl | (simp +decide only [go_sem, ↓reduceIte, hh2, hh3] <;> rfl) | fail) only [go_sem, ↓reduceIte, hh2, hh3]
      simp
  · obtain rfl : i = 2 := by simp at hg; omega
    rw [if_neg (by omega), if_neg (by omega)] at hh3
    simp +decide (disch := first | omega | rfl | (simp +decide only [go_sem, ↓reduceIte, h8, hh2, hh3] <;> rfl) | fail) only [go_sem, ↓reduceIte, h8, hh2, hh3]
    refine Qa7 ?_
    simp +decide (disch := first | omega | rfl | (simp +decide only [go_sem, ↓reduceIte, hh2, hh3] <;> rfl) | fail) only [go_sem, ↓reduceIte, hh2, hh3]
    exact Qc rfl rfl
end Go.Proofs.YtmnkngmmfnncoaaGreat
namespace Go.Proofs.YtmnkngmmfnncoaaGreat
open Go Go.FW
set_option linter.unusedSimpArgs false
set_option linter.unusedVariables false
set_option maxRecDepth 100000
theorem Qix {z : Int} {d : List Nat} (hd : Qi d) (hz : nl z.natAbs < 2 ^ 38) (hld : d.length < 2 ^ 38) : Qe Tryz.prog 110 [PV.zz z, PV.nat d] (· = PV.rat (mkRat z (val d))) := by
 have := Qns (n := decide (z < 0)) (Qj z.natAbs) hd hz hld
 rwa [rv, Qe1] at this
theorem Q2c {x y : Int} (hx : nl x.natAbs < 2 ^ 39) (hy : nl y.natAbs < 2 ^ 39) : Qe Tryz.prog 111 [.sl 2 [PV.zz x, PV.zz y]] (· = PV.zz (x + y)) := by
 have := Qv7 (n := decide (x < 0)) (m := decide (y < 0)) (Qj x.natAbs) (Qj y.natAbs) hx hy
 rwa [Qe1, Qe1] at this
theorem Q6a {x y : Int} (hx : nl x.natAbs < 2 ^ 40) (hy : nl y.natAbs < 2 ^ 40) : Qe Tryz.prog 178 [PV.zz x, PV.zz y] (· = .int .i64 (Qbr x y)) := by
 have := Qzq (n := decide (x < 0)) (m := decide (y < 0)) (Qj x.natAbs) (Qj y.natAbs) hx hy
 rwa [Qe1, Qe1] at this
structure Raw (k : Nat) (n : Bool) (a d : List Nat) : Prop where
 la : Qi a
 ld : Qi d
 sa : a.length <= k
 sd : d.length <= k
 k1 : 1 <= k
theorem Qb9 {q : Rat} {k : Nat} (h : rs q <= k) : Raw k (decide (q.num < 0)) (dig q.num.natAbs) (dig q.den) := by
 have := Qvs q
 unfold rs nl at *
 exact ⟨Qj _, Qj _, by omega, by omega, by omega⟩
theorem Raw.rs {n : Bool} {a d : List Nat} {k : Nat} (h : Raw k n a d) : FW.rs (rv n a d) <= k := Qae4 (k := k) (n := k) h.la h.ld h.sa h.sd h.k1
theorem Qto {n m : Bool} {a d b c : List Nat} {k : Nat} (hp : Raw k n a d) (hq : Raw k m b c) (hk : k < 2 ^ 36) : Qe Tryz.prog 37 [PV.rr n a d, PV.rr m b c] (· = PV.rat (rv n a d + rv m b c)) := by
 refine Qg Qk Tryz.func37 rfl Qafb (by simp [c37]) fun C hP => ?_; simp only [c37]
 simp +decide (disch := first | omega | rfl | (simp +decide only [go_sem, ↓reduceIte] <;> rfl) | fail) only [go_sem, ↓reduceIte]
 refine Qco hP (Qdi hp.la hp.ld hp.k1 hp.sa hp.sd (by omega)) rfl rfl rfl ?_
 rintro _ ⟨n', a', d', rfl, g1, g2, g3, g4, g5, g6⟩
 simp +decide (disch := first | omega | rfl | (simp +decide only [go_sem, ↓reduceIte] <;> rfl) | fail) only [go_sem, ↓reduceIte]
 refine Qco hP (Qdi hq.la hq.ld hq.k1 hq.sa hq.sd (by omega)) rfl rfl rfl ?_
 rintro _ ⟨m', b', c', rfl, e1, e2, e3, e4, e5, e6⟩
 simp +decide (disch := first | omega | rfl | (simp +decide only [go_sem, ↓reduceIte] <;> rfl) | fail) only [go_sem, ↓reduceIte]
 refine Qa hP (Qp7 (by omega)) rfl rfl rfl ?_
 have key := Rat.mkRat_add_mkRat (zv n' a') (zv m' b') g5 e5
 have hza : nl (zv n' a').natAbs <= k := by rw [Qa9]; exact Nat.le_trans (Qah g1) g3
 have hzb : nl (zv m' b').natAbs <= k := by rw [Qa9]; exact Nat.le_trans (Qah e1) e3
 have hvd : nl (val d') <= k := Nat.le_trans (Qah g2) g4
 have hvc : nl (val c') <= k := Nat.le_trans (Qah e2) e4
 rw [<- g6, <- e6]
 unfold rv
 rw [key]
 simp +decide (disch := first | omega | rfl | (simp +decide only [go_sem, ↓reduceIte] <;> rfl) | fail) only [go_sem, ↓reduceIte]
 refine Qar (fun h1 => ?_) (fun h1 => ?_)
 ·simp +decide (disch := first | omega | rfl | (simp +decide only [go_sem, ↓reduceIte] <;> rfl) | fail) only [go_sem, ↓reduceIte]
  refine Qa hP (Qp7 (by omega)) rfl rfl rfl ?_
  simp +decide (disch := first | omega | rfl | (simp +decide only [go_sem, ↓reduceIte] <;> rfl) | fail) only [go_sem, ↓reduceIte]
  refine Qb (fun h2 => ?_) (fun h2 => ?_)
  ·subst h1 h2
   simp +decide (disch := first | omega | rfl | (simp +decide only [go_sem, ↓reduceIte] <;> rfl) | fail) only [go_sem, ↓reduceIte]
   refine Qbz hP (Qv7 (n := n') (m := m') g1 e1 (by omega) (by omega)) (by simp +decide (disch := first | omega | rfl | (simp +decide only [go_sem, ↓reduceIte, Qd, List.contains_cons, List.contains_nil, List.flatMap_cons, List.flatMap_nil, List.append_nil] <;> rfl) | fail) only [go_sem, ↓reduceIte, Qd, List.contains_cons, List.contains_nil, List.flatMap_cons, List.flatMap_nil, List.append_nil]) rfl ?_
   simp +decide (disch := first | omega | rfl | (simp +decide only [go_sem, ↓reduceIte, Qd, List.contains_cons, List.contains_nil, List.flatMap_cons, List.flatMap_nil, List.append_nil] <;> rfl) | fail) only [go_sem, ↓reduceIte, Qd, List.contains_cons, List.contains_nil, List.flatMap_cons, List.flatMap_nil, List.append_nil]
   have hs := Qe9 (zv n' a') (zv m' b')
   refine Qa hP (Qix g2 (by omega) (by omega)) rfl rfl rfl ?_
   simp +decide (disch := first | omega | rfl | (simp +decide only [go_sem, ↓reduceIte, Qd, List.contains_cons, List.contains_nil, List.flatMap_cons, List.flatMap_nil, List.append_nil] <;> rfl) | fail) only [go_sem, ↓reduceIte, Qd, List.contains_cons, List.contains_nil, List.flatMap_cons, List.flatMap_nil, List.append_nil]
   refine Qa7 ?_
   simp +decide (disch := first | omega | rfl | (simp +decide only [go_sem, ↓reduceIte, Qd, List.contains_cons, List.contains_nil, List.flatMap_cons, List.flatMap_nil, List.append_nil] <;> rfl) | fail) only [go_sem, ↓reduceIte, Qd, List.contains_cons, List.contains_nil, List.flatMap_cons, List.flatMap_nil, List.append_nil]
   exact Qc (congrArg PV.rat (by simp [val])) rfl
  ·simp +decide (disch := first | omega | rfl | (simp +decide only [go_sem, ↓reduceIte] <;> rfl) | fail) only [go_sem, ↓reduceIte]
   refine Qa hP (Qd9 _) rfl rfl rfl ?_
   simp +decide (disch := first | omega | rfl | (simp +decide only [go_sem, ↓reduceIte] <;> rfl) | fail) only [go_sem, ↓reduceIte]
   refine Qa hP (Qdh (n := n') (m := false) g1 e2 (by omega) (by omega)) rfl rfl rfl ?_
   simp +decide (disch := first | omega | rfl | (simp +decide only [go_sem, ↓reduceIte] <;> rfl) | fail) only [go_sem, ↓reduceIte]
   refine Qa hP (Qd9 _) rfl rfl rfl ?_
   simp +decide (disch := first | omega | rfl | (simp +decide only [go_sem, ↓reduceIte] <;> rfl) | fail) only [go_sem, ↓reduceIte]
   refine Qa hP (Qdh (n := m') (m := false) e1 g2 (by omega) (by omega)) rfl rfl rfl ?_
   rw [Qfq, Qfq]
   have h3 := Qay (zv n' a') (val c')
   have h4 := Qay (zv m' b') (val d')
   have h5 := Qe9 (zv n' a' * (val c' : Int)) (zv m' b' * (val d' : Int))
   have h6 := Qe7 (val d') (val c')
   rw [Int.natAbs_natCast] at h3 h4
   simp +decide (disch := first | omega | rfl | (simp +decide only [go_sem, ↓reduceIte] <;> rfl) | fail) only [go_sem, ↓reduceIte]
   refine Qbz hP (Q2c (x := zv n' a' * (val c' : Int)) (y := zv m' b' * (val d' : Int)) (by omega) (by omega)) (by simp +decide (disch := first | omega | rfl | (simp +decide only [go_sem, ↓reduceIte, Qd, List.contains_cons, List.contains_nil, List.flatMap_cons, List.flatMap_nil, List.append_nil] <;> rfl) | fail) only [go_sem, ↓reduceIte, Qd, List.contains_cons, List.contains_nil, List.flatMap_cons, List.flatMap_nil, List.append_nil]) rfl ?_
   simp +decide (disch := first | omega | rfl | (simp +decide only [go_sem, ↓reduceIte, Qd, List.contains_cons, List.contains_nil, List.flatMap_cons, List.flatMap_nil, List.append_nil] <;> rfl) | fail) only [go_sem, ↓reduceIte, Qd, List.contains_cons, List.contains_nil, List.flatMap_cons, List.flatMap_nil, List.append_nil]
   refine Qa hP (Qjn g2 e2 (by omega) (by omega)) rfl rfl rfl ?_
   simp +decide (disch := first | omega | rfl | (simp +decide only [go_sem, ↓reduceIte, Qd, List.contains_cons, List.contains_nil, List.flatMap_cons, List.flatMap_nil, List.append_nil] <;> rfl) | fail) only [go_sem, ↓reduceIte, Qd, List.contains_cons, List.contains_nil, List.flatMap_cons, List.flatMap_nil, List.append_nil]
   refine Qa hP (Qix (z := zv n' a' * (val c' : Int) + zv m' b' * (val d' : Int)) (Qj _) (by omega) (by show nl _ < _; omega)) rfl rfl rfl ?_
   simp +decide (disch := first | omega | rfl | (simp +decide only [go_sem, ↓reduceIte, Qd, List.contains_cons, List.contains_nil, List.flatMap_cons, List.flatMap_nil, List.append_nil] <;> rfl) | fail) only [go_sem, ↓reduceIte, Qd, List.contains_cons, List.contains_nil, List.flatMap_cons, List.flatMap_nil, List.append_nil]
   refine Qa7 ?_
   simp +decide (disch := first | omega | rfl | (simp +decide only [go_sem, ↓reduceIte, Qd, List.contains_cons, List.contains_nil, List.flatMap_cons, List.flatMap_nil, List.append_nil] <;> rfl) | fail) only [go_sem, ↓reduceIte, Qd, List.contains_cons, List.contains_nil, List.flatMap_cons, List.flatMap_nil, List.append_nil]
   exact Qc (by rw [Qw]) rfl
 · simp +decide (disch := first | omega | rfl | (simp +decide only [go_sem, ↓reduceIte] <;> rfl) | fail) only [go_sem, ↓reduceIte]
   refine Qa hP (Qd9 _) rfl rfl rfl ?_
   simp +decide (disch := first | omega | rfl | (simp +decide only [go_sem, ↓reduceIte] <;> rfl) | fail) only [go_sem, ↓reduceIte]
   refine Qa hP (Qdh (n := n') (m := false) g1 e2 (by omega) (by omega)) rfl rfl rfl ?_
   simp +decide (disch := first | omega | rfl | (simp +decide only [go_sem, ↓reduceIte] <;> rfl) | fail) only [go_sem, ↓reduceIte]
   refine Qa hP (Qd9 _) rfl rfl rfl ?_
   simp +decide (disch := first | omega | rfl | (simp +decide only [go_sem, ↓reduceIte] <;> rfl) | fail) only [go_sem, ↓reduceIte]
   refine Qa hP (Qdh (n := m') (m := false) e1 g2 (by omega) (by omega)) rfl rfl rfl ?_
   rw [Qfq, Qfq]
   have h3 := Qay (zv n' a') (val c')
   have h4 := Qay (zv m' b') (val d')
   have h5 := Qe9 (zv n' a' * (val c' : Int)) (zv m' b' * (val d' : Int))
   have h6 := Qe7 (val d') (val c')
   rw [Int.natAbs_natCast] at h3 h4
   simp +decide (disch := first | omega | rfl | (simp +decide only [go_sem, ↓reduceIte] <;> rfl) | fail) only [go_sem, ↓reduceIte]
   refine Qbz hP (Q2c (x := zv n' a' * (val c' : Int)) (y := zv m' b' * (val d' : Int)) (by omega) (by omega)) (by simp +decide (disch := first | omega | rfl | (simp +decide only [go_sem, ↓reduceIte, Qd, List.contains_cons, List.contains_nil, List.flatMap_cons, List.flatMap_nil, List.append_nil] <;> rfl) | fail) only [go_sem, ↓reduceIte, Qd, List.contains_cons, List.contains_nil, List.flatMap_cons, List.flatMap_nil, List.append_nil]) rfl ?_
   simp +decide (disch := first | omega | rfl | (simp +decide only [go_sem, ↓reduceIte, Qd, List.contains_cons, List.contains_nil, List.flatMap_cons, List.flatMap_nil, List.append_nil] <;> rfl) | fail) only [go_sem, ↓reduceIte, Qd, List.contains_cons, List.contains_nil, List.flatMap_cons, List.flatMap_nil, List.append_nil]
   refine Qa hP (Qjn g2 e2 (by omega) (by omega)) rfl rfl rfl ?_
   simp +decide (disch := first | omega | rfl | (simp +decide only [go_sem, ↓reduceIte, Qd, List.contains_cons, List.contains_nil, List.flatMap_cons, List.flatMap_nil, List.append_nil] <;> rfl) | fail) only [go_sem, ↓reduceIte, Qd, List.contains_cons, List.contains_nil, List.flatMap_cons, List.flatMap_nil, List.append_nil]
   refine Qa hP (Qix (z := zv n' a' * (val c' : Int) + zv m' b' * (val d' : Int)) (Qj _) (by omega) (by show nl _ < _; omega)) rfl rfl rfl ?_
   simp +decide (disch := first | omega | rfl | (simp +decide only [go_sem, ↓reduceIte, Qd, List.contains_cons, List.contains_nil, List.flatMap_cons, List.flatMap_nil, List.append_nil] <;> rfl) | fail) only [go_sem, ↓reduceIte, Qd, List.contains_cons, List.contains_nil, List.flatMap_cons, List.flatMap_nil, List.append_nil]
   refine Qa7 ?_
   simp +decide (disch := first | omega | rfl | (simp +decide only [go_sem, ↓reduceIte, Qd, List.contains_cons, List.contains_nil, List.flatMap_cons, List.flatMap_nil, List.append_nil] <;> rfl) | fail) only [go_sem, ↓reduceIte, Qd, List.contains_cons, List.contains_nil, List.flatMap_cons, List.flatMap_nil, List.append_nil]
   exact Qc (by rw [Qw]) rfl
end Go.Proofs.YtmnkngmmfnncoaaGreat
namespace Go.Proofs.YtmnkngmmfnncoaaGreat
open Go Go.FW Go.ChangeShapes Go.WideShapes Go.ChangeAt Go.RowKit
set_option linter.unusedSimpArgs false
set_option linter.unusedVariables false
set_option maxRecDepth 100000
theorem Qtp {H : Type} {d : DataW H} {l : List (DataW H)} (h : d ∈ l) : Rows.uptoBulk d <= Rows.uptoBulkAll l := by
 induction l with
 | nil => cases h
 | cons x r ih =>
  simp only [Rows.uptoBulkAll]
  cases List.mem_cons.1 h with
  | inl e => subst e; omega
  | inr e => have := ih e; omega
theorem Q6b {H : Type} (d : DataW H) : 1 <= Rows.uptoBulk d := by
 cases d with
 | lit l => cases l <;> simp [Rows.uptoBulk]
 | nil => simp [Rows.uptoBulk]
 | ptr d => simp [Rows.uptoBulk]
 | slice elems spare => simp [Rows.uptoBulk]
 | agg parts => simp [Rows.uptoBulk]
 | iface t d => simp [Rows.uptoBulk]
 | map entries => simp [Rows.uptoBulk]
 | held h => simp [Rows.uptoBulk]
theorem Qxc {H : Type} (l : List (DataW H)) : l.length <= Rows.uptoBulkAll l := by
 induction l with
 | nil => simp [Rows.uptoBulkAll]
 | cons x r ih => have := Q6b x; simp only [Rows.uptoBulkAll, List.length_cons]; omega
theorem Qb3 {H : Type} : Q47 (H := H) Rows.uptoBulk := by
 refine ⟨fun elems spare => ?_, fun elems spare d hd => ?_, fun parts d hd => ?_⟩
 ·have := Qxc elems
  simp only [Rows.uptoBulk]; omega
 ·have := Qtp hd
  simp only [Rows.uptoBulk]; omega
 ·have := Qtp hd
  simp only [Rows.uptoBulk]; omega
theorem Q6c {H : Type} {l : List (DataW H)} (hk : Rows.uptoSmall H l = true) : Rows.uptoBulkAll l <= 1048576 := of_decide_eq_true hk
theorem own : ownKnob Tryz.prog.godebug = none := by kernel_rfl
theorem laid : laidOutB Tryz.prog = true := by kernel_rfl
theorem Qafe : mapsRowed Tryz.prog = true := by kernel_rfl
def Q2d (P : Program) : Bool := (List.range P.types.size).all fun t => match P.underlying t with | some (.slice e) => decide (0 < P.cellsOf e) | _ => true
theorem Qagw : Q2d Tryz.prog = true := by kernel_rfl
theorem Qaff {t e : TypeId} (ht : t < Tryz.prog.types.size) (he : Tryz.prog.underlying t = some (.slice e)) : 0 < Tryz.prog.cellsOf e := by
 have h := Qagw
 simp only [Q2d, List.all_eq_true] at h
 have := h t (List.mem_range.2 ht)
 rw [he] at this
 exact of_decide_eq_true this
variable {H : Type} {enc : TypeId × Value -> H}
abbrev Rd (enc : TypeId × Value -> H) := Qel enc Tryz.prog Rows.uptoBulk 1048576
theorem Qtq : Tryz.prog.cellsOf 156 = 1 := by kernel_rfl
theorem Qno : Tryz.prog.cellsOf 3 = 1 := by kernel_rfl
theorem Qrc : Tryz.prog.cellsOf 133 = 4 := by kernel_rfl
theorem Q2e : Rd enc 28 fun ps => ∃ l : List Nat, ps = [PV.nat l] /\ l.length <= 1048576 /\ Qi l := by
 refine (Qkv (α := Nat) (f := fun (x : Nat) => .int .u16 x) (G := fun x => x < 65536) Qb3 Tryz.underlying28 (by rw [Qtq]; omega) (Q18 Tryz.underlying156)).mono ?_
 rintro ps ⟨l, rfl, h1, h2⟩
 exact ⟨l, by rw [Qtq], h1, h2⟩
theorem Qaa8 : Rd enc 131 fun ps => ∃ l : List Int, ps = [PV.mono l] /\ l.length <= 1048576 /\ ∀ x ∈ l, -9223372036854775808 <= x /\ x <= 9223372036854775807 := by
 refine (Qkv (α := Int) (f := fun (x : Int) => .int .i64 x) Qb3 Tryz.underlying131 (by rw [Qno]; omega) (Qtl Tryz.underlying3)).mono ?_
 rintro ps ⟨l, rfl, h1, h2⟩
 exact ⟨l, by rw [Qno], h1, h2⟩
theorem Qafg : Rd enc 30 fun ps => ∃ (n : Bool) (a : List Nat), ps = [.bool n, PV.nat a] /\ a.length <= 1048576 /\ Qi a := by
 refine (Qim Qb3 Tryz.underlying30 rfl (by kernel_rfl) (by kernel_rfl) (Qzk Tryz.underlying4) Q2e).mono ?_
 rintro ps ⟨p, q, rfl, ⟨n, rfl⟩, a, rfl, h⟩
 exact ⟨n, a, rfl, h⟩
theorem Qafh : Rd enc 32 fun ps => ∃ (n : Bool) (a d : List Nat), ps = [.bool n, PV.nat a, PV.nat d] /\ Raw 1048576 n a d := by
 refine (Qim Qb3 Tryz.underlying32 rfl (by kernel_rfl) (by kernel_rfl) Qafg Q2e).mono ?_
 rintro ps ⟨p, q, rfl, ⟨n, a, rfl, h1, h2⟩, d, rfl, h3, h4⟩
 exact ⟨n, a, d, rfl, h2, h4, h1, h3, by omega⟩
instance : Inhabited RTm := ⟨⟨false, [], [], []⟩⟩
def Qul (l : List RTm) : Prop := l.length <= 1048576 /\ ∀ t ∈ l, RB 1048576 t /\ ∀ x ∈ t.m, -9223372036854775808 <= x /\ x <= 9223372036854775807
theorem Qaa9 : Rd enc 133 fun ps => ∃ t : RTm, ps = (PV.rterm t).cells /\ (RB 1048576 t /\ ∀ x ∈ t.m, -9223372036854775808 <= x /\ x <= 9223372036854775807) := by
 refine (Qim Qb3 Tryz.underlying133 rfl (by kernel_rfl) (by kernel_rfl) Qafh Qaa8).mono ?_
 rintro ps ⟨p, q, rfl, ⟨n, a, d, rfl, h⟩, m, rfl, h3, h4⟩
 exact ⟨⟨n, a, d, m⟩, rfl, ⟨⟨h.la, h.ld, h.sa, h.sd⟩, by show m.length < 2 ^ 40; omega⟩, h4⟩
theorem Qaba : Rd enc 65 fun ps => ∃ l : List RTm, ps = [PV.rpoly l] /\ Qul l := by
 refine (Qkv (f := PV.rterm) Qb3 Tryz.underlying65 (by rw [Qrc]; omega) Qaa9).mono ?_
 rintro ps ⟨l, rfl, h1, h2⟩
 exact ⟨l, by rw [Qrc], h1, h2⟩
variable {w : World} {base : Nat} {spare : Nat -> Bool} {held : Bool} {r : Reach} {b0 : Nat} {v : Value} {d : DataW H} {ps : List MemPlace}
theorem Qv8 (Qcl : Value.okWide Tryz.prog w r b0 65 v) (hd : DataW.Trod enc Tryz.prog w base spare held 65 v d ps) (hn : Rows.uptoBulk d <= 1048576) : ∃ l, Qab w Qbb (PV.rpoly l) v /\ Qul l := by
 obtain ⟨p, ⟨l, e, h⟩, h2⟩ := Q19 Tryz.underlying65 Qcl Qaba hd hn
 obtain rfl : p = PV.rpoly l := by simpa using e
 exact ⟨l, h2, h⟩
theorem Qabb (Qcl : Value.okWide Tryz.prog w r b0 3 v) (hd : DataW.Trod enc Tryz.prog w base spare held 3 v d ps) (hn : Rows.uptoBulk d <= 1048576) : ∃ n : Int, Qab w Qbb (.int .i64 n) v /\ -9223372036854775808 <= n /\ n <= 9223372036854775807 := by
 obtain ⟨p, ⟨n, e, h⟩, h2⟩ := FW.Q98 Tryz.underlying3 Qcl (Qtl Tryz.underlying3) hd hn
 obtain rfl : p = .int .i64 n := by simpa using e
 exact ⟨n, h2, h⟩
theorem Q2f {f : FuncId} {fn : Func} {s : ChangeSpec} {ap fresh handsOn Qoi : Bool} {W : World} {args : Array Value} {ds gs : List (DataW H)} {before : List MemPlace} {pargs : List PV}
  (hW : DataW.Whole enc Tryz.prog fn.params.toList s.vars ap W args.toList ds gs before) (hvars : s.vars = []) (hres : fn.resultTypes = #[4]) (hpar : (fn.params.toList.all fun t => decide (t < Tryz.prog.types.size)) = true)
  (hfn : s.fn H (ds ++ gs) = { results := [.lit (.bool true)], args := ds })
  (hF : Qe Tryz.prog f pargs (· = .bool true)) (hsize : args.size = pargs.length) (hrep : ∀ (i : Nat) (x : PV), pargs[i]? = some x -> Qab W Qbb x (args.getD i undef)) :
  Calls Tryz.prog f args W fun e W' => ∃ v, e = .returned v /\ s.post enc Tryz.prog fn ap fresh handsOn Qoi W args v W' := by
 simp only [List.all_eq_true, decide_eq_true_eq] at hpar
 exact Qv3 hW hvars hres Tryz.underlying4 laid Qafe (fun h1 h2 => Qaff h1 h2) hpar hfn hF hsize hrep
theorem Q6d {w : World} {ps : List PV} {vs : List Value} (h : ∀ (i : Nat) (x : PV), ps[i]? = some x -> ∀ v, vs[i]? = some v -> Qab w Qbb x v) (hl : vs.length = ps.length) : ∀ (i : Nat) (x : PV), ps[i]? = some x -> Qab w Qbb x (vs.toArray.getD i undef) := by
 intro i x hx
 have hi : i < vs.length := by rw [hl]; exact (List.getElem?_eq_some_iff.1 hx).1
 have := h i x hx vs[i] (List.getElem?_eq_getElem hi)
 simpa [Array.getD, hi] using this
end Go.Proofs.YtmnkngmmfnncoaaGreat
namespace Go.Proofs.YtmnkngmmfnncoaaGreat
open Go Go.FW
set_option maxRecDepth 100000
def Q6e : SFn := ⟨47, [.t 6], .seq (.rg (.o none (.mv 6 (.c .nilS)) .nil)) <| .seq (.rg (.o none (.mv 11 (.t 0)) <|
 .o none (.len 12 (.t 11)) <|
 .o none (.mv 13 (.t 1)) <|
 .o none (.len 14 (.t 13)) <|
 .o none (.mx 15 (.t 12) (.t 14)) <|
 .o none (.mk 16 1 8 3 (.int .i64 0) (.t 15) (.t 15)) <|
 .o none (.mv 7 (.t 16)) .nil)) <| .seq (.seq (.rg (.o none (.mv 17 (.t 7)) <|
 .o none (.len 18 (.t 17)) <|
 .o none (.mv 19 (.c (.int .i64 0))) .nil)) <| .block 0 (.loop (.seq (.rg (.o none (.bin 20 .lss false (.t 19) (.t 18)) .nil)) <| .seq (.cond (.t 20) (.skip) (.exit 0)) <| .seq (.block 1 (.seq (.rg (.o none (.mv 21 (.t 19)) <|
 .o none (.mv 8 (.t 21)) .nil)) <| .seq (.rg (.o none (.mv 9 (.c (.int .i64 0))) <|
 .o none (.mv 10 (.c (.int .i64 0))) .nil)) <| .seq (.seq (.rg (.o none (.mv 22 (.t 8)) <|
 .o none (.mv 23 (.t 0)) <|
 .o none (.len 24 (.t 23)) <|
 .o none (.bin 25 .lss false (.t 22) (.t 24)) .nil)) <| .cond (.t 25) (.rg (.o none (.mv 26 (.t 0)) <|
 .o none (.mv 27 (.t 8)) <|
 .o none (.idx 28 1 (.t 26) (.t 27)) <|
 .o none (.ld 29 1 false (.t 28)) <|
 .o none (.mv 9 (.t 29)) .nil)) (.skip)) <| .seq (.seq (.rg (.o none (.mv 30 (.t 8)) <|
 .o none (.mv 31 (.t 1)) <|
 .o none (.len 32 (.t 31)) <|
 .o none (.bin 33 .lss false (.t 30) (.t 32)) .nil)) <| .cond (.t 33) (.rg (.o none (.mv 34 (.t 1)) <|
 .o none (.mv 35 (.t 8)) <|
 .o none (.idx 36 1 (.t 34) (.t 35)) <|
 .o none (.ld 37 1 false (.t 36)) <|
 .o none (.mv 10 (.t 37)) .nil)) (.skip)) <| .rg (.o none (.mv 38 (.t 7)) <|
 .o none (.mv 39 (.t 8)) <|
 .o none (.mv 40 (.t 2)) <|
 .o none (.mv 41 (.t 9)) <|
 .o none (.mv 42 (.t 10)) <|
 .o none (.call (some 43) false (.t 40) [(.t 41), (.t 42)]) <|
 .o none (.idx 44 1 (.t 38) (.t 39)) <|
 .o none (.st 1 (.t 44) (.t 43)) .nil))) <| .rg (.o none (.bin 45 .add false (.t 19) (.c (.int .i64 1))) <|
 .o none (.mv 19 (.t 45)) .nil)))) <| .seq (.rg (.o none (.mv 46 (.t 7)) <|
 .o none (.mv 6 (.t 46)) .nil)) <| .ret⟩
theorem Qabc : Qf Tryz.prog Tryz.f191 = some Q6e := by kernel_rfl
def Q6f : SFn := ⟨24, [.t 2], .seq (.rg (.o none (.mv 2 (.c .nilS)) .nil)) <| .seq (.rg (.o none (.mv 4 (.t 0)) <|
 .o none (.len 5 (.t 4)) <|
 .o none (.mv 3 (.t 5)) .nil)) <| .seq (.block 0 (.loop (.seq (.seq (.rg (.o none (.mv 6 (.t 3)) <|
 .o none (.bin 7 .gtr false (.t 6) (.c (.int .i64 0))) <|
 .o none (.mv 8 (.t 7)) <|
 .o (some (8, true)) (.mv 9 (.t 0)) <|
 .o (some (8, true)) (.mv 10 (.t 3)) <|
 .o (some (8, true)) (.bin 11 .sub false (.t 10) (.c (.int .i64 1))) <|
 .o (some (8, true)) (.idx 12 1 (.t 9) (.t 11)) <|
 .o (some (8, true)) (.ld 13 1 false (.t 12)) <|
 .o (some (8, true)) (.bin 14 .eql false (.t 13) (.c (.int .i64 0))) <|
 .o none (.pick 15 (.t 8) (.t 14) (.c (.bool false))) .nil)) <| .cond (.t 15) (.skip) (.exit 0)) <| .block 1 (.rg (.o none (.mv 16 (.t 3)) <|
 .o none (.bin 17 .sub false (.t 16) (.c (.int .i64 1))) <|
 .o none (.mv 3 (.t 17)) .nil))))) <| .seq (.seq (.rg (.o none (.mv 18 (.t 3)) <|
 .o none (.bin 19 .eql false (.t 18) (.c (.int .i64 0))) .nil)) <| .cond (.t 19) (.seq (.rg (.o none (.mv 2 (.c .nilS)) .nil)) <| .ret) (.skip)) <| .seq (.rg (.o none (.mv 20 (.t 0)) <|
 .o none (.mv 21 (.t 3)) <|
 .o none (.mv 22 (.t 3)) <|
 .o none (.sl 23 1 (.t 20) none (some (.t 21)) (some (.t 22))) <|
 .o none (.mv 2 (.t 23)) .nil)) <| .ret⟩
theorem Qabd : Qf Tryz.prog Tryz.f186 = some Q6f := by kernel_rfl
def Q6g : SFn := ⟨17, [.t 2], .seq (.rg (.o none (.mv 2 (.c (.int .i64 0))) .nil)) <| .seq (.rg (.o none (.mv 3 (.c (.int .i64 0))) .nil)) <| .seq (.seq (.rg (.o none (.mv 6 (.t 0)) <|
 .o none (.len 7 (.t 6)) <|
 .o none (.mv 8 (.c (.int .i64 0))) .nil)) <| .block 0 (.loop (.seq (.rg (.o none (.bin 9 .lss false (.t 8) (.t 7)) .nil)) <| .seq (.cond (.t 9) (.skip) (.exit 0)) <| .seq (.block 1 (.seq (.rg (.o none (.idx 10 1 (.t 6) (.t 8)) <|
 .o none (.ld 11 1 false (.t 10)) <|
 .o none (.mv 5 (.t 11)) .nil)) <| .rg (.o none (.mv 12 (.t 3)) <|
 .o none (.mv 13 (.t 5)) <|
 .o none (.bin 14 .add false (.t 12) (.t 13)) <|
 .o none (.mv 3 (.t 14)) .nil))) <| .rg (.o none (.bin 15 .add false (.t 8) (.c (.int .i64 1))) <|
 .o none (.mv 8 (.t 15)) .nil)))) <| .seq (.rg (.o none (.mv 16 (.t 3)) <|
 .o none (.mv 2 (.t 16)) .nil)) <| .ret⟩
theorem Qabe : Qf Tryz.prog Tryz.f193 = some Q6g := by kernel_rfl
def Q6h : SFn := ⟨17, [.t 4], .seq (.rg (.o none (.mv 4 (.c (.int .i64 0))) .nil)) <| .seq (.seq (.rg (.o none (.mv 5 (.t 1)) <|
 .o none (.bin 6 .lss false (.t 5) (.c (.int .i64 0))) <|
 .o none (.mv 7 (.t 6)) <|
 .o (some (7, false)) (.mv 8 (.t 1)) <|
 .o (some (7, false)) (.mv 9 (.t 0)) <|
 .o (some (7, false)) (.len 10 (.t 9)) <|
 .o (some (7, false)) (.bin 11 .geq false (.t 8) (.t 10)) <|
 .o none (.pick 12 (.t 7) (.c (.bool true)) (.t 11)) .nil)) <| .cond (.t 12) (.seq (.rg (.o none (.mv 4 (.c (.int .i64 0))) .nil)) <| .ret) (.skip)) <| .seq (.rg (.o none (.mv 13 (.t 0)) <|
 .o none (.mv 14 (.t 1)) <|
 .o none (.idx 15 1 (.t 13) (.t 14)) <|
 .o none (.ld 16 1 false (.t 15)) <|
 .o none (.mv 4 (.t 16)) .nil)) <| .ret⟩
theorem Qabf : Qf Tryz.prog Tryz.f130 = some Q6h := by kernel_rfl
def Q6i : SFn := ⟨9, [.t 4], .seq (.rg (.o none (.mv 4 (.c .nilS)) .nil)) <| .seq (.rg (.o none (.mv 5 (.t 0)) <|
 .o none (.mv 6 (.t 1)) <|
 .o none (.call (some 7) false (.c (.fn 191 [] [])) [(.t 5), (.t 6), (.c (.fn 219 [] []))]) <|
 .o none (.call (some 8) false (.c (.fn 186 [] [])) [(.t 7)]) <|
 .o none (.mv 4 (.t 8)) .nil)) <| .ret⟩
theorem Qabg : Qf Tryz.prog Tryz.f194 = some Q6i := by kernel_rfl
def Q6j : SFn := ⟨8, [.t 4], .seq (.rg (.o none (.mv 4 (.c (.int .i64 0))) .nil)) <| .seq (.rg (.o none (.mv 5 (.t 0)) <|
 .o none (.mv 6 (.t 1)) <|
 .o none (.bin 7 .add false (.t 5) (.t 6)) <|
 .o none (.mv 4 (.t 7)) .nil)) <| .ret⟩
theorem Qabh : Qf Tryz.prog Tryz.f219 = some Q6j := by kernel_rfl
def Q6k : SFn := ⟨46, [.t 6], .seq (.rg (.o none (.mv 6 (.c (.int .i64 0))) .nil)) <| .seq (.seq (.rg (.o none (.mv 12 (.t 2)) <|
 .o none (.bin 13 .eql false (.t 12) (.c (.int .i64 1))) .nil)) <| .cond (.t 13) (.seq (.rg (.o none (.mv 14 (.t 0)) <|
 .o none (.call (some 15) false (.c (.fn 193 [] [])) [(.t 14)]) <|
 .o none (.mv 16 (.t 1)) <|
 .o none (.call (some 17) false (.c (.fn 193 [] [])) [(.t 16)]) <|
 .o none (.mv 7 (.t 15)) <|
 .o none (.mv 8 (.t 17)) .nil)) <| .seq (.rg (.o none (.mv 18 (.t 7)) <|
 .o none (.mv 19 (.t 8)) <|
 .o none (.bin 20 .neq false (.t 18) (.t 19)) .nil)) <| .cond (.t 20) (.seq (.seq (.rg (.o none (.mv 21 (.t 7)) <|
 .o none (.mv 22 (.t 8)) <|
 .o none (.bin 23 .lss false (.t 21) (.t 22)) .nil)) <| .cond (.t 23) (.seq (.rg (.o none (.mv 6 (.c (.int .i64 (-1)))) .nil)) <| .ret) (.skip)) <| .seq (.rg (.o none (.mv 6 (.c (.int .i64 1))) .nil)) <| .ret) (.skip)) (.skip)) <| .seq (.seq (.rg (.o none (.mv 24 (.t 0)) <|
 .o none (.len 25 (.t 24)) <|
 .o none (.mv 26 (.t 1)) <|
 .o none (.len 27 (.t 26)) <|
 .o none (.mx 28 (.t 25) (.t 27)) <|
 .o none (.bin 29 .sub false (.t 28) (.c (.int .i64 1))) <|
 .o none (.mv 9 (.t 29)) .nil)) <| .block 0 (.loop (.seq (.seq (.rg (.o none (.mv 30 (.t 9)) <|
 .o none (.bin 31 .geq false (.t 30) (.c (.int .i64 0))) .nil)) <| .cond (.t 31) (.skip) (.exit 0)) <| .seq (.block 1 (.seq (.rg (.o none (.mv 34 (.t 0)) <|
 .o none (.mv 35 (.t 9)) <|
 .o none (.call (some 36) false (.c (.fn 130 [] [])) [(.t 34), (.t 35)]) <|
 .o none (.mv 37 (.t 1)) <|
 .o none (.mv 38 (.t 9)) <|
 .o none (.call (some 39) false (.c (.fn 130 [] [])) [(.t 37), (.t 38)]) <|
 .o none (.mv 10 (.t 36)) <|
 .o none (.mv 11 (.t 39)) .nil)) <| .seq (.rg (.o none (.mv 40 (.t 10)) <|
 .o none (.mv 41 (.t 11)) <|
 .o none (.bin 42 .neq false (.t 40) (.t 41)) .nil)) <| .cond (.t 42) (.seq (.seq (.rg (.o none (.mv 43 (.t 10)) <|
 .o none (.mv 44 (.t 11)) <|
 .o none (.bin 45 .lss false (.t 43) (.t 44)) .nil)) <| .cond (.t 45) (.seq (.rg (.o none (.mv 6 (.c (.int .i64 (-1)))) .nil)) <| .ret) (.skip)) <| .seq (.rg (.o none (.mv 6 (.c (.int .i64 1))) .nil)) <| .ret) (.skip))) <| .rg (.o none (.mv 32 (.t 9)) <|
 .o none (.bin 33 .sub false (.t 32) (.c (.int .i64 1))) <|
 .o none (.mv 9 (.t 33)) .nil)))) <| .seq (.rg (.o none (.mv 6 (.c (.int .i64 0))) .nil)) <| .ret⟩
theorem Qabi : Qf Tryz.prog Tryz.f140 = some Q6k := by kernel_rfl
def Q6l : SFn := ⟨20, [.t 4], .seq (.rg (.o none (.mv 4 (.c (.bool false))) .nil)) <| .seq (.seq (.rg (.o none (.mv 7 (.t 0)) <|
 .o none (.len 8 (.t 7)) <|
 .o none (.mv 9 (.c (.int .i64 0))) .nil)) <| .block 0 (.loop (.seq (.rg (.o none (.bin 10 .lss false (.t 9) (.t 8)) .nil)) <| .seq (.cond (.t 10) (.skip) (.exit 0)) <| .seq (.block 1 (.seq (.rg (.o none (.mv 11 (.t 9)) <|
 .o none (.idx 12 1 (.t 7) (.t 9)) <|
 .o none (.ld 13 1 false (.t 12)) <|
 .o none (.mv 5 (.t 11)) <|
 .o none (.mv 6 (.t 13)) .nil)) <| .seq (.rg (.o none (.mv 14 (.t 6)) <|
 .o none (.mv 15 (.t 1)) <|
 .o none (.mv 16 (.t 5)) <|
 .o none (.call (some 17) false (.c (.fn 130 [] [])) [(.t 15), (.t 16)]) <|
 .o none (.bin 18 .gtr false (.t 14) (.t 17)) .nil)) <| .cond (.t 18) (.seq (.rg (.o none (.mv 4 (.c (.bool false))) .nil)) <| .ret) (.skip))) <| .rg (.o none (.bin 19 .add false (.t 9) (.c (.int .i64 1))) <|
 .o none (.mv 9 (.t 19)) .nil)))) <| .seq (.rg (.o none (.mv 4 (.c (.bool true))) .nil)) <| .ret⟩
theorem Qabj : Qf Tryz.prog Tryz.f190 = some Q6l := by kernel_rfl
def Q6m : SFn := ⟨14, [.t 4, .t 5], .seq (.rg (.o none (.mv 4 (.c .nilS)) <|
 .o none (.mv 5 (.c (.bool false))) .nil)) <| .seq (.seq (.rg (.o none (.mv 6 (.t 1)) <|
 .o none (.mv 7 (.t 0)) <|
 .o none (.call (some 8) false (.c (.fn 190 [] [])) [(.t 6), (.t 7)]) <|
 .o none (.un 9 .not (.t 8)) .nil)) <| .cond (.t 9) (.seq (.rg (.o none (.mv 4 (.c .nilS)) <|
 .o none (.mv 5 (.c (.bool false))) .nil)) <| .ret) (.skip)) <| .seq (.rg (.o none (.mv 10 (.t 0)) <|
 .o none (.mv 11 (.t 1)) <|
 .o none (.call (some 12) false (.c (.fn 191 [] [])) [(.t 10), (.t 11), (.c (.fn 192 [] []))]) <|
 .o none (.call (some 13) false (.c (.fn 186 [] [])) [(.t 12)]) <|
 .o none (.mv 4 (.t 13)) <|
 .o none (.mv 5 (.c (.bool true))) .nil)) <| .ret⟩
theorem Qabk : Qf Tryz.prog Tryz.f138 = some Q6m := by kernel_rfl
def Q6n : SFn := ⟨8, [.t 4], .seq (.rg (.o none (.mv 4 (.c (.int .i64 0))) .nil)) <| .seq (.rg (.o none (.mv 5 (.t 0)) <|
 .o none (.mv 6 (.t 1)) <|
 .o none (.bin 7 .sub false (.t 5) (.t 6)) <|
 .o none (.mv 4 (.t 7)) .nil)) <| .ret⟩
theorem Qabl : Qf Tryz.prog Tryz.f192 = some Q6n := by kernel_rfl
end Go.Proofs.YtmnkngmmfnncoaaGreat
namespace Go.Proofs.YtmnkngmmfnncoaaGreat
open Go Go.FW
set_option maxRecDepth 100000
def Q6o : SFn := ⟨97, [.t 8], .seq (.rg (.o none (.mv 8 (.c .nilS)) .nil)) <| .seq (.rg (.o none (.mv 15 (.t 0)) <|
 .o none (.len 16 (.t 15)) <|
 .o none (.mv 17 (.t 1)) <|
 .o none (.len 18 (.t 17)) <|
 .o none (.bin 19 .add false (.t 16) (.t 18)) <|
 .o none (.mk 20 4 80 133 (.agg [(.bool false), .nilS, .nilS, .nilS]) (.c (.int .i64 0)) (.t 19)) <|
 .o none (.mv 9 (.t 20)) .nil)) <| .seq (.rg (.o none (.mv 10 (.c (.int .i64 0))) <|
 .o none (.mv 11 (.c (.int .i64 0))) .nil)) <| .seq (.block 0 (.loop (.seq (.seq (.rg (.o none (.mv 21 (.t 10)) <|
 .o none (.mv 22 (.t 0)) <|
 .o none (.len 23 (.t 22)) <|
 .o none (.bin 24 .lss false (.t 21) (.t 23)) <|
 .o none (.mv 25 (.t 24)) <|
 .o (some (25, true)) (.mv 26 (.t 11)) <|
 .o (some (25, true)) (.mv 27 (.t 1)) <|
 .o (some (25, true)) (.len 28 (.t 27)) <|
 .o (some (25, true)) (.bin 29 .lss false (.t 26) (.t 28)) <|
 .o none (.pick 30 (.t 25) (.t 29) (.c (.bool false))) .nil)) <| .cond (.t 30) (.skip) (.exit 0)) <| .block 1 (.seq (.rg (.o none (.mv 31 (.t 2)) <|
 .o none (.mv 32 (.t 0)) <|
 .o none (.mv 33 (.t 10)) <|
 .o none (.idx 34 4 (.t 32) (.t 33)) <|
 .o none (.ld 35 4 true (.t 34)) <|
 .o none (.mv 36 (.t 1)) <|
 .o none (.mv 37 (.t 11)) <|
 .o none (.idx 38 4 (.t 36) (.t 37)) <|
 .o none (.ld 39 4 true (.t 38)) <|
 .o none (.call (some 40) false (.t 31) [(.t 35), (.t 39)]) <|
 .o none (.mv 12 (.t 40)) .nil)) <| .block 2 (.seq (.rg (.o none (.mv 64 (.t 12)) <|
 .o none (.bin 65 .gtr false (.t 64) (.c (.int .i64 0))) <|
 .o none (.mv 63 (.t 65)) .nil)) <| .cond (.t 63) (.seq (.rg (.o none (.mv 66 (.t 9)) <|
 .o none (.mv 67 (.t 0)) <|
 .o none (.mv 68 (.t 10)) <|
 .o none (.idx 69 4 (.t 67) (.t 68)) <|
 .o none (.ld 70 4 true (.t 69)) <|
 .o none (.bs 71 4 133 [(.t 70)]) <|
 .o none (.app 72 4 80 133 (.t 66) (.t 71)) <|
 .o none (.mv 9 (.t 72)) .nil)) <| .rg (.o none (.mv 73 (.t 10)) <|
 .o none (.bin 74 .add false (.t 73) (.c (.int .i64 1))) <|
 .o none (.mv 10 (.t 74)) .nil)) (.seq (.rg (.o none (.mv 76 (.t 12)) <|
 .o none (.bin 77 .lss false (.t 76) (.c (.int .i64 0))) <|
 .o none (.mv 75 (.t 77)) .nil)) <| .cond (.t 75) (.seq (.rg (.o none (.mv 78 (.t 9)) <|
 .o none (.mv 79 (.t 1)) <|
 .o none (.mv 80 (.t 11)) <|
 .o none (.idx 81 4 (.t 79) (.t 80)) <|
 .o none (.ld 82 4 true (.t 81)) <|
 .o none (.bs 83 4 133 [(.t 82)]) <|
 .o none (.app 84 4 80 133 (.t 78) (.t 83)) <|
 .o none (.mv 9 (.t 84)) .nil)) <| .rg (.o none (.mv 85 (.t 11)) <|
 .o none (.bin 86 .add false (.t 85) (.c (.int .i64 1))) <|
 .o none (.mv 11 (.t 86)) .nil)) (.seq (.seq (.rg (.o none (.mv 42 (.t 3)) <|
 .o none (.mv 43 (.t 0)) <|
 .o none (.mv 44 (.t 10)) <|
 .o none (.idx 45 4 (.t 43) (.t 44)) <|
 .o none (.ld 46 4 true (.t 45)) <|
 .o none (.mv 47 (.t 1)) <|
 .o none (.mv 48 (.t 11)) <|
 .o none (.idx 49 4 (.t 47) (.t 48)) <|
 .o none (.ld 50 4 true (.t 49)) <|
 .br (.o none (.call (some 51) true (.t 42) [(.t 46), (.t 50)]) <|
 .o none (.mv 41 (.t 51)) <|
 .o none (.ext 52 (.t 41) 0) <|
 .o none (.ext 53 (.t 41) 1) <|
 .o none (.alloc 13 4 133 (.agg [(.bool false), .nilS, .nilS, .nilS])) <|
 .o none (.st 4 (.t 13) (.t 52)) <|
 .o none (.mv 14 (.t 53)) .nil) (.o none (.alloc 13 4 133 (.agg [(.bool false), .nilS, .nilS, .nilS])) <|
 .o none (.call (some 51) true (.t 42) [(.t 46), (.t 50)]) <|
 .o none (.mv 41 (.t 51)) <|
 .o none (.ext 52 (.t 41) 0) <|
 .o none (.ext 53 (.t 41) 1) <|
 .o none (.st 4 (.t 13) (.t 52)) <|
 .o none (.mv 14 (.t 53)) .nil))) <| .seq (.rg (.o none (.mv 54 (.t 14)) .nil)) <| .cond (.t 54) (.rg (.o none (.mv 55 (.t 9)) <|
 .o none (.ld 56 4 true (.t 13)) <|
 .o none (.bs 57 4 133 [(.t 56)]) <|
 .o none (.app 58 4 80 133 (.t 55) (.t 57)) <|
 .o none (.mv 9 (.t 58)) .nil)) (.skip)) <| .seq (.rg (.o none (.mv 59 (.t 10)) <|
 .o none (.bin 60 .add false (.t 59) (.c (.int .i64 1))) <|
 .o none (.mv 10 (.t 60)) .nil)) <| .rg (.o none (.mv 61 (.t 11)) <|
 .o none (.bin 62 .add false (.t 61) (.c (.int .i64 1))) <|
 .o none (.mv 11 (.t 62)) .nil)))))))) <| .seq (.rg (.o none (.mv 87 (.t 9)) <|
 .o none (.mv 88 (.t 0)) <|
 .o none (.mv 89 (.t 10)) <|
 .o none (.sl 90 4 (.t 88) (some (.t 89)) none none) <|
 .o none (.app 91 4 80 133 (.t 87) (.t 90)) <|
 .o none (.mv 9 (.t 91)) .nil)) <| .seq (.rg (.o none (.mv 92 (.t 9)) <|
 .o none (.mv 93 (.t 1)) <|
 .o none (.mv 94 (.t 11)) <|
 .o none (.sl 95 4 (.t 93) (some (.t 94)) none none) <|
 .o none (.app 96 4 80 133 (.t 92) (.t 95)) <|
 .o none (.mv 8 (.t 96)) .nil)) <| .ret⟩
theorem Qabm : Qf Tryz.prog Tryz.f151 = some Q6o := by kernel_rfl
def Q6p : SFn := ⟨10, [.t 4], .seq (.rg (.o none (.box 2 4 133 (.t 0)) <|
 .o none (.box 3 4 133 (.t 1)) <|
 .o none (.mv 4 (.c (.int .i64 0))) .nil)) <| .seq (.rg (.o none (.fld 5 3 (.t 2)) <|
 .o none (.ld 6 1 false (.t 5)) <|
 .o none (.fld 7 3 (.t 3)) <|
 .o none (.ld 8 1 false (.t 7)) <|
 .o none (.call (some 9) false (.c (.fn 140 [] [])) [(.t 6), (.t 8), (.c (.int .i64 0))]) <|
 .o none (.mv 4 (.t 9)) .nil)) <| .ret⟩
theorem Qabn : Qf Tryz.prog Tryz.f152 = some Q6p := by kernel_rfl
def Q6q : SFn := ⟨19, [.cell 4 4 true, .t 5], .seq (.rg (.o none (.box 2 4 133 (.t 0)) <|
 .o none (.box 3 4 133 (.t 1)) <|
 .o none (.alloc 4 4 133 (.agg [(.bool false), .nilS, .nilS, .nilS])) <|
 .o none (.mv 5 (.c (.bool false))) .nil)) <| .seq (.rg (.o none (.fld 7 0 (.t 2)) <|
 .o none (.ld 8 3 true (.t 7)) <|
 .o none (.fld 9 0 (.t 3)) <|
 .o none (.ld 10 3 true (.t 9)) <|
 .o none (.call (some 11) false (.c (.fn 37 [] [])) [(.t 8), (.t 10)]) <|
 .o none (.alloc 6 3 32 (.agg [(.bool false), .nilS, .nilS])) <|
 .o none (.st 3 (.t 6) (.t 11)) .nil)) <| .seq (.rg (.o none (.ld 12 3 true (.t 6)) <|
 .o none (.fld 13 3 (.t 2)) <|
 .o none (.ld 14 1 false (.t 13)) <|
 .o none (.bld 15 [(.bool false), .nilS, .nilS, .nilS] [(0, 3, (.t 12)), (3, 1, (.t 14))]) <|
 .o none (.ld 16 3 true (.t 6)) <|
 .o none (.call (some 17) true (.c (.fn 36 [] [])) [(.t 16)]) <|
 .o none (.bin 18 .neq false (.t 17) (.c (.int .i64 0))) <|
 .o none (.st 4 (.t 4) (.t 15)) <|
 .o none (.mv 5 (.t 18)) .nil)) <| .ret⟩
theorem Qabo : Qf Tryz.prog Tryz.f153 = some Q6q := by kernel_rfl
def Qv9 : SFn := ⟨25, [.t 2], .seq (.rg (.o none (.mv 2 (.c .nilS)) .nil)) <| .seq (.seq (.rg (.o none (.mv 4 (.t 0)) <|
 .o none (.len 5 (.t 4)) .nil)) <| .block 0 (.seq (.rg (.o none (.bin 7 .eql false (.t 5) (.c (.int .i64 0))) <|
 .o none (.mv 6 (.t 7)) .nil)) <| .cond (.t 6) (.seq (.rg (.o none (.mv 2 (.c .nilS)) .nil)) <| .ret) (.seq (.rg (.o none (.bin 9 .eql false (.t 5) (.c (.int .i64 1))) <|
 .o none (.mv 8 (.t 9)) .nil)) <| .cond (.t 8) (.seq (.rg (.o none (.mv 10 (.t 0)) <|
 .o none (.idx 11 1 (.t 10) (.c (.int .i64 0))) <|
 .o none (.ld 12 1 false (.t 11)) <|
 .o none (.mv 2 (.t 12)) .nil)) <| .ret) (.skip)))) <| .seq (.rg (.o none (.mv 13 (.t 0)) <|
 .o none (.len 14 (.t 13)) <|
 .o none (.bin 15 .quo false (.t 14) (.c (.int .i64 2))) <|
 .o none (.mv 3 (.t 15)) .nil)) <| .seq (.rg (.o none (.mv 16 (.t 0)) <|
 .o none (.mv 17 (.t 3)) <|
 .o none (.sl 18 1 (.t 16) none (some (.t 17)) none) <|
 .o none (.mv 20 (.t 0)) <|
 .o none (.mv 21 (.t 3)) <|
 .o none (.sl 22 1 (.t 20) (some (.t 21)) none none) <|
 .o none (.call (some 19) false (.c (.fn 142 [] [])) [(.t 18)]) <|
 .o none (.call (some 23) false (.c (.fn 142 [] [])) [(.t 22)]) <|
 .o none (.call (some 24) false (.c (.fn 75 [] [])) [(.t 19), (.t 23)]) <|
 .o none (.mv 2 (.t 24)) .nil)) <| .ret⟩
theorem Qyg : Qf Tryz.prog Tryz.f142 = some Qv9 := by kernel_rfl
def Q6r : SFn := ⟨12, [.t 4], .seq (.rg (.o none (.box 2 3 32 (.t 0)) <|
 .o none (.mv 4 (.c .nilS)) .nil)) <| .seq (.seq (.rg (.o none (.ld 5 3 true (.t 2)) <|
 .o none (.call (some 6) false (.c (.fn 36 [] [])) [(.t 5)]) <|
 .o none (.bin 7 .eql false (.t 6) (.c (.int .i64 0))) .nil)) <| .cond (.t 7) (.seq (.rg (.o none (.mv 4 (.c .nilS)) .nil)) <| .ret) (.skip)) <| .seq (.rg (.o none (.ld 8 3 true (.t 2)) <|
 .o none (.mv 9 (.t 1)) <|
 .o none (.bld 10 [(.bool false), .nilS, .nilS, .nilS] [(0, 3, (.t 8)), (3, 1, (.t 9))]) <|
 .o none (.bs 11 4 133 [(.t 10)]) <|
 .o none (.mv 4 (.t 11)) .nil)) <| .ret⟩
theorem Qabp : Qf Tryz.prog Tryz.f181 = some Q6r := by kernel_rfl
def Q6s : SFn := ⟨7, [.t 2], .seq (.rg (.o none (.box 1 3 32 (.t 0)) <|
 .o none (.mv 2 (.c .nilS)) .nil)) <| .seq (.rg (.o none (.ld 3 3 true (.t 1)) <|
 .o none (.call (some 4) true (.c (.fn 79 [] [])) [(.c (.int .i64 0))]) <|
 .o none (.call (some 5) true (.c (.fn 37 [] [])) [(.t 3), (.t 4)]) <|
 .o none (.call (some 6) true (.c (.fn 181 [] [])) [(.t 5), (.c .nilS)]) <|
 .o none (.mv 2 (.t 6)) .nil)) <| .ret⟩
theorem Qabq : Qf Tryz.prog Tryz.f123 = some Q6s := by kernel_rfl
def Q6t : SFn := ⟨19, [.t 2], .seq (.rg (.o none (.mv 2 (.c .nilS)) .nil)) <| .seq (.seq (.rg (.o none (.mv 4 (.t 0)) <|
 .o none (.bin 5 .lss false (.t 4) (.c (.int .i64 0))) <|
 .o none (.mv 6 (.t 5)) <|
 .o (some (6, false)) (.mv 7 (.t 0)) <|
 .o (some (6, false)) (.bin 8 .geq false (.t 7) (.c (.int .i64 64))) <|
 .o none (.pick 9 (.t 6) (.c (.bool true)) (.t 8)) .nil)) <| .cond (.t 9) (.seq (.rg (.o none (.mv 2 (.c .nilS)) .nil)) <| .ret) (.skip)) <| .seq (.rg (.o none (.mv 10 (.t 0)) <|
 .o none (.bin 11 .add false (.t 10) (.c (.int .i64 1))) <|
 .o none (.mk 12 1 8 3 (.int .i64 0) (.t 11) (.t 11)) <|
 .o none (.mv 3 (.t 12)) .nil)) <| .seq (.rg (.o none (.mv 13 (.t 3)) <|
 .o none (.mv 14 (.t 0)) <|
 .o none (.idx 15 1 (.t 13) (.t 14)) <|
 .o none (.st 1 (.t 15) (.c (.int .i64 1))) .nil)) <| .seq (.rg (.o none (.call (some 16) false (.c (.fn 79 [] [])) [(.c (.int .i64 1))]) <|
 .o none (.mv 17 (.t 3)) <|
 .o none (.call (some 18) false (.c (.fn 181 [] [])) [(.t 16), (.t 17)]) <|
 .o none (.mv 2 (.t 18)) .nil)) <| .ret⟩
theorem Qabr : Qf Tryz.prog Tryz.f122 = some Q6t := by kernel_rfl
def c65 : SFn := ⟨9, [.t 4], .seq (.rg (.o none (.mv 4 (.c (.bool false))) .nil)) <| .seq (.rg (.o none (.mv 5 (.t 0)) <|
 .o none (.mv 6 (.t 1)) <|
 .o none (.call (some 7) false (.c (.fn 136 [] [])) [(.t 5), (.t 6)]) <|
 .o none (.bin 8 .eql false (.t 7) (.c (.int .i64 0))) <|
 .o none (.mv 4 (.t 8)) .nil)) <| .ret⟩
theorem Qafi : Qf Tryz.prog Tryz.f65 = some c65 := by kernel_rfl
def Q6u : SFn := ⟨10, [.t 4], .seq (.rg (.o none (.mv 4 (.c (.int .i64 0))) .nil)) <| .seq (.rg (.o none (.mv 5 (.c (.fn 188 [] []))) .nil)) <| .seq (.rg (.o none (.mv 6 (.t 0)) <|
 .o none (.mv 7 (.t 1)) <|
 .o none (.mv 8 (.t 5)) <|
 .o none (.call (some 9) false (.c (.fn 189 [] [])) [(.t 6), (.t 7), (.t 8)]) <|
 .o none (.mv 4 (.t 9)) .nil)) <| .ret⟩
theorem Qabs : Qf Tryz.prog Tryz.f136 = some Q6u := by kernel_rfl
def Q6v : SFn := ⟨17, [.t 4], .seq (.rg (.o none (.box 2 4 133 (.t 0)) <|
 .o none (.box 3 4 133 (.t 1)) <|
 .o none (.mv 4 (.c (.int .i64 0))) .nil)) <| .seq (.seq (.rg (.o none (.ld 6 4 true (.t 2)) <|
 .o none (.ld 7 4 true (.t 3)) <|
 .o none (.call (some 8) false (.c (.fn 152 [] [])) [(.t 6), (.t 7)]) <|
 .o none (.mv 5 (.t 8)) .nil)) <| .seq (.rg (.o none (.mv 9 (.t 5)) <|
 .o none (.bin 10 .neq false (.t 9) (.c (.int .i64 0))) .nil)) <| .cond (.t 10) (.seq (.rg (.o none (.mv 11 (.t 5)) <|
 .o none (.mv 4 (.t 11)) .nil)) <| .ret) (.skip)) <| .seq (.rg (.o none (.fld 12 0 (.t 2)) <|
 .o none (.ld 13 3 true (.t 12)) <|
 .o none (.fld 14 0 (.t 3)) <|
 .o none (.ld 15 3 true (.t 14)) <|
 .o none (.call (some 16) false (.c (.fn 115 [] [])) [(.t 13), (.t 15)]) <|
 .o none (.mv 4 (.t 16)) .nil)) <| .ret⟩
theorem Qabt : Qf Tryz.prog Tryz.f188 = some Q6v := by kernel_rfl
def Q6w : SFn := ⟨6, [.t 2], .seq (.rg (.o none (.mv 2 (.c .nilS)) .nil)) <| .seq (.rg (.o none (.mv 3 (.t 0)) <|
 .o none (.call (some 4) false (.c (.fn 79 [] [])) [(.c (.int .i64 (-1)))]) <|
 .o none (.call (some 5) false (.c (.fn 70 [] [])) [(.t 3), (.t 4)]) <|
 .o none (.mv 2 (.t 5)) .nil)) <| .ret⟩
theorem Qabu : Qf Tryz.prog Tryz.f182 = some Q6w := by kernel_rfl
def c75 : SFn := ⟨8, [.t 4], .seq (.rg (.o none (.mv 4 (.c .nilS)) .nil)) <| .seq (.rg (.o none (.mv 5 (.t 0)) <|
 .o none (.mv 6 (.t 1)) <|
 .o none (.call (some 7) false (.c (.fn 151 [] [])) [(.t 5), (.t 6), (.c (.fn 152 [] [])), (.c (.fn 153 [] []))]) <|
 .o none (.mv 4 (.t 7)) .nil)) <| .ret⟩
theorem Qafj : Qf Tryz.prog Tryz.f75 = some c75 := by kernel_rfl
def Q6x : SFn := ⟨9, [.t 4], .seq (.rg (.o none (.mv 4 (.c .nilS)) .nil)) <| .seq (.rg (.o none (.mv 5 (.t 0)) <|
 .o none (.mv 6 (.t 1)) <|
 .o none (.call (some 7) false (.c (.fn 182 [] [])) [(.t 6)]) <|
 .o none (.call (some 8) false (.c (.fn 75 [] [])) [(.t 5), (.t 7)]) <|
 .o none (.mv 4 (.t 8)) .nil)) <| .ret⟩
theorem Qabv : Qf Tryz.prog Tryz.f124 = some Q6x := by kernel_rfl
def Q6y : SFn := ⟨38, [.t 4], .seq (.rg (.o none (.box 3 4 133 (.t 1)) <|
 .o none (.mv 4 (.c .nilS)) .nil)) <| .seq (.rg (.o none (.mv 9 (.t 0)) <|
 .o none (.len 10 (.t 9)) <|
 .o none (.mk 11 4 80 133 (.agg [(.bool false), .nilS, .nilS, .nilS]) (.c (.int .i64 0)) (.t 10)) <|
 .o none (.mv 5 (.t 11)) .nil)) <| .seq (.seq (.rg (.o none (.mv 12 (.t 0)) <|
 .o none (.len 13 (.t 12)) <|
 .o none (.mv 14 (.c (.int .i64 0))) .nil)) <| .block 0 (.loop (.seq (.rg (.o none (.bin 15 .lss false (.t 14) (.t 13)) .nil)) <| .seq (.cond (.t 15) (.skip) (.exit 0)) <| .seq (.block 1 (.seq (.rg (.o none (.idx 16 4 (.t 12) (.t 14)) <|
 .o none (.ld 17 4 true (.t 16)) <|
 .o none (.alloc 7 4 133 (.agg [(.bool false), .nilS, .nilS, .nilS])) <|
 .o none (.st 4 (.t 7) (.t 17)) .nil)) <| .seq (.rg (.o none (.fld 18 0 (.t 7)) <|
 .o none (.ld 19 3 true (.t 18)) <|
 .o none (.fld 20 0 (.t 3)) <|
 .o none (.ld 21 3 true (.t 20)) <|
 .o none (.call (some 22) false (.c (.fn 38 [] [])) [(.t 19), (.t 21)]) <|
 .o none (.alloc 8 3 32 (.agg [(.bool false), .nilS, .nilS])) <|
 .o none (.st 3 (.t 8) (.t 22)) .nil)) <| .seq (.rg (.o none (.ld 23 3 true (.t 8)) <|
 .o none (.call (some 24) false (.c (.fn 36 [] [])) [(.t 23)]) <|
 .o none (.bin 25 .neq false (.t 24) (.c (.int .i64 0))) .nil)) <| .cond (.t 25) (.rg (.o none (.mv 26 (.t 5)) <|
 .o none (.ld 27 3 true (.t 8)) <|
 .o none (.fld 28 3 (.t 7)) <|
 .o none (.ld 29 1 false (.t 28)) <|
 .o none (.fld 30 3 (.t 3)) <|
 .o none (.ld 31 1 false (.t 30)) <|
 .o none (.call (some 32) true (.c (.fn 194 [] [])) [(.t 29), (.t 31)]) <|
 .o none (.bld 33 [(.bool false), .nilS, .nilS, .nilS] [(0, 3, (.t 27)), (3, 1, (.t 32))]) <|
 .o none (.bs 34 4 133 [(.t 33)]) <|
 .o none (.app 35 4 80 133 (.t 26) (.t 34)) <|
 .o none (.mv 5 (.t 35)) .nil)) (.skip))) <| .rg (.o none (.bin 36 .add false (.t 14) (.c (.int .i64 1))) <|
 .o none (.mv 14 (.t 36)) .nil)))) <| .seq (.rg (.o none (.mv 37 (.t 5)) <|
 .o none (.mv 4 (.t 37)) .nil)) <| .ret⟩
theorem Qabw : Qf Tryz.prog Tryz.f141 = some Q6y := by kernel_rfl
def c68 : SFn := ⟨33, [.t 4], .seq (.rg (.o none (.mv 4 (.c .nilS)) .nil)) <| .seq (.seq (.rg (.o none (.mv 8 (.t 0)) <|
 .o none (.len 9 (.t 8)) <|
 .o none (.mv 10 (.t 1)) <|
 .o none (.len 11 (.t 10)) <|
 .o none (.bin 12 .gtr false (.t 9) (.t 11)) .nil)) <| .cond (.t 12) (.rg (.o none (.mv 13 (.t 1)) <|
 .o none (.mv 14 (.t 0)) <|
 .o none (.mv 0 (.t 13)) <|
 .o none (.mv 1 (.t 14)) .nil)) (.skip)) <| .seq (.rg (.o none (.mv 15 (.t 0)) <|
 .o none (.len 16 (.t 15)) <|
 .o none (.mk 17 1 24 65 .nilS (.c (.int .i64 0)) (.t 16)) <|
 .o none (.mv 5 (.t 17)) .nil)) <| .seq (.seq (.rg (.o none (.mv 18 (.t 0)) <|
 .o none (.len 19 (.t 18)) <|
 .o none (.mv 20 (.c (.int .i64 0))) .nil)) <| .block 0 (.loop (.seq (.rg (.o none (.bin 21 .lss false (.t 20) (.t 19)) .nil)) <| .seq (.cond (.t 21) (.skip) (.exit 0)) <| .seq (.block 1 (.seq (.rg (.o none (.idx 22 4 (.t 18) (.t 20)) <|
 .o none (.ld 23 4 true (.t 22)) <|
 .o none (.alloc 7 4 133 (.agg [(.bool false), .nilS, .nilS, .nilS])) <|
 .o none (.st 4 (.t 7) (.t 23)) .nil)) <| .rg (.o none (.mv 24 (.t 5)) <|
 .o none (.mv 25 (.t 1)) <|
 .o none (.ld 26 4 true (.t 7)) <|
 .o none (.call (some 27) false (.c (.fn 141 [] [])) [(.t 25), (.t 26)]) <|
 .o none (.bs 28 1 65 [(.t 27)]) <|
 .o none (.app 29 1 24 65 (.t 24) (.t 28)) <|
 .o none (.mv 5 (.t 29)) .nil))) <| .rg (.o none (.bin 30 .add false (.t 20) (.c (.int .i64 1))) <|
 .o none (.mv 20 (.t 30)) .nil)))) <| .seq (.rg (.o none (.mv 31 (.t 5)) <|
 .o none (.call (some 32) false (.c (.fn 142 [] [])) [(.t 31)]) <|
 .o none (.mv 4 (.t 32)) .nil)) <| .ret⟩
theorem Qafk : Qf Tryz.prog Tryz.f68 = some c68 := by kernel_rfl
def c70 : SFn := ⟨12, [.t 4], .seq (.rg (.o none (.box 3 3 32 (.t 1)) <|
 .o none (.mv 4 (.c .nilS)) .nil)) <| .seq (.seq (.rg (.o none (.ld 5 3 true (.t 3)) <|
 .o none (.call (some 6) false (.c (.fn 36 [] [])) [(.t 5)]) <|
 .o none (.bin 7 .eql false (.t 6) (.c (.int .i64 0))) .nil)) <| .cond (.t 7) (.seq (.rg (.o none (.mv 4 (.c .nilS)) .nil)) <| .ret) (.skip)) <| .seq (.rg (.o none (.mv 8 (.t 0)) <|
 .o none (.ld 9 3 true (.t 3)) <|
 .o none (.bld 10 [(.bool false), .nilS, .nilS, .nilS] [(0, 3, (.t 9))]) <|
 .o none (.call (some 11) false (.c (.fn 141 [] [])) [(.t 8), (.t 10)]) <|
 .o none (.mv 4 (.t 11)) .nil)) <| .ret⟩
theorem Qafl : Qf Tryz.prog Tryz.f70 = some c70 := by kernel_rfl
def Q6z : SFn := ⟨10, [.t 2], .seq (.rg (.o none (.mv 2 (.c (.bool false))) .nil)) <| .seq (.rg (.o none (.mv 3 (.t 0)) <|
 .o none (.len 4 (.t 3)) <|
 .o none (.bin 5 .gtr false (.t 4) (.c (.int .i64 4000))) <|
 .o none (.mv 6 (.t 5)) <|
 .o (some (6, false)) (.mv 7 (.t 0)) <|
 .o (some (6, false)) (.call (some 8) false (.c (.fn 202 [] [])) [(.t 7), (.c (.fn 203 [] []))]) <|
 .o none (.pick 9 (.t 6) (.c (.bool true)) (.t 8)) <|
 .o none (.mv 2 (.t 9)) .nil)) <| .ret⟩
theorem Qabx : Qf Tryz.prog Tryz.f150 = some Q6z := by kernel_rfl
def Q60 : SFn := ⟨6, [.t 2], .seq (.rg (.o none (.box 1 4 133 (.t 0)) <|
 .o none (.mv 2 (.c (.bool false))) .nil)) <| .seq (.rg (.o none (.fld 3 3 (.t 1)) <|
 .o none (.ld 4 1 false (.t 3)) <|
 .o none (.call (some 5) false (.c (.fn 204 [] [])) [(.t 4), (.c (.fn 205 [] []))]) <|
 .o none (.mv 2 (.t 5)) .nil)) <| .ret⟩
theorem Qaby : Qf Tryz.prog Tryz.f203 = some Q60 := by kernel_rfl
def Q61 : SFn := ⟨5, [.t 2], .seq (.rg (.o none (.mv 2 (.c (.bool false))) .nil)) <| .seq (.rg (.o none (.mv 3 (.t 0)) <|
 .o none (.bin 4 .gtr false (.t 3) (.c (.int .i64 1048576))) <|
 .o none (.mv 2 (.t 4)) .nil)) <| .ret⟩
theorem Qabz : Qf Tryz.prog Tryz.f205 = some Q61 := by kernel_rfl
def c74 : SFn := ⟨25, [.t 4, .t 5], .seq (.rg (.o none (.mv 4 (.c .nilS)) <|
 .o none (.mv 5 (.c (.int .i64 0))) .nil)) <| .seq (.seq (.rg (.o none (.mv 7 (.t 1)) <|
 .o none (.bin 8 .lss false (.t 7) (.c (.int .i64 0))) <|
 .o none (.mv 9 (.t 8)) <|
 .o (some (9, false)) (.mv 10 (.t 1)) <|
 .o (some (9, false)) (.bin 11 .gtr false (.t 10) (.c (.int .i64 4000))) <|
 .o none (.pick 12 (.t 9) (.c (.bool true)) (.t 11)) .nil)) <| .cond (.t 12) (.seq (.rg (.o none (.mv 4 (.c .nilS)) <|
 .o none (.mv 5 (.c (.int .i64 2))) .nil)) <| .ret) (.skip)) <| .seq (.rg (.o none (.call (some 13) false (.c (.fn 79 [] [])) [(.c (.int .i64 1))]) <|
 .o none (.call (some 14) false (.c (.fn 123 [] [])) [(.t 13)]) <|
 .o none (.mv 6 (.t 14)) .nil)) <| .seq (.seq (.rg (.o none (.mv 15 (.t 1)) <|
 .o none (.mv 16 (.c (.int .i64 0))) .nil)) <| .block 0 (.loop (.seq (.rg (.o none (.bin 17 .lss false (.t 16) (.t 15)) .nil)) <| .seq (.cond (.t 17) (.skip) (.exit 0)) <| .seq (.block 1 (.seq (.rg (.o none (.mv 18 (.t 6)) <|
 .o none (.mv 19 (.t 0)) <|
 .o none (.call (some 20) false (.c (.fn 68 [] [])) [(.t 18), (.t 19)]) <|
 .o none (.mv 6 (.t 20)) .nil)) <| .seq (.rg (.o none (.mv 21 (.t 6)) <|
 .o none (.call (some 22) false (.c (.fn 150 [] [])) [(.t 21)]) .nil)) <| .cond (.t 22) (.seq (.rg (.o none (.mv 4 (.c .nilS)) <|
 .o none (.mv 5 (.c (.int .i64 4))) .nil)) <| .ret) (.skip))) <| .rg (.o none (.bin 23 .add false (.t 16) (.c (.int .i64 1))) <|
 .o none (.mv 16 (.t 23)) .nil)))) <| .seq (.rg (.o none (.mv 24 (.t 6)) <|
 .o none (.mv 4 (.t 24)) <|
 .o none (.mv 5 (.c (.int .i64 0))) .nil)) <| .ret⟩
theorem Qafm : Qf Tryz.prog Tryz.f74 = some c74 := by kernel_rfl
def Q62 : SFn := ⟨39, [.t 6], .seq (.rg (.o none (.mv 6 (.c (.int .i64 0))) .nil)) <| .seq (.seq (.rg (.o none (.mv 11 (.t 0)) <|
 .o none (.len 12 (.t 11)) <|
 .o none (.mv 13 (.c (.int .i64 0))) .nil)) <| .block 0 (.loop (.seq (.rg (.o none (.bin 14 .lss false (.t 13) (.t 12)) .nil)) <| .seq (.cond (.t 14) (.skip) (.exit 0)) <| .seq (.block 1 (.seq (.rg (.o none (.mv 15 (.t 13)) <|
 .o none (.idx 16 4 (.t 11) (.t 13)) <|
 .o none (.ld 17 4 true (.t 16)) <|
 .o none (.alloc 8 4 133 (.agg [(.bool false), .nilS, .nilS, .nilS])) <|
 .o none (.mv 7 (.t 15)) <|
 .o none (.st 4 (.t 8) (.t 17)) .nil)) <| .seq (.seq (.rg (.o none (.mv 18 (.t 7)) <|
 .o none (.mv 19 (.t 1)) <|
 .o none (.len 20 (.t 19)) <|
 .o none (.bin 21 .geq false (.t 18) (.t 20)) .nil)) <| .cond (.t 21) (.seq (.rg (.o none (.mv 6 (.c (.int .i64 1))) .nil)) <| .ret) (.skip)) <| .seq (.rg (.o none (.mv 22 (.t 1)) <|
 .o none (.mv 23 (.t 7)) <|
 .o none (.idx 24 4 (.t 22) (.t 23)) <|
 .o none (.ld 25 4 true (.t 24)) <|
 .o none (.alloc 9 4 133 (.agg [(.bool false), .nilS, .nilS, .nilS])) <|
 .o none (.st 4 (.t 9) (.t 25)) .nil)) <| .seq (.rg (.o none (.mv 26 (.t 2)) <|
 .o none (.ld 27 4 true (.t 8)) <|
 .o none (.ld 28 4 true (.t 9)) <|
 .o none (.call (some 29) false (.t 26) [(.t 27), (.t 28)]) <|
 .o none (.mv 10 (.t 29)) .nil)) <| .seq (.rg (.o none (.mv 30 (.t 10)) <|
 .o none (.bin 31 .neq false (.t 30) (.c (.int .i64 0))) .nil)) <| .cond (.t 31) (.seq (.rg (.o none (.mv 32 (.t 10)) <|
 .o none (.mv 6 (.t 32)) .nil)) <| .ret) (.skip))) <| .rg (.o none (.bin 33 .add false (.t 13) (.c (.int .i64 1))) <|
 .o none (.mv 13 (.t 33)) .nil)))) <| .seq (.seq (.rg (.o none (.mv 34 (.t 0)) <|
 .o none (.len 35 (.t 34)) <|
 .o none (.mv 36 (.t 1)) <|
 .o none (.len 37 (.t 36)) <|
 .o none (.bin 38 .lss false (.t 35) (.t 37)) .nil)) <| .cond (.t 38) (.seq (.rg (.o none (.mv 6 (.c (.int .i64 (-1)))) .nil)) <| .ret) (.skip)) <| .seq (.rg (.o none (.mv 6 (.c (.int .i64 0))) .nil)) <| .ret⟩
theorem Qab0 : Qf Tryz.prog Tryz.f189 = some Q62 := by kernel_rfl
def Q63 : SFn := ⟨9, [.t 4], .seq (.rg (.o none (.mv 4 (.c (.bool false))) .nil)) <| .seq (.rg (.o none (.mv 5 (.t 0)) <|
 .o none (.mv 6 (.t 1)) <|
 .o none (.call (some 7) false (.c (.fn 225 [] [])) [(.t 5), (.t 6)]) <|
 .o none (.bin 8 .geq false (.t 7) (.c (.int .i64 0))) <|
 .o none (.mv 4 (.t 8)) .nil)) <| .ret⟩
theorem Qab1 : Qf Tryz.prog Tryz.f202 = some Q63 := by kernel_rfl
def Q64 : SFn := ⟨9, [.t 4], .seq (.rg (.o none (.mv 4 (.c (.bool false))) .nil)) <| .seq (.rg (.o none (.mv 5 (.t 0)) <|
 .o none (.mv 6 (.t 1)) <|
 .o none (.call (some 7) false (.c (.fn 226 [] [])) [(.t 5), (.t 6)]) <|
 .o none (.bin 8 .geq false (.t 7) (.c (.int .i64 0))) <|
 .o none (.mv 4 (.t 8)) .nil)) <| .ret⟩
theorem Qab2 : Qf Tryz.prog Tryz.f204 = some Q64 := by kernel_rfl
def Q65 : SFn := ⟨19, [.t 4], .seq (.rg (.o none (.mv 4 (.c (.int .i64 0))) .nil)) <| .seq (.seq (.rg (.o none (.mv 6 (.t 0)) <|
 .o none (.len 7 (.t 6)) <|
 .o none (.mv 8 (.c (.int .i64 0))) .nil)) <| .block 0 (.loop (.seq (.rg (.o none (.bin 9 .lss false (.t 8) (.t 7)) .nil)) <| .seq (.cond (.t 9) (.skip) (.exit 0)) <| .seq (.block 1 (.seq (.rg (.o none (.mv 10 (.t 8)) <|
 .o none (.mv 5 (.t 10)) .nil)) <| .seq (.rg (.o none (.mv 11 (.t 1)) <|
 .o none (.mv 12 (.t 0)) <|
 .o none (.mv 13 (.t 5)) <|
 .o none (.idx 14 4 (.t 12) (.t 13)) <|
 .o none (.ld 15 4 true (.t 14)) <|
 .o none (.call (some 16) false (.t 11) [(.t 15)]) .nil)) <| .cond (.t 16) (.seq (.rg (.o none (.mv 17 (.t 5)) <|
 .o none (.mv 4 (.t 17)) .nil)) <| .ret) (.skip))) <| .rg (.o none (.bin 18 .add false (.t 8) (.c (.int .i64 1))) <|
 .o none (.mv 8 (.t 18)) .nil)))) <| .seq (.rg (.o none (.mv 4 (.c (.int .i64 (-1)))) .nil)) <| .ret⟩
theorem Qab3 : Qf Tryz.prog Tryz.f225 = some Q65 := by kernel_rfl
def Q66 : SFn := ⟨19, [.t 4], .seq (.rg (.o none (.mv 4 (.c (.int .i64 0))) .nil)) <| .seq (.seq (.rg (.o none (.mv 6 (.t 0)) <|
 .o none (.len 7 (.t 6)) <|
 .o none (.mv 8 (.c (.int .i64 0))) .nil)) <| .block 0 (.loop (.seq (.rg (.o none (.bin 9 .lss false (.t 8) (.t 7)) .nil)) <| .seq (.cond (.t 9) (.skip) (.exit 0)) <| .seq (.block 1 (.seq (.rg (.o none (.mv 10 (.t 8)) <|
 .o none (.mv 5 (.t 10)) .nil)) <| .seq (.rg (.o none (.mv 11 (.t 1)) <|
 .o none (.mv 12 (.t 0)) <|
 .o none (.mv 13 (.t 5)) <|
 .o none (.idx 14 1 (.t 12) (.t 13)) <|
 .o none (.ld 15 1 false (.t 14)) <|
 .o none (.call (some 16) false (.t 11) [(.t 15)]) .nil)) <| .cond (.t 16) (.seq (.rg (.o none (.mv 17 (.t 5)) <|
 .o none (.mv 4 (.t 17)) .nil)) <| .ret) (.skip))) <| .rg (.o none (.bin 18 .add false (.t 8) (.c (.int .i64 1))) <|
 .o none (.mv 8 (.t 18)) .nil)))) <| .seq (.rg (.o none (.mv 4 (.c (.int .i64 (-1)))) .nil)) <| .ret⟩
theorem Qab4 : Qf Tryz.prog Tryz.f226 = some Q66 := by kernel_rfl
end Go.Proofs.YtmnkngmmfnncoaaGreat
