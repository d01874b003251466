/- Part 3 of the proof of PseudoExacts: C1, CI, C1b, N1, N2, N3, N4, N5, N6, N7, N8, N9, N10, N11, N12, N13, N14, N15, I1, R1, R2, L0, CM, CP, R3, R4, M1. Own lemmas; no conditions. -/
import Derived.Test.YtjkbalanglgoiaaGreatPseudoExactsPart2
import Derived.Test.YtjkbalanglgoiaaGreatProg
import Derived.Test.YtjkbalanglgoiaaGreatRows
import Derived.WalkKit
import Derived.ProofKit
import Derived.OpenShut
import Derived.JoinedCond
set_option linter.unusedSimpArgs false
set_option linter.unnecessarySimpa false
set_option linter.unusedVariables false
namespace Go.Proofs.YtjkbalanglgoiaaGreat
open Go Go.FW
set_option maxRecDepth 100000
theorem Qk : Tryz.prog.follows .mixedOrders = true := by kernel_rfl
def Quk : SFn := ⟨21, [.t 2], .seq (.rg (.o none (.mv 2 (.c .nilS)) .nil)) <| .seq (.rg (.o none (.mv 4 (.t 0)) <|
  .o none (.len 5 (.t 4)) <|
  .o none (.mv 3 (.t 5)) .nil)) <| .seq (.block 0 (.loop (.seq (.seq (.rg (.o none (.mv 6 (.t 3)) <|
  .o none (.bin 7 .gtr false (.t 6) (.c (.int .i64 0))) <|
  .o none (.mv 8 (.t 7)) <|
  .o (some (8, true)) (.mv 9 (.t 0)) <|
  .o (some (8, true)) (.mv 10 (.t 3)) <|
  .o (some (8, true)) (.bin 11 .sub false (.t 10) (.c (.int .i64 1))) <|
  .o (some (8, true)) (.idx 12 1 (.t 9) (.t 11)) <|
  .o (some (8, true)) (.ld 13 1 false (.t 12)) <|
  .o (some (8, true)) (.bin 14 .eql false (.t 13) (.c (.int .u16 0))) <|
  .o none (.pick 15 (.t 8) (.t 14) (.c (.bool false))) .nil)) <| .cond (.t 15) (.skip) (.exit 0)) <| .block 1 (.rg (.o none (.mv 16 (.t 3)) <|
  .o none (.bin 17 .sub false (.t 16) (.c (.int .i64 1))) <|
  .o none (.mv 3 (.t 17)) .nil))))) <| .seq (.rg (.o none (.mv 18 (.t 0)) <|
  .o none (.mv 19 (.t 3)) <|
  .o none (.sl 20 1 (.t 18) none (some (.t 19)) none) <|
  .o none (.mv 2 (.t 20)) .nil)) <| .ret⟩
theorem Qw0 : Qe Tryz.prog Tryz.f122 = some Quk := by kernel_rfl
def Q3c : SFn := ⟨16, [.t 2], .seq (.rg (.o none (.mv 2 (.c .nilS)) .nil)) <| .seq (.rg (.o none (.mv 4 (.t 0)) <|
  .o none (.call (some 5) false (.c (.fn 122 [] [])) [(.t 4)]) <|
  .o none (.mv 0 (.t 5)) .nil)) <| .seq (.seq (.rg (.o none (.mv 6 (.t 0)) <|
  .o none (.len 7 (.t 6)) <|
  .o none (.bin 8 .eql false (.t 7) (.c (.int .i64 0))) .nil)) <| .cond (.t 8) (.seq (.rg (.o none (.mv 2 (.c .nilS)) .nil)) <| .ret) (.skip)) <| .seq (.rg (.o none (.mv 9 (.t 0)) <|
  .o none (.len 10 (.t 9)) <|
  .o none (.mk 11 1 2 111 (.int .u16 0) (.t 10) (.t 10)) <|
  .o none (.mv 3 (.t 11)) .nil)) <| .seq (.rg (.o none (.mv 12 (.t 3)) <|
  .o none (.mv 13 (.t 0)) <|
  .o none (.cpy 14 1 (.t 12) (.t 13)) .nil)) <| .seq (.rg (.o none (.mv 15 (.t 3)) <|
  .o none (.mv 2 (.t 15)) .nil)) <| .ret⟩
theorem Q6u : Qe Tryz.prog Tryz.f120 = some Q3c := by kernel_rfl
def c54 : SFn := ⟨14, [.t 2], .seq (.rg (.o none (.mv 2 (.c .nilS)) .nil)) <| .seq (.rg (.o none (.mv 3 (.c .nilS)) .nil)) <| .seq (.block 0 (.loop (.seq (.seq (.rg (.o none (.mv 4 (.t 0)) <|
  .o none (.bin 5 .gtr false (.t 4) (.c (.int .u64 0))) .nil)) <| .cond (.t 5) (.skip) (.exit 0)) <| .seq (.block 1 (.rg (.o none (.mv 8 (.t 3)) <|
  .o none (.mv 9 (.t 0)) <|
  .o none (.conv 10 .u16 (.t 9)) <|
  .o none (.bs 11 1 111 [(.t 10)]) <|
  .o none (.app 12 1 2 111 (.t 8) (.t 11)) <|
  .o none (.mv 3 (.t 12)) .nil))) <| .rg (.o none (.mv 6 (.t 0)) <|
  .o none (.bin 7 .shr false (.t 6) (.c (.int .u64 16))) <|
  .o none (.mv 0 (.t 7)) .nil)))) <| .seq (.rg (.o none (.mv 13 (.t 3)) <|
  .o none (.mv 2 (.t 13)) .nil)) <| .ret⟩
theorem Q9z : Qe Tryz.prog Tryz.f54 = some c54 := by kernel_rfl
def Q3d : SFn := ⟨28, [.t 2, .t 3], .seq (.rg (.o none (.mv 2 (.c (.int .u64 0))) <|
  .o none (.mv 3 (.c (.bool false))) .nil)) <| .seq (.rg (.o none (.mv 7 (.t 0)) <|
  .o none (.call (some 8) false (.c (.fn 122 [] [])) [(.t 7)]) <|
  .o none (.mv 0 (.t 8)) .nil)) <| .seq (.seq (.rg (.o none (.mv 9 (.t 0)) <|
  .o none (.len 10 (.t 9)) <|
  .o none (.bin 11 .gtr false (.t 10) (.c (.int .i64 4))) .nil)) <| .cond (.t 11) (.seq (.rg (.o none (.mv 2 (.c (.int .u64 0))) <|
  .o none (.mv 3 (.c (.bool false))) .nil)) <| .ret) (.skip)) <| .seq (.rg (.o none (.mv 4 (.c (.int .u64 0))) .nil)) <| .seq (.seq (.rg (.o none (.mv 12 (.t 0)) <|
  .o none (.len 13 (.t 12)) <|
  .o none (.mv 14 (.c (.int .i64 0))) .nil)) <| .block 0 (.loop (.seq (.rg (.o none (.bin 15 .lss false (.t 14) (.t 13)) .nil)) <| .seq (.cond (.t 15) (.skip) (.exit 0)) <| .seq (.block 1 (.seq (.rg (.o none (.mv 16 (.t 14)) <|
  .o none (.idx 17 1 (.t 12) (.t 14)) <|
  .o none (.ld 18 1 false (.t 17)) <|
  .o none (.mv 5 (.t 16)) <|
  .o none (.mv 6 (.t 18)) .nil)) <| .rg (.o none (.mv 19 (.t 4)) <|
  .o none (.mv 20 (.t 6)) <|
  .o none (.conv 21 .u64 (.t 20)) <|
  .o none (.mv 22 (.t 5)) <|
  .o none (.bin 23 .mul false (.c (.int .i64 16)) (.t 22)) <|
  .o none (.bin 24 .shl false (.t 21) (.t 23)) <|
  .o none (.bin 25 .or false (.t 19) (.t 24)) <|
  .o none (.mv 4 (.t 25)) .nil))) <| .rg (.o none (.bin 26 .add false (.t 14) (.c (.int .i64 1))) <|
  .o none (.mv 14 (.t 26)) .nil)))) <| .seq (.rg (.o none (.mv 27 (.t 4)) <|
  .o none (.mv 2 (.t 27)) <|
  .o none (.mv 3 (.c (.bool true))) .nil)) <| .ret⟩
theorem Q6v : Qe Tryz.prog Tryz.f121 = some Q3d := by kernel_rfl
def Q3e : SFn := ⟨20, [.t 2], .seq (.rg (.o none (.mv 2 (.c (.int .i64 0))) .nil)) <| .seq (.rg (.o none (.mv 3 (.t 0)) <|
  .o none (.call (some 4) false (.c (.fn 122 [] [])) [(.t 3)]) <|
  .o none (.mv 0 (.t 4)) .nil)) <| .seq (.seq (.rg (.o none (.mv 5 (.t 0)) <|
  .o none (.len 6 (.t 5)) <|
  .o none (.bin 7 .eql false (.t 6) (.c (.int .i64 0))) .nil)) <| .cond (.t 7) (.seq (.rg (.o none (.mv 2 (.c (.int .i64 0))) .nil)) <| .ret) (.skip)) <| .seq (.rg (.o none (.mv 8 (.t 0)) <|
  .o none (.len 9 (.t 8)) <|
  .o none (.bin 10 .sub false (.t 9) (.c (.int .i64 1))) <|
  .o none (.bin 11 .mul false (.c (.int .i64 16)) (.t 10)) <|
  .o none (.mv 12 (.t 0)) <|
  .o none (.mv 13 (.t 0)) <|
  .o none (.len 14 (.t 13)) <|
  .o none (.bin 15 .sub false (.t 14) (.c (.int .i64 1))) <|
  .o none (.idx 16 1 (.t 12) (.t 15)) <|
  .o none (.ld 17 1 false (.t 16)) <|
  .o none (.call (some 18) false (.c (.fn 161 [] [])) [(.t 17)]) <|
  .o none (.bin 19 .add false (.t 11) (.t 18)) <|
  .o none (.mv 2 (.t 19)) .nil)) <| .ret⟩
theorem Q6w : Qe Tryz.prog Tryz.f158 = some Q3e := by kernel_rfl
def Q3f : SFn := ⟨45, [.t 4], .seq (.rg (.o none (.mv 4 (.c (.int .i64 0))) .nil)) <| .seq (.rg (.o none (.mv 6 (.t 0)) <|
  .o none (.call (some 7) false (.c (.fn 122 [] [])) [(.t 6)]) <|
  .o none (.mv 8 (.t 1)) <|
  .o none (.call (some 9) false (.c (.fn 122 [] [])) [(.t 8)]) <|
  .o none (.mv 0 (.t 7)) <|
  .o none (.mv 1 (.t 9)) .nil)) <| .seq (.seq (.rg (.o none (.mv 10 (.t 0)) <|
  .o none (.len 11 (.t 10)) <|
  .o none (.mv 12 (.t 1)) <|
  .o none (.len 13 (.t 12)) <|
  .o none (.bin 14 .neq false (.t 11) (.t 13)) .nil)) <| .cond (.t 14) (.seq (.seq (.rg (.o none (.mv 15 (.t 0)) <|
  .o none (.len 16 (.t 15)) <|
  .o none (.mv 17 (.t 1)) <|
  .o none (.len 18 (.t 17)) <|
  .o none (.bin 19 .lss false (.t 16) (.t 18)) .nil)) <| .cond (.t 19) (.seq (.rg (.o none (.mv 4 (.c (.int .i64 (-1)))) .nil)) <| .ret) (.skip)) <| .seq (.rg (.o none (.mv 4 (.c (.int .i64 1))) .nil)) <| .ret) (.skip)) <| .seq (.seq (.rg (.o none (.mv 20 (.t 0)) <|
  .o none (.len 21 (.t 20)) <|
  .o none (.bin 22 .sub false (.t 21) (.c (.int .i64 1))) <|
  .o none (.mv 5 (.t 22)) .nil)) <| .block 0 (.loop (.seq (.seq (.rg (.o none (.mv 23 (.t 5)) <|
  .o none (.bin 24 .geq false (.t 23) (.c (.int .i64 0))) .nil)) <| .cond (.t 24) (.skip) (.exit 0)) <| .seq (.block 1 (.seq (.seq (.rg (.o none (.mv 27 (.t 0)) <|
  .o none (.mv 28 (.t 5)) <|
  .o none (.idx 29 1 (.t 27) (.t 28)) <|
  .o none (.ld 30 1 false (.t 29)) <|
  .o none (.mv 31 (.t 1)) <|
  .o none (.mv 32 (.t 5)) <|
  .o none (.idx 33 1 (.t 31) (.t 32)) <|
  .o none (.ld 34 1 false (.t 33)) <|
  .o none (.bin 35 .lss false (.t 30) (.t 34)) .nil)) <| .cond (.t 35) (.seq (.rg (.o none (.mv 4 (.c (.int .i64 (-1)))) .nil)) <| .ret) (.skip)) <| .seq (.rg (.o none (.mv 36 (.t 0)) <|
  .o none (.mv 37 (.t 5)) <|
  .o none (.idx 38 1 (.t 36) (.t 37)) <|
  .o none (.ld 39 1 false (.t 38)) <|
  .o none (.mv 40 (.t 1)) <|
  .o none (.mv 41 (.t 5)) <|
  .o none (.idx 42 1 (.t 40) (.t 41)) <|
  .o none (.ld 43 1 false (.t 42)) <|
  .o none (.bin 44 .gtr false (.t 39) (.t 43)) .nil)) <| .cond (.t 44) (.seq (.rg (.o none (.mv 4 (.c (.int .i64 1))) .nil)) <| .ret) (.skip))) <| .rg (.o none (.mv 25 (.t 5)) <|
  .o none (.bin 26 .sub false (.t 25) (.c (.int .i64 1))) <|
  .o none (.mv 5 (.t 26)) .nil)))) <| .seq (.rg (.o none (.mv 4 (.c (.int .i64 0))) .nil)) <| .ret⟩
theorem Q6x : Qe Tryz.prog Tryz.f123 = some Q3f := by kernel_rfl
def Q3g : SFn := ⟨64, [.t 4], .seq (.rg (.o none (.mv 4 (.c .nilS)) .nil)) <| .seq (.rg (.o none (.mv 9 (.t 0)) <|
  .o none (.call (some 10) false (.c (.fn 122 [] [])) [(.t 9)]) <|
  .o none (.mv 11 (.t 1)) <|
  .o none (.call (some 12) false (.c (.fn 122 [] [])) [(.t 11)]) <|
  .o none (.mv 0 (.t 10)) <|
  .o none (.mv 1 (.t 12)) .nil)) <| .seq (.seq (.rg (.o none (.mv 13 (.t 0)) <|
  .o none (.len 14 (.t 13)) <|
  .o none (.mv 15 (.t 1)) <|
  .o none (.len 16 (.t 15)) <|
  .o none (.bin 17 .lss false (.t 14) (.t 16)) .nil)) <| .cond (.t 17) (.rg (.o none (.mv 18 (.t 1)) <|
  .o none (.mv 19 (.t 0)) <|
  .o none (.mv 0 (.t 18)) <|
  .o none (.mv 1 (.t 19)) .nil)) (.skip)) <| .seq (.rg (.o none (.mv 20 (.t 0)) <|
  .o none (.len 21 (.t 20)) <|
  .o none (.mv 22 (.t 0)) <|
  .o none (.len 23 (.t 22)) <|
  .o none (.bin 24 .add false (.t 23) (.c (.int .i64 1))) <|
  .o none (.mk 25 1 2 111 (.int .u16 0) (.t 21) (.t 24)) <|
  .o none (.mv 5 (.t 25)) .nil)) <| .seq (.rg (.o none (.mv 6 (.c (.int .u32 0))) .nil)) <| .seq (.seq (.rg (.o none (.mv 26 (.t 0)) <|
  .o none (.len 27 (.t 26)) <|
  .o none (.mv 28 (.c (.int .i64 0))) .nil)) <| .block 0 (.loop (.seq (.rg (.o none (.bin 29 .lss false (.t 28) (.t 27)) .nil)) <| .seq (.cond (.t 29) (.skip) (.exit 0)) <| .seq (.block 1 (.seq (.rg (.o none (.mv 30 (.t 28)) <|
  .o none (.idx 31 1 (.t 26) (.t 28)) <|
  .o none (.ld 32 1 false (.t 31)) <|
  .o none (.mv 7 (.t 30)) <|
  .o none (.mv 8 (.t 32)) .nil)) <| .seq (.rg (.o none (.mv 33 (.t 6)) <|
  .o none (.mv 34 (.t 8)) <|
  .o none (.conv 35 .u32 (.t 34)) <|
  .o none (.bin 36 .add false (.t 33) (.t 35)) <|
  .o none (.mv 6 (.t 36)) .nil)) <| .seq (.seq (.rg (.o none (.mv 37 (.t 7)) <|
  .o none (.mv 38 (.t 1)) <|
  .o none (.len 39 (.t 38)) <|
  .o none (.bin 40 .lss false (.t 37) (.t 39)) .nil)) <| .cond (.t 40) (.rg (.o none (.mv 41 (.t 6)) <|
  .o none (.mv 42 (.t 1)) <|
  .o none (.mv 43 (.t 7)) <|
  .o none (.idx 44 1 (.t 42) (.t 43)) <|
  .o none (.ld 45 1 false (.t 44)) <|
  .o none (.conv 46 .u32 (.t 45)) <|
  .o none (.bin 47 .add false (.t 41) (.t 46)) <|
  .o none (.mv 6 (.t 47)) .nil)) (.skip)) <| .seq (.rg (.o none (.mv 48 (.t 5)) <|
  .o none (.mv 49 (.t 7)) <|
  .o none (.mv 50 (.t 6)) <|
  .o none (.conv 51 .u16 (.t 50)) <|
  .o none (.idx 52 1 (.t 48) (.t 49)) <|
  .o none (.st 1 (.t 52) (.t 51)) .nil)) <| .rg (.o none (.mv 53 (.t 6)) <|
  .o none (.bin 54 .shr false (.t 53) (.c (.int .u64 16))) <|
  .o none (.mv 6 (.t 54)) .nil))) <| .rg (.o none (.bin 55 .add false (.t 28) (.c (.int .i64 1))) <|
  .o none (.mv 28 (.t 55)) .nil)))) <| .seq (.seq (.rg (.o none (.mv 56 (.t 6)) <|
  .o none (.bin 57 .gtr false (.t 56) (.c (.int .u32 0))) .nil)) <| .cond (.t 57) (.rg (.o none (.mv 58 (.t 5)) <|
  .o none (.mv 59 (.t 6)) <|
  .o none (.conv 60 .u16 (.t 59)) <|
  .o none (.bs 61 1 111 [(.t 60)]) <|
  .o none (.app 62 1 2 111 (.t 58) (.t 61)) <|
  .o none (.mv 5 (.t 62)) .nil)) (.skip)) <| .seq (.rg (.o none (.mv 63 (.t 5)) <|
  .o none (.mv 4 (.t 63)) .nil)) <| .ret⟩
theorem Q6y : Qe Tryz.prog Tryz.f175 = some Q3g := by kernel_rfl
def Q3h : SFn := ⟨56, [.t 4, .t 5], .seq (.rg (.o none (.mv 4 (.c .nilS)) <|
  .o none (.mv 5 (.c (.int .i64 0))) .nil)) <| .seq (.seq (.rg (.o none (.mv 11 (.t 0)) <|
  .o none (.mv 12 (.t 1)) <|
  .o none (.call (some 13) false (.c (.fn 123 [] [])) [(.t 11), (.t 12)]) <|
  .o none (.bin 14 .lss false (.t 13) (.c (.int .i64 0))) .nil)) <| .cond (.t 14) (.seq (.rg (.o none (.mv 4 (.c .nilS)) <|
  .o none (.mv 5 (.c (.int .i64 2))) .nil)) <| .ret) (.skip)) <| .seq (.rg (.o none (.mv 15 (.t 0)) <|
  .o none (.call (some 16) false (.c (.fn 122 [] [])) [(.t 15)]) <|
  .o none (.mv 17 (.t 1)) <|
  .o none (.call (some 18) false (.c (.fn 122 [] [])) [(.t 17)]) <|
  .o none (.mv 0 (.t 16)) <|
  .o none (.mv 1 (.t 18)) .nil)) <| .seq (.rg (.o none (.mv 19 (.t 0)) <|
  .o none (.len 20 (.t 19)) <|
  .o none (.mk 21 1 2 111 (.int .u16 0) (.t 20) (.t 20)) <|
  .o none (.mv 6 (.t 21)) .nil)) <| .seq (.rg (.o none (.mv 7 (.c (.int .i32 0))) .nil)) <| .seq (.seq (.rg (.o none (.mv 22 (.t 0)) <|
  .o none (.len 23 (.t 22)) <|
  .o none (.mv 24 (.c (.int .i64 0))) .nil)) <| .block 0 (.loop (.seq (.rg (.o none (.bin 25 .lss false (.t 24) (.t 23)) .nil)) <| .seq (.cond (.t 25) (.skip) (.exit 0)) <| .seq (.block 1 (.seq (.rg (.o none (.mv 26 (.t 24)) <|
  .o none (.idx 27 1 (.t 22) (.t 24)) <|
  .o none (.ld 28 1 false (.t 27)) <|
  .o none (.mv 8 (.t 26)) <|
  .o none (.mv 9 (.t 28)) .nil)) <| .seq (.rg (.o none (.mv 29 (.t 9)) <|
  .o none (.conv 30 .i32 (.t 29)) <|
  .o none (.mv 31 (.t 7)) <|
  .o none (.bin 32 .sub false (.t 30) (.t 31)) <|
  .o none (.mv 10 (.t 32)) .nil)) <| .seq (.seq (.rg (.o none (.mv 33 (.t 8)) <|
  .o none (.mv 34 (.t 1)) <|
  .o none (.len 35 (.t 34)) <|
  .o none (.bin 36 .lss false (.t 33) (.t 35)) .nil)) <| .cond (.t 36) (.rg (.o none (.mv 37 (.t 10)) <|
  .o none (.mv 38 (.t 1)) <|
  .o none (.mv 39 (.t 8)) <|
  .o none (.idx 40 1 (.t 38) (.t 39)) <|
  .o none (.ld 41 1 false (.t 40)) <|
  .o none (.conv 42 .i32 (.t 41)) <|
  .o none (.bin 43 .sub false (.t 37) (.t 42)) <|
  .o none (.mv 10 (.t 43)) .nil)) (.skip)) <| .seq (.rg (.o none (.mv 7 (.c (.int .i32 0))) .nil)) <| .seq (.seq (.rg (.o none (.mv 44 (.t 10)) <|
  .o none (.bin 45 .lss false (.t 44) (.c (.int .i32 0))) .nil)) <| .cond (.t 45) (.seq (.rg (.o none (.mv 46 (.t 10)) <|
  .o none (.bin 47 .add false (.t 46) (.c (.int .i32 65536))) <|
  .o none (.mv 10 (.t 47)) .nil)) <| .rg (.o none (.mv 7 (.c (.int .i32 1))) .nil)) (.skip)) <| .rg (.o none (.mv 48 (.t 6)) <|
  .o none (.mv 49 (.t 8)) <|
  .o none (.mv 50 (.t 10)) <|
  .o none (.conv 51 .u16 (.t 50)) <|
  .o none (.idx 52 1 (.t 48) (.t 49)) <|
  .o none (.st 1 (.t 52) (.t 51)) .nil))) <| .rg (.o none (.bin 53 .add false (.t 24) (.c (.int .i64 1))) <|
  .o none (.mv 24 (.t 53)) .nil)))) <| .seq (.rg (.o none (.mv 54 (.t 6)) <|
  .o none (.call (some 55) false (.c (.fn 122 [] [])) [(.t 54)]) <|
  .o none (.mv 4 (.t 55)) <|
  .o none (.mv 5 (.c (.int .i64 0))) .nil)) <| .ret⟩
theorem Q6z : Qe Tryz.prog Tryz.f176 = some Q3h := by kernel_rfl
def c57 : SFn := ⟨79, [.t 4], .seq (.rg (.o none (.mv 4 (.c .nilS)) .nil)) <| .seq (.rg (.o none (.mv 11 (.t 0)) <|
  .o none (.call (some 12) false (.c (.fn 122 [] [])) [(.t 11)]) <|
  .o none (.mv 13 (.t 1)) <|
  .o none (.call (some 14) false (.c (.fn 122 [] [])) [(.t 13)]) <|
  .o none (.mv 0 (.t 12)) <|
  .o none (.mv 1 (.t 14)) .nil)) <| .seq (.seq (.rg (.o none (.mv 15 (.t 0)) <|
  .o none (.len 16 (.t 15)) <|
  .o none (.bin 17 .eql false (.t 16) (.c (.int .i64 0))) <|
  .o none (.mv 18 (.t 17)) <|
  .o (some (18, false)) (.mv 19 (.t 1)) <|
  .o (some (18, false)) (.len 20 (.t 19)) <|
  .o (some (18, false)) (.bin 21 .eql false (.t 20) (.c (.int .i64 0))) <|
  .o none (.pick 22 (.t 18) (.c (.bool true)) (.t 21)) .nil)) <| .cond (.t 22) (.seq (.rg (.o none (.mv 4 (.c .nilS)) .nil)) <| .ret) (.skip)) <| .seq (.rg (.o none (.mv 23 (.t 0)) <|
  .o none (.len 24 (.t 23)) <|
  .o none (.mv 25 (.t 1)) <|
  .o none (.len 26 (.t 25)) <|
  .o none (.bin 27 .add false (.t 24) (.t 26)) <|
  .o none (.mk 28 1 2 111 (.int .u16 0) (.t 27) (.t 27)) <|
  .o none (.mv 5 (.t 28)) .nil)) <| .seq (.seq (.rg (.o none (.mv 29 (.t 0)) <|
  .o none (.len 30 (.t 29)) <|
  .o none (.mv 31 (.c (.int .i64 0))) .nil)) <| .block 0 (.loop (.seq (.rg (.o none (.bin 32 .lss false (.t 31) (.t 30)) .nil)) <| .seq (.cond (.t 32) (.skip) (.exit 0)) <| .seq (.block 1 (.seq (.rg (.o none (.mv 33 (.t 31)) <|
  .o none (.idx 34 1 (.t 29) (.t 31)) <|
  .o none (.ld 35 1 false (.t 34)) <|
  .o none (.mv 6 (.t 33)) <|
  .o none (.mv 7 (.t 35)) .nil)) <| .seq (.rg (.o none (.mv 8 (.c (.int .u32 0))) .nil)) <| .seq (.seq (.rg (.o none (.mv 36 (.t 1)) <|
  .o none (.len 37 (.t 36)) <|
  .o none (.mv 38 (.c (.int .i64 0))) .nil)) <| .block 2 (.loop (.seq (.rg (.o none (.bin 39 .lss false (.t 38) (.t 37)) .nil)) <| .seq (.cond (.t 39) (.skip) (.exit 2)) <| .seq (.block 3 (.seq (.rg (.o none (.mv 40 (.t 38)) <|
  .o none (.idx 41 1 (.t 36) (.t 38)) <|
  .o none (.ld 42 1 false (.t 41)) <|
  .o none (.mv 9 (.t 40)) <|
  .o none (.mv 10 (.t 42)) .nil)) <| .seq (.rg (.o none (.mv 43 (.t 8)) <|
  .o none (.mv 44 (.t 5)) <|
  .o none (.mv 45 (.t 6)) <|
  .o none (.mv 46 (.t 9)) <|
  .o none (.bin 47 .add false (.t 45) (.t 46)) <|
  .o none (.idx 48 1 (.t 44) (.t 47)) <|
  .o none (.ld 49 1 false (.t 48)) <|
  .o none (.conv 50 .u32 (.t 49)) <|
  .o none (.mv 51 (.t 7)) <|
  .o none (.conv 52 .u32 (.t 51)) <|
  .o none (.mv 53 (.t 10)) <|
  .o none (.conv 54 .u32 (.t 53)) <|
  .o none (.bin 55 .mul false (.t 52) (.t 54)) <|
  .o none (.bin 56 .add false (.t 50) (.t 55)) <|
  .o none (.bin 57 .add false (.t 43) (.t 56)) <|
  .o none (.mv 8 (.t 57)) .nil)) <| .seq (.rg (.o none (.mv 58 (.t 5)) <|
  .o none (.mv 59 (.t 6)) <|
  .o none (.mv 60 (.t 9)) <|
  .o none (.bin 61 .add false (.t 59) (.t 60)) <|
  .o none (.mv 62 (.t 8)) <|
  .o none (.conv 63 .u16 (.t 62)) <|
  .o none (.idx 64 1 (.t 58) (.t 61)) <|
  .o none (.st 1 (.t 64) (.t 63)) .nil)) <| .rg (.o none (.mv 65 (.t 8)) <|
  .o none (.bin 66 .shr false (.t 65) (.c (.int .u64 16))) <|
  .o none (.mv 8 (.t 66)) .nil))) <| .rg (.o none (.bin 67 .add false (.t 38) (.c (.int .i64 1))) <|
  .o none (.mv 38 (.t 67)) .nil)))) <| .rg (.o none (.mv 68 (.t 5)) <|
  .o none (.mv 69 (.t 6)) <|
  .o none (.mv 70 (.t 1)) <|
  .o none (.len 71 (.t 70)) <|
  .o none (.bin 72 .add false (.t 69) (.t 71)) <|
  .o none (.mv 73 (.t 8)) <|
  .o none (.conv 74 .u16 (.t 73)) <|
  .o none (.idx 75 1 (.t 68) (.t 72)) <|
  .o none (.st 1 (.t 75) (.t 74)) .nil))) <| .rg (.o none (.bin 76 .add false (.t 31) (.c (.int .i64 1))) <|
  .o none (.mv 31 (.t 76)) .nil)))) <| .seq (.rg (.o none (.mv 77 (.t 5)) <|
  .o none (.call (some 78) false (.c (.fn 122 [] [])) [(.t 77)]) <|
  .o none (.mv 4 (.t 78)) .nil)) <| .ret⟩
theorem Q90 : Qe Tryz.prog Tryz.f57 = some c57 := by kernel_rfl
def Q3i : SFn := ⟨43, [.t 4, .t 5], .seq (.rg (.o none (.mv 4 (.c .nilS)) <|
  .o none (.mv 5 (.c (.int .u16 0))) .nil)) <| .seq (.rg (.o none (.mv 9 (.t 0)) <|
  .o none (.len 10 (.t 9)) <|
  .o none (.mk 11 1 2 111 (.int .u16 0) (.t 10) (.t 10)) <|
  .o none (.mv 6 (.t 11)) .nil)) <| .seq (.rg (.o none (.mv 7 (.c (.int .u32 0))) .nil)) <| .seq (.seq (.rg (.o none (.mv 12 (.t 0)) <|
  .o none (.len 13 (.t 12)) <|
  .o none (.bin 14 .sub false (.t 13) (.c (.int .i64 1))) <|
  .o none (.mv 8 (.t 14)) .nil)) <| .block 0 (.loop (.seq (.seq (.rg (.o none (.mv 15 (.t 8)) <|
  .o none (.bin 16 .geq false (.t 15) (.c (.int .i64 0))) .nil)) <| .cond (.t 16) (.skip) (.exit 0)) <| .seq (.block 1 (.seq (.rg (.o none (.mv 19 (.t 7)) <|
  .o none (.bin 20 .shl false (.t 19) (.c (.int .u64 16))) <|
  .o none (.mv 21 (.t 0)) <|
  .o none (.mv 22 (.t 8)) <|
  .o none (.idx 23 1 (.t 21) (.t 22)) <|
  .o none (.ld 24 1 false (.t 23)) <|
  .o none (.conv 25 .u32 (.t 24)) <|
  .o none (.bin 26 .or false (.t 20) (.t 25)) <|
  .o none (.mv 7 (.t 26)) .nil)) <| .seq (.rg (.o none (.mv 27 (.t 6)) <|
  .o none (.mv 28 (.t 8)) <|
  .o none (.mv 29 (.t 7)) <|
  .o none (.mv 30 (.t 1)) <|
  .o none (.conv 31 .u32 (.t 30)) <|
  .o none (.bin 32 .quo false (.t 29) (.t 31)) <|
  .o none (.conv 33 .u16 (.t 32)) <|
  .o none (.idx 34 1 (.t 27) (.t 28)) <|
  .o none (.st 1 (.t 34) (.t 33)) .nil)) <| .rg (.o none (.mv 35 (.t 7)) <|
  .o none (.mv 36 (.t 1)) <|
  .o none (.conv 37 .u32 (.t 36)) <|
  .o none (.bin 38 .rem false (.t 35) (.t 37)) <|
  .o none (.mv 7 (.t 38)) .nil))) <| .rg (.o none (.mv 17 (.t 8)) <|
  .o none (.bin 18 .sub false (.t 17) (.c (.int .i64 1))) <|
  .o none (.mv 8 (.t 18)) .nil)))) <| .seq (.rg (.o none (.mv 39 (.t 6)) <|
  .o none (.call (some 40) false (.c (.fn 122 [] [])) [(.t 39)]) <|
  .o none (.mv 41 (.t 7)) <|
  .o none (.conv 42 .u16 (.t 41)) <|
  .o none (.mv 4 (.t 40)) <|
  .o none (.mv 5 (.t 42)) .nil)) <| .ret⟩
theorem Q60 : Qe Tryz.prog Tryz.f124 = some Q3i := by kernel_rfl
def c56 : SFn := ⟨71, [.t 4, .t 5, .t 6], .seq (.rg (.o none (.mv 4 (.c .nilS)) <|
  .o none (.mv 5 (.c .nilS)) <|
  .o none (.mv 6 (.c (.int .i64 0))) .nil)) <| .seq (.rg (.o none (.mv 12 (.t 0)) <|
  .o none (.call (some 13) false (.c (.fn 122 [] [])) [(.t 12)]) <|
  .o none (.mv 14 (.t 1)) <|
  .o none (.call (some 15) false (.c (.fn 122 [] [])) [(.t 14)]) <|
  .o none (.mv 0 (.t 13)) <|
  .o none (.mv 1 (.t 15)) .nil)) <| .seq (.block 0 (.seq (.rg (.o none (.mv 17 (.t 1)) <|
  .o none (.len 18 (.t 17)) <|
  .o none (.bin 19 .eql false (.t 18) (.c (.int .i64 0))) <|
  .o none (.mv 16 (.t 19)) .nil)) <| .cond (.t 16) (.seq (.rg (.o none (.mv 4 (.c .nilS)) <|
  .o none (.mv 5 (.c .nilS)) <|
  .o none (.mv 6 (.c (.int .i64 3))) .nil)) <| .ret) (.seq (.rg (.o none (.mv 21 (.t 0)) <|
  .o none (.mv 22 (.t 1)) <|
  .o none (.call (some 23) false (.c (.fn 123 [] [])) [(.t 21), (.t 22)]) <|
  .o none (.bin 24 .lss false (.t 23) (.c (.int .i64 0))) <|
  .o none (.mv 20 (.t 24)) .nil)) <| .cond (.t 20) (.seq (.rg (.o none (.mv 25 (.t 0)) <|
  .o none (.call (some 26) false (.c (.fn 120 [] [])) [(.t 25)]) <|
  .o none (.mv 4 (.c .nilS)) <|
  .o none (.mv 5 (.t 26)) <|
  .o none (.mv 6 (.c (.int .i64 0))) .nil)) <| .ret) (.seq (.rg (.o none (.mv 28 (.t 1)) <|
  .o none (.len 29 (.t 28)) <|
  .o none (.bin 30 .eql false (.t 29) (.c (.int .i64 1))) <|
  .o none (.mv 27 (.t 30)) .nil)) <| .cond (.t 27) (.seq (.rg (.o none (.mv 32 (.t 0)) <|
  .o none (.mv 33 (.t 1)) <|
  .o none (.idx 34 1 (.t 33) (.c (.int .i64 0))) <|
  .o none (.ld 35 1 false (.t 34)) <|
  .o none (.call (some 36) false (.c (.fn 124 [] [])) [(.t 32), (.t 35)]) <|
  .o none (.mv 31 (.t 36)) <|
  .o none (.ext 37 (.t 31) 0) <|
  .o none (.ext 38 (.t 31) 1) <|
  .o none (.mv 7 (.t 37)) <|
  .o none (.mv 8 (.t 38)) .nil)) <| .seq (.rg (.o none (.mv 39 (.t 7)) <|
  .o none (.mv 40 (.t 8)) <|
  .o none (.conv 41 .u64 (.t 40)) <|
  .o none (.call (some 42) false (.c (.fn 54 [] [])) [(.t 41)]) <|
  .o none (.mv 4 (.t 39)) <|
  .o none (.mv 5 (.t 42)) <|
  .o none (.mv 6 (.c (.int .i64 0))) .nil)) <| .ret) (.skip))))) <| .seq (.rg (.o none (.mv 43 (.t 1)) <|
  .o none (.mv 44 (.t 1)) <|
  .o none (.len 45 (.t 44)) <|
  .o none (.bin 46 .sub false (.t 45) (.c (.int .i64 1))) <|
  .o none (.idx 47 1 (.t 43) (.t 46)) <|
  .o none (.ld 48 1 false (.t 47)) <|
  .o none (.call (some 49) false (.c (.fn 125 [] [])) [(.t 48)]) <|
  .o none (.mv 9 (.t 49)) .nil)) <| .seq (.rg (.o none (.mv 50 (.t 0)) <|
  .o none (.mv 51 (.t 9)) <|
  .o none (.call (some 52) false (.c (.fn 126 [] [])) [(.t 50), (.t 51)]) <|
  .o none (.bs 53 1 111 [(.c (.int .u16 0)), (.c (.int .u16 0))]) <|
  .o none (.app 54 1 2 111 (.t 52) (.t 53)) <|
  .o none (.mv 55 (.t 0)) <|
  .o none (.len 56 (.t 55)) <|
  .o none (.bin 57 .add false (.t 56) (.c (.int .i64 1))) <|
  .o none (.sl 58 1 (.t 54) none (some (.t 57)) none) <|
  .o none (.mv 10 (.t 58)) .nil)) <| .seq (.rg (.o none (.mv 59 (.t 1)) <|
  .o none (.mv 60 (.t 9)) <|
  .o none (.call (some 61) false (.c (.fn 126 [] [])) [(.t 59), (.t 60)]) <|
  .o none (.mv 11 (.t 61)) .nil)) <| .seq (.rg (.o none (.mv 62 (.t 10)) <|
  .o none (.mv 63 (.t 11)) <|
  .o none (.call (some 64) false (.c (.fn 127 [] [])) [(.t 62), (.t 63)]) <|
  .o none (.mv 4 (.t 64)) .nil)) <| .seq (.rg (.o none (.mv 65 (.t 4)) <|
  .o none (.mv 66 (.t 10)) <|
  .o none (.call (some 67) false (.c (.fn 122 [] [])) [(.t 66)]) <|
  .o none (.mv 68 (.t 9)) <|
  .o none (.un 69 .neg (.t 68)) <|
  .o none (.call (some 70) false (.c (.fn 126 [] [])) [(.t 67), (.t 69)]) <|
  .o none (.mv 4 (.t 65)) <|
  .o none (.mv 5 (.t 70)) <|
  .o none (.mv 6 (.c (.int .i64 0))) .nil)) <| .ret⟩
theorem Q91 : Qe Tryz.prog Tryz.f56 = some c56 := by kernel_rfl
def Q3j : SFn := ⟨31, [.t 6], .seq (.rg (.o none (.mv 6 (.c (.bool false))) .nil)) <| .seq (.rg (.o none (.ld 7 1 false (.t 0)) <|
  .o none (.bin 8 .geq false (.t 7) (.c (.int .u64 65536))) <|
  .o none (.mv 9 (.t 8)) <|
  .o (some (9, false)) (.ld 10 1 false (.t 0)) <|
  .o (some (9, false)) (.ld 11 1 false (.t 1)) <|
  .o (some (9, false)) (.ld 12 1 false (.t 2)) <|
  .o (some (9, false)) (.bin 13 .sub false (.t 12) (.c (.int .i64 2))) <|
  .o (some (9, false)) (.idx 14 1 (.t 11) (.t 13)) <|
  .o (some (9, false)) (.ld 15 1 false (.t 14)) <|
  .o (some (9, false)) (.conv 16 .u64 (.t 15)) <|
  .o (some (9, false)) (.bin 17 .mul false (.t 10) (.t 16)) <|
  .o (some (9, false)) (.ld 18 1 false (.t 3)) <|
  .o (some (9, false)) (.bin 19 .shl false (.t 18) (.c (.int .u64 16))) <|
  .o (some (9, false)) (.ld 20 1 false (.t 4)) <|
  .o (some (9, false)) (.ld 21 1 false (.t 5)) <|
  .o (some (9, false)) (.ld 22 1 false (.t 2)) <|
  .o (some (9, false)) (.bin 23 .add false (.t 21) (.t 22)) <|
  .o (some (9, false)) (.bin 24 .sub false (.t 23) (.c (.int .i64 2))) <|
  .o (some (9, false)) (.idx 25 1 (.t 20) (.t 24)) <|
  .o (some (9, false)) (.ld 26 1 false (.t 25)) <|
  .o (some (9, false)) (.conv 27 .u64 (.t 26)) <|
  .o (some (9, false)) (.bin 28 .or false (.t 19) (.t 27)) <|
  .o (some (9, false)) (.bin 29 .gtr false (.t 17) (.t 28)) <|
  .o none (.pick 30 (.t 9) (.c (.bool true)) (.t 29)) <|
  .o none (.mv 6 (.t 30)) .nil)) <| .ret⟩
theorem Q61 : Qe Tryz.prog Tryz.f163 = some Q3j := by kernel_rfl
def Q3k : SFn := ⟨54, [.t 6], .seq (.rg (.o none (.mv 6 (.c (.bool false))) .nil)) <| .seq (.rg (.o none (.mv 7 (.c (.int .u32 0))) .nil)) <| .seq (.rg (.o none (.mv 8 (.c (.int .i32 0))) .nil)) <| .seq (.seq (.rg (.o none (.mv 11 (.t 0)) <|
  .o none (.len 12 (.t 11)) <|
  .o none (.mv 13 (.c (.int .i64 0))) .nil)) <| .block 0 (.loop (.seq (.rg (.o none (.bin 14 .lss false (.t 13) (.t 12)) .nil)) <| .seq (.cond (.t 14) (.skip) (.exit 0)) <| .seq (.block 1 (.seq (.rg (.o none (.mv 15 (.t 13)) <|
  .o none (.mv 9 (.t 15)) .nil)) <| .seq (.seq (.rg (.o none (.mv 16 (.t 9)) <|
  .o none (.mv 17 (.t 1)) <|
  .o none (.len 18 (.t 17)) <|
  .o none (.bin 19 .lss false (.t 16) (.t 18)) .nil)) <| .cond (.t 19) (.rg (.o none (.mv 20 (.t 7)) <|
  .o none (.mv 21 (.t 2)) <|
  .o none (.mv 22 (.t 1)) <|
  .o none (.mv 23 (.t 9)) <|
  .o none (.idx 24 1 (.t 22) (.t 23)) <|
  .o none (.ld 25 1 false (.t 24)) <|
  .o none (.conv 26 .u32 (.t 25)) <|
  .o none (.bin 27 .mul false (.t 21) (.t 26)) <|
  .o none (.bin 28 .add false (.t 20) (.t 27)) <|
  .o none (.mv 7 (.t 28)) .nil)) (.skip)) <| .seq (.rg (.o none (.mv 29 (.t 0)) <|
  .o none (.mv 30 (.t 9)) <|
  .o none (.idx 31 1 (.t 29) (.t 30)) <|
  .o none (.ld 32 1 false (.t 31)) <|
  .o none (.conv 33 .i32 (.t 32)) <|
  .o none (.mv 34 (.t 7)) <|
  .o none (.conv 35 .u16 (.t 34)) <|
  .o none (.conv 36 .i32 (.t 35)) <|
  .o none (.bin 37 .sub false (.t 33) (.t 36)) <|
  .o none (.mv 38 (.t 8)) <|
  .o none (.bin 39 .sub false (.t 37) (.t 38)) <|
  .o none (.mv 10 (.t 39)) .nil)) <| .seq (.rg (.o none (.mv 40 (.t 7)) <|
  .o none (.bin 41 .shr false (.t 40) (.c (.int .u64 16))) <|
  .o none (.mv 7 (.t 41)) .nil)) <| .seq (.rg (.o none (.mv 8 (.c (.int .i32 0))) .nil)) <| .seq (.seq (.rg (.o none (.mv 42 (.t 10)) <|
  .o none (.bin 43 .lss false (.t 42) (.c (.int .i32 0))) .nil)) <| .cond (.t 43) (.seq (.rg (.o none (.mv 44 (.t 10)) <|
  .o none (.bin 45 .add false (.t 44) (.c (.int .i32 65536))) <|
  .o none (.mv 10 (.t 45)) .nil)) <| .rg (.o none (.mv 8 (.c (.int .i32 1))) .nil)) (.skip)) <| .rg (.o none (.mv 46 (.t 0)) <|
  .o none (.mv 47 (.t 9)) <|
  .o none (.mv 48 (.t 10)) <|
  .o none (.conv 49 .u16 (.t 48)) <|
  .o none (.idx 50 1 (.t 46) (.t 47)) <|
  .o none (.st 1 (.t 50) (.t 49)) .nil))) <| .rg (.o none (.bin 51 .add false (.t 13) (.c (.int .i64 1))) <|
  .o none (.mv 13 (.t 51)) .nil)))) <| .seq (.rg (.o none (.mv 52 (.t 8)) <|
  .o none (.bin 53 .gtr false (.t 52) (.c (.int .i32 0))) <|
  .o none (.mv 6 (.t 53)) .nil)) <| .ret⟩
theorem Q62 : Qe Tryz.prog Tryz.f164 = some Q3k := by kernel_rfl
def Q3l : SFn := ⟨37, [], .seq (.rg (.o none (.mv 4 (.c (.int .u32 0))) .nil)) <| .seq (.rg (.o none (.mv 6 (.t 0)) <|
  .o none (.len 7 (.t 6)) <|
  .o none (.mv 8 (.c (.int .i64 0))) .nil)) <| .block 0 (.loop (.seq (.rg (.o none (.bin 9 .lss false (.t 8) (.t 7)) .nil)) <| .seq (.cond (.t 9) (.skip) (.exit 0)) <| .seq (.block 1 (.seq (.rg (.o none (.mv 10 (.t 8)) <|
  .o none (.mv 5 (.t 10)) .nil)) <| .seq (.rg (.o none (.mv 11 (.t 4)) <|
  .o none (.mv 12 (.t 0)) <|
  .o none (.mv 13 (.t 5)) <|
  .o none (.idx 14 1 (.t 12) (.t 13)) <|
  .o none (.ld 15 1 false (.t 14)) <|
  .o none (.conv 16 .u32 (.t 15)) <|
  .o none (.bin 17 .add false (.t 11) (.t 16)) <|
  .o none (.mv 4 (.t 17)) .nil)) <| .seq (.seq (.rg (.o none (.mv 18 (.t 5)) <|
  .o none (.mv 19 (.t 1)) <|
  .o none (.len 20 (.t 19)) <|
  .o none (.bin 21 .lss false (.t 18) (.t 20)) .nil)) <| .cond (.t 21) (.rg (.o none (.mv 22 (.t 4)) <|
  .o none (.mv 23 (.t 1)) <|
  .o none (.mv 24 (.t 5)) <|
  .o none (.idx 25 1 (.t 23) (.t 24)) <|
  .o none (.ld 26 1 false (.t 25)) <|
  .o none (.conv 27 .u32 (.t 26)) <|
  .o none (.bin 28 .add false (.t 22) (.t 27)) <|
  .o none (.mv 4 (.t 28)) .nil)) (.skip)) <| .seq (.rg (.o none (.mv 29 (.t 0)) <|
  .o none (.mv 30 (.t 5)) <|
  .o none (.mv 31 (.t 4)) <|
  .o none (.conv 32 .u16 (.t 31)) <|
  .o none (.idx 33 1 (.t 29) (.t 30)) <|
  .o none (.st 1 (.t 33) (.t 32)) .nil)) <| .rg (.o none (.mv 34 (.t 4)) <|
  .o none (.bin 35 .shr false (.t 34) (.c (.int .u64 16))) <|
  .o none (.mv 4 (.t 35)) .nil))) <| .rg (.o none (.bin 36 .add false (.t 8) (.c (.int .i64 1))) <|
  .o none (.mv 8 (.t 36)) .nil)))⟩
theorem Q63 : Qe Tryz.prog Tryz.f165 = some Q3l := by kernel_rfl
def c55 : SFn := ⟨51, [.t 4], .seq (.rg (.o none (.mv 4 (.c .nilS)) .nil)) <| .seq (.rg (.o none (.mv 12 (.t 0)) <|
  .o none (.call (some 13) false (.c (.fn 120 [] [])) [(.t 12)]) <|
  .o none (.mv 14 (.t 1)) <|
  .o none (.call (some 15) false (.c (.fn 120 [] [])) [(.t 14)]) <|
  .o none (.mv 0 (.t 13)) <|
  .o none (.mv 1 (.t 15)) .nil)) <| .seq (.block 0 (.loop (.seq (.seq (.rg (.o none (.mv 16 (.t 1)) <|
  .o none (.len 17 (.t 16)) <|
  .o none (.bin 18 .gtr false (.t 17) (.c (.int .i64 0))) .nil)) <| .cond (.t 18) (.skip) (.exit 0)) <| .block 1 (.seq (.rg (.o none (.mv 20 (.t 0)) <|
  .o none (.call (some 21) false (.c (.fn 121 [] [])) [(.t 20)]) <|
  .o none (.mv 19 (.t 21)) <|
  .o none (.ext 22 (.t 19) 0) <|
  .o none (.ext 23 (.t 19) 1) <|
  .o none (.mv 5 (.t 22)) <|
  .o none (.mv 6 (.t 23)) .nil)) <| .seq (.rg (.o none (.mv 25 (.t 1)) <|
  .o none (.call (some 26) false (.c (.fn 121 [] [])) [(.t 25)]) <|
  .o none (.mv 24 (.t 26)) <|
  .o none (.ext 27 (.t 24) 0) <|
  .o none (.ext 28 (.t 24) 1) <|
  .o none (.mv 7 (.t 27)) <|
  .o none (.mv 8 (.t 28)) .nil)) <| .seq (.seq (.rg (.o none (.mv 29 (.t 6)) <|
  .o none (.mv 30 (.t 29)) <|
  .o (some (30, true)) (.mv 31 (.t 8)) <|
  .o none (.pick 32 (.t 30) (.t 31) (.c (.bool false))) .nil)) <| .cond (.t 32) (.seq (.block 2 (.loop (.seq (.seq (.rg (.o none (.mv 33 (.t 7)) <|
  .o none (.bin 34 .gtr false (.t 33) (.c (.int .u64 0))) .nil)) <| .cond (.t 34) (.skip) (.exit 2)) <| .block 3 (.rg (.o none (.mv 35 (.t 7)) <|
  .o none (.mv 36 (.t 5)) <|
  .o none (.mv 37 (.t 7)) <|
  .o none (.bin 38 .rem false (.t 36) (.t 37)) <|
  .o none (.mv 5 (.t 35)) <|
  .o none (.mv 7 (.t 38)) .nil))))) <| .seq (.rg (.o none (.mv 39 (.t 5)) <|
  .o none (.call (some 40) false (.c (.fn 54 [] [])) [(.t 39)]) <|
  .o none (.mv 4 (.t 40)) .nil)) <| .ret) (.skip)) <| .seq (.rg (.o none (.mv 42 (.t 0)) <|
  .o none (.mv 43 (.t 1)) <|
  .o none (.call (some 44) false (.c (.fn 56 [] [])) [(.t 42), (.t 43)]) <|
  .o none (.mv 41 (.t 44)) <|
  .o none (.ext 45 (.t 41) 0) <|
  .o none (.ext 46 (.t 41) 1) <|
  .o none (.ext 47 (.t 41) 2) <|
  .o none (.mv 9 (.t 45)) <|
  .o none (.mv 10 (.t 46)) <|
  .o none (.mv 11 (.t 47)) .nil)) <| .rg (.o none (.mv 48 (.t 1)) <|
  .o none (.mv 49 (.t 10)) <|
  .o none (.mv 0 (.t 48)) <|
  .o none (.mv 1 (.t 49)) .nil))))) <| .seq (.rg (.o none (.mv 50 (.t 0)) <|
  .o none (.mv 4 (.t 50)) .nil)) <| .ret⟩
theorem Q92 : Qe Tryz.prog Tryz.f55 = some c55 := by kernel_rfl
def Qo8 : SFn := ⟨78, [.t 4], .seq (.rg (.o none (.mv 4 (.c .nilS)) .nil)) <| .seq (.rg (.o none (.mv 11 (.t 0)) <|
  .o none (.call (some 12) false (.c (.fn 122 [] [])) [(.t 11)]) <|
  .o none (.mv 0 (.t 12)) .nil)) <| .seq (.seq (.rg (.o none (.mv 13 (.t 1)) <|
  .o none (.bin 14 .lss false (.t 13) (.c (.int .i64 (-1048576)))) <|
  .o none (.mv 15 (.t 14)) <|
  .o (some (15, false)) (.mv 16 (.t 1)) <|
  .o (some (15, false)) (.bin 17 .gtr false (.t 16) (.c (.int .i64 1048576))) <|
  .o none (.pick 18 (.t 15) (.c (.bool true)) (.t 17)) <|
  .o none (.mv 19 (.t 18)) <|
  .o (some (19, false)) (.mv 20 (.t 0)) <|
  .o (some (19, false)) (.len 21 (.t 20)) <|
  .o (some (19, false)) (.bin 22 .eql false (.t 21) (.c (.int .i64 0))) <|
  .o none (.pick 23 (.t 19) (.c (.bool true)) (.t 22)) .nil)) <| .cond (.t 23) (.seq (.rg (.o none (.mv 4 (.c .nilS)) .nil)) <| .ret) (.skip)) <| .seq (.seq (.rg (.o none (.mv 24 (.t 1)) <|
  .o none (.bin 25 .lss false (.t 24) (.c (.int .i64 0))) .nil)) <| .cond (.t 25) (.seq (.rg (.o none (.mv 26 (.t 0)) <|
  .o none (.mv 27 (.t 1)) <|
  .o none (.un 28 .neg (.t 27)) <|
  .o none (.call (some 29) false (.c (.fn 162 [] [])) [(.t 26), (.t 28)]) <|
  .o none (.mv 4 (.t 29)) .nil)) <| .ret) (.skip)) <| .seq (.rg (.o none (.mv 30 (.t 1)) <|
  .o none (.bin 31 .quo false (.t 30) (.c (.int .i64 16))) <|
  .o none (.mv 32 (.t 1)) <|
  .o none (.bin 33 .rem false (.t 32) (.c (.int .i64 16))) <|
  .o none (.mv 5 (.t 31)) <|
  .o none (.mv 6 (.t 33)) .nil)) <| .seq (.rg (.o none (.mv 34 (.t 0)) <|
  .o none (.len 35 (.t 34)) <|
  .o none (.mv 36 (.t 5)) <|
  .o none (.bin 37 .add false (.t 35) (.t 36)) <|
  .o none (.bin 38 .add false (.t 37) (.c (.int .i64 1))) <|
  .o none (.mv 39 (.t 0)) <|
  .o none (.len 40 (.t 39)) <|
  .o none (.mv 41 (.t 5)) <|
  .o none (.bin 42 .add false (.t 40) (.t 41)) <|
  .o none (.bin 43 .add false (.t 42) (.c (.int .i64 3))) <|
  .o none (.mk 44 1 2 111 (.int .u16 0) (.t 38) (.t 43)) <|
  .o none (.mv 7 (.t 44)) .nil)) <| .seq (.seq (.rg (.o none (.mv 45 (.t 0)) <|
  .o none (.len 46 (.t 45)) <|
  .o none (.mv 47 (.c (.int .i64 0))) .nil)) <| .block 0 (.loop (.seq (.rg (.o none (.bin 48 .lss false (.t 47) (.t 46)) .nil)) <| .seq (.cond (.t 48) (.skip) (.exit 0)) <| .seq (.block 1 (.seq (.rg (.o none (.mv 49 (.t 47)) <|
  .o none (.idx 50 1 (.t 45) (.t 47)) <|
  .o none (.ld 51 1 false (.t 50)) <|
  .o none (.mv 8 (.t 49)) <|
  .o none (.mv 9 (.t 51)) .nil)) <| .seq (.rg (.o none (.mv 52 (.t 9)) <|
  .o none (.conv 53 .u32 (.t 52)) <|
  .o none (.mv 54 (.t 6)) <|
  .o none (.bin 55 .shl false (.t 53) (.t 54)) <|
  .o none (.mv 10 (.t 55)) .nil)) <| .seq (.rg (.o none (.mv 56 (.t 7)) <|
  .o none (.mv 57 (.t 8)) <|
  .o none (.mv 58 (.t 5)) <|
  .o none (.bin 59 .add false (.t 57) (.t 58)) <|
  .o none (.idx 60 1 (.t 56) (.t 59)) <|
  .o none (.ld 61 1 false (.t 60)) <|
  .o none (.mv 62 (.t 10)) <|
  .o none (.conv 63 .u16 (.t 62)) <|
  .o none (.bin 64 .or false (.t 61) (.t 63)) <|
  .o none (.idx 65 1 (.t 56) (.t 59)) <|
  .o none (.st 1 (.t 65) (.t 64)) .nil)) <| .rg (.o none (.mv 66 (.t 7)) <|
  .o none (.mv 67 (.t 8)) <|
  .o none (.mv 68 (.t 5)) <|
  .o none (.bin 69 .add false (.t 67) (.t 68)) <|
  .o none (.bin 70 .add false (.t 69) (.c (.int .i64 1))) <|
  .o none (.mv 71 (.t 10)) <|
  .o none (.bin 72 .shr false (.t 71) (.c (.int .u64 16))) <|
  .o none (.conv 73 .u16 (.t 72)) <|
  .o none (.idx 74 1 (.t 66) (.t 70)) <|
  .o none (.st 1 (.t 74) (.t 73)) .nil))) <| .rg (.o none (.bin 75 .add false (.t 47) (.c (.int .i64 1))) <|
  .o none (.mv 47 (.t 75)) .nil)))) <| .seq (.rg (.o none (.mv 76 (.t 7)) <|
  .o none (.call (some 77) false (.c (.fn 122 [] [])) [(.t 76)]) <|
  .o none (.mv 4 (.t 77)) .nil)) <| .ret⟩
theorem Qrk : Qe Tryz.prog Tryz.f126 = some Qo8 := by kernel_rfl
def Q3m : SFn := ⟨63, [.t 4], .seq (.rg (.o none (.mv 4 (.c .nilS)) .nil)) <| .seq (.rg (.o none (.mv 10 (.t 1)) <|
  .o none (.bin 11 .quo false (.t 10) (.c (.int .i64 16))) <|
  .o none (.mv 12 (.t 1)) <|
  .o none (.bin 13 .rem false (.t 12) (.c (.int .i64 16))) <|
  .o none (.mv 5 (.t 11)) <|
  .o none (.mv 6 (.t 13)) .nil)) <| .seq (.seq (.rg (.o none (.mv 14 (.t 5)) <|
  .o none (.mv 15 (.t 0)) <|
  .o none (.len 16 (.t 15)) <|
  .o none (.bin 17 .geq false (.t 14) (.t 16)) .nil)) <| .cond (.t 17) (.seq (.rg (.o none (.mv 4 (.c .nilS)) .nil)) <| .ret) (.skip)) <| .seq (.rg (.o none (.mv 18 (.t 0)) <|
  .o none (.len 19 (.t 18)) <|
  .o none (.mv 20 (.t 5)) <|
  .o none (.bin 21 .sub false (.t 19) (.t 20)) <|
  .o none (.mk 22 1 2 111 (.int .u16 0) (.t 21) (.t 21)) <|
  .o none (.mv 7 (.t 22)) .nil)) <| .seq (.seq (.rg (.o none (.mv 23 (.t 7)) <|
  .o none (.len 24 (.t 23)) <|
  .o none (.mv 25 (.c (.int .i64 0))) .nil)) <| .block 0 (.loop (.seq (.rg (.o none (.bin 26 .lss false (.t 25) (.t 24)) .nil)) <| .seq (.cond (.t 26) (.skip) (.exit 0)) <| .seq (.block 1 (.seq (.rg (.o none (.mv 27 (.t 25)) <|
  .o none (.mv 8 (.t 27)) .nil)) <| .seq (.rg (.o none (.mv 28 (.t 0)) <|
  .o none (.mv 29 (.t 8)) <|
  .o none (.mv 30 (.t 5)) <|
  .o none (.bin 31 .add false (.t 29) (.t 30)) <|
  .o none (.idx 32 1 (.t 28) (.t 31)) <|
  .o none (.ld 33 1 false (.t 32)) <|
  .o none (.conv 34 .u32 (.t 33)) <|
  .o none (.mv 9 (.t 34)) .nil)) <| .seq (.seq (.rg (.o none (.mv 35 (.t 8)) <|
  .o none (.mv 36 (.t 5)) <|
  .o none (.bin 37 .add false (.t 35) (.t 36)) <|
  .o none (.bin 38 .add false (.t 37) (.c (.int .i64 1))) <|
  .o none (.mv 39 (.t 0)) <|
  .o none (.len 40 (.t 39)) <|
  .o none (.bin 41 .lss false (.t 38) (.t 40)) .nil)) <| .cond (.t 41) (.rg (.o none (.mv 42 (.t 9)) <|
  .o none (.mv 43 (.t 0)) <|
  .o none (.mv 44 (.t 8)) <|
  .o none (.mv 45 (.t 5)) <|
  .o none (.bin 46 .add false (.t 44) (.t 45)) <|
  .o none (.bin 47 .add false (.t 46) (.c (.int .i64 1))) <|
  .o none (.idx 48 1 (.t 43) (.t 47)) <|
  .o none (.ld 49 1 false (.t 48)) <|
  .o none (.conv 50 .u32 (.t 49)) <|
  .o none (.bin 51 .shl false (.t 50) (.c (.int .u64 16))) <|
  .o none (.bin 52 .or false (.t 42) (.t 51)) <|
  .o none (.mv 9 (.t 52)) .nil)) (.skip)) <| .rg (.o none (.mv 53 (.t 7)) <|
  .o none (.mv 54 (.t 8)) <|
  .o none (.mv 55 (.t 9)) <|
  .o none (.mv 56 (.t 6)) <|
  .o none (.bin 57 .shr false (.t 55) (.t 56)) <|
  .o none (.conv 58 .u16 (.t 57)) <|
  .o none (.idx 59 1 (.t 53) (.t 54)) <|
  .o none (.st 1 (.t 59) (.t 58)) .nil))) <| .rg (.o none (.bin 60 .add false (.t 25) (.c (.int .i64 1))) <|
  .o none (.mv 25 (.t 60)) .nil)))) <| .seq (.rg (.o none (.mv 61 (.t 7)) <|
  .o none (.call (some 62) false (.c (.fn 122 [] [])) [(.t 61)]) <|
  .o none (.mv 4 (.t 62)) .nil)) <| .ret⟩
theorem Q64 : Qe Tryz.prog Tryz.f162 = some Q3m := by kernel_rfl
def Q3n : SFn := ⟨6, [.t 2], .seq (.rg (.o none (.mv 2 (.c (.int .i64 0))) .nil)) <| .seq (.rg (.o none (.mv 3 (.t 0)) <|
  .o none (.call (some 4) false (.c (.fn 161 [] [])) [(.t 3)]) <|
  .o none (.bin 5 .sub false (.c (.int .i64 16)) (.t 4)) <|
  .o none (.mv 2 (.t 5)) .nil)) <| .ret⟩
theorem Q65 : Qe Tryz.prog Tryz.f125 = some Q3n := by kernel_rfl
end Go.Proofs.YtjkbalanglgoiaaGreat
namespace Go.Proofs.YtjkbalanglgoiaaGreat
open Go Go.FW
set_option maxRecDepth 100000
def Q3o : SFn := ⟨15, [.cell 4 2 true], .seq (.rg (.o none (.alloc 4 2 31 (.agg [(.bool false), .nilS])) .nil)) <| .seq (.rg (.o none (.mv 5 (.t 1)) <|
  .o none (.call (some 6) false (.c (.fn 120 [] [])) [(.t 5)]) <|
  .o none (.mv 1 (.t 6)) .nil)) <| .seq (.rg (.o none (.mv 7 (.t 0)) <|
  .o none (.mv 8 (.t 7)) <|
  .o (some (8, true)) (.mv 9 (.t 1)) <|
  .o (some (8, true)) (.len 10 (.t 9)) <|
  .o (some (8, true)) (.bin 11 .gtr false (.t 10) (.c (.int .i64 0))) <|
  .o none (.pick 12 (.t 8) (.t 11) (.c (.bool false))) <|
  .o none (.mv 13 (.t 1)) <|
  .o none (.bld 14 [(.bool false), .nilS] [(0, 1, (.t 12)), (1, 1, (.t 13))]) <|
  .o none (.st 2 (.t 4) (.t 14)) .nil)) <| .ret⟩
theorem Q66 : Qe Tryz.prog Tryz.f173 = some Q3o := by kernel_rfl
def Q3p : SFn := ⟨13, [.cell 4 2 true], .seq (.rg (.o none (.alloc 4 2 31 (.agg [(.bool false), .nilS])) .nil)) <| .seq (.rg (.o none (.mv 5 (.t 0)) <|
  .o none (.mv 6 (.t 5)) <|
  .o (some (6, true)) (.mv 7 (.t 1)) <|
  .o (some (6, true)) (.len 8 (.t 7)) <|
  .o (some (6, true)) (.bin 9 .gtr false (.t 8) (.c (.int .i64 0))) <|
  .o none (.pick 10 (.t 6) (.t 9) (.c (.bool false))) <|
  .o none (.mv 11 (.t 1)) <|
  .o none (.bld 12 [(.bool false), .nilS] [(0, 1, (.t 10)), (1, 1, (.t 11))]) <|
  .o none (.st 2 (.t 4) (.t 12)) .nil)) <| .ret⟩
theorem Q67 : Qe Tryz.prog Tryz.f159 = some Q3p := by kernel_rfl
def Q3q : SFn := ⟨8, [.cell 2 2 true], .seq (.rg (.o none (.box 1 2 31 (.t 0)) <|
  .o none (.alloc 2 2 31 (.agg [(.bool false), .nilS])) .nil)) <| .seq (.rg (.o none (.fld 3 0 (.t 1)) <|
  .o none (.ld 4 1 false (.t 3)) <|
  .o none (.fld 5 1 (.t 1)) <|
  .o none (.ld 6 1 false (.t 5)) <|
  .o none (.call (some 7) false (.c (.fn 173 [] [])) [(.t 4), (.t 6)]) <|
  .o none (.st 2 (.t 2) (.t 7)) .nil)) <| .ret⟩
theorem Q68 : Qe Tryz.prog Tryz.f166 = some Q3q := by kernel_rfl
def Q3r : SFn := ⟨16, [.cell 2 2 true], .seq (.rg (.o none (.alloc 2 2 31 (.agg [(.bool false), .nilS])) .nil)) <| .seq (.seq (.rg (.o none (.mv 3 (.t 0)) <|
  .o none (.bin 4 .lss false (.t 3) (.c (.int .i64 0))) .nil)) <| .cond (.t 4) (.seq (.rg (.o none (.mv 5 (.t 0)) <|
  .o none (.bin 6 .add false (.t 5) (.c (.int .i64 1))) <|
  .o none (.un 7 .neg (.t 6)) <|
  .o none (.conv 8 .u64 (.t 7)) <|
  .o none (.bin 9 .add false (.t 8) (.c (.int .u64 1))) <|
  .o none (.call (some 10) false (.c (.fn 54 [] [])) [(.t 9)]) <|
  .o none (.call (some 11) false (.c (.fn 159 [] [])) [(.c (.bool true)), (.t 10)]) <|
  .o none (.st 2 (.t 2) (.t 11)) .nil)) <| .ret) (.skip)) <| .seq (.rg (.o none (.mv 12 (.t 0)) <|
  .o none (.conv 13 .u64 (.t 12)) <|
  .o none (.call (some 14) false (.c (.fn 54 [] [])) [(.t 13)]) <|
  .o none (.call (some 15) false (.c (.fn 159 [] [])) [(.c (.bool false)), (.t 14)]) <|
  .o none (.st 2 (.t 2) (.t 15)) .nil)) <| .ret⟩
theorem Q69 : Qe Tryz.prog Tryz.f118 = some Q3r := by kernel_rfl
def Q3s : SFn := ⟨11, [.t 2], .seq (.rg (.o none (.box 1 2 31 (.t 0)) <|
  .o none (.mv 2 (.c (.int .i64 0))) .nil)) <| .seq (.block 0 (.seq (.rg (.o none (.fld 4 1 (.t 1)) <|
  .o none (.ld 5 1 false (.t 4)) <|
  .o none (.call (some 6) false (.c (.fn 158 [] [])) [(.t 5)]) <|
  .o none (.bin 7 .eql false (.t 6) (.c (.int .i64 0))) <|
  .o none (.mv 3 (.t 7)) .nil)) <| .cond (.t 3) (.seq (.rg (.o none (.mv 2 (.c (.int .i64 0))) .nil)) <| .ret) (.seq (.rg (.o none (.fld 9 0 (.t 1)) <|
  .o none (.ld 10 1 false (.t 9)) <|
  .o none (.mv 8 (.t 10)) .nil)) <| .cond (.t 8) (.seq (.rg (.o none (.mv 2 (.c (.int .i64 (-1)))) .nil)) <| .ret) (.skip)))) <| .seq (.rg (.o none (.mv 2 (.c (.int .i64 1))) .nil)) <| .ret⟩
theorem Q7a : Qe Tryz.prog Tryz.f128 = some Q3s := by kernel_rfl
def Q3t : SFn := ⟨40, [.cell 4 2 true], .seq (.rg (.o none (.box 2 2 31 (.t 0)) <|
  .o none (.box 3 2 31 (.t 1)) <|
  .o none (.alloc 4 2 31 (.agg [(.bool false), .nilS])) .nil)) <| .seq (.seq (.rg (.o none (.fld 7 0 (.t 2)) <|
  .o none (.ld 8 1 false (.t 7)) <|
  .o none (.fld 9 0 (.t 3)) <|
  .o none (.ld 10 1 false (.t 9)) <|
  .o none (.bin 11 .eql true (.t 8) (.t 10)) .nil)) <| .cond (.t 11) (.seq (.rg (.o none (.fld 12 0 (.t 2)) <|
  .o none (.ld 13 1 false (.t 12)) <|
  .o none (.fld 14 1 (.t 2)) <|
  .o none (.ld 15 1 false (.t 14)) <|
  .o none (.fld 16 1 (.t 3)) <|
  .o none (.ld 17 1 false (.t 16)) <|
  .o none (.call (some 18) true (.c (.fn 175 [] [])) [(.t 15), (.t 17)]) <|
  .o none (.call (some 19) true (.c (.fn 159 [] [])) [(.t 13), (.t 18)]) <|
  .o none (.st 2 (.t 4) (.t 19)) .nil)) <| .ret) (.skip)) <| .seq (.seq (.rg (.o none (.fld 20 1 (.t 2)) <|
  .o none (.ld 21 1 false (.t 20)) <|
  .o none (.fld 22 1 (.t 3)) <|
  .o none (.ld 23 1 false (.t 22)) <|
  .o none (.call (some 24) false (.c (.fn 123 [] [])) [(.t 21), (.t 23)]) <|
  .o none (.bin 25 .lss false (.t 24) (.c (.int .i64 0))) .nil)) <| .cond (.t 25) (.rg (.o none (.ld 26 2 true (.t 3)) <|
  .o none (.ld 27 2 true (.t 2)) <|
  .o none (.st 2 (.t 2) (.t 26)) <|
  .o none (.st 2 (.t 3) (.t 27)) .nil)) (.skip)) <| .seq (.rg (.o none (.fld 29 1 (.t 2)) <|
  .o none (.ld 30 1 false (.t 29)) <|
  .o none (.fld 31 1 (.t 3)) <|
  .o none (.ld 32 1 false (.t 31)) <|
  .o none (.call (some 33) false (.c (.fn 176 [] [])) [(.t 30), (.t 32)]) <|
  .o none (.mv 28 (.t 33)) <|
  .o none (.ext 34 (.t 28) 0) <|
  .o none (.ext 35 (.t 28) 1) <|
  .o none (.mv 5 (.t 34)) <|
  .o none (.mv 6 (.t 35)) .nil)) <| .seq (.rg (.o none (.fld 36 0 (.t 2)) <|
  .o none (.ld 37 1 false (.t 36)) <|
  .o none (.mv 38 (.t 5)) <|
  .o none (.call (some 39) false (.c (.fn 159 [] [])) [(.t 37), (.t 38)]) <|
  .o none (.st 2 (.t 4) (.t 39)) .nil)) <| .ret⟩
theorem Q7b : Qe Tryz.prog Tryz.f172 = some Q3t := by kernel_rfl
def Q3u : SFn := ⟨16, [.cell 4 2 true], .seq (.rg (.o none (.box 2 2 31 (.t 0)) <|
  .o none (.box 3 2 31 (.t 1)) <|
  .o none (.alloc 4 2 31 (.agg [(.bool false), .nilS])) .nil)) <| .seq (.rg (.o none (.fld 5 0 (.t 2)) <|
  .o none (.ld 6 1 false (.t 5)) <|
  .o none (.fld 7 0 (.t 3)) <|
  .o none (.ld 8 1 false (.t 7)) <|
  .o none (.bin 9 .neq true (.t 6) (.t 8)) <|
  .o none (.fld 10 1 (.t 2)) <|
  .o none (.ld 11 1 false (.t 10)) <|
  .o none (.fld 12 1 (.t 3)) <|
  .o none (.ld 13 1 false (.t 12)) <|
  .o none (.call (some 14) true (.c (.fn 57 [] [])) [(.t 11), (.t 13)]) <|
  .o none (.call (some 15) true (.c (.fn 159 [] [])) [(.t 9), (.t 14)]) <|
  .o none (.st 2 (.t 4) (.t 15)) .nil)) <| .ret⟩
theorem Q7c : Qe Tryz.prog Tryz.f108 = some Q3u := by kernel_rfl
def Q3v : SFn := ⟨17, [.t 2], .seq (.rg (.o none (.mv 2 (.c (.bool false))) .nil)) <| .seq (.rg (.o none (.mv 4 (.t 0)) <|
  .o none (.len 5 (.t 4)) <|
  .o none (.bld 6 [(.int .i64 0), (.int .u16 0)] [(0, 1, (.t 5))]) <|
  .o none (.alloc 3 2 146 (.agg [(.int .i64 0), (.int .u16 0)])) <|
  .o none (.st 2 (.t 3) (.t 6)) .nil)) <| .seq (.seq (.rg (.o none (.mv 7 (.t 0)) <|
  .o none (.len 8 (.t 7)) <|
  .o none (.bin 9 .gtr false (.t 8) (.c (.int .i64 0))) .nil)) <| .cond (.t 9) (.rg (.o none (.mv 10 (.t 0)) <|
  .o none (.idx 11 1 (.t 10) (.c (.int .i64 0))) <|
  .o none (.ld 12 1 false (.t 11)) <|
  .o none (.fld 13 1 (.t 3)) <|
  .o none (.st 1 (.t 13) (.t 12)) .nil)) (.skip)) <| .seq (.rg (.o none (.ld 14 2 true (.t 3)) <|
  .o none (.bld 15 [(.int .i64 0), (.int .u16 0)] [(0, 1, (.c (.int .i64 1))), (1, 1, (.c (.int .u16 1)))]) <|
  .o none (.eqs 16 false (.t 14) (.t 15)) <|
  .o none (.mv 2 (.t 16)) .nil)) <| .ret⟩
theorem Q7d : Qe Tryz.prog Tryz.f155 = some Q3v := by kernel_rfl
def Q3w : SFn := ⟨2, [.t 0], .seq (.rg (.o none (.mv 0 (.c .nilS)) .nil)) <| .seq (.rg (.o none (.bs 1 1 111 [(.c (.int .u16 1))]) <|
  .o none (.mv 0 (.t 1)) .nil)) <| .ret⟩
theorem Q7e : Qe Tryz.prog Tryz.f119 = some Q3w := by kernel_rfl
def Q3x : SFn := ⟨52, [.cell 4 3 true], .seq (.rg (.o none (.box 2 2 31 (.t 0)) <|
  .o none (.alloc 4 3 33 (.agg [(.bool false), .nilS, .nilS])) .nil)) <| .seq (.rg (.o none (.mv 6 (.t 1)) <|
  .o none (.call (some 7) false (.c (.fn 120 [] [])) [(.t 6)]) <|
  .o none (.mv 1 (.t 7)) .nil)) <| .seq (.rg (.o none (.ld 8 2 true (.t 2)) <|
  .o none (.call (some 9) false (.c (.fn 166 [] [])) [(.t 8)]) <|
  .o none (.st 2 (.t 2) (.t 9)) .nil)) <| .seq (.seq (.rg (.o none (.mv 10 (.t 1)) <|
  .o none (.len 11 (.t 10)) <|
  .o none (.bin 12 .eql false (.t 11) (.c (.int .i64 0))) <|
  .o none (.mv 13 (.t 12)) <|
  .o (some (13, false)) (.fld 14 1 (.t 2)) <|
  .o (some (13, false)) (.ld 15 1 false (.t 14)) <|
  .o (some (13, false)) (.len 16 (.t 15)) <|
  .o (some (13, false)) (.bin 17 .eql false (.t 16) (.c (.int .i64 0))) <|
  .o none (.pick 18 (.t 13) (.c (.bool true)) (.t 17)) .nil)) <| .cond (.t 18) (.seq (.rg (.o none (.call (some 19) false (.c (.fn 119 [] [])) []) <|
  .o none (.bld 20 [(.bool false), .nilS, .nilS] [(2, 1, (.t 19))]) <|
  .o none (.st 3 (.t 4) (.t 20)) .nil)) <| .ret) (.skip)) <| .seq (.seq (.rg (.o none (.mv 21 (.t 1)) <|
  .o none (.call (some 22) false (.c (.fn 155 [] [])) [(.t 21)]) .nil)) <| .cond (.t 22) (.seq (.rg (.o none (.ld 23 2 true (.t 2)) <|
  .o none (.mv 24 (.t 1)) <|
  .o none (.bld 25 [(.bool false), .nilS, .nilS] [(0, 2, (.t 23)), (2, 1, (.t 24))]) <|
  .o none (.st 3 (.t 4) (.t 25)) .nil)) <| .ret) (.skip)) <| .seq (.rg (.o none (.fld 26 1 (.t 2)) <|
  .o none (.ld 27 1 false (.t 26)) <|
  .o none (.mv 28 (.t 1)) <|
  .o none (.call (some 29) false (.c (.fn 55 [] [])) [(.t 27), (.t 28)]) <|
  .o none (.mv 5 (.t 29)) .nil)) <| .seq (.seq (.rg (.o none (.mv 30 (.t 5)) <|
  .o none (.call (some 31) false (.c (.fn 155 [] [])) [(.t 30)]) <|
  .o none (.un 32 .not (.t 31)) .nil)) <| .cond (.t 32) (.seq (.rg (.o none (.fld 34 1 (.t 2)) <|
  .o none (.ld 35 1 false (.t 34)) <|
  .o none (.mv 36 (.t 5)) <|
  .o none (.call (some 37) false (.c (.fn 56 [] [])) [(.t 35), (.t 36)]) <|
  .o none (.mv 33 (.t 37)) <|
  .o none (.ext 38 (.t 33) 0) <|
  .o none (.ext 39 (.t 33) 1) <|
  .o none (.ext 40 (.t 33) 2) <|
  .o none (.fld 41 1 (.t 2)) <|
  .o none (.st 1 (.t 41) (.t 38)) .nil)) <| .rg (.o none (.mv 43 (.t 1)) <|
  .o none (.mv 44 (.t 5)) <|
  .o none (.call (some 45) false (.c (.fn 56 [] [])) [(.t 43), (.t 44)]) <|
  .o none (.mv 42 (.t 45)) <|
  .o none (.ext 46 (.t 42) 0) <|
  .o none (.ext 47 (.t 42) 1) <|
  .o none (.ext 48 (.t 42) 2) <|
  .o none (.mv 1 (.t 46)) .nil)) (.skip)) <| .seq (.rg (.o none (.ld 49 2 true (.t 2)) <|
  .o none (.mv 50 (.t 1)) <|
  .o none (.bld 51 [(.bool false), .nilS, .nilS] [(0, 2, (.t 49)), (2, 1, (.t 50))]) <|
  .o none (.st 3 (.t 4) (.t 51)) .nil)) <| .ret⟩
theorem Q7f : Qe Tryz.prog Tryz.f129 = some Q3x := by kernel_rfl
def Q3y : SFn := ⟨14, [.cell 2 2 true, .t 3], .seq (.rg (.o none (.box 1 3 33 (.t 0)) <|
  .o none (.alloc 2 2 31 (.agg [(.bool false), .nilS])) <|
  .o none (.mv 3 (.c .nilS)) .nil)) <| .seq (.seq (.rg (.o none (.fld 4 2 (.t 1)) <|
  .o none (.ld 5 1 false (.t 4)) <|
  .o none (.call (some 6) false (.c (.fn 158 [] [])) [(.t 5)]) <|
  .o none (.bin 7 .eql false (.t 6) (.c (.int .i64 0))) .nil)) <| .cond (.t 7) (.seq (.rg (.o none (.bld 8 [(.bool false), .nilS] []) <|
  .o none (.call (some 9) false (.c (.fn 119 [] [])) []) <|
  .o none (.st 2 (.t 2) (.t 8)) <|
  .o none (.mv 3 (.t 9)) .nil)) <| .ret) (.skip)) <| .seq (.rg (.o none (.fld 10 0 (.t 1)) <|
  .o none (.ld 11 2 true (.t 10)) <|
  .o none (.fld 12 2 (.t 1)) <|
  .br (.o none (.ld 13 1 false (.t 12)) <|
  .o none (.st 2 (.t 2) (.t 11)) <|
  .o none (.mv 3 (.t 13)) .nil) (.o none (.st 2 (.t 2) (.t 11)) <|
  .o none (.ld 13 1 false (.t 12)) <|
  .o none (.mv 3 (.t 13)) .nil))) <| .ret⟩
theorem Q7g : Qe Tryz.prog Tryz.f107 = some Q3y := by kernel_rfl
def Q3z : SFn := ⟨5, [.cell 2 2 true], .seq (.rg (.o none (.alloc 2 2 31 (.agg [(.bool false), .nilS])) .nil)) <| .seq (.rg (.o none (.mv 3 (.t 0)) <|
  .o none (.bld 4 [(.bool false), .nilS] [(1, 1, (.t 3))]) <|
  .o none (.st 2 (.t 2) (.t 4)) .nil)) <| .ret⟩
theorem Q7h : Qe Tryz.prog Tryz.f109 = some Q3z := by kernel_rfl
def c53 : SFn := ⟨7, [.cell 2 3 true], .seq (.rg (.o none (.alloc 2 3 33 (.agg [(.bool false), .nilS, .nilS])) .nil)) <| .seq (.rg (.o none (.mv 3 (.t 0)) <|
  .o none (.call (some 4) false (.c (.fn 118 [] [])) [(.t 3)]) <|
  .o none (.call (some 5) false (.c (.fn 119 [] [])) []) <|
  .o none (.bld 6 [(.bool false), .nilS, .nilS] [(0, 2, (.t 4)), (2, 1, (.t 5))]) <|
  .o none (.st 3 (.t 2) (.t 6)) .nil)) <| .ret⟩
theorem Q93 : Qe Tryz.prog Tryz.f53 = some c53 := by kernel_rfl
def c59 : SFn := ⟨12, [.t 2], .seq (.rg (.o none (.box 1 3 33 (.t 0)) <|
  .o none (.mv 2 (.c (.int .i64 0))) .nil)) <| .seq (.rg (.o none (.ld 6 3 true (.t 1)) <|
  .o none (.call (some 7) false (.c (.fn 107 [] [])) [(.t 6)]) <|
  .o none (.mv 5 (.t 7)) <|
  .o none (.ext 8 (.t 5) 0) <|
  .o none (.ext 9 (.t 5) 1) <|
  .o none (.alloc 3 2 31 (.agg [(.bool false), .nilS])) <|
  .o none (.st 2 (.t 3) (.t 8)) <|
  .o none (.mv 4 (.t 9)) .nil)) <| .seq (.rg (.o none (.ld 10 2 true (.t 3)) <|
  .o none (.call (some 11) false (.c (.fn 128 [] [])) [(.t 10)]) <|
  .o none (.mv 2 (.t 11)) .nil)) <| .ret⟩
theorem Q94 : Qe Tryz.prog Tryz.f59 = some c59 := by kernel_rfl
def Q30 : SFn := ⟨17, [.cell 2 2 true], .seq (.rg (.o none (.alloc 2 2 31 (.agg [(.bool false), .nilS])) .nil)) <| .seq (.rg (.o none (.alloc 3 2 31 (.agg [(.bool false), .nilS])) .nil)) <| .seq (.seq (.rg (.o none (.mv 6 (.t 0)) <|
  .o none (.len 7 (.t 6)) <|
  .o none (.mv 8 (.c (.int .i64 0))) .nil)) <| .block 0 (.loop (.seq (.rg (.o none (.bin 9 .lss false (.t 8) (.t 7)) .nil)) <| .seq (.cond (.t 9) (.skip) (.exit 0)) <| .seq (.block 1 (.seq (.rg (.o none (.idx 10 2 (.t 6) (.t 8)) <|
  .o none (.ld 11 2 true (.t 10)) <|
  .o none (.alloc 5 2 31 (.agg [(.bool false), .nilS])) <|
  .o none (.st 2 (.t 5) (.t 11)) .nil)) <| .rg (.o none (.ld 12 2 true (.t 3)) <|
  .o none (.ld 13 2 true (.t 5)) <|
  .o none (.call (some 14) false (.c (.fn 172 [] [])) [(.t 12), (.t 13)]) <|
  .o none (.st 2 (.t 3) (.t 14)) .nil))) <| .rg (.o none (.bin 15 .add false (.t 8) (.c (.int .i64 1))) <|
  .o none (.mv 8 (.t 15)) .nil)))) <| .seq (.rg (.o none (.ld 16 2 true (.t 3)) <|
  .o none (.st 2 (.t 2) (.t 16)) .nil)) <| .ret⟩
theorem Q7i : Qe Tryz.prog Tryz.f156 = some Q30 := by kernel_rfl
def c97 : SFn := ⟨45, [.cell 4 3 true], .seq (.rg (.o none (.box 2 3 33 (.t 0)) <|
  .o none (.box 3 3 33 (.t 1)) <|
  .o none (.alloc 4 3 33 (.agg [(.bool false), .nilS, .nilS])) .nil)) <| .seq (.rg (.o none (.ld 10 3 true (.t 2)) <|
  .o none (.call (some 11) false (.c (.fn 107 [] [])) [(.t 10)]) <|
  .o none (.mv 9 (.t 11)) <|
  .o none (.ext 12 (.t 9) 0) <|
  .o none (.ext 13 (.t 9) 1) <|
  .o none (.alloc 5 2 31 (.agg [(.bool false), .nilS])) <|
  .o none (.st 2 (.t 5) (.t 12)) <|
  .o none (.mv 6 (.t 13)) .nil)) <| .seq (.rg (.o none (.ld 15 3 true (.t 3)) <|
  .o none (.call (some 16) false (.c (.fn 107 [] [])) [(.t 15)]) <|
  .o none (.mv 14 (.t 16)) <|
  .o none (.ext 17 (.t 14) 0) <|
  .o none (.ext 18 (.t 14) 1) <|
  .o none (.alloc 7 2 31 (.agg [(.bool false), .nilS])) <|
  .o none (.st 2 (.t 7) (.t 17)) <|
  .o none (.mv 8 (.t 18)) .nil)) <| .seq (.seq (.rg (.o none (.mv 19 (.t 6)) <|
  .o none (.call (some 20) false (.c (.fn 155 [] [])) [(.t 19)]) <|
  .o none (.mv 21 (.t 20)) <|
  .o (some (21, true)) (.mv 22 (.t 8)) <|
  .o (some (21, true)) (.call (some 23) false (.c (.fn 155 [] [])) [(.t 22)]) <|
  .o none (.pick 24 (.t 21) (.t 23) (.c (.bool false))) .nil)) <| .cond (.t 24) (.seq (.rg (.o none (.ld 25 2 true (.t 5)) <|
  .o none (.ld 26 2 true (.t 7)) <|
  .o none (.bs 27 2 31 [(.t 25), (.t 26)]) <|
  .o none (.call (some 28) false (.c (.fn 156 [] [])) [(.t 27)]) <|
  .o none (.mv 29 (.t 6)) <|
  .o none (.call (some 30) false (.c (.fn 129 [] [])) [(.t 28), (.t 29)]) <|
  .o none (.st 3 (.t 4) (.t 30)) .nil)) <| .ret) (.skip)) <| .seq (.rg (.o none (.ld 31 2 true (.t 5)) <|
  .o none (.mv 32 (.t 8)) <|
  .o none (.ld 35 2 true (.t 7)) <|
  .o none (.mv 36 (.t 6)) <|
  .o none (.mv 41 (.t 6)) <|
  .o none (.mv 42 (.t 8)) <|
  .o none (.call (some 33) true (.c (.fn 109 [] [])) [(.t 32)]) <|
  .o none (.call (some 34) true (.c (.fn 108 [] [])) [(.t 31), (.t 33)]) <|
  .o none (.call (some 37) true (.c (.fn 109 [] [])) [(.t 36)]) <|
  .o none (.call (some 38) true (.c (.fn 108 [] [])) [(.t 35), (.t 37)]) <|
  .o none (.bs 39 2 31 [(.t 34), (.t 38)]) <|
  .o none (.call (some 40) true (.c (.fn 156 [] [])) [(.t 39)]) <|
  .o none (.call (some 43) true (.c (.fn 57 [] [])) [(.t 41), (.t 42)]) <|
  .o none (.call (some 44) true (.c (.fn 129 [] [])) [(.t 40), (.t 43)]) <|
  .o none (.st 3 (.t 4) (.t 44)) .nil)) <| .ret⟩
theorem Q95 : Qe Tryz.prog Tryz.f97 = some c97 := by kernel_rfl
def Q31 : SFn := ⟨26, [.cell 4 3 true], .seq (.rg (.o none (.box 2 3 33 (.t 0)) <|
  .o none (.box 3 3 33 (.t 1)) <|
  .o none (.alloc 4 3 33 (.agg [(.bool false), .nilS, .nilS])) .nil)) <| .seq (.rg (.o none (.ld 10 3 true (.t 2)) <|
  .o none (.call (some 11) false (.c (.fn 107 [] [])) [(.t 10)]) <|
  .o none (.mv 9 (.t 11)) <|
  .o none (.ext 12 (.t 9) 0) <|
  .o none (.ext 13 (.t 9) 1) <|
  .o none (.alloc 5 2 31 (.agg [(.bool false), .nilS])) <|
  .o none (.st 2 (.t 5) (.t 12)) <|
  .o none (.mv 6 (.t 13)) .nil)) <| .seq (.rg (.o none (.ld 15 3 true (.t 3)) <|
  .o none (.call (some 16) false (.c (.fn 107 [] [])) [(.t 15)]) <|
  .o none (.mv 14 (.t 16)) <|
  .o none (.ext 17 (.t 14) 0) <|
  .o none (.ext 18 (.t 14) 1) <|
  .o none (.alloc 7 2 31 (.agg [(.bool false), .nilS])) <|
  .o none (.st 2 (.t 7) (.t 17)) <|
  .o none (.mv 8 (.t 18)) .nil)) <| .seq (.rg (.o none (.ld 19 2 true (.t 5)) <|
  .o none (.ld 20 2 true (.t 7)) <|
  .o none (.call (some 21) false (.c (.fn 108 [] [])) [(.t 19), (.t 20)]) <|
  .o none (.mv 22 (.t 6)) <|
  .o none (.mv 23 (.t 8)) <|
  .o none (.call (some 24) false (.c (.fn 57 [] [])) [(.t 22), (.t 23)]) <|
  .o none (.call (some 25) false (.c (.fn 129 [] [])) [(.t 21), (.t 24)]) <|
  .o none (.st 3 (.t 4) (.t 25)) .nil)) <| .ret⟩
theorem Q7j : Qe Tryz.prog Tryz.f142 = some Q31 := by kernel_rfl
def c58 : SFn := ⟨21, [.cell 4 3 true, .t 5], .seq (.rg (.o none (.box 2 2 31 (.t 0)) <|
  .o none (.box 3 2 31 (.t 1)) <|
  .o none (.alloc 4 3 33 (.agg [(.bool false), .nilS, .nilS])) <|
  .o none (.mv 5 (.c (.int .i64 0))) .nil)) <| .seq (.seq (.rg (.o none (.ld 6 2 true (.t 3)) <|
  .o none (.call (some 7) false (.c (.fn 128 [] [])) [(.t 6)]) <|
  .o none (.bin 8 .eql false (.t 7) (.c (.int .i64 0))) .nil)) <| .cond (.t 8) (.seq (.rg (.o none (.bld 9 [(.bool false), .nilS, .nilS] []) <|
  .o none (.st 3 (.t 4) (.t 9)) <|
  .o none (.mv 5 (.c (.int .i64 3))) .nil)) <| .ret) (.skip)) <| .seq (.rg (.o none (.fld 10 0 (.t 2)) <|
  .o none (.ld 11 1 false (.t 10)) <|
  .o none (.fld 12 0 (.t 3)) <|
  .o none (.ld 13 1 false (.t 12)) <|
  .o none (.bin 14 .neq true (.t 11) (.t 13)) <|
  .o none (.fld 15 1 (.t 2)) <|
  .o none (.ld 16 1 false (.t 15)) <|
  .o none (.bld 17 [(.bool false), .nilS] [(0, 1, (.t 14)), (1, 1, (.t 16))]) <|
  .o none (.fld 18 1 (.t 3)) <|
  .o none (.ld 19 1 false (.t 18)) <|
  .o none (.call (some 20) false (.c (.fn 129 [] [])) [(.t 17), (.t 19)]) <|
  .o none (.st 3 (.t 4) (.t 20)) <|
  .o none (.mv 5 (.c (.int .i64 0))) .nil)) <| .ret⟩
theorem Q96 : Qe Tryz.prog Tryz.f58 = some c58 := by kernel_rfl
def c47 : SFn := ⟨31, [.cell 4 3 true, .t 5], .seq (.rg (.o none (.box 2 3 33 (.t 0)) <|
  .o none (.box 3 3 33 (.t 1)) <|
  .o none (.alloc 4 3 33 (.agg [(.bool false), .nilS, .nilS])) <|
  .o none (.mv 5 (.c (.int .i64 0))) .nil)) <| .seq (.rg (.o none (.ld 11 3 true (.t 2)) <|
  .o none (.call (some 12) false (.c (.fn 107 [] [])) [(.t 11)]) <|
  .o none (.mv 10 (.t 12)) <|
  .o none (.ext 13 (.t 10) 0) <|
  .o none (.ext 14 (.t 10) 1) <|
  .o none (.alloc 6 2 31 (.agg [(.bool false), .nilS])) <|
  .o none (.st 2 (.t 6) (.t 13)) <|
  .o none (.mv 7 (.t 14)) .nil)) <| .seq (.rg (.o none (.ld 16 3 true (.t 3)) <|
  .o none (.call (some 17) false (.c (.fn 107 [] [])) [(.t 16)]) <|
  .o none (.mv 15 (.t 17)) <|
  .o none (.ext 18 (.t 15) 0) <|
  .o none (.ext 19 (.t 15) 1) <|
  .o none (.alloc 8 2 31 (.agg [(.bool false), .nilS])) <|
  .o none (.st 2 (.t 8) (.t 18)) <|
  .o none (.mv 9 (.t 19)) .nil)) <| .seq (.rg (.o none (.ld 20 2 true (.t 6)) <|
  .o none (.mv 21 (.t 9)) <|
  .o none (.ld 24 2 true (.t 8)) <|
  .o none (.mv 25 (.t 7)) <|
  .o none (.call (some 22) true (.c (.fn 109 [] [])) [(.t 21)]) <|
  .o none (.call (some 23) true (.c (.fn 108 [] [])) [(.t 20), (.t 22)]) <|
  .o none (.call (some 26) true (.c (.fn 109 [] [])) [(.t 25)]) <|
  .o none (.call (some 27) true (.c (.fn 108 [] [])) [(.t 24), (.t 26)]) <|
  .o none (.call (some 28) true (.c (.fn 58 [] [])) [(.t 23), (.t 27)]) <|
  .o none (.ext 29 (.t 28) 0) <|
  .o none (.ext 30 (.t 28) 1) <|
  .o none (.st 3 (.t 4) (.t 29)) <|
  .o none (.mv 5 (.t 30)) .nil)) <| .ret⟩
theorem Q97 : Qe Tryz.prog Tryz.f47 = some c47 := by kernel_rfl
end Go.Proofs.YtjkbalanglgoiaaGreat
namespace Go.Proofs.YtjkbalanglgoiaaGreat
open Go Go.FW
set_option maxRecDepth 100000
def Q32 : SFn := ⟨108, [.t 4], .seq (.rg (.o none (.box 2 1 29 (.t 0)) <|
  .o none (.box 3 1 29 (.t 1)) <|
  .o none (.mv 4 (.c .nilS)) .nil)) <| .seq (.rg (.o none (.ld 12 1 false (.t 3)) <|
  .o none (.len 13 (.t 12)) <|
  .o none (.alloc 5 1 3 (.int .i64 0)) <|
  .o none (.st 1 (.t 5) (.t 13)) .nil)) <| .seq (.rg (.o none (.ld 14 1 false (.t 2)) <|
  .o none (.len 15 (.t 14)) <|
  .o none (.ld 16 1 false (.t 5)) <|
  .o none (.bin 17 .sub false (.t 15) (.t 16)) <|
  .o none (.mk 18 1 2 111 (.int .u16 0) (.t 17) (.t 17)) <|
  .o none (.mv 6 (.t 18)) .nil)) <| .seq (.seq (.rg (.o none (.ld 19 1 false (.t 2)) <|
  .o none (.len 20 (.t 19)) <|
  .o none (.ld 21 1 false (.t 5)) <|
  .o none (.bin 22 .sub false (.t 20) (.t 21)) <|
  .o none (.bin 23 .sub false (.t 22) (.c (.int .i64 1))) <|
  .o none (.alloc 7 1 3 (.int .i64 0)) <|
  .o none (.st 1 (.t 7) (.t 23)) .nil)) <| .block 0 (.loop (.seq (.seq (.rg (.o none (.ld 24 1 false (.t 7)) <|
  .o none (.bin 25 .geq false (.t 24) (.c (.int .i64 0))) .nil)) <| .cond (.t 25) (.skip) (.exit 0)) <| .seq (.block 1 (.seq (.rg (.o none (.ld 28 1 false (.t 2)) <|
  .o none (.ld 29 1 false (.t 7)) <|
  .o none (.ld 30 1 false (.t 5)) <|
  .o none (.bin 31 .add false (.t 29) (.t 30)) <|
  .o none (.idx 32 1 (.t 28) (.t 31)) <|
  .o none (.ld 33 1 false (.t 32)) <|
  .o none (.conv 34 .u64 (.t 33)) <|
  .o none (.bin 35 .shl false (.t 34) (.c (.int .u64 16))) <|
  .o none (.ld 36 1 false (.t 2)) <|
  .o none (.ld 37 1 false (.t 7)) <|
  .o none (.ld 38 1 false (.t 5)) <|
  .o none (.bin 39 .add false (.t 37) (.t 38)) <|
  .o none (.bin 40 .sub false (.t 39) (.c (.int .i64 1))) <|
  .o none (.idx 41 1 (.t 36) (.t 40)) <|
  .o none (.ld 42 1 false (.t 41)) <|
  .o none (.conv 43 .u64 (.t 42)) <|
  .o none (.bin 44 .or false (.t 35) (.t 43)) <|
  .o none (.mv 8 (.t 44)) .nil)) <| .seq (.rg (.o none (.mv 45 (.t 8)) <|
  .o none (.ld 46 1 false (.t 3)) <|
  .o none (.ld 47 1 false (.t 5)) <|
  .o none (.bin 48 .sub false (.t 47) (.c (.int .i64 1))) <|
  .o none (.idx 49 1 (.t 46) (.t 48)) <|
  .o none (.ld 50 1 false (.t 49)) <|
  .o none (.conv 51 .u64 (.t 50)) <|
  .o none (.bin 52 .quo false (.t 45) (.t 51)) <|
  .o none (.mv 53 (.t 8)) <|
  .br (.o none (.ld 54 1 false (.t 3)) <|
  .br (.o none (.ld 55 1 false (.t 5)) <|
  .o none (.bin 56 .sub false (.t 55) (.c (.int .i64 1))) <|
  .o none (.idx 57 1 (.t 54) (.t 56)) <|
  .br (.o none (.ld 58 1 false (.t 57)) <|
  .o none (.conv 59 .u64 (.t 58)) <|
  .o none (.bin 60 .rem false (.t 53) (.t 59)) <|
  .br (.o none (.alloc 9 1 72 (.int .u64 0)) <|
  .o none (.alloc 10 1 72 (.int .u64 0)) <|
  .o none (.st 1 (.t 9) (.t 52)) <|
  .o none (.st 1 (.t 10) (.t 60)) .nil) (.o none (.alloc 10 1 72 (.int .u64 0)) <|
  .o none (.alloc 9 1 72 (.int .u64 0)) <|
  .o none (.st 1 (.t 9) (.t 52)) <|
  .o none (.st 1 (.t 10) (.t 60)) .nil)) (.br (.o none (.alloc 9 1 72 (.int .u64 0)) <|
  .br (.o none (.ld 58 1 false (.t 57)) <|
  .o none (.conv 59 .u64 (.t 58)) <|
  .o none (.bin 60 .rem false (.t 53) (.t 59)) <|
  .o none (.alloc 10 1 72 (.int .u64 0)) <|
  .o none (.st 1 (.t 9) (.t 52)) <|
  .o none (.st 1 (.t 10) (.t 60)) .nil) (.o none (.alloc 10 1 72 (.int .u64 0)) <|
  .br (.o none (.ld 58 1 false (.t 57)) <|
  .o none (.conv 59 .u64 (.t 58)) <|
  .o none (.bin 60 .rem false (.t 53) (.t 59)) <|
  .o none (.st 1 (.t 9) (.t 52)) <|
  .o none (.st 1 (.t 10) (.t 60)) .nil) (.o none (.st 1 (.t 9) (.t 52)) <|
  .o none (.ld 58 1 false (.t 57)) <|
  .o none (.conv 59 .u64 (.t 58)) <|
  .o none (.bin 60 .rem false (.t 53) (.t 59)) <|
  .o none (.st 1 (.t 10) (.t 60)) .nil))) (.o none (.alloc 10 1 72 (.int .u64 0)) <|
  .br (.o none (.ld 58 1 false (.t 57)) <|
  .o none (.conv 59 .u64 (.t 58)) <|
  .o none (.bin 60 .rem false (.t 53) (.t 59)) <|
  .o none (.alloc 9 1 72 (.int .u64 0)) <|
  .o none (.st 1 (.t 9) (.t 52)) <|
  .o none (.st 1 (.t 10) (.t 60)) .nil) (.o none (.alloc 9 1 72 (.int .u64 0)) <|
  .br (.o none (.ld 58 1 false (.t 57)) <|
  .o none (.conv 59 .u64 (.t 58)) <|
  .o none (.bin 60 .rem false (.t 53) (.t 59)) <|
  .o none (.st 1 (.t 9) (.t 52)) <|
  .o none (.st 1 (.t 10) (.t 60)) .nil) (.o none (.st 1 (.t 9) (.t 52)) <|
  .o none (.ld 58 1 false (.t 57)) <|
  .o none (.conv 59 .u64 (.t 58)) <|
  .o none (.bin 60 .rem false (.t 53) (.t 59)) <|
  .o none (.st 1 (.t 10) (.t 60)) .nil))))) (.br (.o none (.alloc 9 1 72 (.int .u64 0)) <|
  .br (.o none (.ld 55 1 false (.t 5)) <|
  .o none (.bin 56 .sub false (.t 55) (.c (.int .i64 1))) <|
  .o none (.idx 57 1 (.t 54) (.t 56)) <|
  .br (.o none (.ld 58 1 false (.t 57)) <|
  .o none (.conv 59 .u64 (.t 58)) <|
  .o none (.bin 60 .rem false (.t 53) (.t 59)) <|
  .o none (.alloc 10 1 72 (.int .u64 0)) <|
  .o none (.st 1 (.t 9) (.t 52)) <|
  .o none (.st 1 (.t 10) (.t 60)) .nil) (.o none (.alloc 10 1 72 (.int .u64 0)) <|
  .br (.o none (.ld 58 1 false (.t 57)) <|
  .o none (.conv 59 .u64 (.t 58)) <|
  .o none (.bin 60 .rem false (.t 53) (.t 59)) <|
  .o none (.st 1 (.t 9) (.t 52)) <|
  .o none (.st 1 (.t 10) (.t 60)) .nil) (.o none (.st 1 (.t 9) (.t 52)) <|
  .o none (.ld 58 1 false (.t 57)) <|
  .o none (.conv 59 .u64 (.t 58)) <|
  .o none (.bin 60 .rem false (.t 53) (.t 59)) <|
  .o none (.st 1 (.t 10) (.t 60)) .nil))) (.o none (.alloc 10 1 72 (.int .u64 0)) <|
  .br (.o none (.ld 55 1 false (.t 5)) <|
  .o none (.bin 56 .sub false (.t 55) (.c (.int .i64 1))) <|
  .o none (.idx 57 1 (.t 54) (.t 56)) <|
  .br (.o none (.ld 58 1 false (.t 57)) <|
  .o none (.conv 59 .u64 (.t 58)) <|
  .o none (.bin 60 .rem false (.t 53) (.t 59)) <|
  .o none (.st 1 (.t 9) (.t 52)) <|
  .o none (.st 1 (.t 10) (.t 60)) .nil) (.o none (.st 1 (.t 9) (.t 52)) <|
  .o none (.ld 58 1 false (.t 57)) <|
  .o none (.conv 59 .u64 (.t 58)) <|
  .o none (.bin 60 .rem false (.t 53) (.t 59)) <|
  .o none (.st 1 (.t 10) (.t 60)) .nil)) (.o none (.st 1 (.t 9) (.t 52)) <|
  .o none (.ld 55 1 false (.t 5)) <|
  .o none (.bin 56 .sub false (.t 55) (.c (.int .i64 1))) <|
  .o none (.idx 57 1 (.t 54) (.t 56)) <|
  .o none (.ld 58 1 false (.t 57)) <|
  .o none (.conv 59 .u64 (.t 58)) <|
  .o none (.bin 60 .rem false (.t 53) (.t 59)) <|
  .o none (.st 1 (.t 10) (.t 60)) .nil))) (.o none (.alloc 10 1 72 (.int .u64 0)) <|
  .br (.o none (.ld 55 1 false (.t 5)) <|
  .o none (.bin 56 .sub false (.t 55) (.c (.int .i64 1))) <|
  .o none (.idx 57 1 (.t 54) (.t 56)) <|
  .br (.o none (.ld 58 1 false (.t 57)) <|
  .o none (.conv 59 .u64 (.t 58)) <|
  .o none (.bin 60 .rem false (.t 53) (.t 59)) <|
  .o none (.alloc 9 1 72 (.int .u64 0)) <|
  .o none (.st 1 (.t 9) (.t 52)) <|
  .o none (.st 1 (.t 10) (.t 60)) .nil) (.o none (.alloc 9 1 72 (.int .u64 0)) <|
  .br (.o none (.ld 58 1 false (.t 57)) <|
  .o none (.conv 59 .u64 (.t 58)) <|
  .o none (.bin 60 .rem false (.t 53) (.t 59)) <|
  .o none (.st 1 (.t 9) (.t 52)) <|
  .o none (.st 1 (.t 10) (.t 60)) .nil) (.o none (.st 1 (.t 9) (.t 52)) <|
  .o none (.ld 58 1 false (.t 57)) <|
  .o none (.conv 59 .u64 (.t 58)) <|
  .o none (.bin 60 .rem false (.t 53) (.t 59)) <|
  .o none (.st 1 (.t 10) (.t 60)) .nil))) (.o none (.alloc 9 1 72 (.int .u64 0)) <|
  .br (.o none (.ld 55 1 false (.t 5)) <|
  .o none (.bin 56 .sub false (.t 55) (.c (.int .i64 1))) <|
  .o none (.idx 57 1 (.t 54) (.t 56)) <|
  .br (.o none (.ld 58 1 false (.t 57)) <|
  .o none (.conv 59 .u64 (.t 58)) <|
  .o none (.bin 60 .rem false (.t 53) (.t 59)) <|
  .o none (.st 1 (.t 9) (.t 52)) <|
  .o none (.st 1 (.t 10) (.t 60)) .nil) (.o none (.st 1 (.t 9) (.t 52)) <|
  .o none (.ld 58 1 false (.t 57)) <|
  .o none (.conv 59 .u64 (.t 58)) <|
  .o none (.bin 60 .rem false (.t 53) (.t 59)) <|
  .o none (.st 1 (.t 10) (.t 60)) .nil)) (.o none (.st 1 (.t 9) (.t 52)) <|
  .o none (.ld 55 1 false (.t 5)) <|
  .o none (.bin 56 .sub false (.t 55) (.c (.int .i64 1))) <|
  .o none (.idx 57 1 (.t 54) (.t 56)) <|
  .o none (.ld 58 1 false (.t 57)) <|
  .o none (.conv 59 .u64 (.t 58)) <|
  .o none (.bin 60 .rem false (.t 53) (.t 59)) <|
  .o none (.st 1 (.t 10) (.t 60)) .nil))))) (.br (.o none (.ld 55 1 false (.t 5)) <|
  .o none (.bin 56 .sub false (.t 55) (.c (.int .i64 1))) <|
  .br (.o none (.ld 54 1 false (.t 3)) <|
  .o none (.idx 57 1 (.t 54) (.t 56)) <|
  .br (.o none (.ld 58 1 false (.t 57)) <|
  .o none (.conv 59 .u64 (.t 58)) <|
  .o none (.bin 60 .rem false (.t 53) (.t 59)) <|
  .br (.o none (.alloc 9 1 72 (.int .u64 0)) <|
  .o none (.alloc 10 1 72 (.int .u64 0)) <|
  .o none (.st 1 (.t 9) (.t 52)) <|
  .o none (.st 1 (.t 10) (.t 60)) .nil) (.o none (.alloc 10 1 72 (.int .u64 0)) <|
  .o none (.alloc 9 1 72 (.int .u64 0)) <|
  .o none (.st 1 (.t 9) (.t 52)) <|
  .o none (.st 1 (.t 10) (.t 60)) .nil)) (.br (.o none (.alloc 9 1 72 (.int .u64 0)) <|
  .br (.o none (.ld 58 1 false (.t 57)) <|
  .o none (.conv 59 .u64 (.t 58)) <|
  .o none (.bin 60 .rem false (.t 53) (.t 59)) <|
  .o none (.alloc 10 1 72 (.int .u64 0)) <|
  .o none (.st 1 (.t 9) (.t 52)) <|
  .o none (.st 1 (.t 10) (.t 60)) .nil) (.o none (.alloc 10 1 72 (.int .u64 0)) <|
  .br (.o none (.ld 58 1 false (.t 57)) <|
  .o none (.conv 59 .u64 (.t 58)) <|
  .o none (.bin 60 .rem false (.t 53) (.t 59)) <|
  .o none (.st 1 (.t 9) (.t 52)) <|
  .o none (.st 1 (.t 10) (.t 60)) .nil) (.o none (.st 1 (.t 9) (.t 52)) <|
  .o none (.ld 58 1 false (.t 57)) <|
  .o none (.conv 59 .u64 (.t 58)) <|
  .o none (.bin 60 .rem false (.t 53) (.t 59)) <|
  .o none (.st 1 (.t 10) (.t 60)) .nil))) (.o none (.alloc 10 1 72 (.int .u64 0)) <|
  .br (.o none (.ld 58 1 false (.t 57)) <|
  .o none (.conv 59 .u64 (.t 58)) <|
  .o none (.bin 60 .rem false (.t 53) (.t 59)) <|
  .o none (.alloc 9 1 72 (.int .u64 0)) <|
  .o none (.st 1 (.t 9) (.t 52)) <|
  .o none (.st 1 (.t 10) (.t 60)) .nil) (.o none (.alloc 9 1 72 (.int .u64 0)) <|
  .br (.o none (.ld 58 1 false (.t 57)) <|
  .o none (.conv 59 .u64 (.t 58)) <|
  .o none (.bin 60 .rem false (.t 53) (.t 59)) <|
  .o none (.st 1 (.t 9) (.t 52)) <|
  .o none (.st 1 (.t 10) (.t 60)) .nil) (.o none (.st 1 (.t 9) (.t 52)) <|
  .o none (.ld 58 1 false (.t 57)) <|
  .o none (.conv 59 .u64 (.t 58)) <|
  .o none (.bin 60 .rem false (.t 53) (.t 59)) <|
  .o none (.st 1 (.t 10) (.t 60)) .nil))))) (.br (.o none (.alloc 9 1 72 (.int .u64 0)) <|
  .br (.o none (.ld 54 1 false (.t 3)) <|
  .o none (.idx 57 1 (.t 54) (.t 56)) <|
  .br (.o none (.ld 58 1 false (.t 57)) <|
  .o none (.conv 59 .u64 (.t 58)) <|
  .o none (.bin 60 .rem false (.t 53) (.t 59)) <|
  .o none (.alloc 10 1 72 (.int .u64 0)) <|
  .o none (.st 1 (.t 9) (.t 52)) <|
  .o none (.st 1 (.t 10) (.t 60)) .nil) (.o none (.alloc 10 1 72 (.int .u64 0)) <|
  .br (.o none (.ld 58 1 false (.t 57)) <|
  .o none (.conv 59 .u64 (.t 58)) <|
  .o none (.bin 60 .rem false (.t 53) (.t 59)) <|
  .o none (.st 1 (.t 9) (.t 52)) <|
  .o none (.st 1 (.t 10) (.t 60)) .nil) (.o none (.st 1 (.t 9) (.t 52)) <|
  .o none (.ld 58 1 false (.t 57)) <|
  .o none (.conv 59 .u64 (.t 58)) <|
  .o none (.bin 60 .rem false (.t 53) (.t 59)) <|
  .o none (.st 1 (.t 10) (.t 60)) .nil))) (.o none (.alloc 10 1 72 (.int .u64 0)) <|
  .br (.o none (.ld 54 1 false (.t 3)) <|
  .o none (.idx 57 1 (.t 54) (.t 56)) <|
  .br (.o none (.ld 58 1 false (.t 57)) <|
  .o none (.conv 59 .u64 (.t 58)) <|
  .o none (.bin 60 .rem false (.t 53) (.t 59)) <|
  .o none (.st 1 (.t 9) (.t 52)) <|
  .o none (.st 1 (.t 10) (.t 60)) .nil) (.o none (.st 1 (.t 9) (.t 52)) <|
  .o none (.ld 58 1 false (.t 57)) <|
  .o none (.conv 59 .u64 (.t 58)) <|
  .o none (.bin 60 .rem false (.t 53) (.t 59)) <|
  .o none (.st 1 (.t 10) (.t 60)) .nil)) (.o none (.st 1 (.t 9) (.t 52)) <|
  .o none (.ld 54 1 false (.t 3)) <|
  .o none (.idx 57 1 (.t 54) (.t 56)) <|
  .o none (.ld 58 1 false (.t 57)) <|
  .o none (.conv 59 .u64 (.t 58)) <|
  .o none (.bin 60 .rem false (.t 53) (.t 59)) <|
  .o none (.st 1 (.t 10) (.t 60)) .nil))) (.o none (.alloc 10 1 72 (.int .u64 0)) <|
  .br (.o none (.ld 54 1 false (.t 3)) <|
  .o none (.idx 57 1 (.t 54) (.t 56)) <|
  .br (.o none (.ld 58 1 false (.t 57)) <|
  .o none (.conv 59 .u64 (.t 58)) <|
  .o none (.bin 60 .rem false (.t 53) (.t 59)) <|
  .o none (.alloc 9 1 72 (.int .u64 0)) <|
  .o none (.st 1 (.t 9) (.t 52)) <|
  .o none (.st 1 (.t 10) (.t 60)) .nil) (.o none (.alloc 9 1 72 (.int .u64 0)) <|
  .br (.o none (.ld 58 1 false (.t 57)) <|
  .o none (.conv 59 .u64 (.t 58)) <|
  .o none (.bin 60 .rem false (.t 53) (.t 59)) <|
  .o none (.st 1 (.t 9) (.t 52)) <|
  .o none (.st 1 (.t 10) (.t 60)) .nil) (.o none (.st 1 (.t 9) (.t 52)) <|
  .o none (.ld 58 1 false (.t 57)) <|
  .o none (.conv 59 .u64 (.t 58)) <|
  .o none (.bin 60 .rem false (.t 53) (.t 59)) <|
  .o none (.st 1 (.t 10) (.t 60)) .nil))) (.o none (.alloc 9 1 72 (.int .u64 0)) <|
  .br (.o none (.ld 54 1 false (.t 3)) <|
  .o none (.idx 57 1 (.t 54) (.t 56)) <|
  .br (.o none (.ld 58 1 false (.t 57)) <|
  .o none (.conv 59 .u64 (.t 58)) <|
  .o none (.bin 60 .rem false (.t 53) (.t 59)) <|
  .o none (.st 1 (.t 9) (.t 52)) <|
  .o none (.st 1 (.t 10) (.t 60)) .nil) (.o none (.st 1 (.t 9) (.t 52)) <|
  .o none (.ld 58 1 false (.t 57)) <|
  .o none (.conv 59 .u64 (.t 58)) <|
  .o none (.bin 60 .rem false (.t 53) (.t 59)) <|
  .o none (.st 1 (.t 10) (.t 60)) .nil)) (.o none (.st 1 (.t 9) (.t 52)) <|
  .o none (.ld 54 1 false (.t 3)) <|
  .o none (.idx 57 1 (.t 54) (.t 56)) <|
  .o none (.ld 58 1 false (.t 57)) <|
  .o none (.conv 59 .u64 (.t 58)) <|
  .o none (.bin 60 .rem false (.t 53) (.t 59)) <|
  .o none (.st 1 (.t 10) (.t 60)) .nil))))) (.br (.o none (.alloc 9 1 72 (.int .u64 0)) <|
  .br (.o none (.ld 54 1 false (.t 3)) <|
  .br (.o none (.ld 55 1 false (.t 5)) <|
  .o none (.bin 56 .sub false (.t 55) (.c (.int .i64 1))) <|
  .o none (.idx 57 1 (.t 54) (.t 56)) <|
  .br (.o none (.ld 58 1 false (.t 57)) <|
  .o none (.conv 59 .u64 (.t 58)) <|
  .o none (.bin 60 .rem false (.t 53) (.t 59)) <|
  .o none (.alloc 10 1 72 (.int .u64 0)) <|
  .o none (.st 1 (.t 9) (.t 52)) <|
  .o none (.st 1 (.t 10) (.t 60)) .nil) (.o none (.alloc 10 1 72 (.int .u64 0)) <|
  .br (.o none (.ld 58 1 false (.t 57)) <|
  .o none (.conv 59 .u64 (.t 58)) <|
  .o none (.bin 60 .rem false (.t 53) (.t 59)) <|
  .o none (.st 1 (.t 9) (.t 52)) <|
  .o none (.st 1 (.t 10) (.t 60)) .nil) (.o none (.st 1 (.t 9) (.t 52)) <|
  .o none (.ld 58 1 false (.t 57)) <|
  .o none (.conv 59 .u64 (.t 58)) <|
  .o none (.bin 60 .rem false (.t 53) (.t 59)) <|
  .o none (.st 1 (.t 10) (.t 60)) .nil))) (.o none (.alloc 10 1 72 (.int .u64 0)) <|
  .br (.o none (.ld 55 1 false (.t 5)) <|
  .o none (.bin 56 .sub false (.t 55) (.c (.int .i64 1))) <|
  .o none (.idx 57 1 (.t 54) (.t 56)) <|
  .br (.o none (.ld 58 1 false (.t 57)) <|
  .o none (.conv 59 .u64 (.t 58)) <|
  .o none (.bin 60 .rem false (.t 53) (.t 59)) <|
  .o none (.st 1 (.t 9) (.t 52)) <|
  .o none (.st 1 (.t 10) (.t 60)) .nil) (.o none (.st 1 (.t 9) (.t 52)) <|
  .o none (.ld 58 1 false (.t 57)) <|
  .o none (.conv 59 .u64 (.t 58)) <|
  .o none (.bin 60 .rem false (.t 53) (.t 59)) <|
  .o none (.st 1 (.t 10) (.t 60)) .nil)) (.o none (.st 1 (.t 9) (.t 52)) <|
  .o none (.ld 55 1 false (.t 5)) <|
  .o none (.bin 56 .sub false (.t 55) (.c (.int .i64 1))) <|
  .o none (.idx 57 1 (.t 54) (.t 56)) <|
  .o none (.ld 58 1 false (.t 57)) <|
  .o none (.conv 59 .u64 (.t 58)) <|
  .o none (.bin 60 .rem false (.t 53) (.t 59)) <|
  .o none (.st 1 (.t 10) (.t 60)) .nil))) (.br (.o none (.ld 55 1 false (.t 5)) <|
  .o none (.bin 56 .sub false (.t 55) (.c (.int .i64 1))) <|
  .br (.o none (.ld 54 1 false (.t 3)) <|
  .o none (.idx 57 1 (.t 54) (.t 56)) <|
  .br (.o none (.ld 58 1 false (.t 57)) <|
  .o none (.conv 59 .u64 (.t 58)) <|
  .o none (.bin 60 .rem false (.t 53) (.t 59)) <|
  .o none (.alloc 10 1 72 (.int .u64 0)) <|
  .o none (.st 1 (.t 9) (.t 52)) <|
  .o none (.st 1 (.t 10) (.t 60)) .nil) (.o none (.alloc 10 1 72 (.int .u64 0)) <|
  .br (.o none (.ld 58 1 false (.t 57)) <|
  .o none (.conv 59 .u64 (.t 58)) <|
  .o none (.bin 60 .rem false (.t 53) (.t 59)) <|
  .o none (.st 1 (.t 9) (.t 52)) <|
  .o none (.st 1 (.t 10) (.t 60)) .nil) (.o none (.st 1 (.t 9) (.t 52)) <|
  .o none (.ld 58 1 false (.t 57)) <|
  .o none (.conv 59 .u64 (.t 58)) <|
  .o none (.bin 60 .rem false (.t 53) (.t 59)) <|
  .o none (.st 1 (.t 10) (.t 60)) .nil))) (.o none (.alloc 10 1 72 (.int .u64 0)) <|
  .br (.o none (.ld 54 1 false (.t 3)) <|
  .o none (.idx 57 1 (.t 54) (.t 56)) <|
  .br (.o none (.ld 58 1 false (.t 57)) <|
  .o none (.conv 59 .u64 (.t 58)) <|
  .o none (.bin 60 .rem false (.t 53) (.t 59)) <|
  .o none (.st 1 (.t 9) (.t 52)) <|
  .o none (.st 1 (.t 10) (.t 60)) .nil) (.o none (.st 1 (.t 9) (.t 52)) <|
  .o none (.ld 58 1 false (.t 57)) <|
  .o none (.conv 59 .u64 (.t 58)) <|
  .o none (.bin 60 .rem false (.t 53) (.t 59)) <|
  .o none (.st 1 (.t 10) (.t 60)) .nil)) (.o none (.st 1 (.t 9) (.t 52)) <|
  .o none (.ld 54 1 false (.t 3)) <|
  .o none (.idx 57 1 (.t 54) (.t 56)) <|
  .o none (.ld 58 1 false (.t 57)) <|
  .o none (.conv 59 .u64 (.t 58)) <|
  .o none (.bin 60 .rem false (.t 53) (.t 59)) <|
  .o none (.st 1 (.t 10) (.t 60)) .nil))) (.o none (.alloc 10 1 72 (.int .u64 0)) <|
  .br (.o none (.ld 54 1 false (.t 3)) <|
  .br (.o none (.ld 55 1 false (.t 5)) <|
  .o none (.bin 56 .sub false (.t 55) (.c (.int .i64 1))) <|
  .o none (.idx 57 1 (.t 54) (.t 56)) <|
  .br (.o none (.ld 58 1 false (.t 57)) <|
  .o none (.conv 59 .u64 (.t 58)) <|
  .o none (.bin 60 .rem false (.t 53) (.t 59)) <|
  .o none (.st 1 (.t 9) (.t 52)) <|
  .o none (.st 1 (.t 10) (.t 60)) .nil) (.o none (.st 1 (.t 9) (.t 52)) <|
  .o none (.ld 58 1 false (.t 57)) <|
  .o none (.conv 59 .u64 (.t 58)) <|
  .o none (.bin 60 .rem false (.t 53) (.t 59)) <|
  .o none (.st 1 (.t 10) (.t 60)) .nil)) (.o none (.st 1 (.t 9) (.t 52)) <|
  .o none (.ld 55 1 false (.t 5)) <|
  .o none (.bin 56 .sub false (.t 55) (.c (.int .i64 1))) <|
  .o none (.idx 57 1 (.t 54) (.t 56)) <|
  .o none (.ld 58 1 false (.t 57)) <|
  .o none (.conv 59 .u64 (.t 58)) <|
  .o none (.bin 60 .rem false (.t 53) (.t 59)) <|
  .o none (.st 1 (.t 10) (.t 60)) .nil)) (.br (.o none (.ld 55 1 false (.t 5)) <|
  .o none (.bin 56 .sub false (.t 55) (.c (.int .i64 1))) <|
  .br (.o none (.ld 54 1 false (.t 3)) <|
  .o none (.idx 57 1 (.t 54) (.t 56)) <|
  .br (.o none (.ld 58 1 false (.t 57)) <|
  .o none (.conv 59 .u64 (.t 58)) <|
  .o none (.bin 60 .rem false (.t 53) (.t 59)) <|
  .o none (.st 1 (.t 9) (.t 52)) <|
  .o none (.st 1 (.t 10) (.t 60)) .nil) (.o none (.st 1 (.t 9) (.t 52)) <|
  .o none (.ld 58 1 false (.t 57)) <|
  .o none (.conv 59 .u64 (.t 58)) <|
  .o none (.bin 60 .rem false (.t 53) (.t 59)) <|
  .o none (.st 1 (.t 10) (.t 60)) .nil)) (.o none (.st 1 (.t 9) (.t 52)) <|
  .o none (.ld 54 1 false (.t 3)) <|
  .o none (.idx 57 1 (.t 54) (.t 56)) <|
  .o none (.ld 58 1 false (.t 57)) <|
  .o none (.conv 59 .u64 (.t 58)) <|
  .o none (.bin 60 .rem false (.t 53) (.t 59)) <|
  .o none (.st 1 (.t 10) (.t 60)) .nil)) (.o none (.st 1 (.t 9) (.t 52)) <|
  .br (.o none (.ld 54 1 false (.t 3)) <|
  .o none (.ld 55 1 false (.t 5)) <|
  .o none (.bin 56 .sub false (.t 55) (.c (.int .i64 1))) <|
  .o none (.idx 57 1 (.t 54) (.t 56)) <|
  .o none (.ld 58 1 false (.t 57)) <|
  .o none (.conv 59 .u64 (.t 58)) <|
  .o none (.bin 60 .rem false (.t 53) (.t 59)) <|
  .o none (.st 1 (.t 10) (.t 60)) .nil) (.o none (.ld 55 1 false (.t 5)) <|
  .o none (.bin 56 .sub false (.t 55) (.c (.int .i64 1))) <|
  .o none (.ld 54 1 false (.t 3)) <|
  .o none (.idx 57 1 (.t 54) (.t 56)) <|
  .o none (.ld 58 1 false (.t 57)) <|
  .o none (.conv 59 .u64 (.t 58)) <|
  .o none (.bin 60 .rem false (.t 53) (.t 59)) <|
  .o none (.st 1 (.t 10) (.t 60)) .nil)))))) (.o none (.alloc 10 1 72 (.int .u64 0)) <|
  .br (.o none (.ld 54 1 false (.t 3)) <|
  .br (.o none (.ld 55 1 false (.t 5)) <|
  .o none (.bin 56 .sub false (.t 55) (.c (.int .i64 1))) <|
  .o none (.idx 57 1 (.t 54) (.t 56)) <|
  .br (.o none (.ld 58 1 false (.t 57)) <|
  .o none (.conv 59 .u64 (.t 58)) <|
  .o none (.bin 60 .rem false (.t 53) (.t 59)) <|
  .o none (.alloc 9 1 72 (.int .u64 0)) <|
  .o none (.st 1 (.t 9) (.t 52)) <|
  .o none (.st 1 (.t 10) (.t 60)) .nil) (.o none (.alloc 9 1 72 (.int .u64 0)) <|
  .br (.o none (.ld 58 1 false (.t 57)) <|
  .o none (.conv 59 .u64 (.t 58)) <|
  .o none (.bin 60 .rem false (.t 53) (.t 59)) <|
  .o none (.st 1 (.t 9) (.t 52)) <|
  .o none (.st 1 (.t 10) (.t 60)) .nil) (.o none (.st 1 (.t 9) (.t 52)) <|
  .o none (.ld 58 1 false (.t 57)) <|
  .o none (.conv 59 .u64 (.t 58)) <|
  .o none (.bin 60 .rem false (.t 53) (.t 59)) <|
  .o none (.st 1 (.t 10) (.t 60)) .nil))) (.o none (.alloc 9 1 72 (.int .u64 0)) <|
  .br (.o none (.ld 55 1 false (.t 5)) <|
  .o none (.bin 56 .sub false (.t 55) (.c (.int .i64 1))) <|
  .o none (.idx 57 1 (.t 54) (.t 56)) <|
  .br (.o none (.ld 58 1 false (.t 57)) <|
  .o none (.conv 59 .u64 (.t 58)) <|
  .o none (.bin 60 .rem false (.t 53) (.t 59)) <|
  .o none (.st 1 (.t 9) (.t 52)) <|
  .o none (.st 1 (.t 10) (.t 60)) .nil) (.o none (.st 1 (.t 9) (.t 52)) <|
  .o none (.ld 58 1 false (.t 57)) <|
  .o none (.conv 59 .u64 (.t 58)) <|
  .o none (.bin 60 .rem false (.t 53) (.t 59)) <|
  .o none (.st 1 (.t 10) (.t 60)) .nil)) (.o none (.st 1 (.t 9) (.t 52)) <|
  .o none (.ld 55 1 false (.t 5)) <|
  .o none (.bin 56 .sub false (.t 55) (.c (.int .i64 1))) <|
  .o none (.idx 57 1 (.t 54) (.t 56)) <|
  .o none (.ld 58 1 false (.t 57)) <|
  .o none (.conv 59 .u64 (.t 58)) <|
  .o none (.bin 60 .rem false (.t 53) (.t 59)) <|
  .o none (.st 1 (.t 10) (.t 60)) .nil))) (.br (.o none (.ld 55 1 false (.t 5)) <|
  .o none (.bin 56 .sub false (.t 55) (.c (.int .i64 1))) <|
  .br (.o none (.ld 54 1 false (.t 3)) <|
  .o none (.idx 57 1 (.t 54) (.t 56)) <|
  .br (.o none (.ld 58 1 false (.t 57)) <|
  .o none (.conv 59 .u64 (.t 58)) <|
  .o none (.bin 60 .rem false (.t 53) (.t 59)) <|
  .o none (.alloc 9 1 72 (.int .u64 0)) <|
  .o none (.st 1 (.t 9) (.t 52)) <|
  .o none (.st 1 (.t 10) (.t 60)) .nil) (.o none (.alloc 9 1 72 (.int .u64 0)) <|
  .br (.o none (.ld 58 1 false (.t 57)) <|
  .o none (.conv 59 .u64 (.t 58)) <|
  .o none (.bin 60 .rem false (.t 53) (.t 59)) <|
  .o none (.st 1 (.t 9) (.t 52)) <|
  .o none (.st 1 (.t 10) (.t 60)) .nil) (.o none (.st 1 (.t 9) (.t 52)) <|
  .o none (.ld 58 1 false (.t 57)) <|
  .o none (.conv 59 .u64 (.t 58)) <|
  .o none (.bin 60 .rem false (.t 53) (.t 59)) <|
  .o none (.st 1 (.t 10) (.t 60)) .nil))) (.o none (.alloc 9 1 72 (.int .u64 0)) <|
  .br (.o none (.ld 54 1 false (.t 3)) <|
  .o none (.idx 57 1 (.t 54) (.t 56)) <|
  .br (.o none (.ld 58 1 false (.t 57)) <|
  .o none (.conv 59 .u64 (.t 58)) <|
  .o none (.bin 60 .rem false (.t 53) (.t 59)) <|
  .o none (.st 1 (.t 9) (.t 52)) <|
  .o none (.st 1 (.t 10) (.t 60)) .nil) (.o none (.st 1 (.t 9) (.t 52)) <|
  .o none (.ld 58 1 false (.t 57)) <|
  .o none (.conv 59 .u64 (.t 58)) <|
  .o none (.bin 60 .rem false (.t 53) (.t 59)) <|
  .o none (.st 1 (.t 10) (.t 60)) .nil)) (.o none (.st 1 (.t 9) (.t 52)) <|
  .o none (.ld 54 1 false (.t 3)) <|
  .o none (.idx 57 1 (.t 54) (.t 56)) <|
  .o none (.ld 58 1 false (.t 57)) <|
  .o none (.conv 59 .u64 (.t 58)) <|
  .o none (.bin 60 .rem false (.t 53) (.t 59)) <|
  .o none (.st 1 (.t 10) (.t 60)) .nil))) (.o none (.alloc 9 1 72 (.int .u64 0)) <|
  .br (.o none (.ld 54 1 false (.t 3)) <|
  .br (.o none (.ld 55 1 false (.t 5)) <|
  .o none (.bin 56 .sub false (.t 55) (.c (.int .i64 1))) <|
  .o none (.idx 57 1 (.t 54) (.t 56)) <|
  .br (.o none (.ld 58 1 false (.t 57)) <|
  .o none (.conv 59 .u64 (.t 58)) <|
  .o none (.bin 60 .rem false (.t 53) (.t 59)) <|
  .o none (.st 1 (.t 9) (.t 52)) <|
  .o none (.st 1 (.t 10) (.t 60)) .nil) (.o none (.st 1 (.t 9) (.t 52)) <|
  .o none (.ld 58 1 false (.t 57)) <|
  .o none (.conv 59 .u64 (.t 58)) <|
  .o none (.bin 60 .rem false (.t 53) (.t 59)) <|
  .o none (.st 1 (.t 10) (.t 60)) .nil)) (.o none (.st 1 (.t 9) (.t 52)) <|
  .o none (.ld 55 1 false (.t 5)) <|
  .o none (.bin 56 .sub false (.t 55) (.c (.int .i64 1))) <|
  .o none (.idx 57 1 (.t 54) (.t 56)) <|
  .o none (.ld 58 1 false (.t 57)) <|
  .o none (.conv 59 .u64 (.t 58)) <|
  .o none (.bin 60 .rem false (.t 53) (.t 59)) <|
  .o none (.st 1 (.t 10) (.t 60)) .nil)) (.br (.o none (.ld 55 1 false (.t 5)) <|
  .o none (.bin 56 .sub false (.t 55) (.c (.int .i64 1))) <|
  .br (.o none (.ld 54 1 false (.t 3)) <|
  .o none (.idx 57 1 (.t 54) (.t 56)) <|
  .br (.o none (.ld 58 1 false (.t 57)) <|
  .o none (.conv 59 .u64 (.t 58)) <|
  .o none (.bin 60 .rem false (.t 53) (.t 59)) <|
  .o none (.st 1 (.t 9) (.t 52)) <|
  .o none (.st 1 (.t 10) (.t 60)) .nil) (.o none (.st 1 (.t 9) (.t 52)) <|
  .o none (.ld 58 1 false (.t 57)) <|
  .o none (.conv 59 .u64 (.t 58)) <|
  .o none (.bin 60 .rem false (.t 53) (.t 59)) <|
  .o none (.st 1 (.t 10) (.t 60)) .nil)) (.o none (.st 1 (.t 9) (.t 52)) <|
  .o none (.ld 54 1 false (.t 3)) <|
  .o none (.idx 57 1 (.t 54) (.t 56)) <|
  .o none (.ld 58 1 false (.t 57)) <|
  .o none (.conv 59 .u64 (.t 58)) <|
  .o none (.bin 60 .rem false (.t 53) (.t 59)) <|
  .o none (.st 1 (.t 10) (.t 60)) .nil)) (.o none (.st 1 (.t 9) (.t 52)) <|
  .br (.o none (.ld 54 1 false (.t 3)) <|
  .o none (.ld 55 1 false (.t 5)) <|
  .o none (.bin 56 .sub false (.t 55) (.c (.int .i64 1))) <|
  .o none (.idx 57 1 (.t 54) (.t 56)) <|
  .o none (.ld 58 1 false (.t 57)) <|
  .o none (.conv 59 .u64 (.t 58)) <|
  .o none (.bin 60 .rem false (.t 53) (.t 59)) <|
  .o none (.st 1 (.t 10) (.t 60)) .nil) (.o none (.ld 55 1 false (.t 5)) <|
  .o none (.bin 56 .sub false (.t 55) (.c (.int .i64 1))) <|
  .o none (.ld 54 1 false (.t 3)) <|
  .o none (.idx 57 1 (.t 54) (.t 56)) <|
  .o none (.ld 58 1 false (.t 57)) <|
  .o none (.conv 59 .u64 (.t 58)) <|
  .o none (.bin 60 .rem false (.t 53) (.t 59)) <|
  .o none (.st 1 (.t 10) (.t 60)) .nil)))))))))) <| .seq (.rg (.o none (.fn 61 163 [] [(.t 9), (.t 3), (.t 5), (.t 10), (.t 2), (.t 7)]) <|
  .o none (.mv 11 (.t 61)) .nil)) <| .seq (.block 2 (.loop (.seq (.seq (.rg (.o none (.ld 62 1 false (.t 10)) <|
  .o none (.bin 63 .lss false (.t 62) (.c (.int .u64 65536))) <|
  .o none (.mv 64 (.t 63)) <|
  .o (some (64, true)) (.mv 65 (.t 11)) <|
  .o (some (64, true)) (.call (some 66) false (.t 65) []) <|
  .o none (.pick 67 (.t 64) (.t 66) (.c (.bool false))) .nil)) <| .cond (.t 67) (.skip) (.exit 2)) <| .block 3 (.seq (.rg (.o none (.ld 68 1 false (.t 9)) <|
  .o none (.bin 69 .sub false (.t 68) (.c (.int .u64 1))) <|
  .o none (.st 1 (.t 9) (.t 69)) .nil)) <| .rg (.o none (.ld 70 1 false (.t 10)) <|
  .o none (.ld 71 1 false (.t 3)) <|
  .o none (.ld 72 1 false (.t 5)) <|
  .o none (.bin 73 .sub false (.t 72) (.c (.int .i64 1))) <|
  .o none (.idx 74 1 (.t 71) (.t 73)) <|
  .o none (.ld 75 1 false (.t 74)) <|
  .o none (.conv 76 .u64 (.t 75)) <|
  .o none (.bin 77 .add false (.t 70) (.t 76)) <|
  .o none (.st 1 (.t 10) (.t 77)) .nil))))) <| .seq (.seq (.rg (.o none (.ld 78 1 false (.t 2)) <|
  .o none (.ld 79 1 false (.t 7)) <|
  .o none (.ld 80 1 false (.t 7)) <|
  .o none (.ld 81 1 false (.t 5)) <|
  .o none (.bin 82 .add false (.t 80) (.t 81)) <|
  .o none (.bin 83 .add false (.t 82) (.c (.int .i64 1))) <|
  .o none (.sl 84 1 (.t 78) (some (.t 79)) (some (.t 83)) none) <|
  .o none (.ld 85 1 false (.t 3)) <|
  .o none (.ld 86 1 false (.t 9)) <|
  .o none (.conv 87 .u32 (.t 86)) <|
  .o none (.call (some 88) false (.c (.fn 164 [] [])) [(.t 84), (.t 85), (.t 87)]) .nil)) <| .cond (.t 88) (.seq (.rg (.o none (.ld 89 1 false (.t 9)) <|
  .o none (.bin 90 .sub false (.t 89) (.c (.int .u64 1))) <|
  .o none (.st 1 (.t 9) (.t 90)) .nil)) <| .rg (.o none (.ld 91 1 false (.t 2)) <|
  .o none (.ld 92 1 false (.t 7)) <|
  .o none (.ld 93 1 false (.t 7)) <|
  .o none (.ld 94 1 false (.t 5)) <|
  .o none (.bin 95 .add false (.t 93) (.t 94)) <|
  .o none (.bin 96 .add false (.t 95) (.c (.int .i64 1))) <|
  .o none (.sl 97 1 (.t 91) (some (.t 92)) (some (.t 96)) none) <|
  .o none (.ld 98 1 false (.t 3)) <|
  .o none (.call (some 99) false (.c (.fn 165 [] [])) [(.t 97), (.t 98)]) .nil)) (.skip)) <| .rg (.o none (.mv 100 (.t 6)) <|
  .o none (.ld 101 1 false (.t 7)) <|
  .o none (.ld 102 1 false (.t 9)) <|
  .o none (.conv 103 .u16 (.t 102)) <|
  .o none (.idx 104 1 (.t 100) (.t 101)) <|
  .o none (.st 1 (.t 104) (.t 103)) .nil))) <| .seq (.seq (.rg (.o none (.ld 105 1 false (.t 7)) .nil)) <| .rg (.o none (.alloc 7 1 3 (.int .i64 0)) <|
  .o none (.st 1 (.t 7) (.t 105)) .nil)) <| .rg (.o none (.ld 26 1 false (.t 7)) <|
  .o none (.bin 27 .sub false (.t 26) (.c (.int .i64 1))) <|
  .o none (.st 1 (.t 7) (.t 27)) .nil)))) <| .seq (.rg (.o none (.mv 106 (.t 6)) <|
  .o none (.call (some 107) false (.c (.fn 122 [] [])) [(.t 106)]) <|
  .o none (.mv 4 (.t 107)) .nil)) <| .ret⟩
theorem Q7k : Qe Tryz.prog Tryz.f127 = some Q32 := by kernel_rfl
end Go.Proofs.YtjkbalanglgoiaaGreat
namespace Go.Proofs.YtjkbalanglgoiaaGreat
open Go Go.FW
set_option linter.unusedSimpArgs false
set_option linter.unusedVariables false
set_option maxRecDepth 100000
theorem Qax {l : List Nat} (hv : Qj l) (hl : l.length < 2 ^ 42) : Qd Tryz.prog 122 [PV.nat l] (· = PV.num (val l)) := by
  refine Qf Qk Tryz.func122 rfl Qw0 (by simp [Quk]) fun C hP => ?_; simp only [Quk]
  simp +decide (disch := first | omega | rfl | (simp +decide only [go_sem, ↓reduceIte] <;> rfl) | fail) only [go_sem, ↓reduceIte]
  refine Qdi (fun m fr hp => m ≤ l.length ∧ cut l m = dig (val l) ∧ fr 0 = PV.nat l ∧ fr 3 = .int .i64 m ∧ hp = hp0) l.length ?_ ?_
  · exact ⟨Nat.le_refl _, Qj9 hv, rfl, rfl, rfl⟩
  rintro n fr _ ⟨hn, hc, h0, h3, rfl⟩
  simp +decide (disch := first | omega | rfl | (simp +decide only [go_sem, ↓reduceIte, h0, h3] <;> rfl) | fail) only [go_sem, ↓reduceIte, h0, h3]
  refine Qaj (fun hg => ?_) (fun hg => ?_)
  · simp +decide (disch := first | omega | rfl | (simp +decide only [go_sem, ↓reduceIte, h0, h3, Qj7, Qpu] <;> rfl) | fail) only [go_sem, ↓reduceIte, h0, h3, Qj7, Qpu]
    obtain _ | n := n
    · omega
    have e : ((n + 1 : Nat) : Int) - 1 = n := by omega
    simp only [cut] at hc
    refine Qb (fun hz => ?_) (fun hz => ?_)
    · rw [if_pos (by grind)] at hc
      simp +decide (disch := first | omega | rfl | (simp +decide only [go_sem, ↓reduceIte, h0, h3, e] <;> rfl) | fail) only [go_sem, ↓reduceIte, h0, h3, e]
      refine Qbj (m := n) (by omega) ⟨by omega, hc, ?_⟩
      simp +decide (disch := first | omega | rfl | (simp +decide only [go_sem, ↓reduceIte, h0, true_and, and_true] <;> rfl) | fail) only [go_sem, ↓reduceIte, h0, true_and, and_true]
    · simp +decide (disch := first | omega | rfl | (simp +decide only [go_sem, ↓reduceIte, h0, h3, Qhe] <;> rfl) | fail) only [go_sem, ↓reduceIte, h0, h3, Qhe]
      rw [if_neg (by grind)] at hc
      exact Qc (by simp [hc]) rfl
  · obtain rfl : n = 0 := by omega
    simp +decide (disch := first | omega | rfl | (simp +decide only [go_sem, ↓reduceIte, h0, h3, Qhe] <;> rfl) | fail) only [go_sem, ↓reduceIte, h0, h3, Qhe]
    exact Qc (by simp [← hc, cut]) rfl
theorem Qhm {l : List Nat} (hv : Qj l) (hl : l.length < 2 ^ 42) : Qd Tryz.prog 120 [PV.nat l] (· = PV.num (val l)) := by
  have hd := Qag hv
  unfold nl at hd
  refine Qf Qk Tryz.func120 rfl Q6u (by simp [Q3c]) fun C hP => ?_; simp only [Q3c]
  simp +decide (disch := first | omega | rfl | (simp +decide only [go_sem, ↓reduceIte] <;> rfl) | fail) only [go_sem, ↓reduceIte]
  refine Qa hP (Qax hv hl) rfl rfl rfl ?_
  simp +decide (disch := first | omega | rfl | (simp +decide only [go_sem, ↓reduceIte] <;> rfl) | fail) only [go_sem, ↓reduceIte]
  refine Qb (fun hz => ?_) (fun hz => ?_)
  · simp +decide (disch := first | omega | rfl | (simp +decide only [go_sem, ↓reduceIte] <;> rfl) | fail) only [go_sem, ↓reduceIte]
    have : dig (val l) = [] := List.length_eq_zero_iff.1 (by omega)
    exact Qcl (by rw [PV.num, this]; exact Q83) rfl
  · simp +decide (disch := first | omega | rfl | (simp +decide only [go_sem, ↓reduceIte] <;> rfl) | fail) only [go_sem, ↓reduceIte]
    rw [Q58 rfl (by simp)]
    simp +decide (disch := first | omega | rfl | (simp +decide only [go_sem, ↓reduceIte] <;> rfl) | fail) only [go_sem, ↓reduceIte]
    exact Qnn rfl (by simp [List.take_of_length_le])
theorem Qkf {n : Nat} (hn : n < 18446744073709551616) : Qd Tryz.prog 54 [.int .u64 n] (· = PV.num n) := by
  have hlen := Qc2 hn
  unfold nl at hlen
  refine Qf Qk Tryz.func54 rfl Q9z (by simp [c54]) fun C hP => ?_; simp only [c54]
  simp +decide (disch := first | omega | rfl | (simp +decide only [go_sem, ↓reduceIte] <;> rfl) | fail) only [go_sem, ↓reduceIte]
  refine Qi3 (fun m fr hp => ∃ done : List Nat, dig n = done ++ dig m ∧ m ≤ n ∧ fr 0 = .int .u64 m ∧ fr 3 = .ms 12 done.length ∧ hp 12 = some ⟨1, 111, done.map fun (x : Nat) => .int .u16 x, false⟩) n (Qzc 3 12 1 111 (by omega) ?_) ?_ ?_
  · simp +decide (disch := first | omega | rfl | (simp +decide only [go_sem, ↓reduceIte] <;> rfl) | fail) only [go_sem, ↓reduceIte]
  · refine ⟨[], ?_⟩
    simp +decide (disch := first | omega | rfl | (simp +decide only [go_sem, ↓reduceIte, List.nil_append, List.map_nil, List.length_nil, true_and, and_true, Nat.le_refl] <;> rfl) | fail) only [go_sem, ↓reduceIte, List.nil_append, List.map_nil, List.length_nil, true_and, and_true, Nat.le_refl]
  rintro m fr hp ⟨done, hd, hm, h0, h3, hh⟩
  rw [hd, List.length_append] at hlen
  simp +decide (disch := first | omega | rfl | (simp +decide only [go_sem, ↓reduceIte, h0] <;> rfl) | fail) only [go_sem, ↓reduceIte, h0]
  refine Qb (fun hz => ?_) (fun hz => ?_)
  · have hne : m ≠ 0 := by omega
    have hd2 : dig n = (done ++ [m % 65536]) ++ dig (m / 65536) := by rw [hd, Qfv hne]; simp
    simp +decide (disch := first | omega | rfl | (simp +decide only [go_sem, ↓reduceIte, h0, h3] <;> rfl) | fail) only [go_sem, ↓reduceIte, h0, h3]
    rw [Qo0 (xs := done.map fun (x : Nat) => .int .u16 x) (by simp +decide (disch := first | omega | rfl | (simp +decide only [go_sem, ↓reduceIte, hh] <;> rfl) | fail) only [go_sem, ↓reduceIte, hh]) rfl (by omega) (by simp) (by omega) (by omega)]
    simp +decide (disch := first | omega | rfl | (simp +decide only [go_sem, ↓reduceIte, h0, h3, Qil, Qmt] <;> rfl) | fail) only [go_sem, ↓reduceIte, h0, h3, Qil, Qmt]
    refine Qbj (m := m / 65536) (by omega) ⟨done ++ [m % 65536], hd2, by omega, ?_⟩
    simp +decide (disch := first | omega | rfl | (simp +decide only [go_sem, ↓reduceIte, h0, h3, hh] <;> rfl) | fail) only [go_sem, ↓reduceIte, h0, h3, hh]
    simp
  · obtain rfl : m = 0 := by omega
    simp +decide (disch := first | omega | rfl | (simp +decide only [go_sem, ↓reduceIte, h3] <;> rfl) | fail) only [go_sem, ↓reduceIte, h3]
    exact Qnn hh (by simp [PV.num, PV.nat, hd, Qat, List.take_of_length_le])
end Go.Proofs.YtjkbalanglgoiaaGreat
namespace Go.Proofs.YtjkbalanglgoiaaGreat
open Go Go.FW
set_option linter.unusedSimpArgs false
set_option linter.unusedVariables false
set_option maxRecDepth 100000
theorem Qo9 {a b : List Nat} (ha : Qj a) (hb : Qj b) (hla : a.length < 2 ^ 40) (hlb : b.length < 2 ^ 40) : Qd Tryz.prog 123 [PV.nat a, PV.nat b] (· = .int .i64 (Qd1 (val a) (val b))) := by
  have hda := Qag ha
  have hdb := Qag hb
  have hnl1 := @Qtv (val a) (val b)
  have hnl2 := @Qtv (val b) (val a)
  have hla' := Qi (val a)
  have hlb' := Qi (val b)
  have hva := Qr (val a)
  have hvb := Qr (val b)
  unfold nl at hda hdb hnl1 hnl2
  refine Qf Qk Tryz.func123 rfl Q6x (by simp [Q3f]) fun C hP => ?_; simp only [Q3f]
  simp +decide (disch := first | omega | rfl | (simp +decide only [go_sem, ↓reduceIte] <;> rfl) | fail) only [go_sem, ↓reduceIte]
  refine Qa hP (Qax ha (by omega)) rfl rfl rfl ?_
  simp +decide (disch := first | omega | rfl | (simp +decide only [go_sem, ↓reduceIte] <;> rfl) | fail) only [go_sem, ↓reduceIte]
  refine Qa hP (Qax hb (by omega)) rfl rfl rfl ?_
  simp +decide (disch := first | omega | rfl | (simp +decide only [go_sem, ↓reduceIte] <;> rfl) | fail) only [go_sem, ↓reduceIte]
  generalize val a = x at *
  generalize val b = y at *
  refine Qb (fun hz => ?_) (fun hz => ?_)
  · simp +decide (disch := first | omega | rfl | (simp +decide only [go_sem, ↓reduceIte] <;> rfl) | fail) only [go_sem, ↓reduceIte]
    refine Qb (fun hz => ?_) (fun hz => ?_)
    · simp +decide (disch := first | omega | rfl | (simp +decide only [go_sem, ↓reduceIte] <;> rfl) | fail) only [go_sem, ↓reduceIte]
      exact Qc (by rw [Qq7 (hnl1 (by omega))]) rfl
    · simp +decide (disch := first | omega | rfl | (simp +decide only [go_sem, ↓reduceIte] <;> rfl) | fail) only [go_sem, ↓reduceIte]
      exact Qc (by rw [Qq8 (hnl2 (by omega))]) rfl
  simp +decide (disch := first | omega | rfl | (simp +decide only [go_sem, ↓reduceIte] <;> rfl) | fail) only [go_sem, ↓reduceIte]
  refine Qdi (fun m fr hp => m ≤ (dig x).length ∧ val ((dig x).drop m) = val ((dig y).drop m) ∧ fr 0 = PV.num x ∧ fr 1 = PV.num y ∧ fr 5 = .int .i64 ((m : Int) - 1) ∧ hp = hp0) (dig x).length ?_ ?_
  · refine ⟨Nat.le_refl _, ?_, ?_⟩
    · rw [List.drop_of_length_le (Nat.le_refl _), List.drop_of_length_le (by omega)]
    · simp +decide (disch := first | omega | rfl | (simp +decide only [go_sem, ↓reduceIte, true_and, and_true] <;> rfl) | fail) only [go_sem, ↓reduceIte, true_and, and_true]
  rintro m fr _ ⟨hm, hd, h0, h1, h5, rfl⟩
  simp +decide (disch := first | omega | rfl | (simp +decide only [go_sem, ↓reduceIte, h0, h1, h5] <;> rfl) | fail) only [go_sem, ↓reduceIte, h0, h1, h5]
  refine Qb (fun hg => ?_) (fun hg => ?_)
  · obtain _ | m := m
    · omega
    have e : ((m + 1 : Nat) : Int) - 1 = m := by omega
    have hm1 : m < (dig x).length := by omega
    have hm2 : m < (dig y).length := by omega
    simp +decide (disch := first | omega | rfl | (simp +decide only [go_sem, ↓reduceIte, h0, h1, h5, e] <;> rfl) | fail) only [go_sem, ↓reduceIte, h0, h1, h5, e]
    refine Qb (fun hq => ?_) (fun hq => ?_)
    · simp +decide (disch := first | omega | rfl | (simp +decide only [go_sem, ↓reduceIte] <;> rfl) | fail) only [go_sem, ↓reduceIte]
      exact Qc (by rw [Qq7]; have := Qrz hla' hm1 hm2 (by omega) hd; omega) rfl
    simp +decide (disch := first | omega | rfl | (simp +decide only [go_sem, ↓reduceIte, h0, h1, h5, e] <;> rfl) | fail) only [go_sem, ↓reduceIte, h0, h1, h5, e]
    refine Qb (fun hq2 => ?_) (fun hq2 => ?_)
    · simp +decide (disch := first | omega | rfl | (simp +decide only [go_sem, ↓reduceIte] <;> rfl) | fail) only [go_sem, ↓reduceIte]
      exact Qc (by rw [Qq8]; have := Qrz hlb' hm2 hm1 (by omega) hd.symm; omega) rfl
    simp +decide (disch := first | omega | rfl | (simp +decide only [go_sem, ↓reduceIte, h0, h1, h5, e] <;> rfl) | fail) only [go_sem, ↓reduceIte, h0, h1, h5, e]
    refine Qbj (m := m) (by omega) ⟨by omega, ?_, ?_⟩
    · rw [Qb6 hm1, Qb6 hm2, hd]; omega
    · simp +decide (disch := first | omega | rfl | (simp +decide only [go_sem, ↓reduceIte, h0, h1, true_and, and_true] <;> rfl) | fail) only [go_sem, ↓reduceIte, h0, h1, true_and, and_true]
  · obtain rfl : m = 0 := by omega
    simp +decide (disch := first | omega | rfl | (simp +decide only [go_sem, ↓reduceIte] <;> rfl) | fail) only [go_sem, ↓reduceIte]
    refine Qc ?_ rfl
    rw [Qwl]
    simp at hd; omega
end Go.Proofs.YtjkbalanglgoiaaGreat
namespace Go.Proofs.YtjkbalanglgoiaaGreat
open Go Go.FW
set_option linter.unusedSimpArgs false
set_option linter.unusedVariables false
set_option maxRecDepth 100000
theorem Q33 {a b : List Nat} (ha : Qj a) (hb : Qj b) (hla : a.length < 2 ^ 40) (hlb : b.length < 2 ^ 40) : Qd Tryz.prog 175 [PV.nat a, PV.nat b] (· = PV.num (val a + val b)) := by
  have hda := Qag ha
  have hdb := Qag hb
  unfold nl at hda hdb
  refine Qf Qk Tryz.func175 rfl Q6y (by simp [Q3g]) fun C hP => ?_; simp only [Q3g]
  simp +decide (disch := first | omega | rfl | (simp +decide only [go_sem, ↓reduceIte] <;> rfl) | fail) only [go_sem, ↓reduceIte]
  refine Qa hP (Qax ha (by omega)) rfl rfl rfl ?_
  simp +decide (disch := first | omega | rfl | (simp +decide only [go_sem, ↓reduceIte] <;> rfl) | fail) only [go_sem, ↓reduceIte]
  refine Qa hP (Qax hb (by omega)) rfl rfl rfl ?_
  simp +decide (disch := first | omega | rfl | (simp +decide only [go_sem, ↓reduceIte] <;> rfl) | fail) only [go_sem, ↓reduceIte]
  generalize val a = x0 at *
  generalize val b = y0 at *
  refine Qhg (fun fr hp => ∃ x y, x + y = x0 + y0 ∧ (dig x).length < 2 ^ 40 ∧ (dig y).length ≤ (dig x).length ∧ fr 0 = PV.num x ∧ fr 1 = PV.num y ∧ hp = hp0) ?_ ?_
  · refine Qb (fun hz => ?_) (fun hz => ?_)
    · simp +decide (disch := first | omega | rfl | (simp +decide only [go_sem, ↓reduceIte] <;> rfl) | fail) only [go_sem, ↓reduceIte]
      refine ⟨y0, x0, by omega, by omega, by omega, ?_⟩
      simp +decide (disch := first | omega | rfl | (simp +decide only [go_sem, ↓reduceIte, true_and, and_true] <;> rfl) | fail) only [go_sem, ↓reduceIte, true_and, and_true]
    · simp +decide (disch := first | omega | rfl | (simp +decide only [go_sem, ↓reduceIte] <;> rfl) | fail) only [go_sem, ↓reduceIte]
      refine ⟨x0, y0, by omega, by omega, by omega, ?_⟩
      simp +decide (disch := first | omega | rfl | (simp +decide only [go_sem, ↓reduceIte, true_and, and_true] <;> rfl) | fail) only [go_sem, ↓reduceIte, true_and, and_true]
  rintro fr _ ⟨x, y, hsum, hx, hy, h0, h1, rfl⟩
  rw [← hsum]
  clear hsum hda hdb
  have hxl := Qi x
  have hyl := Qi y
  simp +decide (disch := first | omega | rfl | (simp +decide only [go_sem, ↓reduceIte, h0, h1] <;> rfl) | fail) only [go_sem, ↓reduceIte, h0, h1]
  refine Qdi (fun m fr hp => ∃ i c done, m = (dig x).length - i ∧ i ≤ (dig x).length ∧ c ≤ 1 ∧ done.length = i ∧ done ++ Qdp ((dig x).drop i) ((dig y).drop i) c = dig (x + y) ∧
    fr 1 = PV.num y ∧ fr 5 = .ms 25 (dig x).length ∧ fr 6 = .int .u32 c ∧ fr 26 = PV.num x ∧ fr 27 = .int .i64 (dig x).length ∧ fr 28 = .int .i64 i ∧ hp = Qs hp0 25 ⟨1, 111, Qau (done ++ List.replicate ((dig x).length - i) 0), false⟩) (dig x).length ?_ ?_
  · refine ⟨0, 0, [], rfl, by omega, by omega, rfl, by simpa using Q2k hy, ?_⟩
    simp +decide (disch := first | omega | rfl | (simp +decide only [go_sem, ↓reduceIte, h0, h1, true_and, and_true, Nat.sub_zero, List.nil_append] <;> rfl) | fail) only [go_sem, ↓reduceIte, h0, h1, true_and, and_true, Nat.sub_zero, List.nil_append]
    simp
  rintro _ fr _ ⟨i, c, done, rfl, hi, hc, hdl, hd, h1, h5, h6, h26, h27, h28, rfl⟩
  simp +decide (disch := first | omega | rfl | (simp +decide only [go_sem, ↓reduceIte, h26, h27, h28] <;> rfl) | fail) only [go_sem, ↓reduceIte, h26, h27, h28]
  refine Qb (fun hg => ?_) (fun hg => ?_)
  · have hi' : i < (dig x).length := by omega
    have hxi := Qae hxl hi'
    rw [Qzp hi'] at hd
    have hlen := Qo2 (n := (dig x).length - i) hdl (by omega : _ = (dig x).length)
    simp +decide (disch := first | omega | rfl | (simp +decide only [go_sem, ↓reduceIte, h1, h5, h6, h26, h27, h28] <;> rfl) | fail) only [go_sem, ↓reduceIte, h1, h5, h6, h26, h27, h28]
    refine Qb (fun hq => ?_) (fun hq => ?_)
    · have hq' : i < (dig y).length := by omega
      have hyi := Qae hyl hq'
      rw [Qa2 hq'] at hd
      simp +decide (disch := first | omega | rfl | (simp +decide only [go_sem, ↓reduceIte, h1, h5, h6, h26, h27, h28] <;> rfl) | fail) only [go_sem, ↓reduceIte, h1, h5, h6, h26, h27, h28]
      refine Qbj (m := (dig x).length - (i + 1)) (by omega) ⟨i + 1, _, _, rfl, by omega, ?_, ?_, (List.append_cons ..).symm.trans hd, ?_⟩
      · omega
      · simp [hdl]
      · simp +decide (disch := first | omega | rfl | (simp +decide only [go_sem, ↓reduceIte, h1, h5, h6, h26, h27, h28, true_and, and_true, Qdj, Nat.sub_sub] <;> rfl) | fail) only [go_sem, ↓reduceIte, h1, h5, h6, h26, h27, h28, true_and, and_true, Qdj, Nat.sub_sub]
    · rw [Qa3 (by omega)] at hd
      simp +decide (disch := first | omega | rfl | (simp +decide only [go_sem, ↓reduceIte, h1, h5, h6, h26, h27, h28] <;> rfl) | fail) only [go_sem, ↓reduceIte, h1, h5, h6, h26, h27, h28]
      refine Qbj (m := (dig x).length - (i + 1)) (by omega) ⟨i + 1, _, _, rfl, by omega, ?_, ?_, (List.append_cons ..).symm.trans hd, ?_⟩
      · omega
      · simp [hdl]
      · simp +decide (disch := first | omega | rfl | (simp +decide only [go_sem, ↓reduceIte, h1, h5, h6, h26, h27, h28, true_and, and_true, Qdj, Nat.sub_sub, Nat.add_zero] <;> rfl) | fail) only [go_sem, ↓reduceIte, h1, h5, h6, h26, h27, h28, true_and, and_true, Qdj, Nat.sub_sub, Nat.add_zero]
  · obtain rfl : i = (dig x).length := by omega
    rw [List.drop_of_length_le (Nat.le_refl _), List.drop_of_length_le hy] at hd
    simp +decide (disch := first | omega | rfl | (simp +decide only [go_sem, ↓reduceIte, h5, h6, Nat.sub_self, List.replicate_zero, List.append_nil] <;> rfl) | fail) only [go_sem, ↓reduceIte, h5, h6, Nat.sub_self, List.replicate_zero, List.append_nil]
    refine Qb (fun hq => ?_) (fun hq => ?_)
    · simp +decide (disch := first | omega | rfl | (simp +decide only [go_sem, ↓reduceIte, h5, h6] <;> rfl) | fail) only [go_sem, ↓reduceIte, h5, h6]
      rw [Qo0 (xs := Qau done) (by simp +decide (disch := first | omega | rfl | (simp +decide only [go_sem, ↓reduceIte] <;> rfl) | fail) only [go_sem, ↓reduceIte]) rfl (by omega) (by simp [hdl]) (by omega) (by omega)]
      simp +decide (disch := first | omega | rfl | (simp +decide only [go_sem, ↓reduceIte, h5] <;> rfl) | fail) only [go_sem, ↓reduceIte, h5]
      refine Qnn rfl ?_
      rw [Qdp, if_neg (by omega)] at hd
      rw [PV.num, ← hd]
      simp [Qau, hdl, List.take_of_length_le]
      omega
    · simp +decide (disch := first | omega | rfl | (simp +decide only [go_sem, ↓reduceIte, h5] <;> rfl) | fail) only [go_sem, ↓reduceIte, h5]
      refine Qnn rfl ?_
      rw [Qdp, if_pos (by omega)] at hd
      rw [PV.num, ← hd]
      simp [Qau, hdl, List.take_of_length_le]
end Go.Proofs.YtjkbalanglgoiaaGreat
namespace Go.Proofs.YtjkbalanglgoiaaGreat
open Go Go.FW
set_option linter.unusedSimpArgs false
set_option linter.unusedVariables false
set_option maxRecDepth 100000
theorem Qul {a b : List Nat} (ha : Qj a) (hb : Qj b) (hla : a.length < 2 ^ 40) (hlb : b.length < 2 ^ 40) (hle : val b ≤ val a) : Qd Tryz.prog 176 [PV.nat a, PV.nat b] (· = .tup [PV.num (val a - val b), .int .i64 0]) := by
  have hda := Qag ha
  have hdb := Qag hb
  have hnl := Qa7 hle
  unfold nl at hda hdb hnl
  refine Qf Qk Tryz.func176 rfl Q6z (by simp [Q3h]) fun C hP => ?_; simp only [Q3h]
  simp +decide (disch := first | omega | rfl | (simp +decide only [go_sem, ↓reduceIte] <;> rfl) | fail) only [go_sem, ↓reduceIte]
  refine Qa hP (Qo9 ha hb hla hlb) rfl rfl rfl ?_
  have hcmp : ¬ Qd1 (val a) (val b) < 0 := by unfold Qd1; split <;> (try split) <;> omega
  simp +decide (disch := first | omega | rfl | (simp +decide only [go_sem, ↓reduceIte] <;> rfl) | fail) only [go_sem, ↓reduceIte]
  refine Qb (fun hz => absurd hz hcmp) (fun hz => ?_)
  simp +decide (disch := first | omega | rfl | (simp +decide only [go_sem, ↓reduceIte] <;> rfl) | fail) only [go_sem, ↓reduceIte]
  refine Qa hP (Qax ha (by omega)) rfl rfl rfl ?_
  simp +decide (disch := first | omega | rfl | (simp +decide only [go_sem, ↓reduceIte] <;> rfl) | fail) only [go_sem, ↓reduceIte]
  refine Qa hP (Qax hb (by omega)) rfl rfl rfl ?_
  simp +decide (disch := first | omega | rfl | (simp +decide only [go_sem, ↓reduceIte] <;> rfl) | fail) only [go_sem, ↓reduceIte]
  generalize val a = x at *
  generalize val b = y at *
  have hxl := Qi x
  have hyl := Qi y
  have Qcq := Qtx (dig x) (dig y) 0 (by omega) hxl hyl hnl (by rw [Qr, Qr]; exact hle)
  rw [Qr, Qr, Nat.add_zero] at Qcq
  have hvl := Qpw (dig x) (dig y) 0
  have hln := Qn7 (dig x) (dig y) 0
  refine Qdi (fun m fr hp => ∃ i c done, m = (dig x).length - i ∧ i ≤ (dig x).length ∧ c ≤ 1 ∧ done.length = i ∧ done ++ Qfm ((dig x).drop i) ((dig y).drop i) c = Qfm (dig x) (dig y) 0 ∧
    fr 1 = PV.num y ∧ fr 6 = .ms 21 (dig x).length ∧ fr 7 = .int .i32 (c : Nat) ∧ fr 22 = PV.num x ∧ fr 23 = .int .i64 (dig x).length ∧ fr 24 = .int .i64 i ∧ hp = Qs hp0 21 ⟨1, 111, Qau (done ++ List.replicate ((dig x).length - i) 0), false⟩) (dig x).length ?_ ?_
  · refine ⟨0, 0, [], rfl, by omega, by omega, rfl, rfl, ?_⟩
    simp +decide (disch := first | omega | rfl | (simp +decide only [go_sem, ↓reduceIte, true_and, and_true, Nat.sub_zero, List.nil_append] <;> rfl) | fail) only [go_sem, ↓reduceIte, true_and, and_true, Nat.sub_zero, List.nil_append]
    simp
  rintro _ fr _ ⟨i, c, done, rfl, hi, hc, hdl, hd, h1, h6, h7, h22, h23, h24, rfl⟩
  simp +decide (disch := first | omega | rfl | (simp +decide only [go_sem, ↓reduceIte, h22, h23, h24] <;> rfl) | fail) only [go_sem, ↓reduceIte, h22, h23, h24]
  refine Qb (fun hg => ?_) (fun hg => ?_)
  · have hi' : i < (dig x).length := by omega
    have hxi := Qae hxl hi'
    rw [Qzq hi'] at hd
    have hlen := Qo2 (n := (dig x).length - i) hdl (by omega : _ = (dig x).length)
    simp +decide (disch := first | omega | rfl | (simp +decide only [go_sem, ↓reduceIte, h1, h6, h7, h22, h23, h24] <;> rfl) | fail) only [go_sem, ↓reduceIte, h1, h6, h7, h22, h23, h24]
    refine Qhg (fun fr hp => fr 1 = PV.num y ∧ fr 6 = .ms 21 (dig x).length ∧ fr 8 = .int .i64 i ∧ fr 10 = .int .i32 ((dig x)[i] - (c : Int) - ((dig y).getD i 0 : Nat)) ∧ (dig y).getD i 0 < 65536 ∧ fr 22 = PV.num x ∧ fr 23 = .int .i64 (dig x).length ∧ fr 24 = .int .i64 i ∧ hp = Qs hp0 21 ⟨1, 111, Qau (done ++ List.replicate ((dig x).length - i) 0), false⟩) ?_ ?_
    · refine Qb (fun hq => ?_) (fun hq => ?_)
      · have hq' : i < (dig y).length := by omega
        have hyi := Qae hyl hq'
        simp +decide (disch := first | omega | rfl | (simp +decide only [go_sem, ↓reduceIte, h1, h6, h7, h22, h23, h24, Qa2 hq', true_and, and_true] <;> rfl) | fail) only [go_sem, ↓reduceIte, h1, h6, h7, h22, h23, h24, Qa2 hq', true_and, and_true]
        exact hyi
      · simp +decide (disch := first | omega | rfl | (simp +decide only [go_sem, ↓reduceIte, h1, h6, h7, h22, h23, h24, true_and, and_true, Qa3 (by omega : ¬ i < (dig y).length)] <;> rfl) | fail) only [go_sem, ↓reduceIte, h1, h6, h7, h22, h23, h24, true_and, and_true, Qa3 (by omega : ¬ i < (dig y).length)]
        simp
    clear h1 h6 h22 h23 h24
    rintro fr _ ⟨h1, h6, h8, h10, hyi, h22, h23, h24, rfl⟩
    generalize hw : (dig y).getD i 0 = yi at *
    simp +decide (disch := first | omega | rfl | (simp +decide only [go_sem, ↓reduceIte, h10] <;> rfl) | fail) only [go_sem, ↓reduceIte, h10]
    refine Qhg (fun fr hp => fr 1 = PV.num y ∧ fr 6 = .ms 21 (dig x).length ∧ fr 8 = .int .i64 i ∧ fr 10 = .int .i32 (((dig x)[i] + 65536 - c - yi) % 65536 : Nat) ∧ fr 7 = .int .i32 ((if (dig x)[i] < c + yi then 1 else 0) : Nat) ∧ fr 22 = PV.num x ∧ fr 23 = .int .i64 (dig x).length ∧ fr 24 = .int .i64 i ∧ hp = Qs hp0 21 ⟨1, 111, Qau (done ++ List.replicate ((dig x).length - i) 0), false⟩) ?_ ?_
    · refine Qb (fun hq => ?_) (fun hq => ?_)
      · rw [if_pos (by omega)]
        simp +decide (disch := first | omega | rfl | (simp +decide only [go_sem, ↓reduceIte, h1, h6, h8, h10, h22, h23, h24, true_and, and_true] <;> rfl) | fail) only [go_sem, ↓reduceIte, h1, h6, h8, h10, h22, h23, h24, true_and, and_true]
        simp; omega
      · rw [if_neg (by omega)]
        simp +decide (disch := first | omega | rfl | (simp +decide only [go_sem, ↓reduceIte, h1, h6, h8, h10, h22, h23, h24, true_and, and_true] <;> rfl) | fail) only [go_sem, ↓reduceIte, h1, h6, h8, h10, h22, h23, h24, true_and, and_true]
        simp; omega
    clear h1 h6 h8 h10 h22 h23 h24
    rintro fr _ ⟨h1, h6, h8, h10, h7, h22, h23, h24, rfl⟩
    simp +decide (disch := first | omega | rfl | (simp +decide only [go_sem, ↓reduceIte, h1, h6, h7, h8, h10, h22, h23, h24] <;> rfl) | fail) only [go_sem, ↓reduceIte, h1, h6, h7, h8, h10, h22, h23, h24]
    refine Qbj (m := (dig x).length - (i + 1)) (by omega) ⟨i + 1, _, _, rfl, by omega, ?_, ?_, (List.append_cons ..).symm.trans hd, ?_⟩
    · split <;> omega
    · simp [hdl]
    · simp +decide (disch := first | omega | rfl | (simp +decide only [go_sem, ↓reduceIte, h1, h6, h7, h8, h10, h22, h23, h24, true_and, and_true, Qdj, Nat.sub_sub, Nat.mod_mod] <;> rfl) | fail) only [go_sem, ↓reduceIte, h1, h6, h7, h8, h10, h22, h23, h24, true_and, and_true, Qdj, Nat.sub_sub, Nat.mod_mod]
  · obtain rfl : i = (dig x).length := by omega
    rw [List.drop_of_length_le (Nat.le_refl _), Qfm, List.append_nil] at hd
    simp +decide (disch := first | omega | rfl | (simp +decide only [go_sem, ↓reduceIte, h6, Nat.sub_self, List.replicate_zero, List.append_nil] <;> rfl) | fail) only [go_sem, ↓reduceIte, h6, Nat.sub_self, List.replicate_zero, List.append_nil]
    rw [hd]
    refine Qes hP (Qax hvl (by omega)) (Qim rfl hln.symm) rfl fun hp' => ?_
    simp +decide (disch := first | omega | rfl | (simp +decide only [go_sem, ↓reduceIte] <;> rfl) | fail) only [go_sem, ↓reduceIte]
    exact Qco rfl rfl rfl (Qet (by rw [show val (Qfm (dig x) (dig y) 0) = x - y by omega])) (Qt _)
end Go.Proofs.YtjkbalanglgoiaaGreat
namespace Go.Proofs.YtjkbalanglgoiaaGreat
open Go Go.FW
set_option linter.unusedSimpArgs false
set_option linter.unusedVariables false
set_option maxRecDepth 100000
theorem Qip {a b : List Nat} (ha : Qj a) (hb : Qj b) (hla : a.length < 2 ^ 40) (hlb : b.length < 2 ^ 40) : Qd Tryz.prog 57 [PV.nat a, PV.nat b] (· = PV.num (val a * val b)) := by
  have hda := Qag ha
  have hdb := Qag hb
  unfold nl at hda hdb
  refine Qf Qk Tryz.func57 rfl Q90 (by simp [c57]) fun C hP => ?_; simp only [c57]
  simp +decide (disch := first | omega | rfl | (simp +decide only [go_sem, ↓reduceIte] <;> rfl) | fail) only [go_sem, ↓reduceIte]
  refine Qa hP (Qax ha (by omega)) rfl rfl rfl ?_
  simp +decide (disch := first | omega | rfl | (simp +decide only [go_sem, ↓reduceIte] <;> rfl) | fail) only [go_sem, ↓reduceIte]
  refine Qa hP (Qax hb (by omega)) rfl rfl rfl ?_
  simp +decide (disch := first | omega | rfl | (simp +decide only [go_sem, ↓reduceIte] <;> rfl) | fail) only [go_sem, ↓reduceIte]
  generalize val a = x at *
  generalize val b = y at *
  have hxl := Qi x
  have hyl := Qi y
  refine Qad (fun hz => ?_) (fun hz => ?_)
  · simp +decide (disch := first | omega | rfl | (simp +decide only [go_sem, ↓reduceIte] <;> rfl) | fail) only [go_sem, ↓reduceIte]
    have := Qcd (by omega : (dig x).length = 0)
    rw [Qbf] at this
    exact Qcl (Qka (by simp [this])) rfl
  simp +decide (disch := first | omega | rfl | (simp +decide only [go_sem, ↓reduceIte] <;> rfl) | fail) only [go_sem, ↓reduceIte]
  refine Qb (fun hz2 => ?_) (fun hz2 => ?_)
  · simp +decide (disch := first | omega | rfl | (simp +decide only [go_sem, ↓reduceIte] <;> rfl) | fail) only [go_sem, ↓reduceIte]
    have := Qcd (by omega : (dig y).length = 0)
    rw [Qbf] at this
    exact Qcl (Qka (by simp [this])) rfl
  simp +decide (disch := first | omega | rfl | (simp +decide only [go_sem, ↓reduceIte] <;> rfl) | fail) only [go_sem, ↓reduceIte]
  refine Qdi (fun m fr hp => ∃ i lo, m = (dig x).length - i ∧ i ≤ (dig x).length ∧ Qj lo ∧ lo.length = i + (dig y).length ∧ val lo = val ((dig x).take i) * val (dig y) ∧
    fr 1 = PV.num y ∧ fr 5 = .ms 28 ((dig x).length + (dig y).length) ∧ fr 29 = PV.num x ∧ fr 30 = .int .i64 (dig x).length ∧ fr 31 = .int .i64 i ∧ hp = Qs hp0 28 ⟨1, 111, Qau (lo ++ List.replicate ((dig x).length - i) 0), false⟩) (dig x).length ?_ ?_
  · refine ⟨0, List.replicate (dig y).length 0, rfl, by omega, ?_, by simp, by simp [Qry, val], ?_⟩
    · intro z hz; rw [List.eq_of_mem_replicate hz]; omega
    · simp +decide (disch := first | omega | rfl | (simp +decide only [go_sem, ↓reduceIte, true_and, and_true, Nat.sub_zero] <;> rfl) | fail) only [go_sem, ↓reduceIte, true_and, and_true, Nat.sub_zero]
      simp [Nat.add_comm]
  rintro _ fr _ ⟨i, lo, rfl, hi, hlo, hlol, hv, h1, h5, h29, h30, h31, rfl⟩
  simp +decide (disch := first | omega | rfl | (simp +decide only [go_sem, ↓reduceIte, h29, h30, h31] <;> rfl) | fail) only [go_sem, ↓reduceIte, h29, h30, h31]
  refine Qb (fun hg => ?_) (fun hg => ?_)
  · have hi' : i < (dig x).length := by omega
    have hxi := Qae hxl hi'
    have hstep := Q2l hi' hlol hv
    have hlims : Qj (lo.take i ++ Qel (lo.drop i) (dig y) (dig x)[i] 0) := Qba.2 ⟨Qe2 hlo i, Qpy _ _ _ _ (by omega) hxi (Qf6 hlo i) hyl⟩
    have hlenr : (lo.take i ++ Qel (lo.drop i) (dig y) (dig x)[i] 0).length = i + (dig y).length + 1 := by
      rw [List.length_append, Qn8 _ _ _ _ (by simp [hlol])]; simp; omega
    generalize hxx : (dig x)[i] = xi at *
    simp +decide (disch := first | omega | rfl | (simp +decide only [go_sem, ↓reduceIte, h1, h5, h29, h30, h31, hxx] <;> rfl) | fail) only [go_sem, ↓reduceIte, h1, h5, h29, h30, h31, hxx]
    refine Qdi (fun m fr hp => ∃ k c p rs, m = (dig y).length - k ∧ k ≤ (dig y).length ∧ c < 65536 ∧ Qj rs ∧ p.length = i + k ∧ rs.length = (dig y).length - k ∧ p ++ Qel rs ((dig y).drop k) xi c = lo.take i ++ Qel (lo.drop i) (dig y) xi 0 ∧
      fr 1 = PV.num y ∧ fr 5 = .ms 28 ((dig x).length + (dig y).length) ∧ fr 6 = .int .i64 i ∧ fr 7 = .int .u16 xi ∧ fr 8 = .int .u32 c ∧ fr 29 = PV.num x ∧ fr 30 = .int .i64 (dig x).length ∧ fr 31 = .int .i64 i ∧ fr 36 = PV.num y ∧ fr 37 = .int .i64 (dig y).length ∧ fr 38 = .int .i64 k ∧
      hp = Qs hp0 28 ⟨1, 111, Qau (p ++ (rs ++ List.replicate ((dig x).length - i) 0)), false⟩) (dig y).length ?_ ?_
    · refine ⟨0, 0, lo.take i, lo.drop i, rfl, by omega, by omega, Qf6 hlo i, by simp; omega, by simp; omega, rfl, ?_⟩
      simp +decide (disch := first | omega | rfl | (simp +decide only [go_sem, ↓reduceIte, h1, h5, h29, h30, h31, true_and, and_true] <;> rfl) | fail) only [go_sem, ↓reduceIte, h1, h5, h29, h30, h31, true_and, and_true]
      rw [← List.append_assoc, List.take_append_drop]
      simp
    clear h1 h5 h29 h30 h31
    rintro _ fr _ ⟨k, c, p, rs, rfl, hk, hc, hrs, hpl, hrl, hinv, h1, h5, h6, h7, h8, h29, h30, h31, h36, h37, h38, rfl⟩
    simp +decide (disch := first | omega | rfl | (simp +decide only [go_sem, ↓reduceIte, h36, h37, h38] <;> rfl) | fail) only [go_sem, ↓reduceIte, h36, h37, h38]
    refine Qb (fun hq => ?_) (fun hq => ?_)
    · have hk' : k < (dig y).length := by omega
      have hyk := Qae hyl hk'
      rw [List.drop_eq_getElem_cons hk'] at hinv
      generalize hyy : (dig y)[k] = yk at *
      obtain _ | ⟨r, rs⟩ := rs
      · simp at hrl; omega
      rw [Qap] at hrs
      have hr0 := hrs.1
      have hxy := Qdv hxi hyk
      rw [Qel] at hinv
      have hlt : i + k < (p ++ r :: (rs ++ List.replicate ((dig x).length - i) 0)).length := by simp; omega
      have hget := Qnq hpl hlt
      simp +decide (disch := first | omega | rfl | (simp +decide only [go_sem, ↓reduceIte, h1, h5, h6, h7, h8, h36, h37, h38, hyy, List.cons_append, hget] <;> rfl) | fail) only [go_sem, ↓reduceIte, h1, h5, h6, h7, h8, h36, h37, h38, hyy, List.cons_append, hget]
      refine Qbj (m := (dig y).length - (k + 1)) (by omega) ⟨k + 1, _, _, _, rfl, by omega, ?_, hrs.2, ?_, ?_, (List.append_cons ..).symm.trans hinv, ?_⟩
      · omega
      · simp [hpl]; omega
      · simp at hrl; omega
      · simp +decide (disch := first | omega | rfl | (simp +decide only [go_sem, ↓reduceIte, h1, h5, h6, h7, h8, h29, h30, h31, h36, h37, h38, true_and, and_true, Qbk] <;> rfl) | fail) only [go_sem, ↓reduceIte, h1, h5, h6, h7, h8, h29, h30, h31, h36, h37, h38, true_and, and_true, Qbk]
        simp
    · obtain rfl : k = (dig y).length := by omega
      obtain rfl : rs = [] := List.length_eq_zero_iff.1 (by omega)
      rw [List.drop_of_length_le (Nat.le_refl _), Qel] at hinv
      rotate_left
      · intros; simp_all
      obtain ⟨z, hz⟩ : ∃ z, (dig x).length - i = z + 1 := ⟨(dig x).length - i - 1, by omega⟩
      have hlt : i + (dig y).length < (p ++ 0 :: (List.replicate z 0)).length := by simp; omega
      simp +decide (disch := first | omega | rfl | (simp +decide only [go_sem, ↓reduceIte, h1, h5, h6, h8, h29, h30, h31, List.nil_append, hz, List.replicate_succ] <;> rfl) | fail) only [go_sem, ↓reduceIte, h1, h5, h6, h8, h29, h30, h31, List.nil_append, hz, List.replicate_succ]
      refine Qbj (m := (dig x).length - (i + 1)) (by omega) ⟨i + 1, lo.take i ++ Qel (lo.drop i) (dig y) xi 0, rfl, by omega, hlims, by omega, ?_, ?_⟩
      · rw [hstep]
      · simp +decide (disch := first | omega | rfl | (simp +decide only [go_sem, ↓reduceIte, h1, h5, h29, h30, h31, true_and, and_true, Qbk] <;> rfl) | fail) only [go_sem, ↓reduceIte, h1, h5, h29, h30, h31, true_and, and_true, Qbk]
        rw [← hinv, show (dig x).length - (i + 1) = z by omega, Nat.mod_eq_of_lt hc]
        simp
  · obtain rfl : i = (dig x).length := by omega
    rw [List.take_length, Qr, Qr] at hv
    simp +decide (disch := first | omega | rfl | (simp +decide only [go_sem, ↓reduceIte, h5, Nat.sub_self, List.replicate_zero, List.append_nil] <;> rfl) | fail) only [go_sem, ↓reduceIte, h5, Nat.sub_self, List.replicate_zero, List.append_nil]
    refine Qes hP (Qax hlo (by omega)) (Qim rfl hlol.symm) rfl fun hp' => ?_
    simp +decide (disch := first | omega | rfl | (simp +decide only [go_sem, ↓reduceIte] <;> rfl) | fail) only [go_sem, ↓reduceIte]
    exact Qc (by rw [hv]) rfl
end Go.Proofs.YtjkbalanglgoiaaGreat
namespace Go.Proofs.YtjkbalanglgoiaaGreat
open Go Go.FW
set_option linter.unusedSimpArgs false
set_option linter.unusedVariables false
set_option maxRecDepth 100000
theorem Qum {pre w post v : List Nat} {j m : Nat} (hw : Qj w) (hv : Qj v) (hj : pre.length = j) (hm : w.length = m) (hle : v.length ≤ w.length) (hlen : (pre ++ (w ++ post)).length < 2 ^ 43) :
    Qh8 Tryz.prog 165 [.mso B0 j m, PV.nat v] 111 (Qau (pre ++ (w ++ post))) (fun r xs' => r = .tup [] ∧ xs' = Qau (pre ++ (Qeu w v 0 ++ post))) := by
  simp only [List.length_append] at hlen
  refine Qi5 Qk Tryz.func165 rfl Q63 (by simp [Q3l]) fun C hP => ?_; simp only [Q3l]
  simp +decide (disch := first | omega | rfl | (simp +decide only [go_sem, ↓reduceIte] <;> rfl) | fail) only [go_sem, ↓reduceIte]
  refine Qdi (fun k fr hp => ∃ i c done, k = w.length - i ∧ i ≤ w.length ∧ c ≤ 1 ∧ done.length = i ∧ done ++ Qeu (w.drop i) (v.drop i) c = Qeu w v 0 ∧
    fr 0 = .mso 1000000 j m ∧ fr 1 = PV.nat v ∧ fr 4 = .int .u32 c ∧ fr 7 = .int .i64 m ∧ fr 8 = .int .i64 i ∧ hp = Qs hp0 1000000 ⟨1, 111, Qau ((pre ++ done) ++ (w.drop i ++ post)), false⟩) w.length ?_ ?_
  · refine ⟨0, 0, [], rfl, by omega, by omega, rfl, rfl, ?_⟩
    simp +decide (disch := first | omega | rfl | (simp +decide only [go_sem, ↓reduceIte, true_and, and_true, List.append_nil, List.drop_zero] <;> rfl) | fail) only [go_sem, ↓reduceIte, true_and, and_true, List.append_nil, List.drop_zero]
    simp
  rintro _ fr _ ⟨i, c, done, rfl, hi, hc, hdl, hd, h0, h1, h4, h7, h8, rfl⟩
  simp +decide (disch := first | omega | rfl | (simp +decide only [go_sem, ↓reduceIte, h7, h8] <;> rfl) | fail) only [go_sem, ↓reduceIte, h7, h8]
  refine Qb (fun hg => ?_) (fun hg => ?_)
  · have hi' : i < w.length := by omega
    have hwi := Qae hw hi'
    rw [Qzy hi'] at hd
    have hpl : (pre ++ done).length = j + i := by simp [hj, hdl]
    rw [List.drop_eq_getElem_cons hi']
    generalize hww : w[i] = wi at *
    have hlt : j + i < ((pre ++ done) ++ wi :: (w.drop (i + 1) ++ post)).length := by simp; omega
    have hget := Qnq hpl hlt
    simp +decide (disch := first | omega | rfl | (simp +decide only [go_sem, ↓reduceIte, h0, h1, h4, h7, h8, List.cons_append, hget] <;> rfl) | fail) only [go_sem, ↓reduceIte, h0, h1, h4, h7, h8, List.cons_append, hget]
    refine Qb (fun hq => ?_) (fun hq => ?_)
    · have hq' : i < v.length := by omega
      have hvi := Qae hv hq'
      rw [Qa2 hq'] at hd
      simp +decide (disch := first | omega | rfl | (simp +decide only [go_sem, ↓reduceIte, h0, h1, h4, h7, h8, Qbk] <;> rfl) | fail) only [go_sem, ↓reduceIte, h0, h1, h4, h7, h8, Qbk]
      refine Qbj (m := w.length - (i + 1)) (by omega) ⟨i + 1, _, _, rfl, by omega, ?_, ?_, (List.append_cons ..).symm.trans hd, ?_⟩
      · omega
      · simp [hdl]
      · simp +decide (disch := first | omega | rfl | (simp +decide only [go_sem, ↓reduceIte, h0, h1, h4, h7, h8, true_and, and_true, Qbk] <;> rfl) | fail) only [go_sem, ↓reduceIte, h0, h1, h4, h7, h8, true_and, and_true, Qbk]
        simp
    · rw [Qa3 (by omega)] at hd
      simp +decide (disch := first | omega | rfl | (simp +decide only [go_sem, ↓reduceIte, h0, h1, h4, h7, h8, Qbk] <;> rfl) | fail) only [go_sem, ↓reduceIte, h0, h1, h4, h7, h8, Qbk]
      refine Qbj (m := w.length - (i + 1)) (by omega) ⟨i + 1, _, _, rfl, by omega, ?_, ?_, (List.append_cons ..).symm.trans hd, ?_⟩
      · omega
      · simp [hdl]
      · simp +decide (disch := first | omega | rfl | (simp +decide only [go_sem, ↓reduceIte, h0, h1, h4, h7, h8, true_and, and_true, Qbk] <;> rfl) | fail) only [go_sem, ↓reduceIte, h0, h1, h4, h7, h8, true_and, and_true, Qbk]
        simp
  · obtain rfl : i = w.length := by omega
    rw [List.drop_of_length_le (Nat.le_refl _), Qeu, List.append_nil] at hd
    simp +decide (disch := first | omega | rfl | (simp +decide only [go_sem, ↓reduceIte] <;> rfl) | fail) only [go_sem, ↓reduceIte]
    refine Q9j rfl (Qdk _) ?_ ⟨rfl, ?_⟩
    · simp [hdl]
    · rw [List.drop_of_length_le (Nat.le_refl _), hd]; simp
end Go.Proofs.YtjkbalanglgoiaaGreat
namespace Go.Proofs.YtjkbalanglgoiaaGreat
open Go Go.FW
set_option linter.unusedSimpArgs false
set_option linter.unusedVariables false
set_option maxRecDepth 100000
theorem Qsu {pre w post v : List Nat} {j m q : Nat} (hw : Qj w) (hv : Qj v) (hq : q < 65536) (hj : pre.length = j) (hm : w.length = m) (hle : v.length ≤ w.length) (hlen : (pre ++ (w ++ post)).length < 2 ^ 43) :
    Qh8 Tryz.prog 164 [.mso B0 j m, PV.nat v, .int .u32 q] 111 (Qau (pre ++ (w ++ post))) (fun r xs' => r = .bool (decide (0 < (Qce w v q 0 0).2.2)) ∧ xs' = Qau (pre ++ ((Qce w v q 0 0).1 ++ post))) := by
  simp only [List.length_append] at hlen
  refine Qi5 Qk Tryz.func164 rfl Q62 (by simp [Q3k]) fun C hP => ?_; simp only [Q3k]
  simp +decide (disch := first | omega | rfl | (simp +decide only [go_sem, ↓reduceIte] <;> rfl) | fail) only [go_sem, ↓reduceIte]
  refine Qdi (fun k fr hp => ∃ i c b done, k = w.length - i ∧ i ≤ w.length ∧ c < 65536 ∧ b ≤ 1 ∧ done.length = i ∧ done ++ (Qce (w.drop i) (v.drop i) q c b).1 = (Qce w v q 0 0).1 ∧ (Qce (w.drop i) (v.drop i) q c b).2 = (Qce w v q 0 0).2 ∧
    fr 0 = .mso 1000000 j m ∧ fr 1 = PV.nat v ∧ fr 2 = .int .u32 q ∧ fr 7 = .int .u32 c ∧ fr 8 = .int .i32 (b : Nat) ∧ fr 12 = .int .i64 m ∧ fr 13 = .int .i64 i ∧ hp = Qs hp0 1000000 ⟨1, 111, Qau ((pre ++ done) ++ (w.drop i ++ post)), false⟩) w.length ?_ ?_
  · refine ⟨0, 0, 0, [], rfl, by omega, by omega, by omega, rfl, rfl, rfl, ?_⟩
    simp +decide (disch := first | omega | rfl | (simp +decide only [go_sem, ↓reduceIte, true_and, and_true, List.append_nil, List.drop_zero] <;> rfl) | fail) only [go_sem, ↓reduceIte, true_and, and_true, List.append_nil, List.drop_zero]
    simp
  rintro _ fr _ ⟨i, c, b, done, rfl, hi, hc, hb, hdl, hd, hd2, h0, h1, h2, h7, h8, h12, h13, rfl⟩
  simp +decide (disch := first | omega | rfl | (simp +decide only [go_sem, ↓reduceIte, h12, h13] <;> rfl) | fail) only [go_sem, ↓reduceIte, h12, h13]
  refine Qb (fun hg => ?_) (fun hg => ?_)
  · have hi' : i < w.length := by omega
    have hwi := Qae hw hi'
    rw [Qzz hi'] at hd hd2
    simp only at hd hd2
    have hpl : (pre ++ done).length = j + i := by simp [hj, hdl]
    rw [List.drop_eq_getElem_cons hi']
    generalize hww : w[i] = wi at *
    have hlt : j + i < ((pre ++ done) ++ wi :: (w.drop (i + 1) ++ post)).length := by simp; omega
    have hget := Qnq hpl hlt
    simp +decide (disch := first | omega | rfl | (simp +decide only [go_sem, ↓reduceIte, h0, h1, h2, h7, h8, h12, h13, List.cons_append, hget] <;> rfl) | fail) only [go_sem, ↓reduceIte, h0, h1, h2, h7, h8, h12, h13, List.cons_append, hget]
    refine Qhg (fun fr hp => c + q * v.getD i 0 ≤ 4294967295 ∧ fr 0 = .mso 1000000 j m ∧ fr 1 = PV.nat v ∧ fr 2 = .int .u32 q ∧ fr 7 = .int .u32 (c + q * v.getD i 0 : Nat) ∧ fr 8 = .int .i32 (b : Nat) ∧ fr 9 = .int .i64 i ∧ fr 12 = .int .i64 m ∧ fr 13 = .int .i64 i ∧ hp = Qs hp0 1000000 ⟨1, 111, Qau ((pre ++ done) ++ wi :: (w.drop (i + 1) ++ post)), false⟩) ?_ ?_
    · refine Qb (fun hqv => ?_) (fun hqv => ?_)
      · have hq' : i < v.length := by omega
        have hvi := Qae hv hq'
        have hqv := Qdv hq hvi
        simp +decide (disch := first | omega | rfl | (simp +decide only [go_sem, ↓reduceIte, h0, h1, h2, h7, h8, h12, h13, Qa2 hq', true_and, and_true] <;> rfl) | fail) only [go_sem, ↓reduceIte, h0, h1, h2, h7, h8, h12, h13, Qa2 hq', true_and, and_true]
        omega
      · simp +decide (disch := first | omega | rfl | (simp +decide only [go_sem, ↓reduceIte, h0, h1, h2, h7, h8, h12, h13, true_and, and_true, Qa3 (by omega : ¬ i < v.length), Nat.mul_zero, Nat.add_zero] <;> rfl) | fail) only [go_sem, ↓reduceIte, h0, h1, h2, h7, h8, h12, h13, true_and, and_true, Qa3 (by omega : ¬ i < v.length), Nat.mul_zero, Nat.add_zero]
        omega
    clear h0 h1 h2 h7 h8 h12 h13
    rintro fr _ ⟨hc1, h0, h1, h2, h7, h8, h9, h12, h13, rfl⟩
    generalize c + q * v.getD i 0 = c1 at *
    simp +decide (disch := first | omega | rfl | (simp +decide only [go_sem, ↓reduceIte, h0, h1, h2, h7, h8, h9, h12, h13, hget] <;> rfl) | fail) only [go_sem, ↓reduceIte, h0, h1, h2, h7, h8, h9, h12, h13, hget]
    refine Qhg (fun fr hp => fr 0 = .mso 1000000 j m ∧ fr 1 = PV.nat v ∧ fr 2 = .int .u32 q ∧ fr 7 = .int .u32 (c1 / 65536 : Nat) ∧ fr 8 = .int .i32 ((if wi < c1 % 65536 + b then 1 else 0) : Nat) ∧ fr 9 = .int .i64 i ∧ fr 10 = .int .i32 ((wi + 65536 - c1 % 65536 - b) % 65536 : Nat) ∧ fr 12 = .int .i64 m ∧ fr 13 = .int .i64 i ∧ hp = Qs hp0 1000000 ⟨1, 111, Qau ((pre ++ done) ++ wi :: (w.drop (i + 1) ++ post)), false⟩) ?_ ?_
    · refine Qb (fun hq => ?_) (fun hq => ?_)
      · rw [if_pos (by omega)]
        simp +decide (disch := first | omega | rfl | (simp +decide only [go_sem, ↓reduceIte, h0, h1, h2, h7, h8, h9, h12, h13, true_and, and_true] <;> rfl) | fail) only [go_sem, ↓reduceIte, h0, h1, h2, h7, h8, h9, h12, h13, true_and, and_true]
        simp; omega
      · rw [if_neg (by omega)]
        simp +decide (disch := first | omega | rfl | (simp +decide only [go_sem, ↓reduceIte, h0, h1, h2, h7, h8, h9, h12, h13, true_and, and_true] <;> rfl) | fail) only [go_sem, ↓reduceIte, h0, h1, h2, h7, h8, h9, h12, h13, true_and, and_true]
        simp; omega
    clear h0 h1 h2 h7 h8 h9 h12 h13
    rintro fr _ ⟨h0, h1, h2, h7, h8, h9, h10, h12, h13, rfl⟩
    simp +decide (disch := first | omega | rfl | (simp +decide only [go_sem, ↓reduceIte, h0, h1, h2, h7, h8, h9, h10, h12, h13, Qbk] <;> rfl) | fail) only [go_sem, ↓reduceIte, h0, h1, h2, h7, h8, h9, h10, h12, h13, Qbk]
    refine Qbj (m := w.length - (i + 1)) (by omega) ⟨i + 1, c1 / 65536, _, _, rfl, by omega, by omega, ?_, ?_, (List.append_cons ..).symm.trans hd, hd2, ?_⟩
    · split <;> omega
    · simp [hdl]
    · simp +decide (disch := first | omega | rfl | (simp +decide only [go_sem, ↓reduceIte, h0, h1, h2, h7, h8, h9, h10, h12, h13, true_and, and_true, Qbk, Nat.mod_mod] <;> rfl) | fail) only [go_sem, ↓reduceIte, h0, h1, h2, h7, h8, h9, h10, h12, h13, true_and, and_true, Qbk, Nat.mod_mod]
      simp
  · obtain rfl : i = w.length := by omega
    rw [List.drop_of_length_le (Nat.le_refl _), Qce] at hd hd2
    simp only [List.append_nil] at hd
    simp +decide (disch := first | omega | rfl | (simp +decide only [go_sem, ↓reduceIte, h8] <;> rfl) | fail) only [go_sem, ↓reduceIte, h8]
    refine Qz0 (p := .bool (decide (0 < (b : Int)))) rfl (Qdk _) ?_ (by simp +decide (disch := first | omega | rfl | (simp +decide only [go_sem, ↓reduceIte] <;> rfl) | fail) only [go_sem, ↓reduceIte]) rfl ⟨?_, ?_⟩
    · simp [hdl]
    · rw [← hd2]; simp
    · rw [List.drop_of_length_le (Nat.le_refl _), hd]; simp
end Go.Proofs.YtjkbalanglgoiaaGreat
namespace Go.Proofs.YtjkbalanglgoiaaGreat
open Go Go.FW
set_option linter.unusedSimpArgs false
set_option linter.unusedVariables false
set_option maxRecDepth 100000
theorem Qsv {v u : List Nat} {dg n r j : Nat} (hv : Qj v) (hu : Qj u) (hn : 2 ≤ n) (hnv : n = v.length) (hju : j + n < u.length) (hd : dg < 4294967296) (hr : r < 65536) (hul : u.length < 2 ^ 43) :
    Qd Tryz.prog 163 [.pt [.int .u64 dg], .pt [PV.nat v], .pt [.int .i64 n], .pt [.int .u64 r], .pt [PV.nat u], .pt [.int .i64 j]]
      (· = .bool (decide (65536 ≤ dg ∨ r * 65536 + u.getD (j + n - 2) 0 < dg * v.getD (n - 2) 0))) := by
  have h1 : n - 2 < v.length := by omega
  have h2 : j + n - 2 < u.length := by omega
  have hv1 := Qae hv h1
  have hu1 := Qae hu h2
  rw [Qa2 h1, Qa2 h2]
  refine Qf Qk Tryz.func163 rfl Q61 (by simp [Q3j]) fun C hP => ?_; simp only [Q3j]
  simp +decide (disch := first | omega | rfl | (simp +decide only [go_sem, ↓reduceIte] <;> rfl) | fail) only [go_sem, ↓reduceIte]
  refine Qad (fun hz => ?_) (fun hz => ?_)
  · simp +decide (disch := first | omega | rfl | (simp +decide only [go_sem, ↓reduceIte] <;> rfl) | fail) only [go_sem, ↓reduceIte]
    exact Qc (by simp; omega) rfl
  · have hd' : dg < 65536 := by omega
    have e1 : (n : Int) - 2 = ((n - 2 : Nat) : Int) := by omega
    have e2 : ((j + n : Nat) : Int) - 2 = ((j + n - 2 : Nat) : Int) := by omega
    generalize hvv : v[n - 2] = vi at *
    generalize huu : u[j + n - 2] = ui at *
    have hm := Qdv hd' hv1
    simp +decide (disch := first | omega | rfl | (simp +decide only [go_sem, ↓reduceIte, e1, e2, hvv, huu, Qi7, Qk4] <;> rfl) | fail) only [go_sem, ↓reduceIte, e1, e2, hvv, huu, Qi7, Qk4]
    exact Qc (congrArg PV.bool (decide_eq_decide.2 ⟨fun h => .inr (by omega), fun h => by rcases h with h | h <;> omega⟩)) rfl
end Go.Proofs.YtjkbalanglgoiaaGreat
namespace Go.Proofs.YtjkbalanglgoiaaGreat
open Go Go.FW
set_option linter.unusedSimpArgs false
set_option linter.unusedVariables false
set_option maxRecDepth 100000
theorem Qx8 {l post : List Nat} (hv : Qj l) (hl : (l ++ post).length < 2 ^ 43) (hlen : 0 < l.length) :
    Qh8 Tryz.prog 122 [.mso B0 0 l.length] 111 (Qau (l ++ post)) (fun r xs' => r = .mso B0 0 (nl (val l)) ∧ xs' = Qau (l ++ post)) := by
  simp only [List.length_append] at hl
  have hlen2 : l.length ≤ (l ++ post).length := by simp
  refine Qi5 Qk Tryz.func122 rfl Qw0 (by simp [Quk]) fun C hP => ?_; simp only [Quk]
  simp +decide (disch := first | omega | rfl | (simp +decide only [go_sem, ↓reduceIte] <;> rfl) | fail) only [go_sem, ↓reduceIte]
  refine Qdi (fun m fr hp => m ≤ l.length ∧ cut l m = dig (val l) ∧ fr 0 = .mso 1000000 0 l.length ∧ fr 3 = .int .i64 m ∧ hp = Qs hp0 1000000 ⟨1, 111, Qau (l ++ post), false⟩) l.length ?_ ?_
  · exact ⟨Nat.le_refl _, Qj9 hv, rfl, rfl, rfl⟩
  rintro n fr _ ⟨hn, hc, h0, h3, rfl⟩
  simp +decide (disch := first | omega | rfl | (simp +decide only [go_sem, ↓reduceIte, h0, h3] <;> rfl) | fail) only [go_sem, ↓reduceIte, h0, h3]
  refine Qaj (fun hg => ?_) (fun hg => ?_)
  · obtain _ | n := n
    · omega
    have e : ((n + 1 : Nat) : Int) - 1 = n := by omega
    have hlt : n < (l ++ post).length := by simp; omega
    have hget : (l ++ post)[n] = l[n] := by simp [List.getElem_append, show n < l.length by omega]
    simp +decide (disch := first | omega | rfl | (simp +decide only [go_sem, ↓reduceIte, h0, h3, e, hget] <;> rfl) | fail) only [go_sem, ↓reduceIte, h0, h3, e, hget]
    simp only [cut] at hc
    refine Qb (fun hz => ?_) (fun hz => ?_)
    · rw [if_pos (by grind)] at hc
      simp +decide (disch := first | omega | rfl | (simp +decide only [go_sem, ↓reduceIte, h0, h3, e] <;> rfl) | fail) only [go_sem, ↓reduceIte, h0, h3, e]
      refine Qbj (m := n) (by omega) ⟨by omega, hc, ?_⟩
      simp +decide (disch := first | omega | rfl | (simp +decide only [go_sem, ↓reduceIte, h0, true_and, and_true] <;> rfl) | fail) only [go_sem, ↓reduceIte, h0, true_and, and_true]
    · rw [if_neg (by grind)] at hc
      have hnl : nl (val l) = n + 1 := by rw [nl, ← hc]; simp; omega
      simp +decide (disch := first | omega | rfl | (simp +decide only [go_sem, ↓reduceIte, h0, h3] <;> rfl) | fail) only [go_sem, ↓reduceIte, h0, h3]
      exact Qwm rfl (Qdk _) (by simp) (by simp +decide (disch := first | omega | rfl | (simp +decide only [go_sem, ↓reduceIte, hnl] <;> rfl) | fail) only [go_sem, ↓reduceIte, hnl]) ⟨rfl, rfl⟩
  · obtain rfl : n = 0 := by omega
    have hnl : nl (val l) = 0 := by rw [nl, ← hc, cut]; rfl
    simp +decide (disch := first | omega | rfl | (simp +decide only [go_sem, ↓reduceIte, h0, h3] <;> rfl) | fail) only [go_sem, ↓reduceIte, h0, h3]
    exact Qwm rfl (Qdk _) (by simp) (by simp +decide (disch := first | omega | rfl | (simp +decide only [go_sem, ↓reduceIte, hnl] <;> rfl) | fail) only [go_sem, ↓reduceIte, hnl]) ⟨rfl, rfl⟩
end Go.Proofs.YtjkbalanglgoiaaGreat
namespace Go.Proofs.YtjkbalanglgoiaaGreat
open Go Go.FW
set_option linter.unusedSimpArgs false
set_option linter.unusedVariables false
set_option maxRecDepth 100000
theorem Qjr {a : List Nat} {s : Nat} (ha : Qj a) (hla : a.length < 2 ^ 40) (hs : s ≤ 15) (hne : val a ≠ 0) : Qkb Tryz.prog 126 [PV.nat a, .int .i64 s] 111 (fun ys => ys = Qau (dig (val a * 2 ^ s))) := by
  have hda := Qag ha
  unfold nl at hda
  have hnz : (dig (val a)).length ≠ 0 := by
    intro h; exact hne (Qbf.1 (Qcd h))
  refine Qzw Qk Tryz.func126 rfl Qrk (by simp [Qo8]) fun C hP => ?_; simp only [Qo8]
  simp +decide (disch := first | omega | rfl | (simp +decide only [go_sem, ↓reduceIte] <;> rfl) | fail) only [go_sem, ↓reduceIte]
  refine Qa hP (Qax ha (by omega)) rfl rfl rfl ?_
  simp +decide (disch := first | omega | rfl | (simp +decide only [go_sem, ↓reduceIte] <;> rfl) | fail) only [go_sem, ↓reduceIte]
  generalize val a = x at *
  have hxl := Qi x
  have e1 : s / 16 = 0 := Nat.div_eq_of_lt (by omega)
  have e2 : s % 16 = s := Nat.mod_eq_of_lt (by omega)
  refine Qad (fun hz => by omega) (fun hz => ?_)
  simp +decide (disch := first | omega | rfl | (simp +decide only [go_sem, ↓reduceIte] <;> rfl) | fail) only [go_sem, ↓reduceIte]
  refine Qad (fun hz => by omega) (fun hz => ?_)
  simp +decide (disch := first | omega | rfl | (simp +decide only [go_sem, ↓reduceIte] <;> rfl) | fail) only [go_sem, ↓reduceIte]
  refine Qb (fun hz => by omega) (fun hz => ?_)
  simp +decide (disch := first | omega | rfl | (simp +decide only [go_sem, ↓reduceIte] <;> rfl) | fail) only [go_sem, ↓reduceIte]
  refine Qb (fun hz => by omega) (fun hz => ?_)
  simp +decide (disch := first | omega | rfl | (simp +decide only [go_sem, ↓reduceIte, Qi9, Qja, e1, e2] <;> rfl) | fail) only [go_sem, ↓reduceIte, Qi9, Qja, e1, e2]
  refine Qdi (fun k fr hp => ∃ i c done, k = (dig x).length - i ∧ i ≤ (dig x).length ∧ c < 2 ^ s ∧ done.length = i ∧ done ++ Qgu s ((dig x).drop i) c = Qgu s (dig x) 0 ∧
    fr 5 = .int .i64 (0 : Nat) ∧ fr 6 = .int .i64 s ∧ fr 7 = .ms 44 ((dig x).length + 1) ∧ fr 45 = PV.num x ∧ fr 46 = .int .i64 (dig x).length ∧ fr 47 = .int .i64 i ∧
    hp = Qs hp0 44 ⟨1, 111, Qau (done ++ c :: List.replicate ((dig x).length - i) 0), false⟩) (dig x).length ?_ ?_
  · refine ⟨0, 0, [], rfl, by omega, Nat.pow_pos (by omega), rfl, rfl, ?_⟩
    simp +decide (disch := first | omega | rfl | (simp +decide only [go_sem, ↓reduceIte, true_and, and_true, List.nil_append, Nat.sub_zero] <;> rfl) | fail) only [go_sem, ↓reduceIte, true_and, and_true, List.nil_append, Nat.sub_zero]
    simp [List.replicate_succ]
  rintro _ fr _ ⟨i, c, done, rfl, hi, hc, hdl, hd, h5, h6, h7, h45, h46, h47, rfl⟩
  simp +decide (disch := first | omega | rfl | (simp +decide only [go_sem, ↓reduceIte, h45, h46, h47] <;> rfl) | fail) only [go_sem, ↓reduceIte, h45, h46, h47]
  have hp15 : 2 ^ s ≤ 2 ^ 15 := Nat.pow_le_pow_right (by omega) hs
  refine Qb (fun hg => ?_) (fun hg => ?_)
  · have hi' : i < (dig x).length := by omega
    have hxi := Qae hxl hi'
    rw [List.drop_eq_getElem_cons hi', Qgu] at hd
    generalize hxx : (dig x)[i] = xi at *
    obtain ⟨z, hz⟩ : ∃ z, (dig x).length - i = z + 1 := ⟨(dig x).length - i - 1, by omega⟩
    have hlt : i < (done ++ c :: List.replicate (z + 1) 0).length := by simp; omega
    have hget := Qnq hdl hlt
    have hsp := Qt4 (x := xi) (show s ≤ 16 by omega) hc
    have hcl := Qr2 (show s ≤ 16 by omega) hxi
    have hl := Q9k hs hxi
    simp +decide (disch := first | omega | rfl | (simp +decide only [go_sem, ↓reduceIte, h5, h6, h7, h45, h46, h47, hxx, hz, hget, Qra, Qz2, hsp.2, Qbk] <;> rfl) | fail) only [go_sem, ↓reduceIte, h5, h6, h7, h45, h46, h47, hxx, hz, hget, Qra, Qz2, hsp.2, Qbk]
    have hset : ∀ v u, (done ++ v :: List.replicate (z + 1) 0).set (i + 1) u = (done ++ [v]) ++ u :: List.replicate z 0 := fun v u => by
      rw [List.append_cons, List.replicate_succ, Qbk (by simp [hdl])]
    rw [Qzo (by simp; omega), hset, Nat.mod_eq_of_lt (by omega : xi * 2 ^ s / 65536 < 65536)]
    simp +decide (disch := first | omega | rfl | (simp +decide only [go_sem, ↓reduceIte, h5, h6, h7, h45, h46, h47] <;> rfl) | fail) only [go_sem, ↓reduceIte, h5, h6, h7, h45, h46, h47]
    refine Qbj (m := (dig x).length - (i + 1)) (by omega) ⟨i + 1, xi * 2 ^ s / 65536, done ++ [xi * 2 ^ s % 65536 + c], rfl, by omega, hcl, by simp [hdl], (List.append_cons ..).symm.trans hd, ?_⟩
    simp +decide (disch := first | omega | rfl | (simp +decide only [go_sem, ↓reduceIte, h5, h6, h7, h45, h46, h47, true_and, and_true] <;> rfl) | fail) only [go_sem, ↓reduceIte, h5, h6, h7, h45, h46, h47, true_and, and_true]
    rw [show (dig x).length - (i + 1) = z by omega]
  · obtain rfl : i = (dig x).length := by omega
    rw [List.drop_of_length_le (Nat.le_refl _), Qgu] at hd
    have hlim := Qp4 hs (dig x) 0 hxl (Nat.pow_pos (by omega))
    have hvs := Qt3 s (dig x) 0
    have hln := Qob s (dig x) 0
    rw [Qr, Nat.add_zero] at hvs
    rw [← hd] at hlim hvs hln
    have hnz2 : x * 2 ^ s ≠ 0 := Nat.mul_ne_zero hne (Nat.ne_of_gt (Nat.pow_pos (by omega)))
    simp +decide (disch := first | omega | rfl | (simp +decide only [go_sem, ↓reduceIte, h7, Nat.sub_self, List.replicate_zero] <;> rfl) | fail) only [go_sem, ↓reduceIte, h7, Nat.sub_self, List.replicate_zero]
    have ht := Qx8 (l := done ++ [c]) (post := []) hlim (by simp [hdl]; omega) (by simp)
    rw [List.append_nil, hvs] at ht
    refine Qpz hP ht (β := 44) (by simp +decide (disch := first | omega | rfl | (simp +decide only [go_sem, ↓reduceIte] <;> rfl) | fail) only [go_sem, ↓reduceIte]) (Qdk _) (by simp) (by simp [toB, hln]) rfl ?_
    rintro r xs' _ _ ⟨rfl, rfl⟩
    simp +decide (disch := first | omega | rfl | (simp +decide only [go_sem, ↓reduceIte, Qe4] <;> rfl) | fail) only [go_sem, ↓reduceIte, Qe4]
    refine ⟨4, 44, nl (x * 2 ^ s), _, rfl, by simp +decide (disch := first | omega | rfl | (simp +decide only [go_sem, ↓reduceIte] <;> rfl) | fail) only [go_sem, ↓reduceIte], rfl, by simp +decide (disch := first | omega | rfl | (simp +decide only [go_sem, ↓reduceIte] <;> rfl) | fail) only [go_sem, ↓reduceIte]; rfl, Qdk _, ?_, ?_⟩
    · have := @Qf7 (x * 2 ^ s); omega
    · rw [← hvs, ← List.map_take, Q2m hlim]
end Go.Proofs.YtjkbalanglgoiaaGreat
namespace Go.Proofs.YtjkbalanglgoiaaGreat
open Go Go.FW
set_option linter.unusedSimpArgs false
set_option linter.unusedVariables false
set_option maxRecDepth 100000
theorem Qx9 {a : List Nat} {s : Nat} (ha : Qj a) (hla : a.length < 2 ^ 42) (hs : s ≤ 15) : Qd Tryz.prog 162 [PV.nat a, .int .i64 s] (· = PV.num (val a / 2 ^ s)) := by
  have e1 : s / 16 = 0 := Nat.div_eq_of_lt (by omega)
  have e2 : s % 16 = s := Nat.mod_eq_of_lt (by omega)
  refine Qf Qk Tryz.func162 rfl Q64 (by simp [Q3m]) fun C hP => ?_; simp only [Q3m]
  simp +decide (disch := first | omega | rfl | (simp +decide only [go_sem, ↓reduceIte, Qi9, Qja, e1, e2] <;> rfl) | fail) only [go_sem, ↓reduceIte, Qi9, Qja, e1, e2]
  refine Qb (fun hz => ?_) (fun hz => ?_)
  · have : a = [] := List.length_eq_zero_iff.1 (by omega)
    subst this
    simp +decide (disch := first | omega | rfl | (simp +decide only [go_sem, ↓reduceIte] <;> rfl) | fail) only [go_sem, ↓reduceIte]
    exact Qcl (Qka (by simp [val])) rfl
  have e3 : ((a.length : Int) - ((0 : Nat) : Int)) = ((a.length : Nat) : Int) := by omega
  simp +decide (disch := first | omega | rfl | (simp +decide only [go_sem, ↓reduceIte, e3] <;> rfl) | fail) only [go_sem, ↓reduceIte, e3]
  refine Qz (by repeat (first | exact Qv | exact Qp | exact Qq | apply Qo | apply Qu | apply Q2 | apply Q5 | apply Q6 | apply Qm)) [(8, 9), (25, 60)] [] (fun k J hp => ∃ i done, k = a.length - i ∧ i ≤ a.length ∧ done.length = i ∧ done ++ Qga s (a.drop i) = Qga s a ∧ J 25 = .int .i64 i ∧
    hp = Qs hp0 22 ⟨1, 111, Qau (done ++ List.replicate (a.length - i) 0), false⟩) a.length ?_ ?_
  · refine ⟨0, [], rfl, by omega, rfl, rfl, ?_⟩
    simp +decide (disch := first | omega | rfl | (simp +decide only [go_sem, ↓reduceIte, true_and, and_true, List.nil_append, Nat.sub_zero] <;> rfl) | fail) only [go_sem, ↓reduceIte, true_and, and_true, List.nil_append, Nat.sub_zero]
    simp
  rintro _ J _ ⟨i, done, rfl, hi, hdl, hd, h25, rfl⟩
  simp +decide (disch := first | omega | rfl | (simp +decide only [go_sem, ↓reduceIte, h25] <;> rfl) | fail) only [go_sem, ↓reduceIte, h25]
  refine Qb (fun hg => ?_) (fun hg => ?_)
  · have hi' : i < a.length := by omega
    have hai := Qae ha hi'
    rw [Qz6 hi'] at hd
    generalize hxx : a[i] = xi at *
    have hlen := Qo2 (n := a.length - i) hdl (by omega : _ = a.length)
    simp +decide (disch := first | omega | rfl | (simp +decide only [go_sem, ↓reduceIte, h25, hxx] <;> rfl) | fail) only [go_sem, ↓reduceIte, h25, hxx]
    refine Qb (fun hq => ?_) (fun hq => ?_)
    · have hq' : i + 1 < a.length := by omega
      have haj := Qae ha hq'
      rw [Qa2 hq'] at hd
      simp +decide (disch := first | omega | rfl | (simp +decide only [go_sem, ↓reduceIte, h25, Qi8, Qr1, Qns] <;> rfl) | fail) only [go_sem, ↓reduceIte, h25, Qi8, Qr1, Qns]
      refine Ql (a.length - (i + 1)) (by omega) ⟨i + 1, _, rfl, by omega, by simp [hdl], (List.append_cons ..).symm.trans hd, ?_⟩
      simp +decide (disch := first | omega | rfl | (simp +decide only [go_sem, ↓reduceIte, h25, true_and, and_true, Qdj, Nat.sub_sub] <;> rfl) | fail) only [go_sem, ↓reduceIte, h25, true_and, and_true, Qdj, Nat.sub_sub]
    · rw [Qa3 (by omega), Nat.zero_mul, Nat.zero_add] at hd
      simp +decide (disch := first | omega | rfl | (simp +decide only [go_sem, ↓reduceIte, h25, Qns] <;> rfl) | fail) only [go_sem, ↓reduceIte, h25, Qns]
      refine Ql (a.length - (i + 1)) (by omega) ⟨i + 1, _, rfl, by omega, by simp [hdl], (List.append_cons ..).symm.trans hd, ?_⟩
      simp +decide (disch := first | omega | rfl | (simp +decide only [go_sem, ↓reduceIte, h25, true_and, and_true, Qdj, Nat.sub_sub] <;> rfl) | fail) only [go_sem, ↓reduceIte, h25, true_and, and_true, Qdj, Nat.sub_sub]
  · obtain rfl : i = a.length := by omega
    rw [List.drop_of_length_le (Nat.le_refl _), Qga, List.append_nil] at hd
    simp +decide (disch := first | omega | rfl | (simp +decide only [go_sem, ↓reduceIte, Nat.sub_self, List.replicate_zero, List.append_nil] <;> rfl) | fail) only [go_sem, ↓reduceIte, Nat.sub_self, List.replicate_zero, List.append_nil]
    rw [hd]
    refine Qes hP (Qax (Qp5 s a) (by rw [Qjn]; exact hla)) (Qim rfl (Qjn s a).symm) rfl fun hp' => ?_
    simp +decide (disch := first | omega | rfl | (simp +decide only [go_sem, ↓reduceIte] <;> rfl) | fail) only [go_sem, ↓reduceIte]
    exact Qc (by rw [Qt6 (by omega) a ha]) rfl
theorem Qvw {x V d q : Nat} (hd : 0 < d) (h : q = V / d) : (V % d * 65536 + x) / d + 65536 * q = (x + 65536 * V) / d ∧ (V % d * 65536 + x) % d = (x + 65536 * V) % d := by
  subst h
  have e : x + 65536 * V = (V % d * 65536 + x) + d * (65536 * (V / d)) := by
    have := Nat.div_add_mod V d
    calc x + 65536 * V = x + 65536 * (d * (V / d) + V % d) := by rw [this]
      _ = _ := by rw [Nat.mul_add, Nat.mul_left_comm]; omega
  rw [e, Nat.add_mul_div_left _ _ hd, Nat.add_mul_mod_self_left]
  exact ⟨rfl, rfl⟩
theorem Qvx {a : List Nat} {d : Nat} (ha : Qj a) (hla : a.length < 2 ^ 42) (hd : 0 < d) (hd2 : d < 65536) : Qd Tryz.prog 124 [PV.nat a, .int .u16 d] (· = .tup [PV.num (val a / d), .int .u16 (val a % d : Nat)]) := by
  refine Qf Qk Tryz.func124 rfl Q60 (by simp [Q3i]) fun C hP => ?_; simp only [Q3i]
  simp +decide (disch := first | omega | rfl | (simp +decide only [go_sem, ↓reduceIte] <;> rfl) | fail) only [go_sem, ↓reduceIte]
  refine Qz (by repeat (first | exact Qv | exact Qp | exact Qq | apply Qo | apply Qu | apply Q2 | apply Q5 | apply Q6 | apply Qm)) [(7, 8), (15, 38)] [] (fun k J hp => ∃ qs, k ≤ a.length ∧ qs.length = a.length - k ∧ Qj qs ∧ val qs = val (a.drop k) / d ∧ J 7 = .int .u32 (val (a.drop k) % d : Nat) ∧ J 8 = .int .i64 ((k : Int) - 1) ∧
    hp = Qs hp0 11 ⟨1, 111, Qau (List.replicate k 0 ++ qs), false⟩) a.length ?_ ?_
  · refine ⟨[], Nat.le_refl _, by simp, Qb8, by simp [val], ?_⟩
    simp +decide (disch := first | omega | rfl | (simp +decide only [go_sem, ↓reduceIte, true_and, and_true] <;> rfl) | fail) only [go_sem, ↓reduceIte, true_and, and_true]
    simp [val]
  rintro k J _ ⟨qs, hk, hql, hqs, hv, h7, h8, rfl⟩
  simp +decide (disch := first | omega | rfl | (simp +decide only [go_sem, ↓reduceIte, h7, h8] <;> rfl) | fail) only [go_sem, ↓reduceIte, h7, h8]
  have hr := Nat.mod_lt (val (a.drop k)) hd
  refine Qb (fun hg => ?_) (fun hg => ?_)
  · obtain _ | n := k
    · omega
    have hn : n < a.length := by omega
    have han := Qae ha hn
    have e : ((n + 1 : Nat) : Int) - 1 = n := by omega
    have hst := Qvw (x := a[n]) hd hv
    rw [← Qb6 hn] at hst
    have hlt : (val (a.drop (n + 1)) % d * 65536 + a[n]) / d < 65536 := by
      rw [Nat.div_lt_iff_lt_mul hd]
      have : (val (a.drop (n + 1)) % d + 1) * 65536 ≤ d * 65536 := Nat.mul_le_mul_right _ hr
      omega
    generalize hxx : a[n] = xn at *
    generalize val (a.drop (n + 1)) % d = r at *
    have hlen : n < (List.replicate (n + 1) 0 ++ qs).length := by simp; omega
    simp +decide (disch := first | omega | rfl | (simp +decide only [go_sem, ↓reduceIte, h7, h8, e, hxx, Qi8, Qt2, Qwn, Qcz] <;> rfl) | fail) only [go_sem, ↓reduceIte, h7, h8, e, hxx, Qi8, Qt2, Qwn, Qcz]
    refine Ql n (by omega) ⟨(r * 65536 + xn) / d :: qs, by omega, ?_, ?_, ?_, ?_⟩
    · simp; omega
    · rw [Qap]; exact ⟨hlt, hqs⟩
    · rw [val, hst.1]
    · simp +decide (disch := first | omega | rfl | (simp +decide only [go_sem, ↓reduceIte, h7, h8, true_and, and_true, hst.2] <;> rfl) | fail) only [go_sem, ↓reduceIte, h7, h8, true_and, and_true, hst.2]
      rw [Nat.mod_eq_of_lt hlt, List.replicate_succ', List.append_assoc, List.singleton_append, Qbk (by simp)]
  · obtain rfl : k = 0 := by omega
    rw [List.drop_zero] at hv h7
    have hlt := Nat.mod_lt (val a) hd
    simp +decide (disch := first | omega | rfl | (simp +decide only [go_sem, ↓reduceIte, h7, h8, List.replicate_zero, List.nil_append] <;> rfl) | fail) only [go_sem, ↓reduceIte, h7, h8, List.replicate_zero, List.nil_append]
    refine Qes hP (Qax hqs (by omega)) (Qim rfl (by omega)) rfl fun hp' => ?_
    simp +decide (disch := first | omega | rfl | (simp +decide only [go_sem, ↓reduceIte, h7] <;> rfl) | fail) only [go_sem, ↓reduceIte, h7]
    refine Qco rfl rfl rfl (Qet (by rw [hv])) (Qet ?_)
    rw [Nat.mod_eq_of_lt (by omega)]
end Go.Proofs.YtjkbalanglgoiaaGreat
namespace Go.Proofs.YtjkbalanglgoiaaGreat
open Go Go.FW
set_option linter.unusedSimpArgs false
set_option linter.unusedVariables false
set_option maxRecDepth 100000
theorem Qqg {x : Nat} (h : x < 65536) : Qd Tryz.prog 161 [.int .u16 x] (· = .int .i64 (Lib.bitLen x : Nat)) :=
  Qvr (by simp [Qms]; exact ⟨rfl, by decide⟩) (fun w => Qvy x w (by omega) (by omega)) (fun _ _ => Qy.int _ _)
theorem Qjs {x : Nat} (h : x < 65536) : Lib.bitLen x ≤ 16 := Lib.bitLen_le x 16 (by omega) (by omega)
theorem Qll {x : Nat} (h : x < 65536) (h0 : x ≠ 0) : 1 ≤ Lib.bitLen x := by
  have := Lib.bitLen_half x h0 (by omega); omega
theorem Qvz : Lib.bitLen 0 = 0 := by decide
theorem Qya : ∀ (n x : Nat), Lib.bitLen x = n → x ≠ 0 → x < 65536 → 2 ^ n ≤ 2 * x ∧ x < 2 ^ n := by
  intro n
  induction n with
  | zero => intro x h h0 hx; have := Qll hx h0; omega
  | succ n ih =>
    intro x h h0 hx
    have e := Lib.bitLen_half x h0 (by omega)
    by_cases h2 : x / 2 = 0
    · have : x = 1 := by omega
      subst this
      have : n = 0 := by rw [h] at e; simp [Qvz] at e; exact e
      subst this; simp
    · have := ih (x / 2) (by omega) h2 (by omega)
      rw [Nat.pow_succ]; omega
theorem Qmh {x : Nat} (h : x < 65536) : Qd Tryz.prog 125 [.int .u16 x] (· = .int .i64 (16 - Lib.bitLen x : Nat)) := by
  have := Qjs h
  refine Qf Qk Tryz.func125 rfl Q65 (by simp [Q3n]) fun C hP => ?_; simp only [Q3n]
  simp +decide (disch := first | omega | rfl | (simp +decide only [go_sem, ↓reduceIte] <;> rfl) | fail) only [go_sem, ↓reduceIte]
  refine Qa hP (Qqg h) rfl rfl rfl ?_
  simp +decide (disch := first | omega | rfl | (simp +decide only [go_sem, ↓reduceIte] <;> rfl) | fail) only [go_sem, ↓reduceIte]
  exact Qc (by congr 1; omega) rfl
theorem Qsb {a : List Nat} (ha : Qj a) (hla : a.length < 2 ^ 40) : Qd Tryz.prog 158 [PV.nat a] (fun r => ∃ n : Nat, r = .int .i64 n ∧ (n = 0 ↔ val a = 0)) := by
  have hd := Qag ha
  unfold nl at hd
  refine Qf Qk Tryz.func158 rfl Q6w (by simp [Q3e]) fun C hP => ?_; simp only [Q3e]
  simp +decide (disch := first | omega | rfl | (simp +decide only [go_sem, ↓reduceIte] <;> rfl) | fail) only [go_sem, ↓reduceIte]
  refine Qa hP (Qax ha (by omega)) rfl rfl rfl ?_
  simp +decide (disch := first | omega | rfl | (simp +decide only [go_sem, ↓reduceIte] <;> rfl) | fail) only [go_sem, ↓reduceIte]
  refine Qb (fun hz => ?_) (fun hz => ?_)
  · simp +decide (disch := first | omega | rfl | (simp +decide only [go_sem, ↓reduceIte] <;> rfl) | fail) only [go_sem, ↓reduceIte]
    have : val a = 0 := Qbf.1 (List.length_eq_zero_iff.1 (by omega))
    exact ⟨rfl, _, Qt _, 0, rfl, by simp [this]⟩
  · have hne : val a ≠ 0 := fun h => by rw [h, Qat] at hz; simp at hz
    have hlast := Qo1 (val a)
    have hlx := Qi (val a)
    generalize val a = x at *
    obtain ⟨k, hk⟩ : ∃ k, (dig x).length = k + 1 := ⟨(dig x).length - 1, by omega⟩
    have hlt : k < (dig x).length := by omega
    have hxk := Qae hlx hlt
    have hnz : (dig x)[k] ≠ 0 := by
      intro h; apply hlast
      rw [List.getLast?_eq_getElem?, hk, Nat.add_sub_cancel, List.getElem?_eq_getElem hlt, h]
    have e : ((k + 1 : Nat) : Int) - 1 = k := by omega
    generalize hxx : (dig x)[k] = xi at *
    have hb := Qjs hxk
    have hb1 := Qll hxk hnz
    simp +decide (disch := first | omega | rfl | (simp +decide only [go_sem, ↓reduceIte, hk, e, hxx] <;> rfl) | fail) only [go_sem, ↓reduceIte, hk, e, hxx]
    refine Qa hP (Qqg hxk) rfl rfl rfl ?_
    have e2 : (16 : Int) * (k : Int) = ((16 * k : Nat) : Int) := by omega
    simp +decide (disch := first | omega | rfl | (simp +decide only [go_sem, ↓reduceIte, e2] <;> rfl) | fail) only [go_sem, ↓reduceIte, e2]
    exact ⟨rfl, _, Qt _, 16 * k + Lib.bitLen xi, rfl, by omega⟩
theorem Qab9 (i : Nat) : 2 ^ (16 * i) = 65536 ^ i := by rw [Nat.pow_mul]
theorem Qm5 {a : List Nat} (ha : Qj a) (hla : a.length < 2 ^ 40) : Qd Tryz.prog 121 [PV.nat a] (· = if nl (val a) ≤ 4 then .tup [.int .u64 (val a), .bool true] else .tup [.int .u64 0, .bool false]) := by
  have hd := Qag ha
  unfold nl at hd
  refine Qf Qk Tryz.func121 rfl Q6v (by simp [Q3d]) fun C hP => ?_; simp only [Q3d]
  simp +decide (disch := first | omega | rfl | (simp +decide only [go_sem, ↓reduceIte] <;> rfl) | fail) only [go_sem, ↓reduceIte]
  refine Qa hP (Qax ha (by omega)) rfl rfl rfl ?_
  simp +decide (disch := first | omega | rfl | (simp +decide only [go_sem, ↓reduceIte] <;> rfl) | fail) only [go_sem, ↓reduceIte]
  have hlx := Qi (val a)
  have Qcq := Qr (val a)
  unfold nl
  generalize val a = x at *
  refine Qb (fun hz => ?_) (fun hz => ?_)
  · simp +decide (disch := first | omega | rfl | (simp +decide only [go_sem, ↓reduceIte] <;> rfl) | fail) only [go_sem, ↓reduceIte]
    rw [if_neg (by omega)]
    exact Qco rfl rfl rfl (Qt _) (Qt _)
  · simp +decide (disch := first | omega | rfl | (simp +decide only [go_sem, ↓reduceIte] <;> rfl) | fail) only [go_sem, ↓reduceIte]
    rw [if_pos (by omega)]
    refine Qz (by repeat (first | exact Qv | exact Qp | exact Qq | apply Qo | apply Qu | apply Q2 | apply Q5 | apply Q6 | apply Qm)) [(4, 6), (14, 26)] [] (fun k J hp => ∃ i, k = (dig x).length - i ∧ i ≤ (dig x).length ∧ J 14 = .int .i64 i ∧ J 4 = .int .u64 (val ((dig x).take i)) ∧ hp = hp0) (dig x).length ?_ ?_
    · refine ⟨0, rfl, by omega, ?_⟩
      simp +decide (disch := first | omega | rfl | (simp +decide only [go_sem, ↓reduceIte, true_and, and_true, List.take_zero] <;> rfl) | fail) only [go_sem, ↓reduceIte, true_and, and_true, List.take_zero]
      simp [val]
    rintro _ J _ ⟨i, rfl, hi, h14, h4, rfl⟩
    simp +decide (disch := first | omega | rfl | (simp +decide only [go_sem, ↓reduceIte, h14, h4] <;> rfl) | fail) only [go_sem, ↓reduceIte, h14, h4]
    refine Qb (fun hg => ?_) (fun hg => ?_)
    · have hi' : i < (dig x).length := by omega
      have hxi := Qae hlx hi'
      have hts := Qea hi'
      have hvt := Qcx hlx i (by omega)
      generalize hxx : (dig x)[i] = xi at *
      have e2 : (16 : Int) * (i : Int) = ((16 * i : Nat) : Int) := by omega
      have hb : xi * 2 ^ (16 * i) + 2 ^ (16 * i) ≤ 18446744073709551616 := by
        have h3 : 2 ^ (16 * i) ≤ 2 ^ 48 := Nat.pow_le_pow_right (by omega) (by omega)
        have : (xi + 1) * 2 ^ (16 * i) ≤ 65536 * 2 ^ 48 := Nat.mul_le_mul (by omega) h3
        rw [Nat.add_mul] at this; omega
      have hpp : 0 < 2 ^ (16 * i) := Nat.pow_pos (by omega)
      rw [← Qab9] at hts hvt
      have hor : (val ((dig x).take i) ||| xi * 2 ^ (16 * i)) = val ((dig x).take (i + 1)) := by
        rw [Nat.or_comm, Qmw hvt, hts, Nat.mul_comm, Nat.add_comm]
      simp +decide (disch := first | omega | rfl | (simp +decide only [go_sem, ↓reduceIte, h14, h4, hxx, e2, Qq9, Qt1, hor] <;> rfl) | fail) only [go_sem, ↓reduceIte, h14, h4, hxx, e2, Qq9, Qt1, hor]
      refine Ql ((dig x).length - (i + 1)) (by omega) ⟨i + 1, rfl, by omega, ?_⟩
      simp +decide (disch := first | omega | rfl | (simp +decide only [go_sem, ↓reduceIte, h14, true_and, and_true] <;> rfl) | fail) only [go_sem, ↓reduceIte, h14, true_and, and_true]
    · obtain rfl : i = (dig x).length := by omega
      rw [List.take_length, Qcq] at h4
      simp +decide (disch := first | omega | rfl | (simp +decide only [go_sem, ↓reduceIte, h4] <;> rfl) | fail) only [go_sem, ↓reduceIte, h4]
      exact Qco rfl rfl rfl (Qt _) (Qt _)
end Go.Proofs.YtjkbalanglgoiaaGreat
namespace Go.Proofs.YtjkbalanglgoiaaGreat
open Go Go.FW
set_option linter.unusedSimpArgs false
set_option linter.unusedVariables false
set_option maxRecDepth 100000
set_option maxHeartbeats 2000000 in
theorem Q0p {u v ex : List Nat} (hu : Qj u) (hv : Qj v) (hn : 2 ≤ v.length) (hlt : v.length < u.length) (htop : 32768 ≤ v.getD (v.length - 1) 0) (hinit : val (u.drop (u.length - v.length)) < val v) (hul : u.length + ex.length < 2 ^ 42) :
    Qh8 Tryz.prog 127 [.mso B0 0 u.length, PV.nat v] 111 (Qau (u ++ ex)) (fun r xs' => r = PV.num (val u / val v) ∧ ∃ l, xs' = Qau (l ++ ex) ∧ Qj l ∧ l.length = u.length ∧ val l = val u % val v) := by
  obtain ⟨n, hnv⟩ : ∃ n, v.length = n + 2 := ⟨v.length - 2, by omega⟩
  have e1 : (u.length : Int) - (v.length : Int) = ((u.length - v.length : Nat) : Int) := by omega
  have hvt := Qwq hnv
  have hv0 := Qcx hv n (by omega)
  have hvlt := Qd9 hv
  have hv1 := Qae hv (show n + 1 < v.length by omega)
  have hv2 := Qae hv (show n < v.length by omega)
  have hg1 : v[n + 1]'(by omega) = v.getD (n + 1) 0 := (Qa2 _).symm
  have hg2 : v[n]'(by omega) = v.getD n 0 := (Qa2 _).symm
  have htop' : 32768 ≤ v.getD (n + 1) 0 := by rw [hnv] at htop; exact htop
  rw [hg1] at hv1
  rw [hg2] at hv2
  rw [hnv] at hvlt
  have hvp : 0 < val v := by
    rw [hvt]
    have : 0 < 65536 ^ n := Nat.pow_pos (by omega)
    have : 0 < (v.getD (n + 1) 0 * 65536 + v.getD n 0) * 65536 ^ n := Nat.mul_pos (by omega) this
    omega
  refine Qi5 Qk Tryz.func127 rfl Q7k (by simp [Q32]) fun C hP => ?_; simp only [Q32]
  simp +decide (disch := first | omega | rfl | (simp +decide only [go_sem, ↓reduceIte, e1] <;> rfl) | fail) only [go_sem, ↓reduceIte, e1]
  refine Qt7 (by repeat (first | exact Qv | exact Qp | exact Qq | apply Qo | apply Qu | apply Q2 | apply Q5 | apply Q6 | apply Qm)) [(7, 11), (24, 105)] [7, 9, 10] (fun k J hp => ∃ l qs, k + qs.length = u.length - v.length ∧ Qj l ∧ l.length = u.length ∧ Qj qs ∧ val (l.drop k) < val v ∧ val u = val l + val v * (65536 ^ k * val qs) ∧ J 7 = .mp 7 0 0 ∧
    hp 7 = some ⟨1, 3, [.int .i64 ((k : Int) - 1)], false⟩ ∧ hp 1000000 = some ⟨1, 111, Qau (l ++ ex), false⟩ ∧ hp 18 = some ⟨1, 111, Qau (List.replicate k 0 ++ qs), false⟩ ∧
    hp 3 = some ⟨1, 29, [PV.nat v], false⟩ ∧ hp 5 = some ⟨1, 3, [.int .i64 v.length], false⟩) (u.length - v.length) ?_ ?_
  · refine ⟨u, [], rfl, hu, rfl, Qb8, hinit, by simp [val], ?_⟩
    simp +decide (disch := first | omega | rfl | (simp +decide only [go_sem, ↓reduceIte, true_and, and_true] <;> rfl) | fail) only [go_sem, ↓reduceIte, true_and, and_true]
    simp
  intro F hF
  have hF2 : F 2 = .rb 1000000 0 u.length := by rw [hF]; simp +decide (disch := first | omega | rfl | (simp +decide only [go_sem, ↓reduceIte] <;> rfl) | fail) only [go_sem, ↓reduceIte]
  have hF3 : F 3 = .mp 3 0 0 := by rw [hF]; simp +decide (disch := first | omega | rfl | (simp +decide only [go_sem, ↓reduceIte] <;> rfl) | fail) only [go_sem, ↓reduceIte]
  have hF5 : F 5 = .mp 5 0 0 := by rw [hF]; simp +decide (disch := first | omega | rfl | (simp +decide only [go_sem, ↓reduceIte] <;> rfl) | fail) only [go_sem, ↓reduceIte]
  have hF6 : F 6 = .ms 18 (u.length - v.length) := by rw [hF]; simp +decide (disch := first | omega | rfl | (simp +decide only [go_sem, ↓reduceIte] <;> rfl) | fail) only [go_sem, ↓reduceIte]
  have hkF : ∀ β, [7, 9, 10].contains β = true → Qam β F = F := fun β h => by rw [hF]; exact Qgc h
  have hk9 := hkF 9 rfl
  have hk10 := hkF 10 rfl
  have hk7 := hkF 7 rfl
  have hkk : Qaf [9, 10] F = F := by rw [hF]; exact Qst rfl
  clear hkF hF
  rintro k J h ⟨l, qs, hsum, hl, hll, hqs, hred, Qcq, hJ7, hh7, hhB, hh18, hh3, hh5⟩
  simp +decide (disch := first | omega | rfl | (simp +decide only [go_sem, ↓reduceIte, hJ7, hh7, hhB, hh18, hh3, hh5, hF2, hF3, hF5, hF6] <;> rfl) | fail) only [go_sem, ↓reduceIte, hJ7, hh7, hhB, hh18, hh3, hh5, hF2, hF3, hF5, hF6]
  refine Qb (fun hg => ?_) (fun hg => ?_)
  · obtain _ | j := k
    · omega
    have e2 : ((j + 1 : Nat) : Int) - 1 = j := by omega
    have e3 : ((n + 2 : Nat) : Int) - 1 = ((n + 1 : Nat) : Int) := by omega
    have e4 : ((j + (n + 2) : Nat) : Int) - 1 = ((j + (n + 1) : Nat) : Int) := by omega
    obtain ⟨pre, w, post, hlw, hpl, hwl, hpre, hw, hpost, hpost0, hdj, hwlt, w0, hw0, hwv⟩ := Q9m (n := n) hl (by omega) (by omega) hred
    have hl2 := Qae hl (show j + (n + 2) < l.length by omega)
    have hl1 := Qae hl (show j + (n + 1) < l.length by omega)
    have hl0 := Qae hl (show j + n < l.length by omega)
    have hlel : (l ++ ex).length = u.length + ex.length := by rw [List.length_append, hll]
    have hgl2 : (l ++ ex)[j + (n + 2)]'(by omega) = l.getD (j + (n + 2)) 0 := by rw [List.getElem_append_left (by omega)]; exact (Qa2 _).symm
    have hgl1 : (l ++ ex)[j + (n + 1)]'(by omega) = l.getD (j + (n + 1)) 0 := by rw [List.getElem_append_left (by omega)]; exact (Qa2 _).symm
    rw [← Qa2 (by omega)] at hl2 hl1
    have htk2 : (Qau (l ++ ex)).take u.length = Qau l := by rw [← List.map_take, ← hll, List.take_left]
    have hlw2 : l ++ ex = pre ++ (w ++ (post ++ ex)) := by rw [hlw]; simp
    generalize l.getD (j + (n + 2)) 0 = w2 at *
    generalize l.getD (j + (n + 1)) 0 = w1 at *
    simp +decide (disch := first | omega | rfl | (simp +decide only [go_sem, ↓reduceIte, hJ7, hh7, hhB, hh18, hh3, hh5, hF2, hF3, hF5, hF6, hnv, e2, e3, e4, hgl2, hgl1, hg1, Qi7, Qk4, Qh9, Qcz] <;> rfl) | fail) only [go_sem, ↓reduceIte, hJ7, hh7, hhB, hh18, hh3, hh5, hF2, hF3, hF5, hF6, hnv, e2, e3, e4, hgl2, hgl1, hg1, Qi7, Qk4, Qh9, Qcz]
    have hwl2 : w.length = n + 3 := hwl
    have hdigit := Qxv hvt hwv hw0 (by rw [← Qa2 (show j + n < l.length by omega)] at hl0; omega) (by omega : 0 < v.getD (n + 1) 0)
    have hhi := Q2v hvt hwv hv0 hwlt (Nat.pow_pos (by omega))
    have hdm := Nat.div_add_mod (w2 * 65536 + w1) (v.getD (n + 1) 0)
    have hdlt : (w2 * 65536 + w1) / v.getD (n + 1) 0 < 131072 := by rw [Nat.div_lt_iff_lt_mul (by omega)]; omega
    have hrlt := Nat.mod_lt (w2 * 65536 + w1) (by omega : 0 < v.getD (n + 1) 0)
    rw [Nat.mul_comm] at hdm
    generalize hd0 : (w2 * 65536 + w1) / v.getD (n + 1) 0 = d0 at *
    generalize hr0 : (w2 * 65536 + w1) % v.getD (n + 1) 0 = r0 at *
    have hcomm : ∀ (h : HP) v w, Qs (Qs h 10 v) 9 w = Qs (Qs h 9 w) 10 v := fun h v w => Q0a 10 9 (by decide) h v w
    refine Q6h (fun J => J 7 = .mp 7 0 0 ∧ J 52 = .int .u64 d0 ∧ J 53 = .int .u64 (w2 * 65536 + w1 : Nat)) (by simp +decide (disch := first | omega | rfl | (simp +decide only [go_sem, ↓reduceIte, hJ7, true_and, and_true] <;> rfl) | fail) only [go_sem, ↓reduceIte, hJ7, true_and, and_true]) ?_
    clear hJ7
    rintro J ⟨hJ7, hJ52, hJ53⟩
    refine Q2w (by repeat (first | exact Qv | exact Qp | exact Qq | apply Qo | apply Qu | apply Q2 | apply Q5 | apply Q6 | apply Qm)) [9, 10] (fun J2 hp2 => J2 7 = .mp 7 0 0 ∧ J2 9 = .mp 9 0 0 ∧ J2 10 = .mp 10 0 0 ∧ hp2 = Qs (Qs h 9 ⟨1, 72, [.int .u64 d0], false⟩) 10 ⟨1, 72, [.int .u64 r0], false⟩) ?_ ?_
    · intro F' hF'
      have hF'3 : F' 3 = .mp 3 0 0 := by rw [hF']; simp +decide (disch := first | omega | rfl | (simp +decide only [go_sem, ↓reduceIte, hF3] <;> rfl) | fail) only [go_sem, ↓reduceIte, hF3]
      have hF'5 : F' 5 = .mp 5 0 0 := by rw [hF']; simp +decide (disch := first | omega | rfl | (simp +decide only [go_sem, ↓reduceIte, hF5] <;> rfl) | fail) only [go_sem, ↓reduceIte, hF5]
      have hk9' : Qam 9 F' = F' := by rw [hF']; exact Qgc rfl
      have hk10' : Qam 10 F' = F' := by rw [hF']; exact Qgc rfl
      clear hF'
      repeat' (first | refine Qcr ?_ ?_ | simp +decide (disch := first | omega | rfl | (simp +decide only [go_sem, ↓reduceIte, hJ7, hJ52, hJ53, hh3, hh5, hF'3, hF'5, hk9', hk10', hnv, e3, hg1, Qcz] <;> rfl) | fail) only [go_sem, ↓reduceIte, hJ7, hJ52, hJ53, hh3, hh5, hF'3, hF'5, hk9', hk10', hnv, e3, hg1, Qcz])
      all_goals refine Qre (J := _) ?_
      all_goals simp +decide (disch := first | omega | rfl | (simp +decide only [go_sem, ↓reduceIte, hJ7, hr0, hcomm, true_and, and_true] <;> rfl) | fail) only [go_sem, ↓reduceIte, hJ7, hr0, hcomm, true_and, and_true]
    clear hJ7 hJ52 hJ53 J
    rintro J _ ⟨hJ7, hJ9, hJ10, rfl⟩
    simp +decide (disch := first | omega | rfl | (simp +decide only [go_sem, ↓reduceIte, hJ7, hJ9, hJ10, hF2, hF3, hF5, hF6, Q9n, List.all_cons, List.all_nil, List.cons_append, List.nil_append, true_and] <;> rfl) | fail) only [go_sem, ↓reduceIte, hJ7, hJ9, hJ10, hF2, hF3, hF5, hF6, Q9n, List.all_cons, List.all_nil, List.cons_append, List.nil_append, true_and]
    refine Qt7 (by repeat (first | exact Qv | exact Qp | exact Qq | apply Qo | apply Qu | apply Q2 | apply Q5 | apply Q6 | apply Qm)) [(62, 77)] [] (fun m J hp => ∃ d r, m = d ∧ d * v.getD (n + 1) 0 + r = w2 * 65536 + w1 ∧ val w < (d + 1) * val v ∧ hp = Qs (Qs h 9 ⟨1, 72, [.int .u64 d], false⟩) 10 ⟨1, 72, [.int .u64 r], false⟩) d0 ?_ ?_
    · exact ⟨d0, r0, rfl, hdm, hdigit, rfl⟩
    intro F1 hF1
    have hE9 : F1 9 = .mp 9 0 0 := by rw [hF1, Qcm]; simp +decide (disch := first | omega | rfl | (simp +decide only [go_sem, ↓reduceIte, hJ9] <;> rfl) | fail) only [go_sem, ↓reduceIte, hJ9]
    have hE10 : F1 10 = .mp 10 0 0 := by rw [hF1, Qcm]; simp +decide (disch := first | omega | rfl | (simp +decide only [go_sem, ↓reduceIte, hJ10] <;> rfl) | fail) only [go_sem, ↓reduceIte, hJ10]
    have hE11 : F1 11 = .fn 163 [] [.mp 9 0 0, .mp 3 0 0, .mp 5 0 0, .mp 10 0 0, .rb 1000000 0 u.length, .mp 7 0 0] := by rw [hF1, Qcm]; simp +decide (disch := first | omega | rfl | (simp +decide only [go_sem, ↓reduceIte] <;> rfl) | fail) only [go_sem, ↓reduceIte]
    have hE3 : F1 3 = .mp 3 0 0 := by rw [hF1, Qcm]; simp +decide (disch := first | omega | rfl | (simp +decide only [go_sem, ↓reduceIte, hF3] <;> rfl) | fail) only [go_sem, ↓reduceIte, hF3]
    have hE5 : F1 5 = .mp 5 0 0 := by rw [hF1, Qcm]; simp +decide (disch := first | omega | rfl | (simp +decide only [go_sem, ↓reduceIte, hF5] <;> rfl) | fail) only [go_sem, ↓reduceIte, hF5]
    rintro d J2 _ ⟨_, r, rfl, hdr, hdW, rfl⟩
    have hd17 : d < 131072 := by
      have : d * 32768 ≤ d * v.getD (n + 1) 0 := Nat.mul_le_mul_left _ htop'
      omega
    simp +decide (disch := first | omega | rfl | (simp +decide only [go_sem, ↓reduceIte, hE9, hE10, hE11] <;> rfl) | fail) only [go_sem, ↓reduceIte, hE9, hE10, hE11]
    refine Qvs (by repeat (first | exact Qv | exact Qp | exact Qq | apply Qo | apply Qu | apply Q2 | apply Q5 | apply Q6 | apply Qm)) [(62, 67)] [] (fun J hp => J 67 = .bool (decide (r < 65536 ∧ (65536 ≤ d ∨ r * 65536 + l.getD (j + n) 0 < d * v.getD n 0))) ∧ hp = Qs (Qs h 9 ⟨1, 72, [.int .u64 d], false⟩) 10 ⟨1, 72, [.int .u64 r], false⟩) ?_ ?_
    · refine Qaj (fun hr => ?_) (fun hr => ?_)
      · simp +decide (disch := first | omega | rfl | (simp +decide only [go_sem, ↓reduceIte, hE9, hE10, hE11] <;> rfl) | fail) only [go_sem, ↓reduceIte, hE9, hE10, hE11]
        refine Qzx hP (Qsv (dg := d) (r := r) (j := j) hv hl hn rfl (by omega) (by omega) (by omega) (by omega)) (by simp +decide (disch := first | omega | rfl | (simp +decide only [go_sem, ↓reduceIte, Qdn, hhB, hh3, hh5, hh7, e2, List.append_nil, List.nil_append, List.getElem?_cons_zero, List.drop_zero, List.take_of_length_le] <;> rfl) | fail) only [go_sem, ↓reduceIte, Qdn, hhB, hh3, hh5, hh7, e2, List.append_nil, List.nil_append, List.getElem?_cons_zero, List.drop_zero, List.take_of_length_le]; simp only [List.drop_zero, htk2]) rfl rfl ?_
        simp +decide (disch := first | omega | rfl | (simp +decide only [go_sem, ↓reduceIte, hnv] <;> rfl) | fail) only [go_sem, ↓reduceIte, hnv]
        refine Qre ⟨?_, rfl⟩
        simp +decide (disch := first | omega | rfl | (simp +decide only [go_sem, ↓reduceIte] <;> rfl) | fail) only [go_sem, ↓reduceIte]
        rw [show j + (n + 2) - 2 = j + n by omega, show n + 2 - 2 = n by omega]
        exact congrArg PV.bool (decide_eq_decide.2 ⟨fun h => ⟨by omega, h⟩, fun h => h.2⟩)
      · simp +decide (disch := first | omega | rfl | (simp +decide only [go_sem, ↓reduceIte, hE9, hE10, hE11] <;> rfl) | fail) only [go_sem, ↓reduceIte, hE9, hE10, hE11]
        refine Qre ⟨?_, rfl⟩
        simp +decide (disch := first | omega | rfl | (simp +decide only [go_sem, ↓reduceIte] <;> rfl) | fail) only [go_sem, ↓reduceIte]
        simp; omega
    rintro J3 _ ⟨h67, rfl⟩
    simp (disch := decide) only [Qcm, Qnu]
    simp +decide (disch := first | omega | rfl | (simp +decide only [go_sem, ↓reduceIte, h67] <;> rfl) | fail) only [go_sem, ↓reduceIte, h67]
    refine Qb (fun ht => ?_) (fun ht => ?_)
    · obtain ⟨hr, ht⟩ := ht
      have hlt2 : val w < d * val v := by
        rcases ht with ht | ht
        · exact Nat.lt_of_lt_of_le hwlt (Nat.mul_le_mul_right _ ht)
        · exact Q2t hvt hwv hw0 hdr ht
      obtain _ | d := d
      · omega
      have e5 : ((d + 1 : Nat) : Int) - 1 = (d : Nat) := by omega
      simp +decide (disch := first | omega | rfl | (simp +decide only [go_sem, ↓reduceIte, hE9, hE10, hE3, hE5, hh3, hh5, hnv, e3, e5, hg1, hcomm] <;> rfl) | fail) only [go_sem, ↓reduceIte, hE9, hE10, hE3, hE5, hh3, hh5, hnv, e3, e5, hg1, hcomm]
      refine Ql d (by omega) ⟨d, r + v.getD (n + 1) 0, rfl, ?_, hlt2, rfl⟩
      rw [Nat.add_mul] at hdr; omega
    have hd65 : d < 65536 := by
      apply Decidable.byContradiction
      intro hge
      apply ht
      refine ⟨?_, .inl (by omega)⟩
      have : 65536 * v.getD (n + 1) 0 ≤ d * v.getD (n + 1) 0 := Nat.mul_le_mul_right _ (by omega)
      omega
    have htest : ¬ r * 65536 + l.getD (j + n) 0 < d * v.getD n 0 := by
      intro hlt3
      by_cases hr : r < 65536
      · exact ht ⟨hr, .inr hlt3⟩
      · have := Qdv hd65 hv2
        omega
    have e5 : j + (n + 2) + 1 - j = n + 3 := by omega
    subst hF1
    simp (disch := decide) only [Qcm, hkk, Qnu]
    simp +decide (disch := first | omega | rfl | (simp +decide only [go_sem, ↓reduceIte, hJ7, hJ9, hJ10, hF2, hF3, hF5, hF6, hh3, hh5, hh7, hhB, e2, hnv, e5] <;> rfl) | fail) only [go_sem, ↓reduceIte, hJ7, hJ9, hJ10, hF2, hF3, hF5, hF6, hh3, hh5, hh7, hhB, e2, hnv, e5]
    have hsq := Qt0 w v d 0 0 hw (by omega) (by omega)
    have hcar := Qp6 w v d 0 0 (by omega) (by omega) hd65 hv
    have hsl := Qp3 w v d 0 0
    have hsln := Qoa w v d 0 0
    have hwB := Qd9 hw
    rw [hwl] at hsq hwB
    refine Qpz hP (Qsu (pre := pre) (w := w) (post := post ++ ex) (j := j) (m := n + 3) (q := d) hw hv hd65 hpl hwl (by omega) (by rw [← hlw2]; omega)) (β := 1000000) (by simp +decide (disch := first | omega | rfl | (simp +decide only [go_sem, ↓reduceIte, hhB, hlw2] <;> rfl) | fail) only [go_sem, ↓reduceIte, hhB, hlw2]) (Qdk _) (by simp; omega) (by simp [toB, B0]) rfl ?_
    rintro _ _ _ _ ⟨rfl, rfl⟩
    generalize Qce w v d 0 0 = sq at *
    obtain ⟨⟨hsq, hb1⟩, hcar⟩ := And.intro hsq hcar
    have hSB := Qd9 hsl
    rw [hsln, hwl] at hSB
    have hpll : pre.length + (w.length + post.length) = u.length := by rw [← hll, hlw]; simp
    have hs18 : j < (List.replicate (j + 1) 0 ++ qs).length := by simp; omega
    have hvl2 : val l = val pre + 65536 ^ j * val w := by
      rw [hlw, Qbn, Qbn, hpost0, hpl, Nat.mul_zero, Nat.add_zero]
    simp +decide (disch := first | omega | rfl | (simp +decide only [go_sem, ↓reduceIte, Qe4, hJ7, hJ9, hJ10, hF2, hF3, hF5, hF6] <;> rfl) | fail) only [go_sem, ↓reduceIte, Qe4, hJ7, hJ9, hJ10, hF2, hF3, hF5, hF6]
    refine Qb (fun hb => ?_) (fun hb => ?_)
    · have hb2 : sq.2.2 = 1 := by omega
      rw [hcar, hb2] at hsq
      obtain _ | d := d
      · omega
      have heV := Q2u hvt hwv hv0 (by omega) hd65 hdr htest
      obtain ⟨k, hk⟩ := Qtz sq.1 v 0 (by omega)
      have hrl := Qp2 sq.1 v 0
      have hrln := Qn9 sq.1 v 0
      rw [hsln, hwl] at hk hrln
      have hrB := Qd9 hrl
      rw [hrln] at hrB
      obtain ⟨hR1, hR2⟩ := Q6i (B := 65536 ^ (n + 3)) (S := val sq.1) (e := d) (by omega) hSB heV (by omega) hrB hwB
      have e6 : ((d + 1 : Nat) : Int) - 1 = (d : Nat) := by omega
      simp +decide (disch := first | omega | rfl | (simp +decide only [go_sem, ↓reduceIte, hJ7, hJ9, hJ10, hF2, hF3, hF5, hF6, hh3, hh5, hh7, hhB, e2, e6, hnv, e5] <;> rfl) | fail) only [go_sem, ↓reduceIte, hJ7, hJ9, hJ10, hF2, hF3, hF5, hF6, hh3, hh5, hh7, hhB, e2, e6, hnv, e5]
      refine Qpz hP (Qum (pre := pre) (w := sq.1) (post := post ++ ex) (j := j) (m := n + 3) hsl hv hpl (by omega) (by omega) (by simp; omega)) (β := 1000000) (by simp +decide (disch := first | omega | rfl | (simp +decide only [go_sem, ↓reduceIte] <;> rfl) | fail) only [go_sem, ↓reduceIte]) (Qdk _) (by simp; omega) (by simp [toB, B0]) rfl ?_
      rintro _ _ _ _ ⟨rfl, rfl⟩
      have hback := Qr3 (q := d) (R := Qeu sq.1 v 0) hpl hpost0 Qcq hvl2 hR2
      simp +decide (disch := first | omega | rfl | (simp +decide only [go_sem, ↓reduceIte, Qe4, hJ7, hJ9, hJ10, hF2, hF3, hF5, hF6, hh3, hh5, hh7, hhB, hh18, e2, e6, hnv, e5, Qnv, Nat.mod_eq_of_lt (by omega : d < 65536), hk7] <;> rfl) | fail) only [go_sem, ↓reduceIte, Qe4, hJ7, hJ9, hJ10, hF2, hF3, hF5, hF6, hh3, hh5, hh7, hhB, hh18, e2, e6, hnv, e5, Qnv, Nat.mod_eq_of_lt (by omega : d < 65536), hk7]
      refine Ql j (by omega) ⟨pre ++ (Qeu sq.1 v 0 ++ post), d :: qs, by simp; omega, ?_, ?_, ?_, ?_, hback.2, ?_⟩
      · rw [Qba, Qba]; exact ⟨hpre, hrl, hpost⟩
      · simp; omega
      · rw [Qap]; exact ⟨by omega, hqs⟩
      · rw [hback.1]; exact hR1
      · simp +decide (disch := first | omega | rfl | (simp +decide only [go_sem, ↓reduceIte, hh3, hh5, true_and, and_true, hnv, List.append_assoc] <;> rfl) | fail) only [go_sem, ↓reduceIte, hh3, hh5, true_and, and_true, hnv, List.append_assoc]
    · have hb2 : sq.2.2 = 0 := by omega
      rw [hcar, hb2] at hsq
      obtain ⟨hR1, hR2⟩ := Q9o (S := val sq.1) (d := d) (by omega) hdW
      have hback := Qr3 (q := d) (R := sq.1) hpl hpost0 Qcq hvl2 hR2
      simp +decide (disch := first | omega | rfl | (simp +decide only [go_sem, ↓reduceIte, Qe4, hJ7, hJ9, hJ10, hF2, hF3, hF5, hF6, hh3, hh5, hh7, hhB, hh18, e2, hnv, e5, Qnv, Nat.mod_eq_of_lt hd65, hk7] <;> rfl) | fail) only [go_sem, ↓reduceIte, Qe4, hJ7, hJ9, hJ10, hF2, hF3, hF5, hF6, hh3, hh5, hh7, hhB, hh18, e2, hnv, e5, Qnv, Nat.mod_eq_of_lt hd65, hk7]
      refine Ql j (by omega) ⟨pre ++ (sq.1 ++ post), d :: qs, by simp; omega, ?_, ?_, ?_, ?_, hback.2, ?_⟩
      · rw [Qba, Qba]; exact ⟨hpre, hsl, hpost⟩
      · simp; omega
      · rw [Qap]; exact ⟨hd65, hqs⟩
      · rw [hback.1]; exact hR1
      · simp +decide (disch := first | omega | rfl | (simp +decide only [go_sem, ↓reduceIte, hh3, hh5, true_and, and_true, hnv, List.append_assoc] <;> rfl) | fail) only [go_sem, ↓reduceIte, hh3, hh5, true_and, and_true, hnv, List.append_assoc]
  · obtain rfl : k = 0 := by omega
    rw [List.drop_zero] at hred
    rw [Nat.pow_zero, Nat.one_mul] at Qcq
    have hdiv : val u / val v = val qs := by
      rw [Qcq, Nat.add_mul_div_left _ _ hvp, Nat.div_eq_of_lt hred, Nat.zero_add]
    have hmod : val u % val v = val l := by
      rw [Qcq, Nat.add_mul_mod_self_left, Nat.mod_eq_of_lt hred]
    simp +decide (disch := first | omega | rfl | (simp +decide only [go_sem, ↓reduceIte, hJ7, hh7, hhB, hh18, hh3, hh5, hF2, hF3, hF5, hF6, List.replicate_zero, List.nil_append] <;> rfl) | fail) only [go_sem, ↓reduceIte, hJ7, hh7, hhB, hh18, hh3, hh5, hF2, hF3, hF5, hF6, List.replicate_zero, List.nil_append]
    refine Qbi hP (Qax hqs (by omega)) (Qim (ty := 111) (fz := false) (by simp +decide (disch := first | omega | rfl | (simp +decide only [go_sem, ↓reduceIte, hh18, List.replicate_zero, List.nil_append] <;> rfl) | fail) only [go_sem, ↓reduceIte, hh18, List.replicate_zero, List.nil_append]) (by omega)) rfl ?_
    simp +decide (disch := first | omega | rfl | (simp +decide only [go_sem, ↓reduceIte] <;> rfl) | fail) only [go_sem, ↓reduceIte]
    refine Qz0 (xs' := Qau (l ++ ex)) (p := PV.num (val qs)) ?_ (Qdk _) (by simp; omega) (by simp +decide (disch := first | omega | rfl | (simp +decide only [go_sem, ↓reduceIte] <;> rfl) | fail) only [go_sem, ↓reduceIte]) rfl ⟨by rw [hdiv], l, rfl, hl, hll, hmod.symm⟩
    show FW.Qal h [18] 1000000 = _
    simp only [FW.Qal]
    rw [if_neg (by decide), hhB]
end Go.Proofs.YtjkbalanglgoiaaGreat
namespace Go.Proofs.YtjkbalanglgoiaaGreat
open Go Go.FW
set_option linter.unusedSimpArgs false
set_option linter.unusedVariables false
set_option maxRecDepth 100000
theorem Qyb {a : List Nat} {s : Nat} (ha : Qj a) (hla : a.length < 2 ^ 40) (hs : s ≤ 15) : Qd Tryz.prog 126 [PV.nat a, .int .i64 (-(s : Int))] (· = PV.num (val a / 2 ^ s)) := by
  have hda := Qag ha
  unfold nl at hda
  by_cases h0 : val a = 0
  · refine Qf Qk Tryz.func126 rfl Qrk (by simp [Qo8]) fun C hP => ?_; simp only [Qo8]
    simp +decide (disch := first | omega | rfl | (simp +decide only [go_sem, ↓reduceIte] <;> rfl) | fail) only [go_sem, ↓reduceIte]
    refine Qa hP (Qax ha (by omega)) rfl rfl rfl ?_
    simp +decide (disch := first | omega | rfl | (simp +decide only [go_sem, ↓reduceIte] <;> rfl) | fail) only [go_sem, ↓reduceIte]
    refine Qad (fun hz => by omega) (fun hz => ?_)
    simp +decide (disch := first | omega | rfl | (simp +decide only [go_sem, ↓reduceIte] <;> rfl) | fail) only [go_sem, ↓reduceIte]
    refine Qad (fun hz => by omega) (fun hz => ?_)
    simp +decide (disch := first | omega | rfl | (simp +decide only [go_sem, ↓reduceIte] <;> rfl) | fail) only [go_sem, ↓reduceIte]
    refine Qb (fun hz => ?_) (fun hz => absurd (by rw [h0, Qat]; rfl) hz)
    simp +decide (disch := first | omega | rfl | (simp +decide only [go_sem, ↓reduceIte] <;> rfl) | fail) only [go_sem, ↓reduceIte]
    exact Qcl (Qka (by simp [h0])) rfl
  by_cases hs0 : s = 0
  · subst hs0
    have := (Qjr (s := 0) ha hla (by omega) h0).toV
    rw [Nat.pow_zero, Nat.mul_one] at this
    rw [Nat.pow_zero, Nat.div_one]
    exact this
  have hnz : (dig (val a)).length ≠ 0 := fun h => h0 (Qbf.1 (Qcd h))
  refine Qf Qk Tryz.func126 rfl Qrk (by simp [Qo8]) fun C hP => ?_; simp only [Qo8]
  simp +decide (disch := first | omega | rfl | (simp +decide only [go_sem, ↓reduceIte] <;> rfl) | fail) only [go_sem, ↓reduceIte]
  refine Qa hP (Qax ha (by omega)) rfl rfl rfl ?_
  simp +decide (disch := first | omega | rfl | (simp +decide only [go_sem, ↓reduceIte] <;> rfl) | fail) only [go_sem, ↓reduceIte]
  refine Qad (fun hz => by omega) (fun hz => ?_)
  simp +decide (disch := first | omega | rfl | (simp +decide only [go_sem, ↓reduceIte] <;> rfl) | fail) only [go_sem, ↓reduceIte]
  refine Qad (fun hz => by omega) (fun hz => ?_)
  simp +decide (disch := first | omega | rfl | (simp +decide only [go_sem, ↓reduceIte] <;> rfl) | fail) only [go_sem, ↓reduceIte]
  refine Qb (fun hz => by omega) (fun hz => ?_)
  simp +decide (disch := first | omega | rfl | (simp +decide only [go_sem, ↓reduceIte] <;> rfl) | fail) only [go_sem, ↓reduceIte]
  refine Qb (fun hz => ?_) (fun hz => by omega)
  have e : (0 : Int) - -(s : Int) = (s : Nat) := by omega
  simp +decide (disch := first | omega | rfl | (simp +decide only [go_sem, ↓reduceIte, e] <;> rfl) | fail) only [go_sem, ↓reduceIte, e]
  refine Qa hP (Qx9 (Qi (val a)) (by omega) hs) rfl rfl rfl ?_
  simp +decide (disch := first | omega | rfl | (simp +decide only [go_sem, ↓reduceIte, Qr] <;> rfl) | fail) only [go_sem, ↓reduceIte, Qr]
  exact Qc rfl rfl
theorem Qyc {x d : Nat} (hx : (dig x).length < 2 ^ 42) (hd : 0 < d) (hd2 : d < 65536) : Qd Tryz.prog 124 [PV.num x, .int .u16 d] (· = .tup [PV.num (x / d), .int .u16 (x % d : Nat)]) := by
  have := Qvx (Qi x) hx hd hd2
  rwa [Qr] at this
theorem Qjt {a b : List Nat} (ha : Qj a) (hb : Qj b) (hla : a.length < 2 ^ 38) (hlb : b.length < 2 ^ 38) : Qd Tryz.prog 56 [PV.nat a, PV.nat b]
    (· = if val b = 0 then .tup [PV.num 0, PV.num 0, .int .i64 3] else .tup [PV.num (val a / val b), PV.num (val a % val b), .int .i64 0]) := by
  have hda := Qag ha
  have hdb := Qag hb
  unfold nl at hda hdb
  refine Qf Qk Tryz.func56 rfl Q91 (by simp [c56]) fun C hP => ?_; simp only [c56]
  simp +decide (disch := first | omega | rfl | (simp +decide only [go_sem, ↓reduceIte] <;> rfl) | fail) only [go_sem, ↓reduceIte]
  refine Qa hP (Qax ha (by omega)) rfl rfl rfl ?_
  simp +decide (disch := first | omega | rfl | (simp +decide only [go_sem, ↓reduceIte] <;> rfl) | fail) only [go_sem, ↓reduceIte]
  refine Qa hP (Qax hb (by omega)) rfl rfl rfl ?_
  simp +decide (disch := first | omega | rfl | (simp +decide only [go_sem, ↓reduceIte] <;> rfl) | fail) only [go_sem, ↓reduceIte]
  have hxl := Qi (val a)
  have hyl := Qi (val b)
  have hxv := Qr (val a)
  have hyv := Qr (val b)
  have hylast := Qo1 (val b)
  generalize val a = x at *
  generalize val b = y at *
  refine Qb (fun hz => ?_) (fun hz => ?_)
  · have hy0 : y = 0 := Qbf.1 (Qcd (by omega))
    simp +decide (disch := first | omega | rfl | (simp +decide only [go_sem, ↓reduceIte] <;> rfl) | fail) only [go_sem, ↓reduceIte]
    rw [if_pos hy0]
    exact Qmv rfl rfl rfl rfl Qgs Qgs (Qt _)
  have hy0 : y ≠ 0 := fun h => by rw [h, Qat] at hz; simp at hz
  rw [if_neg hy0]
  simp +decide (disch := first | omega | rfl | (simp +decide only [go_sem, ↓reduceIte] <;> rfl) | fail) only [go_sem, ↓reduceIte]
  refine Qa hP (Qo9 hxl hyl (by omega) (by omega)) rfl rfl rfl ?_
  simp +decide (disch := first | omega | rfl | (simp +decide only [go_sem, ↓reduceIte, hxv, hyv] <;> rfl) | fail) only [go_sem, ↓reduceIte, hxv, hyv]
  refine Qb (fun hc => ?_) (fun hc => ?_)
  · have hlt : x < y := by
      unfold Qd1 at hc; split at hc
      · assumption
      · split at hc <;> omega
    simp +decide (disch := first | omega | rfl | (simp +decide only [go_sem, ↓reduceIte] <;> rfl) | fail) only [go_sem, ↓reduceIte]
    refine Qa hP (Qhm hxl (by omega)) rfl rfl rfl ?_
    simp +decide (disch := first | omega | rfl | (simp +decide only [go_sem, ↓reduceIte, hxv] <;> rfl) | fail) only [go_sem, ↓reduceIte, hxv]
    exact Qmv rfl rfl rfl rfl (Qka (Nat.div_eq_of_lt hlt)) (Qet (by rw [Nat.mod_eq_of_lt hlt])) (Qt _)
  have hge : y ≤ x := by
    unfold Qd1 at hc; split at hc <;> omega
  simp +decide (disch := first | omega | rfl | (simp +decide only [go_sem, ↓reduceIte] <;> rfl) | fail) only [go_sem, ↓reduceIte]
  refine Qb (fun h1 => ?_) (fun h1 => ?_)
  · obtain ⟨d, hd⟩ : ∃ d, dig y = [d] := by
      match h : dig y, h1 with
      | [d], _ => exact ⟨d, rfl⟩
      | [], h1 => simp at h1
      | _ :: _ :: _, h1 => simp at h1; omega
    have hyd : y = d := by rw [← hyv, hd]; simp [val]
    have hd1 : d < 65536 := by rw [hd] at hyl; exact hyl d (by simp)
    simp +decide (disch := first | omega | rfl | (simp +decide only [go_sem, ↓reduceIte, hd, List.map_cons, List.map_nil, List.length_cons, List.length_nil] <;> rfl) | fail) only [go_sem, ↓reduceIte, hd, List.map_cons, List.map_nil, List.length_cons, List.length_nil]
    refine Qa hP (Qyc (x := x) (d := d) (by omega) (by omega) hd1) (by rw [PV.num]; rfl) rfl rfl ?_
    have hm : x % d < 18446744073709551616 := by have := Nat.mod_lt x (show 0 < d by omega); omega
    simp +decide (disch := first | omega | rfl | (simp +decide only [go_sem, ↓reduceIte] <;> rfl) | fail) only [go_sem, ↓reduceIte]
    refine Qa hP (Qkf hm) rfl rfl rfl ?_
    simp +decide (disch := first | omega | rfl | (simp +decide only [go_sem, ↓reduceIte] <;> rfl) | fail) only [go_sem, ↓reduceIte]
    rw [hyd]
    exact Qmv rfl rfl rfl rfl (Qt _) (Qt _) (Qt _)
  obtain ⟨n, hn⟩ : ∃ n, (dig y).length = n + 2 := ⟨(dig y).length - 2, by omega⟩
  obtain ⟨m, hm⟩ : ∃ m, (dig x).length = m + 2 := by
    have := Qa7 hge
    unfold nl at this
    exact ⟨(dig x).length - 2, by omega⟩
  have e1 : ((n + 2 : Nat) : Int) - 1 = ((n + 1 : Nat) : Int) := by omega
  have hlast : (dig y)[n + 1]'(by omega) ≠ 0 := by
    intro h; apply hylast
    have : (dig y).getLast? = some ((dig y)[n + 1]'(by omega)) := by
      rw [List.getLast?_eq_getElem?, show (dig y).length - 1 = n + 1 by omega]; exact List.getElem?_eq_getElem _
    rw [this, h]
  have hy1 := Qae hyl (show n + 1 < (dig y).length by omega)
  have hdyv : val (dig y) = y := Qr y
  generalize hyi : (dig y)[n + 1]'(by omega) = yi at *
  have hbl := Qjs hy1
  have hbp := Qll hy1 hlast
  obtain ⟨htp, htp2⟩ := Qya _ yi rfl hlast hy1
  obtain ⟨s, hs, hs15⟩ : ∃ s, 16 - Lib.bitLen yi = s ∧ s ≤ 15 := ⟨_, rfl, by omega⟩
  simp +decide (disch := first | omega | rfl | (simp +decide only [go_sem, ↓reduceIte, hn, e1, hyi] <;> rfl) | fail) only [go_sem, ↓reduceIte, hn, e1, hyi]
  refine Qa hP (Qmh hy1) rfl rfl rfl ?_
  simp +decide (disch := first | omega | rfl | (simp +decide only [go_sem, ↓reduceIte, hs] <;> rfl) | fail) only [go_sem, ↓reduceIte, hs]
  have hso := Qjr (a := dig x) (s := s) hxl (by omega) hs15 (by rw [hxv]; omega)
  refine Q9i hP hso rfl rfl rfl (by decide) ?_
  rintro _ _ rfl
  rw [hxv]
  have hDl : (dig (x * 2 ^ s)).length ≤ m + 3 := by
    have h1 := Qb1 x (2 ^ s)
    have h2 : nl (2 ^ s) ≤ 1 := Qep.2 (by have : 2 ^ s ≤ 2 ^ 15 := Nat.pow_le_pow_right (by omega) hs15; omega)
    unfold nl at h1 h2; omega
  have hDl2 : m + 2 ≤ (dig (x * 2 ^ s)).length := by
    have := Qa7 (show x ≤ x * 2 ^ s from Nat.le_mul_of_pos_right _ (Nat.pow_pos (by omega)))
    unfold nl at this; omega
  simp +decide (disch := first | omega | rfl | (simp +decide only [go_sem, ↓reduceIte, hm] <;> rfl) | fail) only [go_sem, ↓reduceIte, hm]
  rw [Qk2 (ys := Qau [0, 0]) (xs := Qau (dig (x * 2 ^ s))) (by simp +decide (disch := first | omega | rfl | (simp +decide only [go_sem, ↓reduceIte, Qdb] <;> rfl) | fail) only [go_sem, ↓reduceIte, Qdb]; rfl) (by simp +decide (disch := first | omega | rfl | (simp +decide only [go_sem, ↓reduceIte] <;> rfl) | fail) only [go_sem, ↓reduceIte]) (by omega) (by simp) (by simp; omega) (by simp; omega)]
  rw [List.take_of_length_le (by simp), ← List.map_append]
  simp +decide (disch := first | omega | rfl | (simp +decide only [go_sem, ↓reduceIte, hm, List.length_cons, List.length_nil] <;> rfl) | fail) only [go_sem, ↓reduceIte, hm, List.length_cons, List.length_nil]
  have hsoy := (Qjr (a := dig y) (s := s) hyl (by omega) hs15 (by rw [hyv]; omega)).toV
  rw [hyv] at hsoy
  refine Qa hP hsoy rfl rfl rfl ?_
  obtain ⟨g1, g2⟩ := Q0d hs15 (by rw [show 16 - s = Lib.bitLen yi by omega]; exact htp) (by rw [show 16 - s = Lib.bitLen yi by omega]; exact htp2)
  obtain ⟨hYl, hYt, hYge⟩ := Qvt hn hyi g1 g2
  have hnm : n ≤ m := by have := Qa7 hge; unfold nl at this; omega
  obtain ⟨u, ex, hu1, hu2, hu3, hu4, hu5, hu6⟩ := Qvu (s := s) hm hs15 hnm hYge
  have hdm1 : x * 2 ^ s / (y * 2 ^ s) = x / y := Nat.mul_div_mul_right _ _ (Nat.pow_pos (by omega))
  have hdm2 : x * 2 ^ s % (y * 2 ^ s) = x % y * 2 ^ s := Nat.mul_mod_mul_right _ _ _
  rw [hu1]
  simp +decide (disch := first | omega | rfl | (simp +decide only [go_sem, ↓reduceIte] <;> rfl) | fail) only [go_sem, ↓reduceIte]
  have hlg := Q0p (u := u) (v := dig (y * 2 ^ s)) (ex := ex) hu3 (Qi _) (by omega) (by omega) (by rw [hYl]; exact hYt) (by rw [hYl, hu2, Qr]; exact hu6) (by omega)
  rw [hu2, hu4, Qr, hdm1, hdm2] at hlg
  refine Qpz hP hlg (β := 52) (by simp +decide (disch := first | omega | rfl | (simp +decide only [go_sem, ↓reduceIte] <;> rfl) | fail) only [go_sem, ↓reduceIte]) (Qdk _) (by simp; omega) (by simp [toB]) rfl ?_
  rintro _ _ _ _ ⟨rfl, l, rfl, hl1, hl2, hl3⟩
  have e5 : IntKind.i64.wrap (0 - (s : Int)) = -(s : Int) := by rw [Qfl (by omega) (by omega)]; omega
  have htk : (Qau (l ++ ex)).take (m + 2 + 1) = Qau l := by rw [← List.map_take, show m + 2 + 1 = l.length by omega, List.take_left]
  simp +decide (disch := first | omega | rfl | (simp +decide only [go_sem, ↓reduceIte, Qe4] <;> rfl) | fail) only [go_sem, ↓reduceIte, Qe4]
  refine Qbi hP (Qax hl1 (by omega)) (by simp [Q4, Qbm, isB, Qs, ← List.map_append, htk]) rfl ?_
  simp +decide (disch := first | omega | rfl | (simp +decide only [go_sem, ↓reduceIte, e5] <;> rfl) | fail) only [go_sem, ↓reduceIte, e5]
  rw [hl3]
  have hsb := Qyb (a := dig (x % y * 2 ^ s)) (s := s) (Qi _) (by have := Qa7 (show x % y * 2 ^ s ≤ x * 2 ^ s from Nat.mul_le_mul_right _ (Nat.mod_le _ _)); unfold nl at this; omega) hs15
  rw [Qr, Nat.mul_div_cancel _ (Nat.pow_pos (by omega))] at hsb
  refine Qa hP hsb rfl rfl rfl ?_
  simp +decide (disch := first | omega | rfl | (simp +decide only [go_sem, ↓reduceIte] <;> rfl) | fail) only [go_sem, ↓reduceIte]
  exact Qmv rfl rfl rfl rfl (Qt _) (Qt _) (Qt _)
end Go.Proofs.YtjkbalanglgoiaaGreat
namespace Go.Proofs.YtjkbalanglgoiaaGreat
open Go Go.FW
set_option linter.unusedSimpArgs false
set_option linter.unusedVariables false
set_option maxRecDepth 100000
theorem Q34 {a b : List Nat} (ha : Qj a) (hb : Qj b) (hla : a.length < 2 ^ 38) (hlb : b.length < 2 ^ 38) : Qd Tryz.prog 55 [PV.nat a, PV.nat b] (· = PV.num (Nat.gcd (val a) (val b))) := by
  have hda := Qag ha
  have hdb := Qag hb
  unfold nl at hda hdb
  refine Qf Qk Tryz.func55 rfl Q92 (by simp [c55]) fun C hP => ?_; simp only [c55]
  simp +decide (disch := first | omega | rfl | (simp +decide only [go_sem, ↓reduceIte] <;> rfl) | fail) only [go_sem, ↓reduceIte]
  refine Qa hP (Qhm ha (by omega)) rfl rfl rfl ?_
  simp +decide (disch := first | omega | rfl | (simp +decide only [go_sem, ↓reduceIte] <;> rfl) | fail) only [go_sem, ↓reduceIte]
  refine Qa hP (Qhm hb (by omega)) rfl rfl rfl ?_
  simp +decide (disch := first | omega | rfl | (simp +decide only [go_sem, ↓reduceIte] <;> rfl) | fail) only [go_sem, ↓reduceIte]
  refine Qz (by repeat (first | exact Qv | exact Qp | exact Qq | apply Qo | apply Qu | apply Q2 | apply Q5 | apply Q6 | apply Qm)) [(0, 1), (4, 11), (16, 49)] [] (fun m J hp => ∃ x y, m = y ∧ Nat.gcd x y = Nat.gcd (val a) (val b) ∧ (dig x).length < 2 ^ 38 ∧ (dig y).length < 2 ^ 38 ∧ J 0 = PV.num x ∧ J 1 = PV.num y ∧ hp = hp0) (val b) ?_ ?_
  · refine ⟨val a, val b, rfl, rfl, by omega, by omega, ?_⟩
    simp +decide (disch := first | omega | rfl | (simp +decide only [go_sem, ↓reduceIte, true_and, and_true] <;> rfl) | fail) only [go_sem, ↓reduceIte, true_and, and_true]
  rintro y J _ ⟨x, _, rfl, hg, hx, hy, h0, h1, rfl⟩
  generalize Nat.gcd (val a) (val b) = g at *
  simp +decide (disch := first | omega | rfl | (simp +decide only [go_sem, ↓reduceIte, h0, h1] <;> rfl) | fail) only [go_sem, ↓reduceIte, h0, h1]
  refine Qb (fun hc => ?_) (fun hc => ?_)
  · have hy0 : y ≠ 0 := fun h => by rw [h, Qat] at hc; simp at hc
    have hmod : (dig (x % y)).length < 2 ^ 38 := by
      have := Qa7 (Nat.le_of_lt (Nat.mod_lt x (Nat.pos_of_ne_zero hy0))); unfold nl at this; omega
    simp +decide (disch := first | omega | rfl | (simp +decide only [go_sem, ↓reduceIte, h0, h1] <;> rfl) | fail) only [go_sem, ↓reduceIte, h0, h1]
    refine Qa hP (Qm5 (Qi x) (by omega)) rfl rfl rfl ?_
    simp +decide (disch := first | omega | rfl | (simp +decide only [go_sem, ↓reduceIte, h0, h1] <;> rfl) | fail) only [go_sem, ↓reduceIte, h0, h1]
    rw [Qr]
    by_cases hs1 : nl x ≤ 4
    · have hxs := Qi4.1 hs1
      rw [if_pos hs1]
      simp +decide (disch := first | omega | rfl | (simp +decide only [go_sem, ↓reduceIte, h0, h1] <;> rfl) | fail) only [go_sem, ↓reduceIte, h0, h1]
      refine Qa hP (Qm5 (Qi y) (by omega)) rfl rfl rfl ?_
      rw [Qr]
      by_cases hs2 : nl y ≤ 4
      · have hys := Qi4.1 hs2
        rw [if_pos hs2]
        simp +decide (disch := first | omega | rfl | (simp +decide only [go_sem, ↓reduceIte, h0, h1] <;> rfl) | fail) only [go_sem, ↓reduceIte, h0, h1]
        refine Qz (by repeat (first | exact Qv | exact Qp | exact Qq | apply Qo | apply Qu | apply Q2 | apply Q5 | apply Q6 | apply Qm)) [(5, 5), (7, 7), (33, 38)] [] (fun m J hp => ∃ p q, m = q ∧ Nat.gcd p q = g ∧ p < 18446744073709551616 ∧ q < 18446744073709551616 ∧ J 5 = .int .u64 p ∧ J 7 = .int .u64 q ∧ hp = hp0) y ?_ ?_
        · refine ⟨x, y, rfl, hg, hxs, hys, ?_⟩
          simp +decide (disch := first | omega | rfl | (simp +decide only [go_sem, ↓reduceIte, true_and, and_true] <;> rfl) | fail) only [go_sem, ↓reduceIte, true_and, and_true]
        rintro q J2 _ ⟨p, _, rfl, hg2, hp1, hp2, h5, h7, rfl⟩
        simp +decide (disch := first | omega | rfl | (simp +decide only [go_sem, ↓reduceIte, h5, h7] <;> rfl) | fail) only [go_sem, ↓reduceIte, h5, h7]
        refine Qb (fun hq => ?_) (fun hq => ?_)
        · have hq0 : 0 < q := by omega
          simp +decide (disch := first | omega | rfl | (simp +decide only [go_sem, ↓reduceIte, h5, h7, Qcz] <;> rfl) | fail) only [go_sem, ↓reduceIte, h5, h7, Qcz]
          refine Ql (p % q) (Nat.mod_lt _ hq0) ⟨q, p % q, rfl, ?_, hp2, ?_, ?_⟩
          · rw [← hg2, Nat.gcd_comm p q, Nat.gcd_rec q p, Nat.gcd_comm]
          · have := Nat.mod_lt p hq0; omega
          · simp +decide (disch := first | omega | rfl | (simp +decide only [go_sem, ↓reduceIte, true_and, and_true] <;> rfl) | fail) only [go_sem, ↓reduceIte, true_and, and_true]
        · obtain rfl : q = 0 := by omega
          simp +decide (disch := first | omega | rfl | (simp +decide only [go_sem, ↓reduceIte, h5, h7] <;> rfl) | fail) only [go_sem, ↓reduceIte, h5, h7]
          refine Qa hP (Qkf hp1) rfl rfl rfl ?_
          simp +decide (disch := first | omega | rfl | (simp +decide only [go_sem, ↓reduceIte] <;> rfl) | fail) only [go_sem, ↓reduceIte]
          exact Qc (by rw [← hg2, Nat.gcd_zero_right]) rfl
      · rw [if_neg hs2]
        simp +decide (disch := first | omega | rfl | (simp +decide only [go_sem, ↓reduceIte, h0, h1] <;> rfl) | fail) only [go_sem, ↓reduceIte, h0, h1]
        refine Qa hP (Qjt (Qi x) (Qi y) (by omega) (by omega)) rfl rfl rfl ?_
        rw [Qr, Qr, if_neg hy0]
        simp +decide (disch := first | omega | rfl | (simp +decide only [go_sem, ↓reduceIte, h0, h1] <;> rfl) | fail) only [go_sem, ↓reduceIte, h0, h1]
        refine Ql (x % y) (Nat.mod_lt _ (Nat.pos_of_ne_zero hy0)) ⟨y, x % y, rfl, ?_, hy, hmod, ?_⟩
        · rw [← hg, Nat.gcd_comm x y, Nat.gcd_rec y x, Nat.gcd_comm]
        · simp +decide (disch := first | omega | rfl | (simp +decide only [go_sem, ↓reduceIte, true_and, and_true] <;> rfl) | fail) only [go_sem, ↓reduceIte, true_and, and_true]
    · rw [if_neg hs1]
      simp +decide (disch := first | omega | rfl | (simp +decide only [go_sem, ↓reduceIte, h0, h1] <;> rfl) | fail) only [go_sem, ↓reduceIte, h0, h1]
      refine Qa hP (Qm5 (Qi y) (by omega)) rfl rfl rfl ?_
      obtain ⟨r1, r2, hr⟩ : ∃ r1 r2, (if nl (val (dig y)) ≤ 4 then PV.tup [.int .u64 (val (dig y)), .bool true] else .tup [.int .u64 0, .bool false]) = .tup [.int .u64 r1, .bool r2] := by
        split <;> exact ⟨_, _, rfl⟩
      rw [hr]
      simp +decide (disch := first | omega | rfl | (simp +decide only [go_sem, ↓reduceIte, h0, h1] <;> rfl) | fail) only [go_sem, ↓reduceIte, h0, h1]
      refine Qa hP (Qjt (Qi x) (Qi y) (by omega) (by omega)) rfl rfl rfl ?_
      rw [Qr, Qr, if_neg hy0]
      simp +decide (disch := first | omega | rfl | (simp +decide only [go_sem, ↓reduceIte, h0, h1] <;> rfl) | fail) only [go_sem, ↓reduceIte, h0, h1]
      refine Ql (x % y) (Nat.mod_lt _ (Nat.pos_of_ne_zero hy0)) ⟨y, x % y, rfl, ?_, hy, hmod, ?_⟩
      · rw [← hg, Nat.gcd_comm x y, Nat.gcd_rec y x, Nat.gcd_comm]
      · simp +decide (disch := first | omega | rfl | (simp +decide only [go_sem, ↓reduceIte, true_and, and_true] <;> rfl) | fail) only [go_sem, ↓reduceIte, true_and, and_true]
  · have hy0 : y = 0 := Qbf.1 (Qcd (by omega))
    subst hy0
    simp +decide (disch := first | omega | rfl | (simp +decide only [go_sem, ↓reduceIte, h0] <;> rfl) | fail) only [go_sem, ↓reduceIte, h0]
    exact Qc (by rw [← hg, Nat.gcd_zero_right]) rfl
end Go.Proofs.YtjkbalanglgoiaaGreat
namespace Go.Proofs.YtjkbalanglgoiaaGreat
open Go Go.FW
set_option linter.unusedSimpArgs false
set_option linter.unusedVariables false
set_option maxRecDepth 100000
theorem Qef (n : Bool) (x : Nat) : Qd Tryz.prog 159 [.bool n, PV.num x] (· = PV.zz (if n then -(x : Int) else x)) := by
  refine Qf Qk Tryz.func159 rfl Q67 (by simp [Q3p]) fun C hP => ?_; simp only [Q3p]
  simp +decide (disch := first | omega | rfl | (simp +decide only [go_sem, ↓reduceIte] <;> rfl) | fail) only [go_sem, ↓reduceIte]
  refine Qdz (fun hn => ?_) (fun hn => ?_)
  all_goals
    simp +decide (disch := first | omega | rfl | (simp +decide only [go_sem, ↓reduceIte] <;> rfl) | fail) only [go_sem, ↓reduceIte]
    refine Qay ?_
    simp +decide (disch := first | omega | rfl | (simp +decide only [go_sem, ↓reduceIte] <;> rfl) | fail) only [go_sem, ↓reduceIte]
    exact Qc (by rw [← Qrg, hn]; simp) rfl
theorem Q0q {n : Bool} {a : List Nat} (ha : Qj a) (hla : a.length < 2 ^ 42) : Qd Tryz.prog 173 [.bool n, PV.nat a] (· = PV.zz (zv n a)) := by
  refine Qf Qk Tryz.func173 rfl Q66 (by simp [Q3o]) fun C hP => ?_; simp only [Q3o]
  simp +decide (disch := first | omega | rfl | (simp +decide only [go_sem, ↓reduceIte] <;> rfl) | fail) only [go_sem, ↓reduceIte]
  refine Qa hP (Qhm ha hla) rfl rfl rfl ?_
  simp +decide (disch := first | omega | rfl | (simp +decide only [go_sem, ↓reduceIte] <;> rfl) | fail) only [go_sem, ↓reduceIte]
  refine Qdz (fun hn => ?_) (fun hn => ?_)
  all_goals
    simp +decide (disch := first | omega | rfl | (simp +decide only [go_sem, ↓reduceIte] <;> rfl) | fail) only [go_sem, ↓reduceIte]
    refine Qay ?_
    simp +decide (disch := first | omega | rfl | (simp +decide only [go_sem, ↓reduceIte] <;> rfl) | fail) only [go_sem, ↓reduceIte]
    exact Qc (by have := Qrg n (val a); rw [hn] at this; subst hn; simpa [zv] using this) rfl
theorem Qv0 {n : Bool} {a : List Nat} (ha : Qj a) (hla : a.length < 2 ^ 42) : Qd Tryz.prog 166 [PV.zi n a] (· = PV.zz (zv n a)) := by
  refine Qf Qk Tryz.func166 rfl Q68 (by simp [Q3q]) fun C hP => ?_; simp only [Q3q]
  simp +decide (disch := first | omega | rfl | (simp +decide only [go_sem, ↓reduceIte] <;> rfl) | fail) only [go_sem, ↓reduceIte]
  refine Qa hP (Q0q ha hla) rfl rfl rfl ?_
  simp +decide (disch := first | omega | rfl | (simp +decide only [go_sem, ↓reduceIte] <;> rfl) | fail) only [go_sem, ↓reduceIte]
  refine Qay ?_
  simp +decide (disch := first | omega | rfl | (simp +decide only [go_sem, ↓reduceIte] <;> rfl) | fail) only [go_sem, ↓reduceIte]
  exact Qc rfl rfl
theorem Qoi {n : Bool} {a : List Nat} (ha : Qj a) (hla : a.length < 2 ^ 40) : Qd Tryz.prog 128 [PV.zi n a] (· = .int .i64 (sgn (zv n a))) := by
  refine Qf Qk Tryz.func128 rfl Q7a (by simp [Q3s]) fun C hP => ?_; simp only [Q3s]
  simp +decide (disch := first | omega | rfl | (simp +decide only [go_sem, ↓reduceIte] <;> rfl) | fail) only [go_sem, ↓reduceIte]
  refine Qcv hP (Qsb ha hla) rfl rfl rfl ?_
  rintro _ ⟨k, rfl, hk⟩
  simp +decide (disch := first | omega | rfl | (simp +decide only [go_sem, ↓reduceIte] <;> rfl) | fail) only [go_sem, ↓reduceIte]
  rw [Q9p]
  refine Qb (fun hz => ?_) (fun hz => ?_)
  · simp +decide (disch := first | omega | rfl | (simp +decide only [go_sem, ↓reduceIte] <;> rfl) | fail) only [go_sem, ↓reduceIte]
    rw [if_pos (hk.1 (by omega))]
    exact Qc rfl rfl
  · rw [if_neg (fun h => hz (by rw [hk.2 h]; rfl))]
    simp +decide (disch := first | omega | rfl | (simp +decide only [go_sem, ↓reduceIte] <;> rfl) | fail) only [go_sem, ↓reduceIte]
    refine Qhd (fun hn => ?_) (fun hn => ?_)
    · simp +decide (disch := first | omega | rfl | (simp +decide only [go_sem, ↓reduceIte] <;> rfl) | fail) only [go_sem, ↓reduceIte]
      exact Qc (by simp [hn]) rfl
    · simp +decide (disch := first | omega | rfl | (simp +decide only [go_sem, ↓reduceIte] <;> rfl) | fail) only [go_sem, ↓reduceIte]
      exact Qc (by simp [hn]) rfl
theorem Qqh {n m : Bool} {a b : List Nat} (ha : Qj a) (hb : Qj b) (hla : a.length < 2 ^ 40) (hlb : b.length < 2 ^ 40) : Qd Tryz.prog 172 [PV.zi n a, PV.zi m b] (· = PV.zz (zv n a + zv m b)) := by
  refine Qf Qk Tryz.func172 rfl Q7b (by simp [Q3t]) fun C hP => ?_; simp only [Q3t]
  simp +decide (disch := first | omega | rfl | (simp +decide only [go_sem, ↓reduceIte] <;> rfl) | fail) only [go_sem, ↓reduceIte]
  refine Qhd (fun hnm => ?_) (fun hnm => ?_)
  · have hnm : n = m := by simpa using hnm
    subst hnm
    simp +decide (disch := first | omega | rfl | (simp +decide only [go_sem, ↓reduceIte] <;> rfl) | fail) only [go_sem, ↓reduceIte]
    refine Qa hP (Q33 ha hb hla hlb) rfl rfl rfl ?_
    simp +decide (disch := first | omega | rfl | (simp +decide only [go_sem, ↓reduceIte] <;> rfl) | fail) only [go_sem, ↓reduceIte]
    refine Qa hP (Qef n (val a + val b)) rfl rfl rfl ?_
    simp +decide (disch := first | omega | rfl | (simp +decide only [go_sem, ↓reduceIte] <;> rfl) | fail) only [go_sem, ↓reduceIte]
    refine Qay ?_
    simp +decide (disch := first | omega | rfl | (simp +decide only [go_sem, ↓reduceIte] <;> rfl) | fail) only [go_sem, ↓reduceIte]
    exact Qc (congrArg PV.zz (by unfold zv; split <;> simp <;> omega)) rfl
  have hnm : n = !m := by cases n <;> cases m <;> simp_all
  subst hnm
  simp +decide (disch := first | omega | rfl | (simp +decide only [go_sem, ↓reduceIte] <;> rfl) | fail) only [go_sem, ↓reduceIte]
  refine Qa hP (Qo9 ha hb hla hlb) rfl rfl rfl ?_
  simp +decide (disch := first | omega | rfl | (simp +decide only [go_sem, ↓reduceIte] <;> rfl) | fail) only [go_sem, ↓reduceIte]
  refine Qb (fun hc => ?_) (fun hc => ?_)
  · rw [Qk8] at hc
    simp +decide (disch := first | omega | rfl | (simp +decide only [go_sem, ↓reduceIte] <;> rfl) | fail) only [go_sem, ↓reduceIte]
    refine Qa hP (Qul hb ha hlb hla (by omega)) rfl rfl rfl ?_
    simp +decide (disch := first | omega | rfl | (simp +decide only [go_sem, ↓reduceIte] <;> rfl) | fail) only [go_sem, ↓reduceIte]
    refine Qa hP (Qef m (val b - val a)) rfl rfl rfl ?_
    simp +decide (disch := first | omega | rfl | (simp +decide only [go_sem, ↓reduceIte] <;> rfl) | fail) only [go_sem, ↓reduceIte]
    refine Qay ?_
    simp +decide (disch := first | omega | rfl | (simp +decide only [go_sem, ↓reduceIte] <;> rfl) | fail) only [go_sem, ↓reduceIte]
    exact Qc (congrArg PV.zz (by unfold zv; cases m <;> simp <;> omega)) rfl
  · rw [Qk8] at hc
    simp +decide (disch := first | omega | rfl | (simp +decide only [go_sem, ↓reduceIte] <;> rfl) | fail) only [go_sem, ↓reduceIte]
    refine Qa hP (Qul ha hb hla hlb (by omega)) rfl rfl rfl ?_
    simp +decide (disch := first | omega | rfl | (simp +decide only [go_sem, ↓reduceIte] <;> rfl) | fail) only [go_sem, ↓reduceIte]
    refine Qa hP (Qef (!m) (val a - val b)) rfl rfl rfl ?_
    simp +decide (disch := first | omega | rfl | (simp +decide only [go_sem, ↓reduceIte] <;> rfl) | fail) only [go_sem, ↓reduceIte]
    refine Qay ?_
    simp +decide (disch := first | omega | rfl | (simp +decide only [go_sem, ↓reduceIte] <;> rfl) | fail) only [go_sem, ↓reduceIte]
    exact Qc (congrArg PV.zz (by unfold zv; cases m <;> simp <;> omega)) rfl
theorem Qd5 {n m : Bool} {a b : List Nat} (ha : Qj a) (hb : Qj b) (hla : a.length < 2 ^ 40) (hlb : b.length < 2 ^ 40) : Qd Tryz.prog 108 [PV.zi n a, PV.zi m b] (· = PV.zz (zv n a * zv m b)) := by
  refine Qf Qk Tryz.func108 rfl Q7c (by simp [Q3u]) fun C hP => ?_; simp only [Q3u]
  simp +decide (disch := first | omega | rfl | (simp +decide only [go_sem, ↓reduceIte] <;> rfl) | fail) only [go_sem, ↓reduceIte]
  refine Qa hP (Qip ha hb hla hlb) rfl rfl rfl ?_
  simp +decide (disch := first | omega | rfl | (simp +decide only [go_sem, ↓reduceIte] <;> rfl) | fail) only [go_sem, ↓reduceIte]
  refine Qa hP (Qef (!(n == m)) (val a * val b)) rfl rfl rfl ?_
  simp +decide (disch := first | omega | rfl | (simp +decide only [go_sem, ↓reduceIte] <;> rfl) | fail) only [go_sem, ↓reduceIte]
  refine Qay ?_
  simp +decide (disch := first | omega | rfl | (simp +decide only [go_sem, ↓reduceIte] <;> rfl) | fail) only [go_sem, ↓reduceIte]
  exact Qc (congrArg PV.zz (by unfold zv; cases n <;> cases m <;> simp [Int.neg_mul, Int.mul_neg])) rfl
end Go.Proofs.YtjkbalanglgoiaaGreat
namespace Go.Proofs.YtjkbalanglgoiaaGreat
open Go Go.FW
set_option linter.unusedSimpArgs false
set_option linter.unusedVariables false
set_option maxRecDepth 100000
theorem Qpa {a : List Nat} (hl : a.length < 2 ^ 43) : Qd Tryz.prog 155 [PV.nat a] (· = .bool (decide (a = [1]))) := by
  refine Qf Qk Tryz.func155 rfl Q7d (by simp [Q3v]) fun C hP => ?_; simp only [Q3v]
  simp +decide (disch := first | omega | rfl | (simp +decide only [go_sem, ↓reduceIte] <;> rfl) | fail) only [go_sem, ↓reduceIte]
  refine Qb (fun hz => ?_) (fun hz => ?_)
  · obtain ⟨x, xs, rfl⟩ : ∃ x xs, a = x :: xs := by
      match a, hz with
      | x :: xs, _ => exact ⟨x, xs, rfl⟩
    simp +decide (disch := first | omega | rfl | (simp +decide only [go_sem, ↓reduceIte, List.map_cons, List.getElem_cons_zero] <;> rfl) | fail) only [go_sem, ↓reduceIte, List.map_cons, List.getElem_cons_zero]
    refine Qc (congrArg PV.bool ?_) rfl
    rw [← Bool.decide_and]
    exact decide_eq_decide.2 ⟨fun ⟨h1, h2⟩ => by
      have : xs = [] := List.length_eq_zero_iff.1 (by omega)
      subst this; congr 1; omega, fun h => by
      injection h with h1 h2; subst h1 h2; simp⟩
  · have : a = [] := List.length_eq_zero_iff.1 (by omega)
    subst this
    simp +decide (disch := first | omega | rfl | (simp +decide only [go_sem, ↓reduceIte] <;> rfl) | fail) only [go_sem, ↓reduceIte]
    exact Qc rfl rfl
theorem Qoj (x : Nat) : (dig x = [1]) ↔ x = 1 := ⟨fun h => by have := Qr x; rw [h] at this; simpa [val] using this.symm, fun h => by rw [h, Qe3]⟩
theorem Qw1 {x : Nat} (hl : (dig x).length < 2 ^ 43) : Qd Tryz.prog 155 [PV.num x] (· = .bool (decide (x = 1))) := by
  have := Qpa hl
  rwa [decide_eq_decide.2 (Qoj x)] at this
theorem Qjd : Qd Tryz.prog 119 [] (· = PV.nat [1]) := by
  refine Qf Qk Tryz.func119 rfl Q7e (by simp [Q3w]) fun C hP => ?_; simp only [Q3w]
  simp +decide (disch := first | omega | rfl | (simp +decide only [go_sem, ↓reduceIte] <;> rfl) | fail) only [go_sem, ↓reduceIte]
  exact Qc rfl rfl
theorem Qlm {x y : Nat} (hx : (dig x).length < 2 ^ 38) (hy : (dig y).length < 2 ^ 38) (h0 : y ≠ 0) : Qd Tryz.prog 56 [PV.num x, PV.num y] (· = .tup [PV.num (x / y), PV.num (x % y), .int .i64 0]) := by
  have := Qjt (Qi x) (Qi y) hx hy
  rwa [Qr, Qr, if_neg h0] at this
theorem Qrl {x y : Nat} (hx : (dig x).length < 2 ^ 38) (hy : (dig y).length < 2 ^ 38) : Qd Tryz.prog 55 [PV.num x, PV.num y] (· = PV.num (Nat.gcd x y)) := by
  have := Q34 (Qi x) (Qi y) hx hy
  rwa [Qr, Qr] at this
theorem Qm6 {n : Bool} {a d : List Nat} (ha : Qj a) (hd : Qj d) (hla : a.length < 2 ^ 38) (hld : d.length < 2 ^ 38) : Qd Tryz.prog 129 [PV.zi n a, PV.nat d] (· = PV.rat (rv n a d)) := by
  have hna := Qag ha
  have hnd := Qag hd
  rw [← Qa9 n a] at hna
  unfold rv
  unfold nl at hna hnd
  refine Qf Qk Tryz.func129 rfl Q7f (by simp [Q3x]) fun C hP => ?_; simp only [Q3x]
  simp +decide (disch := first | omega | rfl | (simp +decide only [go_sem, ↓reduceIte] <;> rfl) | fail) only [go_sem, ↓reduceIte]
  refine Qa hP (Qhm hd (by omega)) rfl rfl rfl ?_
  simp +decide (disch := first | omega | rfl | (simp +decide only [go_sem, ↓reduceIte] <;> rfl) | fail) only [go_sem, ↓reduceIte]
  refine Qa hP (Qv0 ha (by omega)) rfl rfl rfl ?_
  simp +decide (disch := first | omega | rfl | (simp +decide only [go_sem, ↓reduceIte] <;> rfl) | fail) only [go_sem, ↓reduceIte]
  generalize zv n a = z at *
  generalize val d = D at *
  have hlen : ∀ x : Nat, ((dig x).length : Int) = 0 ↔ x = 0 := fun x => by
    rw [← Qbf, ← List.length_eq_zero_iff]; omega
  have fin0 : ∀ {fr : Fr} {hp : HP}, (D = 0 ∨ z = 0) → Qq6 (· = PV.rat (mkRat z D)) (.agg [.bool false, .nilS, PV.nat [1]]) := fun h => by
    rw [Qoc h]; exact Qcl Qwt rfl
  refine Qad (fun hz => ?_) (fun hz => ?_)
  · simp +decide (disch := first | omega | rfl | (simp +decide only [go_sem, ↓reduceIte] <;> rfl) | fail) only [go_sem, ↓reduceIte]
    refine Qa hP Qjd rfl rfl rfl ?_
    simp +decide (disch := first | omega | rfl | (simp +decide only [go_sem, ↓reduceIte] <;> rfl) | fail) only [go_sem, ↓reduceIte]
    refine Qay ?_
    simp +decide (disch := first | omega | rfl | (simp +decide only [go_sem, ↓reduceIte] <;> rfl) | fail) only [go_sem, ↓reduceIte]
    exact fin0 (fr := fr0) (hp := hp0) (.inl ((hlen _).1 hz))
  simp +decide (disch := first | omega | rfl | (simp +decide only [go_sem, ↓reduceIte] <;> rfl) | fail) only [go_sem, ↓reduceIte]
  refine Qb (fun hz2 => ?_) (fun hz2 => ?_)
  · simp +decide (disch := first | omega | rfl | (simp +decide only [go_sem, ↓reduceIte] <;> rfl) | fail) only [go_sem, ↓reduceIte]
    refine Qa hP Qjd rfl rfl rfl ?_
    simp +decide (disch := first | omega | rfl | (simp +decide only [go_sem, ↓reduceIte] <;> rfl) | fail) only [go_sem, ↓reduceIte]
    refine Qay ?_
    simp +decide (disch := first | omega | rfl | (simp +decide only [go_sem, ↓reduceIte] <;> rfl) | fail) only [go_sem, ↓reduceIte]
    exact fin0 (fr := fr0) (hp := hp0) (.inr (Int.natAbs_eq_zero.1 ((hlen _).1 hz2)))
  have hD : D ≠ 0 := fun h => hz ((hlen _).2 h)
  simp +decide (disch := first | omega | rfl | (simp +decide only [go_sem, ↓reduceIte] <;> rfl) | fail) only [go_sem, ↓reduceIte]
  refine Qa hP (Qw1 (by omega)) rfl rfl rfl ?_
  simp +decide (disch := first | omega | rfl | (simp +decide only [go_sem, ↓reduceIte] <;> rfl) | fail) only [go_sem, ↓reduceIte]
  refine Qb (fun h1 => ?_) (fun h1 => ?_)
  · subst h1
    simp +decide (disch := first | omega | rfl | (simp +decide only [go_sem, ↓reduceIte] <;> rfl) | fail) only [go_sem, ↓reduceIte]
    refine Qay ?_
    simp +decide (disch := first | omega | rfl | (simp +decide only [go_sem, ↓reduceIte] <;> rfl) | fail) only [go_sem, ↓reduceIte]
    exact Qc (by rw [← Qab7]; simp only [Qe3]) rfl
  simp +decide (disch := first | omega | rfl | (simp +decide only [go_sem, ↓reduceIte] <;> rfl) | fail) only [go_sem, ↓reduceIte]
  refine Qa hP (Qrl (by omega) (by omega)) rfl rfl rfl ?_
  have hg0 : Nat.gcd z.natAbs D ≠ 0 := fun h => hD (Nat.eq_zero_of_gcd_eq_zero_right h)
  have hgl : (dig (Nat.gcd z.natAbs D)).length < 2 ^ 38 := by
    have := Qa7 (Nat.gcd_le_right z.natAbs (Nat.pos_of_ne_zero hD)); unfold nl at this; omega
  have hfin := Q0g (z := z) hD
  generalize Nat.gcd z.natAbs D = g at *
  simp +decide (disch := first | omega | rfl | (simp +decide only [go_sem, ↓reduceIte] <;> rfl) | fail) only [go_sem, ↓reduceIte]
  refine Qa hP (Qw1 (by omega)) rfl rfl rfl ?_
  simp +decide (disch := first | omega | rfl | (simp +decide only [go_sem, ↓reduceIte] <;> rfl) | fail) only [go_sem, ↓reduceIte]
  refine Qhd (fun h2 => ?_) (fun h2 => ?_)
  · simp +decide (disch := first | omega | rfl | (simp +decide only [go_sem, ↓reduceIte] <;> rfl) | fail) only [go_sem, ↓reduceIte]
    refine Qa hP (Qlm (by omega) hgl hg0) rfl rfl rfl ?_
    simp +decide (disch := first | omega | rfl | (simp +decide only [go_sem, ↓reduceIte] <;> rfl) | fail) only [go_sem, ↓reduceIte]
    refine Qa hP (Qlm (by omega) hgl hg0) rfl rfl rfl ?_
    simp +decide (disch := first | omega | rfl | (simp +decide only [go_sem, ↓reduceIte] <;> rfl) | fail) only [go_sem, ↓reduceIte]
    refine Qay ?_
    simp +decide (disch := first | omega | rfl | (simp +decide only [go_sem, ↓reduceIte] <;> rfl) | fail) only [go_sem, ↓reduceIte]
    exact Qc hfin rfl
  · have : g = 1 := by simpa using h2
    subst this
    rw [Nat.div_one, Nat.div_one] at hfin
    simp +decide (disch := first | omega | rfl | (simp +decide only [go_sem, ↓reduceIte] <;> rfl) | fail) only [go_sem, ↓reduceIte]
    refine Qay ?_
    simp +decide (disch := first | omega | rfl | (simp +decide only [go_sem, ↓reduceIte] <;> rfl) | fail) only [go_sem, ↓reduceIte]
    exact Qc hfin rfl
theorem Qe7 (a : List Nat) : Qd Tryz.prog 109 [PV.nat a] (· = PV.zi false a) := by
  refine Qf Qk Tryz.func109 rfl Q7h (by simp [Q3z]) fun C hP => ?_; simp only [Q3z]
  simp +decide (disch := first | omega | rfl | (simp +decide only [go_sem, ↓reduceIte] <;> rfl) | fail) only [go_sem, ↓reduceIte]
  refine Qay ?_
  simp +decide (disch := first | omega | rfl | (simp +decide only [go_sem, ↓reduceIte] <;> rfl) | fail) only [go_sem, ↓reduceIte]
  exact Qc rfl rfl
def Q98 (k : Nat) (q : Rat) (r : PV) : Prop := ∃ n a d, r = .tup [PV.zi n a, PV.nat d] ∧ Qj a ∧ Qj d ∧ a.length ≤ k ∧ d.length ≤ k ∧ val d ≠ 0 ∧ rv n a d = q
theorem Qd6 {n : Bool} {a d : List Nat} {k : Nat} (ha : Qj a) (hd : Qj d) (hk : 1 ≤ k) (hla : a.length ≤ k) (hld : d.length ≤ k) (hk2 : k < 2 ^ 38) : Qd Tryz.prog 107 [PV.rr n a d] (Q98 k (rv n a d)) := by
  refine Qf Qk Tryz.func107 rfl Q7g (by simp [Q3y]) fun C hP => ?_; simp only [Q3y]
  simp +decide (disch := first | omega | rfl | (simp +decide only [go_sem, ↓reduceIte] <;> rfl) | fail) only [go_sem, ↓reduceIte]
  refine Qcv hP (Qsb hd (by omega)) rfl rfl rfl ?_
  rintro _ ⟨b, rfl, hb⟩
  simp +decide (disch := first | omega | rfl | (simp +decide only [go_sem, ↓reduceIte] <;> rfl) | fail) only [go_sem, ↓reduceIte]
  refine Qb (fun hz => ?_) (fun hz => ?_)
  · have h0 : val d = 0 := hb.1 (by omega)
    simp +decide (disch := first | omega | rfl | (simp +decide only [go_sem, ↓reduceIte] <;> rfl) | fail) only [go_sem, ↓reduceIte]
    refine Qa hP Qjd rfl rfl rfl ?_
    simp +decide (disch := first | omega | rfl | (simp +decide only [go_sem, ↓reduceIte] <;> rfl) | fail) only [go_sem, ↓reduceIte]
    refine Qfd ?_
    simp +decide (disch := first | omega | rfl | (simp +decide only [go_sem, ↓reduceIte] <;> rfl) | fail) only [go_sem, ↓reduceIte]
    refine ⟨⟨rfl, rfl⟩, .tup [PV.zi false [], PV.nat [1]], ⟨⟨rfl, trivial, trivial⟩, Qt _, trivial⟩, false, [], [1], rfl, Qb8, by intro x hx; simp at hx; omega, by simp, by simpa using hk, by simp [val], ?_⟩
    unfold rv; rw [h0, Rat.mkRat_zero]; rfl
  · have h0 : val d ≠ 0 := fun h => hz (by rw [hb.2 h]; rfl)
    simp +decide (disch := first | omega | rfl | (simp +decide only [go_sem, ↓reduceIte] <;> rfl) | fail) only [go_sem, ↓reduceIte]
    refine Qcr ?_ ?_
    all_goals
      simp +decide (disch := first | omega | rfl | (simp +decide only [go_sem, ↓reduceIte] <;> rfl) | fail) only [go_sem, ↓reduceIte]
      refine Qfd ?_
      simp +decide (disch := first | omega | rfl | (simp +decide only [go_sem, ↓reduceIte] <;> rfl) | fail) only [go_sem, ↓reduceIte]
      exact ⟨⟨rfl, rfl⟩, .tup [PV.zi n a, PV.nat d], ⟨Qt _, Qt _, trivial⟩, n, a, d, rfl, ha, hd, hla, hld, h0, rfl⟩
theorem Q35 {z : Int} {m : Bool} {b : List Nat} (hb : Qj b) (hla : nl z.natAbs < 2 ^ 40) (hlb : b.length < 2 ^ 40) : Qd Tryz.prog 172 [PV.zz z, PV.zi m b] (· = PV.zz (z + zv m b)) := by
  have := Qqh (n := decide (z < 0)) (a := dig z.natAbs) (m := m) (Qi _) hb hla hlb
  rwa [Qe6] at this
theorem Qun {n m : Bool} {a b : List Nat} (ha : Qj a) (hb : Qj b) (hla : a.length < 2 ^ 39) (hlb : b.length < 2 ^ 39) : Qd Tryz.prog 156 [.sl 2 [PV.zi n a, PV.zi m b]] (· = PV.zz (zv n a + zv m b)) := by
  have hna := Qag ha
  rw [← Qa9 n a] at hna
  refine Qf Qk Tryz.func156 rfl Q7i (by simp [Q30]) fun C hP => ?_; simp only [Q30]
  simp +decide (disch := first | omega | rfl | (simp +decide only [go_sem, ↓reduceIte] <;> rfl) | fail) only [go_sem, ↓reduceIte]
  refine Qz (by repeat (first | exact Qv | exact Qp | exact Qq | apply Qo | apply Qu | apply Q2 | apply Q5 | apply Q6 | apply Qm)) [(5, 5), (8, 15)] [5] (fun k J hp => ∃ i, k = 2 - i ∧ i ≤ 2 ∧ J 8 = .int .i64 (i : Nat) ∧ hp 2 = some ⟨2, 31, [.agg [.bool false, .nilS]], false⟩ ∧ hp 3 = some ⟨2, 31, [if i = 0 then .agg [.bool false, .nilS] else if i = 1 then PV.zz (zv n a) else PV.zz (zv n a + zv m b)], false⟩) 2 ?_ ?_
  · refine ⟨0, rfl, by omega, ?_⟩
    simp +decide (disch := first | omega | rfl | (simp +decide only [go_sem, ↓reduceIte] <;> rfl) | fail) only [go_sem, ↓reduceIte]
    simp
  rintro _ J h ⟨i, rfl, hi, h8, hh2, hh3⟩
  simp +decide (disch := first | omega | rfl | (simp +decide only [go_sem, ↓reduceIte, h8] <;> rfl) | fail) only [go_sem, ↓reduceIte, h8]
  refine Qb (fun hg => ?_) (fun hg => ?_)
  · have hi2 : i = 0 ∨ i = 1 := by have : i < 2 := by omega
                                   omega
    rcases hi2 with rfl | rfl
    · have h8' : J 8 = .int .i64 0 := h8
      simp +decide (disch := first | omega | rfl | (simp +decide only [go_sem, ↓reduceIte, h8', hh2, hh3] <;> rfl) | fail) only [go_sem, ↓reduceIte, h8', hh2, hh3]
      refine Qa hP ((Qqh (n := false) (a := []) (m := n) (b := a) Qb8 ha (by simp) (by omega)).le (args' := [.agg [.bool false, .nilS], PV.zi n a]) ⟨⟨rfl, trivial, trivial⟩, Qt _, trivial⟩) rfl rfl rfl ?_
      simp +decide (disch := first | omega | rfl | (simp +decide only [go_sem, ↓reduceIte, h8', hh2, hh3] <;> rfl) | fail) only [go_sem, ↓reduceIte, h8', hh2, hh3]
      refine Ql 1 (by omega) ⟨1, rfl, by omega, ?_⟩
      simp +decide (disch := first | omega | rfl | (simp +decide only [go_sem, ↓reduceIte, hh2, hh3] <;> rfl) | fail) only [go_sem, ↓reduceIte, hh2, hh3]
      simp [zv, val]
    · rw [if_neg (by omega), if_pos rfl] at hh3
      have h8' : J 8 = .int .i64 1 := h8
      simp +decide (disch := first | omega | rfl | (simp +decide only [go_sem, ↓reduceIte, h8', hh2, hh3] <;> rfl) | fail) only [go_sem, ↓reduceIte, h8', hh2, hh3]
      refine Qa hP (Q35 (z := zv n a) hb (by omega) (by omega)) rfl rfl rfl ?_
      simp +decide (disch := first | omega | rfl | (simp +decide only [go_sem, ↓reduceIte, h8', hh2, hh3] <;> rfl) | fail) only [go_sem, ↓reduceIte, h8', hh2, hh3]
      refine Ql 0 (by omega) ⟨2, rfl, by omega, ?_⟩
      simp +decide (disch := first | omega | rfl | (simp +decide only [go_sem, ↓reduceIte, hh2, hh3] <;> rfl) | fail) only [go_sem, ↓reduceIte, hh2, hh3]
      simp
  · obtain rfl : i = 2 := by simp at hg; omega
    rw [if_neg (by omega), if_neg (by omega)] at hh3
    simp +decide (disch := first | omega | rfl | (simp +decide only [go_sem, ↓reduceIte, h8, hh2, hh3] <;> rfl) | fail) only [go_sem, ↓reduceIte, h8, hh2, hh3]
    refine Qay ?_
    simp +decide (disch := first | omega | rfl | (simp +decide only [go_sem, ↓reduceIte, hh2, hh3] <;> rfl) | fail) only [go_sem, ↓reduceIte, hh2, hh3]
    exact Qc rfl rfl
end Go.Proofs.YtjkbalanglgoiaaGreat
namespace Go.Proofs.YtjkbalanglgoiaaGreat
open Go Go.FW
set_option linter.unusedSimpArgs false
set_option linter.unusedVariables false
set_option maxRecDepth 100000
theorem Qh0 {z : Int} {d : List Nat} (hd : Qj d) (hz : nl z.natAbs < 2 ^ 38) (hld : d.length < 2 ^ 38) : Qd Tryz.prog 129 [PV.zz z, PV.nat d] (· = PV.rat (mkRat z (val d))) := by
  have := Qm6 (n := decide (z < 0)) (Qi z.natAbs) hd hz hld
  rwa [rv, Qe6] at this
theorem Q0r {x y : Int} (hx : nl x.natAbs < 2 ^ 39) (hy : nl y.natAbs < 2 ^ 39) : Qd Tryz.prog 156 [.sl 2 [PV.zz x, PV.zz y]] (· = PV.zz (x + y)) := by
  have := Qun (n := decide (x < 0)) (m := decide (y < 0)) (Qi x.natAbs) (Qi y.natAbs) hx hy
  rwa [Qe6, Qe6] at this
structure Raw (k : Nat) (n : Bool) (a d : List Nat) : Prop where
  la : Qj a
  ld : Qj d
  sa : a.length ≤ k
  sd : d.length ≤ k
  k1 : 1 ≤ k
theorem Qbh {q : Rat} {k : Nat} (h : rs q ≤ k) : Raw k (decide (q.num < 0)) (dig q.num.natAbs) (dig q.den) := by
  have := Qt8 q
  unfold rs nl at *
  exact ⟨Qi _, Qi _, by omega, by omega, by omega⟩
theorem Raw.rs {n : Bool} {a d : List Nat} {k : Nat} (h : Raw k n a d) : FW.rs (rv n a d) ≤ k := Q9u (k := k) (n := k) h.la h.ld h.sa h.sd h.k1
theorem Qsc {n m : Bool} {a d b c : List Nat} {k : Nat} (hp : Raw k n a d) (hq : Raw k m b c) (hk : k < 2 ^ 36) : Qd Tryz.prog 97 [PV.rr n a d, PV.rr m b c] (· = PV.rat (rv n a d + rv m b c)) := by
  refine Qf Qk Tryz.func97 rfl Q95 (by simp [c97]) fun C hP => ?_; simp only [c97]
  simp +decide (disch := first | omega | rfl | (simp +decide only [go_sem, ↓reduceIte] <;> rfl) | fail) only [go_sem, ↓reduceIte]
  refine Qcv hP (Qd6 hp.la hp.ld hp.k1 hp.sa hp.sd (by omega)) rfl rfl rfl ?_
  rintro _ ⟨n', a', d', rfl, g1, g2, g3, g4, g5, g6⟩
  simp +decide (disch := first | omega | rfl | (simp +decide only [go_sem, ↓reduceIte] <;> rfl) | fail) only [go_sem, ↓reduceIte]
  refine Qcv hP (Qd6 hq.la hq.ld hq.k1 hq.sa hq.sd (by omega)) rfl rfl rfl ?_
  rintro _ ⟨m', b', c', rfl, e1, e2, e3, e4, e5, e6⟩
  simp +decide (disch := first | omega | rfl | (simp +decide only [go_sem, ↓reduceIte] <;> rfl) | fail) only [go_sem, ↓reduceIte]
  refine Qa hP (Qpa (by omega)) rfl rfl rfl ?_
  have key := Rat.mkRat_add_mkRat (zv n' a') (zv m' b') g5 e5
  have hza : nl (zv n' a').natAbs ≤ k := by rw [Qa9]; exact Nat.le_trans (Qag g1) g3
  have hzb : nl (zv m' b').natAbs ≤ k := by rw [Qa9]; exact Nat.le_trans (Qag e1) e3
  have hvd : nl (val d') ≤ k := Nat.le_trans (Qag g2) g4
  have hvc : nl (val c') ≤ k := Nat.le_trans (Qag e2) e4
  rw [← g6, ← e6]
  unfold rv
  rw [key]
  simp +decide (disch := first | omega | rfl | (simp +decide only [go_sem, ↓reduceIte] <;> rfl) | fail) only [go_sem, ↓reduceIte]
  refine Qaj (fun h1 => ?_) (fun h1 => ?_)
  · simp +decide (disch := first | omega | rfl | (simp +decide only [go_sem, ↓reduceIte] <;> rfl) | fail) only [go_sem, ↓reduceIte]
    refine Qa hP (Qpa (by omega)) rfl rfl rfl ?_
    simp +decide (disch := first | omega | rfl | (simp +decide only [go_sem, ↓reduceIte] <;> rfl) | fail) only [go_sem, ↓reduceIte]
    refine Qb (fun h2 => ?_) (fun h2 => ?_)
    · subst h1 h2
      simp +decide (disch := first | omega | rfl | (simp +decide only [go_sem, ↓reduceIte] <;> rfl) | fail) only [go_sem, ↓reduceIte]
      refine Qbi hP (Qun (n := n') (m := m') g1 e1 (by omega) (by omega)) (by simp +decide (disch := first | omega | rfl | (simp +decide only [go_sem, ↓reduceIte, Qg, List.contains_cons, List.contains_nil, List.flatMap_cons, List.flatMap_nil, List.append_nil] <;> rfl) | fail) only [go_sem, ↓reduceIte, Qg, List.contains_cons, List.contains_nil, List.flatMap_cons, List.flatMap_nil, List.append_nil]) rfl ?_
      simp +decide (disch := first | omega | rfl | (simp +decide only [go_sem, ↓reduceIte, Qg, List.contains_cons, List.contains_nil, List.flatMap_cons, List.flatMap_nil, List.append_nil] <;> rfl) | fail) only [go_sem, ↓reduceIte, Qg, List.contains_cons, List.contains_nil, List.flatMap_cons, List.flatMap_nil, List.append_nil]
      have hs := Qeb (zv n' a') (zv m' b')
      refine Qa hP (Qh0 g2 (by omega) (by omega)) rfl rfl rfl ?_
      simp +decide (disch := first | omega | rfl | (simp +decide only [go_sem, ↓reduceIte, Qg, List.contains_cons, List.contains_nil, List.flatMap_cons, List.flatMap_nil, List.append_nil] <;> rfl) | fail) only [go_sem, ↓reduceIte, Qg, List.contains_cons, List.contains_nil, List.flatMap_cons, List.flatMap_nil, List.append_nil]
      refine Qay ?_
      simp +decide (disch := first | omega | rfl | (simp +decide only [go_sem, ↓reduceIte, Qg, List.contains_cons, List.contains_nil, List.flatMap_cons, List.flatMap_nil, List.append_nil] <;> rfl) | fail) only [go_sem, ↓reduceIte, Qg, List.contains_cons, List.contains_nil, List.flatMap_cons, List.flatMap_nil, List.append_nil]
      exact Qc (congrArg PV.rat (by simp [val])) rfl
    · simp +decide (disch := first | omega | rfl | (simp +decide only [go_sem, ↓reduceIte] <;> rfl) | fail) only [go_sem, ↓reduceIte]
      refine Qa hP (Qe7 _) rfl rfl rfl ?_
      simp +decide (disch := first | omega | rfl | (simp +decide only [go_sem, ↓reduceIte] <;> rfl) | fail) only [go_sem, ↓reduceIte]
      refine Qa hP (Qd5 (n := n') (m := false) g1 e2 (by omega) (by omega)) rfl rfl rfl ?_
      simp +decide (disch := first | omega | rfl | (simp +decide only [go_sem, ↓reduceIte] <;> rfl) | fail) only [go_sem, ↓reduceIte]
      refine Qa hP (Qe7 _) rfl rfl rfl ?_
      simp +decide (disch := first | omega | rfl | (simp +decide only [go_sem, ↓reduceIte] <;> rfl) | fail) only [go_sem, ↓reduceIte]
      refine Qa hP (Qd5 (n := m') (m := false) e1 g2 (by omega) (by omega)) rfl rfl rfl ?_
      rw [Qfn, Qfn]
      have h3 := Qaq (zv n' a') (val c')
      have h4 := Qaq (zv m' b') (val d')
      have h5 := Qeb (zv n' a' * (val c' : Int)) (zv m' b' * (val d' : Int))
      have h6 := Qb1 (val d') (val c')
      rw [Int.natAbs_natCast] at h3 h4
      simp +decide (disch := first | omega | rfl | (simp +decide only [go_sem, ↓reduceIte] <;> rfl) | fail) only [go_sem, ↓reduceIte]
      refine Qbi hP (Q0r (x := zv n' a' * (val c' : Int)) (y := zv m' b' * (val d' : Int)) (by omega) (by omega)) (by simp +decide (disch := first | omega | rfl | (simp +decide only [go_sem, ↓reduceIte, Qg, List.contains_cons, List.contains_nil, List.flatMap_cons, List.flatMap_nil, List.append_nil] <;> rfl) | fail) only [go_sem, ↓reduceIte, Qg, List.contains_cons, List.contains_nil, List.flatMap_cons, List.flatMap_nil, List.append_nil]) rfl ?_
      simp +decide (disch := first | omega | rfl | (simp +decide only [go_sem, ↓reduceIte, Qg, List.contains_cons, List.contains_nil, List.flatMap_cons, List.flatMap_nil, List.append_nil] <;> rfl) | fail) only [go_sem, ↓reduceIte, Qg, List.contains_cons, List.contains_nil, List.flatMap_cons, List.flatMap_nil, List.append_nil]
      refine Qa hP (Qip g2 e2 (by omega) (by omega)) rfl rfl rfl ?_
      simp +decide (disch := first | omega | rfl | (simp +decide only [go_sem, ↓reduceIte, Qg, List.contains_cons, List.contains_nil, List.flatMap_cons, List.flatMap_nil, List.append_nil] <;> rfl) | fail) only [go_sem, ↓reduceIte, Qg, List.contains_cons, List.contains_nil, List.flatMap_cons, List.flatMap_nil, List.append_nil]
      refine Qa hP (Qh0 (z := zv n' a' * (val c' : Int) + zv m' b' * (val d' : Int)) (Qi _) (by omega) (by show nl _ < _; omega)) rfl rfl rfl ?_
      simp +decide (disch := first | omega | rfl | (simp +decide only [go_sem, ↓reduceIte, Qg, List.contains_cons, List.contains_nil, List.flatMap_cons, List.flatMap_nil, List.append_nil] <;> rfl) | fail) only [go_sem, ↓reduceIte, Qg, List.contains_cons, List.contains_nil, List.flatMap_cons, List.flatMap_nil, List.append_nil]
      refine Qay ?_
      simp +decide (disch := first | omega | rfl | (simp +decide only [go_sem, ↓reduceIte, Qg, List.contains_cons, List.contains_nil, List.flatMap_cons, List.flatMap_nil, List.append_nil] <;> rfl) | fail) only [go_sem, ↓reduceIte, Qg, List.contains_cons, List.contains_nil, List.flatMap_cons, List.flatMap_nil, List.append_nil]
      exact Qc (by rw [Qr]) rfl
  ·   simp +decide (disch := first | omega | rfl | (simp +decide only [go_sem, ↓reduceIte] <;> rfl) | fail) only [go_sem, ↓reduceIte]
      refine Qa hP (Qe7 _) rfl rfl rfl ?_
      simp +decide (disch := first | omega | rfl | (simp +decide only [go_sem, ↓reduceIte] <;> rfl) | fail) only [go_sem, ↓reduceIte]
      refine Qa hP (Qd5 (n := n') (m := false) g1 e2 (by omega) (by omega)) rfl rfl rfl ?_
      simp +decide (disch := first | omega | rfl | (simp +decide only [go_sem, ↓reduceIte] <;> rfl) | fail) only [go_sem, ↓reduceIte]
      refine Qa hP (Qe7 _) rfl rfl rfl ?_
      simp +decide (disch := first | omega | rfl | (simp +decide only [go_sem, ↓reduceIte] <;> rfl) | fail) only [go_sem, ↓reduceIte]
      refine Qa hP (Qd5 (n := m') (m := false) e1 g2 (by omega) (by omega)) rfl rfl rfl ?_
      rw [Qfn, Qfn]
      have h3 := Qaq (zv n' a') (val c')
      have h4 := Qaq (zv m' b') (val d')
      have h5 := Qeb (zv n' a' * (val c' : Int)) (zv m' b' * (val d' : Int))
      have h6 := Qb1 (val d') (val c')
      rw [Int.natAbs_natCast] at h3 h4
      simp +decide (disch := first | omega | rfl | (simp +decide only [go_sem, ↓reduceIte] <;> rfl) | fail) only [go_sem, ↓reduceIte]
      refine Qbi hP (Q0r (x := zv n' a' * (val c' : Int)) (y := zv m' b' * (val d' : Int)) (by omega) (by omega)) (by simp +decide (disch := first | omega | rfl | (simp +decide only [go_sem, ↓reduceIte, Qg, List.contains_cons, List.contains_nil, List.flatMap_cons, List.flatMap_nil, List.append_nil] <;> rfl) | fail) only [go_sem, ↓reduceIte, Qg, List.contains_cons, List.contains_nil, List.flatMap_cons, List.flatMap_nil, List.append_nil]) rfl ?_
      simp +decide (disch := first | omega | rfl | (simp +decide only [go_sem, ↓reduceIte, Qg, List.contains_cons, List.contains_nil, List.flatMap_cons, List.flatMap_nil, List.append_nil] <;> rfl) | fail) only [go_sem, ↓reduceIte, Qg, List.contains_cons, List.contains_nil, List.flatMap_cons, List.flatMap_nil, List.append_nil]
      refine Qa hP (Qip g2 e2 (by omega) (by omega)) rfl rfl rfl ?_
      simp +decide (disch := first | omega | rfl | (simp +decide only [go_sem, ↓reduceIte, Qg, List.contains_cons, List.contains_nil, List.flatMap_cons, List.flatMap_nil, List.append_nil] <;> rfl) | fail) only [go_sem, ↓reduceIte, Qg, List.contains_cons, List.contains_nil, List.flatMap_cons, List.flatMap_nil, List.append_nil]
      refine Qa hP (Qh0 (z := zv n' a' * (val c' : Int) + zv m' b' * (val d' : Int)) (Qi _) (by omega) (by show nl _ < _; omega)) rfl rfl rfl ?_
      simp +decide (disch := first | omega | rfl | (simp +decide only [go_sem, ↓reduceIte, Qg, List.contains_cons, List.contains_nil, List.flatMap_cons, List.flatMap_nil, List.append_nil] <;> rfl) | fail) only [go_sem, ↓reduceIte, Qg, List.contains_cons, List.contains_nil, List.flatMap_cons, List.flatMap_nil, List.append_nil]
      refine Qay ?_
      simp +decide (disch := first | omega | rfl | (simp +decide only [go_sem, ↓reduceIte, Qg, List.contains_cons, List.contains_nil, List.flatMap_cons, List.flatMap_nil, List.append_nil] <;> rfl) | fail) only [go_sem, ↓reduceIte, Qg, List.contains_cons, List.contains_nil, List.flatMap_cons, List.flatMap_nil, List.append_nil]
      exact Qc (by rw [Qr]) rfl
end Go.Proofs.YtjkbalanglgoiaaGreat
namespace Go.Proofs.YtjkbalanglgoiaaGreat
open Go Go.FW Go.ChangeShapes Go.WideShapes Go.ChangeAt Go.RowKit
set_option linter.unusedSimpArgs false
set_option linter.unusedVariables false
set_option maxRecDepth 100000
theorem Qsd {H : Type} {d : DataW H} {l : List (DataW H)} (h : d ∈ l) : Rows.uptoBulk d ≤ Rows.uptoBulkAll l := by
  induction l with
  | nil => cases h
  | cons x r ih =>
    simp only [Rows.uptoBulkAll]
    cases List.mem_cons.1 h with
    | inl e => subst e; omega
    | inr e => have := ih e; omega
theorem Q36 {H : Type} (d : DataW H) : 1 ≤ Rows.uptoBulk d := by
  cases d with
  | lit l => cases l <;> simp [Rows.uptoBulk]
  | nil => simp [Rows.uptoBulk]
  | ptr d => simp [Rows.uptoBulk]
  | slice elems spare => simp [Rows.uptoBulk]
  | agg parts => simp [Rows.uptoBulk]
  | iface t d => simp [Rows.uptoBulk]
  | map entries => simp [Rows.uptoBulk]
  | held h => simp [Rows.uptoBulk]
theorem Qv1 {H : Type} (l : List (DataW H)) : l.length ≤ Rows.uptoBulkAll l := by
  induction l with
  | nil => simp [Rows.uptoBulkAll]
  | cons x r ih => have := Q36 x; simp only [Rows.uptoBulkAll, List.length_cons]; omega
theorem Qb3 {H : Type} : Q3b (H := H) Rows.uptoBulk := by
  refine ⟨fun elems spare => ?_, fun elems spare d hd => ?_, fun parts d hd => ?_⟩
  · have := Qv1 elems
    simp only [Rows.uptoBulk]; omega
  · have := Qsd hd
    simp only [Rows.uptoBulk]; omega
  · have := Qsd hd
    simp only [Rows.uptoBulk]; omega
theorem Q37 {H : Type} {l : List (DataW H)} (hk : Rows.uptoSmall H l = true) : Rows.uptoBulkAll l ≤ 1048576 := of_decide_eq_true hk
theorem own : ownKnob Tryz.prog.godebug = none := by kernel_rfl
theorem laid : laidOutB Tryz.prog = true := by kernel_rfl
theorem Q99 : mapsRowed Tryz.prog = true := by kernel_rfl
def Q0s (P : Program) : Bool := (List.range P.types.size).all fun t => match P.underlying t with | some (.slice e) => decide (0 < P.cellsOf e) | _ => true
theorem Qaca : Q0s Tryz.prog = true := by kernel_rfl
theorem Qaaa {t e : TypeId} (ht : t < Tryz.prog.types.size) (he : Tryz.prog.underlying t = some (.slice e)) : 0 < Tryz.prog.cellsOf e := by
  have h := Qaca
  simp only [Q0s, List.all_eq_true] at h
  have := h t (List.mem_range.2 ht)
  rw [he] at this
  exact of_decide_eq_true this
variable {H : Type} {enc : TypeId × Value → H}
abbrev Rd (enc : TypeId × Value → H) := Qd4 enc Tryz.prog Rows.uptoBulk 1048576
theorem Qse : Tryz.prog.cellsOf 111 = 1 := by kernel_rfl
theorem Qmy : Tryz.prog.cellsOf 3 = 1 := by kernel_rfl
theorem Qqi : Tryz.prog.cellsOf 61 = 4 := by kernel_rfl
theorem Q0t : Rd enc 29 fun ps => ∃ l : List Nat, ps = [PV.nat l] ∧ l.length ≤ 1048576 ∧ Qj l := by
  refine (Qjq (α := Nat) (f := fun (x : Nat) => .int .u16 x) (G := fun x => x < 65536) Qb3 Tryz.underlying29 (by rw [Qse]; omega) (Q0m Tryz.underlying111)).mono ?_
  rintro ps ⟨l, rfl, h1, h2⟩
  exact ⟨l, by rw [Qse], h1, h2⟩
theorem Q7l : Rd enc 59 fun ps => ∃ l : List Int, ps = [PV.mono l] ∧ l.length ≤ 1048576 ∧ ∀ x ∈ l, -9223372036854775808 ≤ x ∧ x ≤ 9223372036854775807 := by
  refine (Qjq (α := Int) (f := fun (x : Int) => .int .i64 x) Qb3 Tryz.underlying59 (by rw [Qmy]; omega) (Q0n Tryz.underlying3)).mono ?_
  rintro ps ⟨l, rfl, h1, h2⟩
  exact ⟨l, by rw [Qmy], h1, h2⟩
theorem Qaab : Rd enc 31 fun ps => ∃ (n : Bool) (a : List Nat), ps = [.bool n, PV.nat a] ∧ a.length ≤ 1048576 ∧ Qj a := by
  refine (Qht Qb3 Tryz.underlying31 rfl (by kernel_rfl) (by kernel_rfl) (Qx7 Tryz.underlying4) Q0t).mono ?_
  rintro ps ⟨p, q, rfl, ⟨n, rfl⟩, a, rfl, h⟩
  exact ⟨n, a, rfl, h⟩
theorem Qaac : Rd enc 33 fun ps => ∃ (n : Bool) (a d : List Nat), ps = [.bool n, PV.nat a, PV.nat d] ∧ Raw 1048576 n a d := by
  refine (Qht Qb3 Tryz.underlying33 rfl (by kernel_rfl) (by kernel_rfl) Qaab Q0t).mono ?_
  rintro ps ⟨p, q, rfl, ⟨n, a, rfl, h1, h2⟩, d, rfl, h3, h4⟩
  exact ⟨n, a, d, rfl, h2, h4, h1, h3, by omega⟩
instance : Inhabited RTm := ⟨⟨false, [], [], []⟩⟩
def Qs5 (l : List RTm) : Prop := l.length ≤ 1048576 ∧ ∀ t ∈ l, RB 1048576 t ∧ ∀ x ∈ t.m, -9223372036854775808 ≤ x ∧ x ≤ 9223372036854775807
theorem Q7m : Rd enc 61 fun ps => ∃ t : RTm, ps = (PV.rterm t).cells ∧ (RB 1048576 t ∧ ∀ x ∈ t.m, -9223372036854775808 ≤ x ∧ x ≤ 9223372036854775807) := by
  refine (Qht Qb3 Tryz.underlying61 rfl (by kernel_rfl) (by kernel_rfl) Qaac Q7l).mono ?_
  rintro ps ⟨p, q, rfl, ⟨n, a, d, rfl, h⟩, m, rfl, h3, h4⟩
  exact ⟨⟨n, a, d, m⟩, rfl, ⟨⟨h.la, h.ld, h.sa, h.sd⟩, by show m.length < 2 ^ 40; omega⟩, h4⟩
theorem Q7n : Rd enc 23 fun ps => ∃ l : List RTm, ps = [PV.rpoly l] ∧ Qs5 l := by
  refine (Qjq (f := PV.rterm) Qb3 Tryz.underlying23 (by rw [Qqi]; omega) Q7m).mono ?_
  rintro ps ⟨l, rfl, h1, h2⟩
  exact ⟨l, by rw [Qqi], h1, h2⟩
variable {w : World} {base : Nat} {spare : Nat → Bool} {held : Bool} {r : Reach} {b0 : Nat} {v : Value} {d : DataW H} {ps : List MemPlace}
theorem Quo (Qcq : Value.okWide Tryz.prog w r b0 23 v) (hd : DataW.Trod enc Tryz.prog w base spare held 23 v d ps) (hn : Rows.uptoBulk d ≤ 1048576) : ∃ l, Qab w Qbe (PV.rpoly l) v ∧ Qs5 l := by
  obtain ⟨p, ⟨l, e, h⟩, h2⟩ := Q0o Tryz.underlying23 Qcq Q7n hd hn
  obtain rfl : p = PV.rpoly l := by simpa using e
  exact ⟨l, h2, h⟩
theorem Q0u {f : FuncId} {fn : Func} {s : ChangeSpec} {ap fresh handsOn Qnl : Bool} {W : World} {args : Array Value} {ds gs : List (DataW H)} {before : List MemPlace} {pargs : List PV}
    (hW : DataW.Whole enc Tryz.prog fn.params.toList s.vars ap W args.toList ds gs before) (hvars : s.vars = []) (hres : fn.resultTypes = #[4]) (hpar : (fn.params.toList.all fun t => decide (t < Tryz.prog.types.size)) = true)
    (hfn : s.fn H (ds ++ gs) = { results := [.lit (.bool true)], args := ds })
    (hF : Qd Tryz.prog f pargs (· = .bool true)) (hsize : args.size = pargs.length) (hrep : ∀ (i : Nat) (x : PV), pargs[i]? = some x → Qab W Qbe x (args.getD i undef)) :
    Calls Tryz.prog f args W fun e W' => ∃ v, e = .returned v ∧ s.post enc Tryz.prog fn ap fresh handsOn Qnl W args v W' := by
  simp only [List.all_eq_true, decide_eq_true_eq] at hpar
  exact Quj hW hvars hres Tryz.underlying4 laid Q99 (fun h1 h2 => Qaaa h1 h2) hpar hfn hF hsize hrep
theorem Q38 {w : World} {ps : List PV} {vs : List Value} (h : ∀ (i : Nat) (x : PV), ps[i]? = some x → ∀ v, vs[i]? = some v → Qab w Qbe x v) (hl : vs.length = ps.length) : ∀ (i : Nat) (x : PV), ps[i]? = some x → Qab w Qbe x (vs.toArray.getD i undef) := by
  intro i x hx
  have hi : i < vs.length := by rw [hl]; exact (List.getElem?_eq_some_iff.1 hx).1
  have := h i x hx vs[i] (List.getElem?_eq_getElem hi)
  simpa [Array.getD, hi] using this
end Go.Proofs.YtjkbalanglgoiaaGreat
namespace Go.Proofs.YtjkbalanglgoiaaGreat
open Go Go.FW
set_option maxRecDepth 100000
def Q39 : SFn := ⟨47, [.t 6], .seq (.rg (.o none (.mv 6 (.c .nilS)) .nil)) <| .seq (.rg (.o none (.mv 11 (.t 0)) <|
  .o none (.len 12 (.t 11)) <|
  .o none (.mv 13 (.t 1)) <|
  .o none (.len 14 (.t 13)) <|
  .o none (.mx 15 (.t 12) (.t 14)) <|
  .o none (.mk 16 1 8 3 (.int .i64 0) (.t 15) (.t 15)) <|
  .o none (.mv 7 (.t 16)) .nil)) <| .seq (.seq (.rg (.o none (.mv 17 (.t 7)) <|
  .o none (.len 18 (.t 17)) <|
  .o none (.mv 19 (.c (.int .i64 0))) .nil)) <| .block 0 (.loop (.seq (.rg (.o none (.bin 20 .lss false (.t 19) (.t 18)) .nil)) <| .seq (.cond (.t 20) (.skip) (.exit 0)) <| .seq (.block 1 (.seq (.rg (.o none (.mv 21 (.t 19)) <|
  .o none (.mv 8 (.t 21)) .nil)) <| .seq (.rg (.o none (.mv 9 (.c (.int .i64 0))) <|
  .o none (.mv 10 (.c (.int .i64 0))) .nil)) <| .seq (.seq (.rg (.o none (.mv 22 (.t 8)) <|
  .o none (.mv 23 (.t 0)) <|
  .o none (.len 24 (.t 23)) <|
  .o none (.bin 25 .lss false (.t 22) (.t 24)) .nil)) <| .cond (.t 25) (.rg (.o none (.mv 26 (.t 0)) <|
  .o none (.mv 27 (.t 8)) <|
  .o none (.idx 28 1 (.t 26) (.t 27)) <|
  .o none (.ld 29 1 false (.t 28)) <|
  .o none (.mv 9 (.t 29)) .nil)) (.skip)) <| .seq (.seq (.rg (.o none (.mv 30 (.t 8)) <|
  .o none (.mv 31 (.t 1)) <|
  .o none (.len 32 (.t 31)) <|
  .o none (.bin 33 .lss false (.t 30) (.t 32)) .nil)) <| .cond (.t 33) (.rg (.o none (.mv 34 (.t 1)) <|
  .o none (.mv 35 (.t 8)) <|
  .o none (.idx 36 1 (.t 34) (.t 35)) <|
  .o none (.ld 37 1 false (.t 36)) <|
  .o none (.mv 10 (.t 37)) .nil)) (.skip)) <| .rg (.o none (.mv 38 (.t 7)) <|
  .o none (.mv 39 (.t 8)) <|
  .o none (.mv 40 (.t 2)) <|
  .o none (.mv 41 (.t 9)) <|
  .o none (.mv 42 (.t 10)) <|
  .o none (.call (some 43) false (.t 40) [(.t 41), (.t 42)]) <|
  .o none (.idx 44 1 (.t 38) (.t 39)) <|
  .o none (.st 1 (.t 44) (.t 43)) .nil))) <| .rg (.o none (.bin 45 .add false (.t 19) (.c (.int .i64 1))) <|
  .o none (.mv 19 (.t 45)) .nil)))) <| .seq (.rg (.o none (.mv 46 (.t 7)) <|
  .o none (.mv 6 (.t 46)) .nil)) <| .ret⟩
theorem Q7o : Qe Tryz.prog Tryz.f105 = some Q39 := by kernel_rfl
def Q4a : SFn := ⟨24, [.t 2], .seq (.rg (.o none (.mv 2 (.c .nilS)) .nil)) <| .seq (.rg (.o none (.mv 4 (.t 0)) <|
  .o none (.len 5 (.t 4)) <|
  .o none (.mv 3 (.t 5)) .nil)) <| .seq (.block 0 (.loop (.seq (.seq (.rg (.o none (.mv 6 (.t 3)) <|
  .o none (.bin 7 .gtr false (.t 6) (.c (.int .i64 0))) <|
  .o none (.mv 8 (.t 7)) <|
  .o (some (8, true)) (.mv 9 (.t 0)) <|
  .o (some (8, true)) (.mv 10 (.t 3)) <|
  .o (some (8, true)) (.bin 11 .sub false (.t 10) (.c (.int .i64 1))) <|
  .o (some (8, true)) (.idx 12 1 (.t 9) (.t 11)) <|
  .o (some (8, true)) (.ld 13 1 false (.t 12)) <|
  .o (some (8, true)) (.bin 14 .eql false (.t 13) (.c (.int .i64 0))) <|
  .o none (.pick 15 (.t 8) (.t 14) (.c (.bool false))) .nil)) <| .cond (.t 15) (.skip) (.exit 0)) <| .block 1 (.rg (.o none (.mv 16 (.t 3)) <|
  .o none (.bin 17 .sub false (.t 16) (.c (.int .i64 1))) <|
  .o none (.mv 3 (.t 17)) .nil))))) <| .seq (.seq (.rg (.o none (.mv 18 (.t 3)) <|
  .o none (.bin 19 .eql false (.t 18) (.c (.int .i64 0))) .nil)) <| .cond (.t 19) (.seq (.rg (.o none (.mv 2 (.c .nilS)) .nil)) <| .ret) (.skip)) <| .seq (.rg (.o none (.mv 20 (.t 0)) <|
  .o none (.mv 21 (.t 3)) <|
  .o none (.mv 22 (.t 3)) <|
  .o none (.sl 23 1 (.t 20) none (some (.t 21)) (some (.t 22))) <|
  .o none (.mv 2 (.t 23)) .nil)) <| .ret⟩
theorem Q7p : Qe Tryz.prog Tryz.f104 = some Q4a := by kernel_rfl
def Q4b : SFn := ⟨17, [.t 2], .seq (.rg (.o none (.mv 2 (.c (.int .i64 0))) .nil)) <| .seq (.rg (.o none (.mv 3 (.c (.int .i64 0))) .nil)) <| .seq (.seq (.rg (.o none (.mv 6 (.t 0)) <|
  .o none (.len 7 (.t 6)) <|
  .o none (.mv 8 (.c (.int .i64 0))) .nil)) <| .block 0 (.loop (.seq (.rg (.o none (.bin 9 .lss false (.t 8) (.t 7)) .nil)) <| .seq (.cond (.t 9) (.skip) (.exit 0)) <| .seq (.block 1 (.seq (.rg (.o none (.idx 10 1 (.t 6) (.t 8)) <|
  .o none (.ld 11 1 false (.t 10)) <|
  .o none (.mv 5 (.t 11)) .nil)) <| .rg (.o none (.mv 12 (.t 3)) <|
  .o none (.mv 13 (.t 5)) <|
  .o none (.bin 14 .add false (.t 12) (.t 13)) <|
  .o none (.mv 3 (.t 14)) .nil))) <| .rg (.o none (.bin 15 .add false (.t 8) (.c (.int .i64 1))) <|
  .o none (.mv 8 (.t 15)) .nil)))) <| .seq (.rg (.o none (.mv 16 (.t 3)) <|
  .o none (.mv 2 (.t 16)) .nil)) <| .ret⟩
theorem Q7q : Qe Tryz.prog Tryz.f110 = some Q4b := by kernel_rfl
def c75 : SFn := ⟨17, [.t 4], .seq (.rg (.o none (.mv 4 (.c (.int .i64 0))) .nil)) <| .seq (.seq (.rg (.o none (.mv 5 (.t 1)) <|
  .o none (.bin 6 .lss false (.t 5) (.c (.int .i64 0))) <|
  .o none (.mv 7 (.t 6)) <|
  .o (some (7, false)) (.mv 8 (.t 1)) <|
  .o (some (7, false)) (.mv 9 (.t 0)) <|
  .o (some (7, false)) (.len 10 (.t 9)) <|
  .o (some (7, false)) (.bin 11 .geq false (.t 8) (.t 10)) <|
  .o none (.pick 12 (.t 7) (.c (.bool true)) (.t 11)) .nil)) <| .cond (.t 12) (.seq (.rg (.o none (.mv 4 (.c (.int .i64 0))) .nil)) <| .ret) (.skip)) <| .seq (.rg (.o none (.mv 13 (.t 0)) <|
  .o none (.mv 14 (.t 1)) <|
  .o none (.idx 15 1 (.t 13) (.t 14)) <|
  .o none (.ld 16 1 false (.t 15)) <|
  .o none (.mv 4 (.t 16)) .nil)) <| .ret⟩
theorem Qaad : Qe Tryz.prog Tryz.f75 = some c75 := by kernel_rfl
def Q4c : SFn := ⟨9, [.t 4], .seq (.rg (.o none (.mv 4 (.c .nilS)) .nil)) <| .seq (.rg (.o none (.mv 5 (.t 0)) <|
  .o none (.mv 6 (.t 1)) <|
  .o none (.call (some 7) false (.c (.fn 105 [] [])) [(.t 5), (.t 6), (.c (.fn 169 [] []))]) <|
  .o none (.call (some 8) false (.c (.fn 104 [] [])) [(.t 7)]) <|
  .o none (.mv 4 (.t 8)) .nil)) <| .ret⟩
theorem Q7r : Qe Tryz.prog Tryz.f143 = some Q4c := by kernel_rfl
def Q4d : SFn := ⟨8, [.t 4], .seq (.rg (.o none (.mv 4 (.c (.int .i64 0))) .nil)) <| .seq (.rg (.o none (.mv 5 (.t 0)) <|
  .o none (.mv 6 (.t 1)) <|
  .o none (.bin 7 .add false (.t 5) (.t 6)) <|
  .o none (.mv 4 (.t 7)) .nil)) <| .ret⟩
theorem Q7s : Qe Tryz.prog Tryz.f169 = some Q4d := by kernel_rfl
def c48 : SFn := ⟨46, [.t 6], .seq (.rg (.o none (.mv 6 (.c (.int .i64 0))) .nil)) <| .seq (.seq (.rg (.o none (.mv 12 (.t 2)) <|
  .o none (.bin 13 .eql false (.t 12) (.c (.int .i64 1))) .nil)) <| .cond (.t 13) (.seq (.rg (.o none (.mv 14 (.t 0)) <|
  .o none (.call (some 15) false (.c (.fn 110 [] [])) [(.t 14)]) <|
  .o none (.mv 16 (.t 1)) <|
  .o none (.call (some 17) false (.c (.fn 110 [] [])) [(.t 16)]) <|
  .o none (.mv 7 (.t 15)) <|
  .o none (.mv 8 (.t 17)) .nil)) <| .seq (.rg (.o none (.mv 18 (.t 7)) <|
  .o none (.mv 19 (.t 8)) <|
  .o none (.bin 20 .neq false (.t 18) (.t 19)) .nil)) <| .cond (.t 20) (.seq (.seq (.rg (.o none (.mv 21 (.t 7)) <|
  .o none (.mv 22 (.t 8)) <|
  .o none (.bin 23 .lss false (.t 21) (.t 22)) .nil)) <| .cond (.t 23) (.seq (.rg (.o none (.mv 6 (.c (.int .i64 (-1)))) .nil)) <| .ret) (.skip)) <| .seq (.rg (.o none (.mv 6 (.c (.int .i64 1))) .nil)) <| .ret) (.skip)) (.skip)) <| .seq (.seq (.rg (.o none (.mv 24 (.t 0)) <|
  .o none (.len 25 (.t 24)) <|
  .o none (.mv 26 (.t 1)) <|
  .o none (.len 27 (.t 26)) <|
  .o none (.mx 28 (.t 25) (.t 27)) <|
  .o none (.bin 29 .sub false (.t 28) (.c (.int .i64 1))) <|
  .o none (.mv 9 (.t 29)) .nil)) <| .block 0 (.loop (.seq (.seq (.rg (.o none (.mv 30 (.t 9)) <|
  .o none (.bin 31 .geq false (.t 30) (.c (.int .i64 0))) .nil)) <| .cond (.t 31) (.skip) (.exit 0)) <| .seq (.block 1 (.seq (.rg (.o none (.mv 34 (.t 0)) <|
  .o none (.mv 35 (.t 9)) <|
  .o none (.call (some 36) false (.c (.fn 75 [] [])) [(.t 34), (.t 35)]) <|
  .o none (.mv 37 (.t 1)) <|
  .o none (.mv 38 (.t 9)) <|
  .o none (.call (some 39) false (.c (.fn 75 [] [])) [(.t 37), (.t 38)]) <|
  .o none (.mv 10 (.t 36)) <|
  .o none (.mv 11 (.t 39)) .nil)) <| .seq (.rg (.o none (.mv 40 (.t 10)) <|
  .o none (.mv 41 (.t 11)) <|
  .o none (.bin 42 .neq false (.t 40) (.t 41)) .nil)) <| .cond (.t 42) (.seq (.seq (.rg (.o none (.mv 43 (.t 10)) <|
  .o none (.mv 44 (.t 11)) <|
  .o none (.bin 45 .lss false (.t 43) (.t 44)) .nil)) <| .cond (.t 45) (.seq (.rg (.o none (.mv 6 (.c (.int .i64 (-1)))) .nil)) <| .ret) (.skip)) <| .seq (.rg (.o none (.mv 6 (.c (.int .i64 1))) .nil)) <| .ret) (.skip))) <| .rg (.o none (.mv 32 (.t 9)) <|
  .o none (.bin 33 .sub false (.t 32) (.c (.int .i64 1))) <|
  .o none (.mv 9 (.t 33)) .nil)))) <| .seq (.rg (.o none (.mv 6 (.c (.int .i64 0))) .nil)) <| .ret⟩
theorem Qaae : Qe Tryz.prog Tryz.f48 = some c48 := by kernel_rfl
def Q4e : SFn := ⟨20, [.t 4], .seq (.rg (.o none (.mv 4 (.c (.bool false))) .nil)) <| .seq (.seq (.rg (.o none (.mv 7 (.t 0)) <|
  .o none (.len 8 (.t 7)) <|
  .o none (.mv 9 (.c (.int .i64 0))) .nil)) <| .block 0 (.loop (.seq (.rg (.o none (.bin 10 .lss false (.t 9) (.t 8)) .nil)) <| .seq (.cond (.t 10) (.skip) (.exit 0)) <| .seq (.block 1 (.seq (.rg (.o none (.mv 11 (.t 9)) <|
  .o none (.idx 12 1 (.t 7) (.t 9)) <|
  .o none (.ld 13 1 false (.t 12)) <|
  .o none (.mv 5 (.t 11)) <|
  .o none (.mv 6 (.t 13)) .nil)) <| .seq (.rg (.o none (.mv 14 (.t 6)) <|
  .o none (.mv 15 (.t 1)) <|
  .o none (.mv 16 (.t 5)) <|
  .o none (.call (some 17) false (.c (.fn 75 [] [])) [(.t 15), (.t 16)]) <|
  .o none (.bin 18 .gtr false (.t 14) (.t 17)) .nil)) <| .cond (.t 18) (.seq (.rg (.o none (.mv 4 (.c (.bool false))) .nil)) <| .ret) (.skip))) <| .rg (.o none (.bin 19 .add false (.t 9) (.c (.int .i64 1))) <|
  .o none (.mv 9 (.t 19)) .nil)))) <| .seq (.rg (.o none (.mv 4 (.c (.bool true))) .nil)) <| .ret⟩
theorem Q7t : Qe Tryz.prog Tryz.f103 = some Q4e := by kernel_rfl
def c46 : SFn := ⟨14, [.t 4, .t 5], .seq (.rg (.o none (.mv 4 (.c .nilS)) <|
  .o none (.mv 5 (.c (.bool false))) .nil)) <| .seq (.seq (.rg (.o none (.mv 6 (.t 1)) <|
  .o none (.mv 7 (.t 0)) <|
  .o none (.call (some 8) false (.c (.fn 103 [] [])) [(.t 6), (.t 7)]) <|
  .o none (.un 9 .not (.t 8)) .nil)) <| .cond (.t 9) (.seq (.rg (.o none (.mv 4 (.c .nilS)) <|
  .o none (.mv 5 (.c (.bool false))) .nil)) <| .ret) (.skip)) <| .seq (.rg (.o none (.mv 10 (.t 0)) <|
  .o none (.mv 11 (.t 1)) <|
  .o none (.call (some 12) false (.c (.fn 105 [] [])) [(.t 10), (.t 11), (.c (.fn 106 [] []))]) <|
  .o none (.call (some 13) false (.c (.fn 104 [] [])) [(.t 12)]) <|
  .o none (.mv 4 (.t 13)) <|
  .o none (.mv 5 (.c (.bool true))) .nil)) <| .ret⟩
theorem Qaaf : Qe Tryz.prog Tryz.f46 = some c46 := by kernel_rfl
def Q4f : SFn := ⟨8, [.t 4], .seq (.rg (.o none (.mv 4 (.c (.int .i64 0))) .nil)) <| .seq (.rg (.o none (.mv 5 (.t 0)) <|
  .o none (.mv 6 (.t 1)) <|
  .o none (.bin 7 .sub false (.t 5) (.t 6)) <|
  .o none (.mv 4 (.t 7)) .nil)) <| .ret⟩
theorem Q7u : Qe Tryz.prog Tryz.f106 = some Q4f := by kernel_rfl
end Go.Proofs.YtjkbalanglgoiaaGreat
namespace Go.Proofs.YtjkbalanglgoiaaGreat
open Go Go.FW
set_option maxRecDepth 100000
def c89 : SFn := ⟨97, [.t 8], .seq (.rg (.o none (.mv 8 (.c .nilS)) .nil)) <| .seq (.rg (.o none (.mv 15 (.t 0)) <|
  .o none (.len 16 (.t 15)) <|
  .o none (.mv 17 (.t 1)) <|
  .o none (.len 18 (.t 17)) <|
  .o none (.bin 19 .add false (.t 16) (.t 18)) <|
  .o none (.mk 20 4 80 61 (.agg [(.bool false), .nilS, .nilS, .nilS]) (.c (.int .i64 0)) (.t 19)) <|
  .o none (.mv 9 (.t 20)) .nil)) <| .seq (.rg (.o none (.mv 10 (.c (.int .i64 0))) <|
  .o none (.mv 11 (.c (.int .i64 0))) .nil)) <| .seq (.block 0 (.loop (.seq (.seq (.rg (.o none (.mv 21 (.t 10)) <|
  .o none (.mv 22 (.t 0)) <|
  .o none (.len 23 (.t 22)) <|
  .o none (.bin 24 .lss false (.t 21) (.t 23)) <|
  .o none (.mv 25 (.t 24)) <|
  .o (some (25, true)) (.mv 26 (.t 11)) <|
  .o (some (25, true)) (.mv 27 (.t 1)) <|
  .o (some (25, true)) (.len 28 (.t 27)) <|
  .o (some (25, true)) (.bin 29 .lss false (.t 26) (.t 28)) <|
  .o none (.pick 30 (.t 25) (.t 29) (.c (.bool false))) .nil)) <| .cond (.t 30) (.skip) (.exit 0)) <| .block 1 (.seq (.rg (.o none (.mv 31 (.t 2)) <|
  .o none (.mv 32 (.t 0)) <|
  .o none (.mv 33 (.t 10)) <|
  .o none (.idx 34 4 (.t 32) (.t 33)) <|
  .o none (.ld 35 4 true (.t 34)) <|
  .o none (.mv 36 (.t 1)) <|
  .o none (.mv 37 (.t 11)) <|
  .o none (.idx 38 4 (.t 36) (.t 37)) <|
  .o none (.ld 39 4 true (.t 38)) <|
  .o none (.call (some 40) false (.t 31) [(.t 35), (.t 39)]) <|
  .o none (.mv 12 (.t 40)) .nil)) <| .block 2 (.seq (.rg (.o none (.mv 64 (.t 12)) <|
  .o none (.bin 65 .gtr false (.t 64) (.c (.int .i64 0))) <|
  .o none (.mv 63 (.t 65)) .nil)) <| .cond (.t 63) (.seq (.rg (.o none (.mv 66 (.t 9)) <|
  .o none (.mv 67 (.t 0)) <|
  .o none (.mv 68 (.t 10)) <|
  .o none (.idx 69 4 (.t 67) (.t 68)) <|
  .o none (.ld 70 4 true (.t 69)) <|
  .o none (.bs 71 4 61 [(.t 70)]) <|
  .o none (.app 72 4 80 61 (.t 66) (.t 71)) <|
  .o none (.mv 9 (.t 72)) .nil)) <| .rg (.o none (.mv 73 (.t 10)) <|
  .o none (.bin 74 .add false (.t 73) (.c (.int .i64 1))) <|
  .o none (.mv 10 (.t 74)) .nil)) (.seq (.rg (.o none (.mv 76 (.t 12)) <|
  .o none (.bin 77 .lss false (.t 76) (.c (.int .i64 0))) <|
  .o none (.mv 75 (.t 77)) .nil)) <| .cond (.t 75) (.seq (.rg (.o none (.mv 78 (.t 9)) <|
  .o none (.mv 79 (.t 1)) <|
  .o none (.mv 80 (.t 11)) <|
  .o none (.idx 81 4 (.t 79) (.t 80)) <|
  .o none (.ld 82 4 true (.t 81)) <|
  .o none (.bs 83 4 61 [(.t 82)]) <|
  .o none (.app 84 4 80 61 (.t 78) (.t 83)) <|
  .o none (.mv 9 (.t 84)) .nil)) <| .rg (.o none (.mv 85 (.t 11)) <|
  .o none (.bin 86 .add false (.t 85) (.c (.int .i64 1))) <|
  .o none (.mv 11 (.t 86)) .nil)) (.seq (.seq (.rg (.o none (.mv 42 (.t 3)) <|
  .o none (.mv 43 (.t 0)) <|
  .o none (.mv 44 (.t 10)) <|
  .o none (.idx 45 4 (.t 43) (.t 44)) <|
  .o none (.ld 46 4 true (.t 45)) <|
  .o none (.mv 47 (.t 1)) <|
  .o none (.mv 48 (.t 11)) <|
  .o none (.idx 49 4 (.t 47) (.t 48)) <|
  .o none (.ld 50 4 true (.t 49)) <|
  .br (.o none (.call (some 51) true (.t 42) [(.t 46), (.t 50)]) <|
  .o none (.mv 41 (.t 51)) <|
  .o none (.ext 52 (.t 41) 0) <|
  .o none (.ext 53 (.t 41) 1) <|
  .o none (.alloc 13 4 61 (.agg [(.bool false), .nilS, .nilS, .nilS])) <|
  .o none (.st 4 (.t 13) (.t 52)) <|
  .o none (.mv 14 (.t 53)) .nil) (.o none (.alloc 13 4 61 (.agg [(.bool false), .nilS, .nilS, .nilS])) <|
  .o none (.call (some 51) true (.t 42) [(.t 46), (.t 50)]) <|
  .o none (.mv 41 (.t 51)) <|
  .o none (.ext 52 (.t 41) 0) <|
  .o none (.ext 53 (.t 41) 1) <|
  .o none (.st 4 (.t 13) (.t 52)) <|
  .o none (.mv 14 (.t 53)) .nil))) <| .seq (.rg (.o none (.mv 54 (.t 14)) .nil)) <| .cond (.t 54) (.rg (.o none (.mv 55 (.t 9)) <|
  .o none (.ld 56 4 true (.t 13)) <|
  .o none (.bs 57 4 61 [(.t 56)]) <|
  .o none (.app 58 4 80 61 (.t 55) (.t 57)) <|
  .o none (.mv 9 (.t 58)) .nil)) (.skip)) <| .seq (.rg (.o none (.mv 59 (.t 10)) <|
  .o none (.bin 60 .add false (.t 59) (.c (.int .i64 1))) <|
  .o none (.mv 10 (.t 60)) .nil)) <| .rg (.o none (.mv 61 (.t 11)) <|
  .o none (.bin 62 .add false (.t 61) (.c (.int .i64 1))) <|
  .o none (.mv 11 (.t 62)) .nil)))))))) <| .seq (.rg (.o none (.mv 87 (.t 9)) <|
  .o none (.mv 88 (.t 0)) <|
  .o none (.mv 89 (.t 10)) <|
  .o none (.sl 90 4 (.t 88) (some (.t 89)) none none) <|
  .o none (.app 91 4 80 61 (.t 87) (.t 90)) <|
  .o none (.mv 9 (.t 91)) .nil)) <| .seq (.rg (.o none (.mv 92 (.t 9)) <|
  .o none (.mv 93 (.t 1)) <|
  .o none (.mv 94 (.t 11)) <|
  .o none (.sl 95 4 (.t 93) (some (.t 94)) none none) <|
  .o none (.app 96 4 80 61 (.t 92) (.t 95)) <|
  .o none (.mv 8 (.t 96)) .nil)) <| .ret⟩
theorem Qaag : Qe Tryz.prog Tryz.f89 = some c89 := by kernel_rfl
def c90 : SFn := ⟨10, [.t 4], .seq (.rg (.o none (.box 2 4 61 (.t 0)) <|
  .o none (.box 3 4 61 (.t 1)) <|
  .o none (.mv 4 (.c (.int .i64 0))) .nil)) <| .seq (.rg (.o none (.fld 5 3 (.t 2)) <|
  .o none (.ld 6 1 false (.t 5)) <|
  .o none (.fld 7 3 (.t 3)) <|
  .o none (.ld 8 1 false (.t 7)) <|
  .o none (.call (some 9) false (.c (.fn 48 [] [])) [(.t 6), (.t 8), (.c (.int .i64 0))]) <|
  .o none (.mv 4 (.t 9)) .nil)) <| .ret⟩
theorem Qaah : Qe Tryz.prog Tryz.f90 = some c90 := by kernel_rfl
def c91 : SFn := ⟨19, [.cell 4 4 true, .t 5], .seq (.rg (.o none (.box 2 4 61 (.t 0)) <|
  .o none (.box 3 4 61 (.t 1)) <|
  .o none (.alloc 4 4 61 (.agg [(.bool false), .nilS, .nilS, .nilS])) <|
  .o none (.mv 5 (.c (.bool false))) .nil)) <| .seq (.rg (.o none (.fld 7 0 (.t 2)) <|
  .o none (.ld 8 3 true (.t 7)) <|
  .o none (.fld 9 0 (.t 3)) <|
  .o none (.ld 10 3 true (.t 9)) <|
  .o none (.call (some 11) false (.c (.fn 97 [] [])) [(.t 8), (.t 10)]) <|
  .o none (.alloc 6 3 33 (.agg [(.bool false), .nilS, .nilS])) <|
  .o none (.st 3 (.t 6) (.t 11)) .nil)) <| .seq (.rg (.o none (.ld 12 3 true (.t 6)) <|
  .o none (.fld 13 3 (.t 2)) <|
  .o none (.ld 14 1 false (.t 13)) <|
  .o none (.bld 15 [(.bool false), .nilS, .nilS, .nilS] [(0, 3, (.t 12)), (3, 1, (.t 14))]) <|
  .o none (.ld 16 3 true (.t 6)) <|
  .o none (.call (some 17) true (.c (.fn 59 [] [])) [(.t 16)]) <|
  .o none (.bin 18 .neq false (.t 17) (.c (.int .i64 0))) <|
  .o none (.st 4 (.t 4) (.t 15)) <|
  .o none (.mv 5 (.t 18)) .nil)) <| .ret⟩
theorem Qaai : Qe Tryz.prog Tryz.f91 = some c91 := by kernel_rfl
def c84 : SFn := ⟨25, [.t 2], .seq (.rg (.o none (.mv 2 (.c .nilS)) .nil)) <| .seq (.seq (.rg (.o none (.mv 4 (.t 0)) <|
  .o none (.len 5 (.t 4)) .nil)) <| .block 0 (.seq (.rg (.o none (.bin 7 .eql false (.t 5) (.c (.int .i64 0))) <|
  .o none (.mv 6 (.t 7)) .nil)) <| .cond (.t 6) (.seq (.rg (.o none (.mv 2 (.c .nilS)) .nil)) <| .ret) (.seq (.rg (.o none (.bin 9 .eql false (.t 5) (.c (.int .i64 1))) <|
  .o none (.mv 8 (.t 9)) .nil)) <| .cond (.t 8) (.seq (.rg (.o none (.mv 10 (.t 0)) <|
  .o none (.idx 11 1 (.t 10) (.c (.int .i64 0))) <|
  .o none (.ld 12 1 false (.t 11)) <|
  .o none (.mv 2 (.t 12)) .nil)) <| .ret) (.skip)))) <| .seq (.rg (.o none (.mv 13 (.t 0)) <|
  .o none (.len 14 (.t 13)) <|
  .o none (.bin 15 .quo false (.t 14) (.c (.int .i64 2))) <|
  .o none (.mv 3 (.t 15)) .nil)) <| .seq (.rg (.o none (.mv 16 (.t 0)) <|
  .o none (.mv 17 (.t 3)) <|
  .o none (.sl 18 1 (.t 16) none (some (.t 17)) none) <|
  .o none (.mv 20 (.t 0)) <|
  .o none (.mv 21 (.t 3)) <|
  .o none (.sl 22 1 (.t 20) (some (.t 21)) none none) <|
  .o none (.call (some 19) false (.c (.fn 84 [] [])) [(.t 18)]) <|
  .o none (.call (some 23) false (.c (.fn 84 [] [])) [(.t 22)]) <|
  .o none (.call (some 24) false (.c (.fn 38 [] [])) [(.t 19), (.t 23)]) <|
  .o none (.mv 2 (.t 24)) .nil)) <| .ret⟩
theorem Q0v : Qe Tryz.prog Tryz.f84 = some c84 := by kernel_rfl
def c96 : SFn := ⟨12, [.t 4], .seq (.rg (.o none (.box 2 3 33 (.t 0)) <|
  .o none (.mv 4 (.c .nilS)) .nil)) <| .seq (.seq (.rg (.o none (.ld 5 3 true (.t 2)) <|
  .o none (.call (some 6) false (.c (.fn 59 [] [])) [(.t 5)]) <|
  .o none (.bin 7 .eql false (.t 6) (.c (.int .i64 0))) .nil)) <| .cond (.t 7) (.seq (.rg (.o none (.mv 4 (.c .nilS)) .nil)) <| .ret) (.skip)) <| .seq (.rg (.o none (.ld 8 3 true (.t 2)) <|
  .o none (.mv 9 (.t 1)) <|
  .o none (.bld 10 [(.bool false), .nilS, .nilS, .nilS] [(0, 3, (.t 8)), (3, 1, (.t 9))]) <|
  .o none (.bs 11 4 61 [(.t 10)]) <|
  .o none (.mv 4 (.t 11)) .nil)) <| .ret⟩
theorem Qaaj : Qe Tryz.prog Tryz.f96 = some c96 := by kernel_rfl
def c41 : SFn := ⟨7, [.t 2], .seq (.rg (.o none (.box 1 3 33 (.t 0)) <|
  .o none (.mv 2 (.c .nilS)) .nil)) <| .seq (.rg (.o none (.ld 3 3 true (.t 1)) <|
  .o none (.call (some 4) true (.c (.fn 53 [] [])) [(.c (.int .i64 0))]) <|
  .o none (.call (some 5) true (.c (.fn 97 [] [])) [(.t 3), (.t 4)]) <|
  .o none (.call (some 6) true (.c (.fn 96 [] [])) [(.t 5), (.c .nilS)]) <|
  .o none (.mv 2 (.t 6)) .nil)) <| .ret⟩
theorem Qaak : Qe Tryz.prog Tryz.f41 = some c41 := by kernel_rfl
def c40 : SFn := ⟨19, [.t 2], .seq (.rg (.o none (.mv 2 (.c .nilS)) .nil)) <| .seq (.seq (.rg (.o none (.mv 4 (.t 0)) <|
  .o none (.bin 5 .lss false (.t 4) (.c (.int .i64 0))) <|
  .o none (.mv 6 (.t 5)) <|
  .o (some (6, false)) (.mv 7 (.t 0)) <|
  .o (some (6, false)) (.bin 8 .geq false (.t 7) (.c (.int .i64 64))) <|
  .o none (.pick 9 (.t 6) (.c (.bool true)) (.t 8)) .nil)) <| .cond (.t 9) (.seq (.rg (.o none (.mv 2 (.c .nilS)) .nil)) <| .ret) (.skip)) <| .seq (.rg (.o none (.mv 10 (.t 0)) <|
  .o none (.bin 11 .add false (.t 10) (.c (.int .i64 1))) <|
  .o none (.mk 12 1 8 3 (.int .i64 0) (.t 11) (.t 11)) <|
  .o none (.mv 3 (.t 12)) .nil)) <| .seq (.rg (.o none (.mv 13 (.t 3)) <|
  .o none (.mv 14 (.t 0)) <|
  .o none (.idx 15 1 (.t 13) (.t 14)) <|
  .o none (.st 1 (.t 15) (.c (.int .i64 1))) .nil)) <| .seq (.rg (.o none (.call (some 16) false (.c (.fn 53 [] [])) [(.c (.int .i64 1))]) <|
  .o none (.mv 17 (.t 3)) <|
  .o none (.call (some 18) false (.c (.fn 96 [] [])) [(.t 16), (.t 17)]) <|
  .o none (.mv 2 (.t 18)) .nil)) <| .ret⟩
theorem Qaal : Qe Tryz.prog Tryz.f40 = some c40 := by kernel_rfl
def c98 : SFn := ⟨6, [.t 2], .seq (.rg (.o none (.mv 2 (.c .nilS)) .nil)) <| .seq (.rg (.o none (.mv 3 (.t 0)) <|
  .o none (.call (some 4) false (.c (.fn 53 [] [])) [(.c (.int .i64 (-1)))]) <|
  .o none (.call (some 5) false (.c (.fn 33 [] [])) [(.t 3), (.t 4)]) <|
  .o none (.mv 2 (.t 5)) .nil)) <| .ret⟩
theorem Qaam : Qe Tryz.prog Tryz.f98 = some c98 := by kernel_rfl
def c38 : SFn := ⟨8, [.t 4], .seq (.rg (.o none (.mv 4 (.c .nilS)) .nil)) <| .seq (.rg (.o none (.mv 5 (.t 0)) <|
  .o none (.mv 6 (.t 1)) <|
  .o none (.call (some 7) false (.c (.fn 89 [] [])) [(.t 5), (.t 6), (.c (.fn 90 [] [])), (.c (.fn 91 [] []))]) <|
  .o none (.mv 4 (.t 7)) .nil)) <| .ret⟩
theorem Qaan : Qe Tryz.prog Tryz.f38 = some c38 := by kernel_rfl
def c42 : SFn := ⟨9, [.t 4], .seq (.rg (.o none (.mv 4 (.c .nilS)) .nil)) <| .seq (.rg (.o none (.mv 5 (.t 0)) <|
  .o none (.mv 6 (.t 1)) <|
  .o none (.call (some 7) false (.c (.fn 98 [] [])) [(.t 6)]) <|
  .o none (.call (some 8) false (.c (.fn 38 [] [])) [(.t 5), (.t 7)]) <|
  .o none (.mv 4 (.t 8)) .nil)) <| .ret⟩
theorem Qaao : Qe Tryz.prog Tryz.f42 = some c42 := by kernel_rfl
def c83 : SFn := ⟨38, [.t 4], .seq (.rg (.o none (.box 3 4 61 (.t 1)) <|
  .o none (.mv 4 (.c .nilS)) .nil)) <| .seq (.rg (.o none (.mv 9 (.t 0)) <|
  .o none (.len 10 (.t 9)) <|
  .o none (.mk 11 4 80 61 (.agg [(.bool false), .nilS, .nilS, .nilS]) (.c (.int .i64 0)) (.t 10)) <|
  .o none (.mv 5 (.t 11)) .nil)) <| .seq (.seq (.rg (.o none (.mv 12 (.t 0)) <|
  .o none (.len 13 (.t 12)) <|
  .o none (.mv 14 (.c (.int .i64 0))) .nil)) <| .block 0 (.loop (.seq (.rg (.o none (.bin 15 .lss false (.t 14) (.t 13)) .nil)) <| .seq (.cond (.t 15) (.skip) (.exit 0)) <| .seq (.block 1 (.seq (.rg (.o none (.idx 16 4 (.t 12) (.t 14)) <|
  .o none (.ld 17 4 true (.t 16)) <|
  .o none (.alloc 7 4 61 (.agg [(.bool false), .nilS, .nilS, .nilS])) <|
  .o none (.st 4 (.t 7) (.t 17)) .nil)) <| .seq (.rg (.o none (.fld 18 0 (.t 7)) <|
  .o none (.ld 19 3 true (.t 18)) <|
  .o none (.fld 20 0 (.t 3)) <|
  .o none (.ld 21 3 true (.t 20)) <|
  .o none (.call (some 22) false (.c (.fn 142 [] [])) [(.t 19), (.t 21)]) <|
  .o none (.alloc 8 3 33 (.agg [(.bool false), .nilS, .nilS])) <|
  .o none (.st 3 (.t 8) (.t 22)) .nil)) <| .seq (.rg (.o none (.ld 23 3 true (.t 8)) <|
  .o none (.call (some 24) false (.c (.fn 59 [] [])) [(.t 23)]) <|
  .o none (.bin 25 .neq false (.t 24) (.c (.int .i64 0))) .nil)) <| .cond (.t 25) (.rg (.o none (.mv 26 (.t 5)) <|
  .o none (.ld 27 3 true (.t 8)) <|
  .o none (.fld 28 3 (.t 7)) <|
  .o none (.ld 29 1 false (.t 28)) <|
  .o none (.fld 30 3 (.t 3)) <|
  .o none (.ld 31 1 false (.t 30)) <|
  .o none (.call (some 32) true (.c (.fn 143 [] [])) [(.t 29), (.t 31)]) <|
  .o none (.bld 33 [(.bool false), .nilS, .nilS, .nilS] [(0, 3, (.t 27)), (3, 1, (.t 32))]) <|
  .o none (.bs 34 4 61 [(.t 33)]) <|
  .o none (.app 35 4 80 61 (.t 26) (.t 34)) <|
  .o none (.mv 5 (.t 35)) .nil)) (.skip))) <| .rg (.o none (.bin 36 .add false (.t 14) (.c (.int .i64 1))) <|
  .o none (.mv 14 (.t 36)) .nil)))) <| .seq (.rg (.o none (.mv 37 (.t 5)) <|
  .o none (.mv 4 (.t 37)) .nil)) <| .ret⟩
theorem Qaap : Qe Tryz.prog Tryz.f83 = some c83 := by kernel_rfl
def c32 : SFn := ⟨33, [.t 4], .seq (.rg (.o none (.mv 4 (.c .nilS)) .nil)) <| .seq (.seq (.rg (.o none (.mv 8 (.t 0)) <|
  .o none (.len 9 (.t 8)) <|
  .o none (.mv 10 (.t 1)) <|
  .o none (.len 11 (.t 10)) <|
  .o none (.bin 12 .gtr false (.t 9) (.t 11)) .nil)) <| .cond (.t 12) (.rg (.o none (.mv 13 (.t 1)) <|
  .o none (.mv 14 (.t 0)) <|
  .o none (.mv 0 (.t 13)) <|
  .o none (.mv 1 (.t 14)) .nil)) (.skip)) <| .seq (.rg (.o none (.mv 15 (.t 0)) <|
  .o none (.len 16 (.t 15)) <|
  .o none (.mk 17 1 24 23 .nilS (.c (.int .i64 0)) (.t 16)) <|
  .o none (.mv 5 (.t 17)) .nil)) <| .seq (.seq (.rg (.o none (.mv 18 (.t 0)) <|
  .o none (.len 19 (.t 18)) <|
  .o none (.mv 20 (.c (.int .i64 0))) .nil)) <| .block 0 (.loop (.seq (.rg (.o none (.bin 21 .lss false (.t 20) (.t 19)) .nil)) <| .seq (.cond (.t 21) (.skip) (.exit 0)) <| .seq (.block 1 (.seq (.rg (.o none (.idx 22 4 (.t 18) (.t 20)) <|
  .o none (.ld 23 4 true (.t 22)) <|
  .o none (.alloc 7 4 61 (.agg [(.bool false), .nilS, .nilS, .nilS])) <|
  .o none (.st 4 (.t 7) (.t 23)) .nil)) <| .rg (.o none (.mv 24 (.t 5)) <|
  .o none (.mv 25 (.t 1)) <|
  .o none (.ld 26 4 true (.t 7)) <|
  .o none (.call (some 27) false (.c (.fn 83 [] [])) [(.t 25), (.t 26)]) <|
  .o none (.bs 28 1 23 [(.t 27)]) <|
  .o none (.app 29 1 24 23 (.t 24) (.t 28)) <|
  .o none (.mv 5 (.t 29)) .nil))) <| .rg (.o none (.bin 30 .add false (.t 20) (.c (.int .i64 1))) <|
  .o none (.mv 20 (.t 30)) .nil)))) <| .seq (.rg (.o none (.mv 31 (.t 5)) <|
  .o none (.call (some 32) false (.c (.fn 84 [] [])) [(.t 31)]) <|
  .o none (.mv 4 (.t 32)) .nil)) <| .ret⟩
theorem Qaaq : Qe Tryz.prog Tryz.f32 = some c32 := by kernel_rfl
def c33 : SFn := ⟨12, [.t 4], .seq (.rg (.o none (.box 3 3 33 (.t 1)) <|
  .o none (.mv 4 (.c .nilS)) .nil)) <| .seq (.seq (.rg (.o none (.ld 5 3 true (.t 3)) <|
  .o none (.call (some 6) false (.c (.fn 59 [] [])) [(.t 5)]) <|
  .o none (.bin 7 .eql false (.t 6) (.c (.int .i64 0))) .nil)) <| .cond (.t 7) (.seq (.rg (.o none (.mv 4 (.c .nilS)) .nil)) <| .ret) (.skip)) <| .seq (.rg (.o none (.mv 8 (.t 0)) <|
  .o none (.ld 9 3 true (.t 3)) <|
  .o none (.bld 10 [(.bool false), .nilS, .nilS, .nilS] [(0, 3, (.t 9))]) <|
  .o none (.call (some 11) false (.c (.fn 83 [] [])) [(.t 8), (.t 10)]) <|
  .o none (.mv 4 (.t 11)) .nil)) <| .ret⟩
theorem Qaar : Qe Tryz.prog Tryz.f33 = some c33 := by kernel_rfl
end Go.Proofs.YtjkbalanglgoiaaGreat
namespace Go.Proofs.YtjkbalanglgoiaaGreat
open Go Go.FW
set_option linter.unusedSimpArgs false
set_option linter.unusedVariables false
set_option maxRecDepth 100000
theorem Q0w {n m : Bool} {a d b c : List Nat} {k : Nat} (hp : Raw k n a d) (hq : Raw k m b c) (hk : k < 2 ^ 36) : Qd Tryz.prog 142 [PV.rr n a d, PV.rr m b c] (· = PV.rat (rv n a d * rv m b c)) := by
  refine Qf Qk Tryz.func142 rfl Q7j (by simp [Q31]) fun C hP => ?_; simp only [Q31]
  simp +decide (disch := first | omega | rfl | (simp +decide only [go_sem, ↓reduceIte] <;> rfl) | fail) only [go_sem, ↓reduceIte]
  refine Qcv hP (Qd6 hp.la hp.ld hp.k1 hp.sa hp.sd (by omega)) rfl rfl rfl ?_
  rintro _ ⟨n', a', d', rfl, g1, g2, g3, g4, g5, g6⟩
  simp +decide (disch := first | omega | rfl | (simp +decide only [go_sem, ↓reduceIte] <;> rfl) | fail) only [go_sem, ↓reduceIte]
  refine Qcv hP (Qd6 hq.la hq.ld hq.k1 hq.sa hq.sd (by omega)) rfl rfl rfl ?_
  rintro _ ⟨m', b', c', rfl, e1, e2, e3, e4, e5, e6⟩
  simp +decide (disch := first | omega | rfl | (simp +decide only [go_sem, ↓reduceIte] <;> rfl) | fail) only [go_sem, ↓reduceIte]
  have hza : nl (zv n' a').natAbs ≤ k := by rw [Qa9]; exact Nat.le_trans (Qag g1) g3
  have hzb : nl (zv m' b').natAbs ≤ k := by rw [Qa9]; exact Nat.le_trans (Qag e1) e3
  have hvd : nl (val d') ≤ k := Nat.le_trans (Qag g2) g4
  have hvc : nl (val c') ≤ k := Nat.le_trans (Qag e2) e4
  have h3 := Qaq (zv n' a') (zv m' b')
  have h6 := Qb1 (val d') (val c')
  refine Qa hP (Qd5 (n := n') (m := m') g1 e1 (by omega) (by omega)) rfl rfl rfl ?_
  simp +decide (disch := first | omega | rfl | (simp +decide only [go_sem, ↓reduceIte] <;> rfl) | fail) only [go_sem, ↓reduceIte]
  refine Qa hP (Qip g2 e2 (by omega) (by omega)) rfl rfl rfl ?_
  simp +decide (disch := first | omega | rfl | (simp +decide only [go_sem, ↓reduceIte] <;> rfl) | fail) only [go_sem, ↓reduceIte]
  refine Qa hP (Qh0 (z := zv n' a' * zv m' b') (Qi _) (by omega) (by show nl _ < _; omega)) rfl rfl rfl ?_
  simp +decide (disch := first | omega | rfl | (simp +decide only [go_sem, ↓reduceIte] <;> rfl) | fail) only [go_sem, ↓reduceIte]
  refine Qay ?_
  simp +decide (disch := first | omega | rfl | (simp +decide only [go_sem, ↓reduceIte] <;> rfl) | fail) only [go_sem, ↓reduceIte]
  refine Qc ?_ rfl
  rw [Qr, ← g6, ← e6]
  unfold rv
  rw [Rat.mkRat_mul_mkRat]
theorem Qyd {n : Bool} {a d : List Nat} {k : Nat} (hp : Raw k n a d) (hk : k < 2 ^ 36) : Qd Tryz.prog 59 [PV.rr n a d] (· = .int .i64 (Qhr (rv n a d))) := by
  refine Qf Qk Tryz.func59 rfl Q94 (by simp [c59]) fun C hP => ?_; simp only [c59]
  simp +decide (disch := first | omega | rfl | (simp +decide only [go_sem, ↓reduceIte] <;> rfl) | fail) only [go_sem, ↓reduceIte]
  refine Qcv hP (Qd6 hp.la hp.ld hp.k1 hp.sa hp.sd (by omega)) rfl rfl rfl ?_
  rintro _ ⟨n', a', d', rfl, g1, g2, g3, g4, g5, g6⟩
  simp +decide (disch := first | omega | rfl | (simp +decide only [go_sem, ↓reduceIte] <;> rfl) | fail) only [go_sem, ↓reduceIte]
  refine Qa hP (Qoi g1 (by omega)) rfl rfl rfl ?_
  simp +decide (disch := first | omega | rfl | (simp +decide only [go_sem, ↓reduceIte] <;> rfl) | fail) only [go_sem, ↓reduceIte]
  exact Qc (by rw [← g6]; unfold rv; rw [Q0h g5]) rfl
theorem Q0x {x : Int} (h1 : -9223372036854775808 ≤ x) (h2 : x ≤ 9223372036854775807) : Qd Tryz.prog 118 [.int .i64 x] (· = PV.zz x) := by
  refine Qf Qk Tryz.func118 rfl Q69 (by simp [Q3r]) fun C hP => ?_; simp only [Q3r]
  simp +decide (disch := first | omega | rfl | (simp +decide only [go_sem, ↓reduceIte] <;> rfl) | fail) only [go_sem, ↓reduceIte]
  refine Qb (fun hc => ?_) (fun hc => ?_)
  · obtain ⟨y, hy⟩ : ∃ y : Nat, x = -((y : Int) + 1) := ⟨(-(x + 1)).toNat, by omega⟩
    have e1 : IntKind.i64.wrap (x + 1) = -(y : Int) := by rw [Qfl (by omega) (by omega)]; omega
    have e2 : IntKind.i64.wrap (0 - -(y : Int)) = (y : Int) := by rw [Qfl (by omega) (by omega)]; omega
    have e3 : IntKind.u64.wrap (y : Int) = (y : Int) := Qd0 (by omega) (by omega)
    have e4 : IntKind.u64.wrap ((y + 1 : Nat) : Int) = ((y + 1 : Nat) : Int) := Qd0 (by omega) (by omega)
    simp +decide (disch := first | omega | rfl | (simp +decide only [go_sem, ↓reduceIte, e1, e2, e3, e4] <;> rfl) | fail) only [go_sem, ↓reduceIte, e1, e2, e3, e4]
    refine Qa hP (Qkf (by omega)) rfl rfl rfl ?_
    simp +decide (disch := first | omega | rfl | (simp +decide only [go_sem, ↓reduceIte] <;> rfl) | fail) only [go_sem, ↓reduceIte]
    refine Qa hP (Qef true (y + 1)) rfl rfl rfl ?_
    simp +decide (disch := first | omega | rfl | (simp +decide only [go_sem, ↓reduceIte] <;> rfl) | fail) only [go_sem, ↓reduceIte]
    refine Qay ?_
    simp +decide (disch := first | omega | rfl | (simp +decide only [go_sem, ↓reduceIte] <;> rfl) | fail) only [go_sem, ↓reduceIte]
    exact Qc (congrArg PV.zz (by simp; omega)) rfl
  · obtain ⟨y, rfl⟩ : ∃ y : Nat, x = y := ⟨x.toNat, by omega⟩
    simp +decide (disch := first | omega | rfl | (simp +decide only [go_sem, ↓reduceIte] <;> rfl) | fail) only [go_sem, ↓reduceIte]
    refine Qa hP (Qkf (by omega)) rfl rfl rfl ?_
    simp +decide (disch := first | omega | rfl | (simp +decide only [go_sem, ↓reduceIte] <;> rfl) | fail) only [go_sem, ↓reduceIte]
    refine Qa hP (Qef false y) rfl rfl rfl ?_
    simp +decide (disch := first | omega | rfl | (simp +decide only [go_sem, ↓reduceIte] <;> rfl) | fail) only [go_sem, ↓reduceIte]
    refine Qay ?_
    simp +decide (disch := first | omega | rfl | (simp +decide only [go_sem, ↓reduceIte] <;> rfl) | fail) only [go_sem, ↓reduceIte]
    exact Qc (congrArg PV.zz (by simp)) rfl
theorem Qje {x : Int} (h1 : -9223372036854775808 ≤ x) (h2 : x ≤ 9223372036854775807) : Qd Tryz.prog 53 [.int .i64 x] (· = PV.rat (x : Rat)) := by
  refine Qf Qk Tryz.func53 rfl Q93 (by simp [c53]) fun C hP => ?_; simp only [c53]
  simp +decide (disch := first | omega | rfl | (simp +decide only [go_sem, ↓reduceIte] <;> rfl) | fail) only [go_sem, ↓reduceIte]
  refine Qa hP (Q0x h1 h2) rfl rfl rfl ?_
  simp +decide (disch := first | omega | rfl | (simp +decide only [go_sem, ↓reduceIte] <;> rfl) | fail) only [go_sem, ↓reduceIte]
  refine Qa hP Qjd rfl rfl rfl ?_
  simp +decide (disch := first | omega | rfl | (simp +decide only [go_sem, ↓reduceIte] <;> rfl) | fail) only [go_sem, ↓reduceIte]
  refine Qay ?_
  simp +decide (disch := first | omega | rfl | (simp +decide only [go_sem, ↓reduceIte] <;> rfl) | fail) only [go_sem, ↓reduceIte]
  exact Qc (by rw [PV.rat, Rat.num_intCast, Rat.den_intCast, PV.num, PV.num, Qe3]; rfl) rfl
end Go.Proofs.YtjkbalanglgoiaaGreat
namespace Go.Proofs.YtjkbalanglgoiaaGreat
open Go Go.FW
set_option linter.unusedSimpArgs false
set_option linter.unusedVariables false
set_option maxRecDepth 100000
end Go.Proofs.YtjkbalanglgoiaaGreat
namespace Go.Proofs.YtjkbalanglgoiaaGreat
open Go Go.FW
set_option linter.unusedSimpArgs false
set_option linter.unusedVariables false
set_option maxRecDepth 100000
theorem Qok {a : List Int} (hl : a.length < 2 ^ 42) : Qd Tryz.prog 104 [PV.mono a] (· = PV.mono (Qcg a)) := by
  refine Qf Qk Tryz.func104 rfl Q7p (by simp [Q4a]) fun C hP => ?_; simp only [Q4a]
  simp +decide (disch := first | omega | rfl | (simp +decide only [go_sem, ↓reduceIte] <;> rfl) | fail) only [go_sem, ↓reduceIte]
  refine Qz (by repeat (first | exact Qv | exact Qp | exact Qq | apply Qo | apply Qu | apply Q2 | apply Q5 | apply Q6 | apply Qm)) [(3, 3), (6, 17)] [] (fun n J hp => n ≤ a.length ∧ Qfo a n = Qcg a ∧ J 3 = .int .i64 n ∧ hp = hp0) a.length ?_ ?_
  · refine ⟨Nat.le_refl _, rfl, ?_⟩
    simp +decide (disch := first | omega | rfl | (simp +decide only [go_sem, ↓reduceIte] <;> rfl) | fail) only [go_sem, ↓reduceIte]
  rintro n J _ ⟨hn, hc, h3, rfl⟩
  simp +decide (disch := first | omega | rfl | (simp +decide only [go_sem, ↓reduceIte, h3] <;> rfl) | fail) only [go_sem, ↓reduceIte, h3]
  refine Qaj (fun hg => ?_) (fun hg => ?_)
  · obtain _ | n := n
    · omega
    have e : ((n + 1 : Nat) : Int) - 1 = n := by omega
    simp only [Qfo] at hc
    simp +decide (disch := first | omega | rfl | (simp +decide only [go_sem, ↓reduceIte, h3, e] <;> rfl) | fail) only [go_sem, ↓reduceIte, h3, e]
    refine Qb (fun hz => ?_) (fun hz => ?_)
    · rw [if_pos (by simp [hz, show n < a.length by omega])] at hc
      simp +decide (disch := first | omega | rfl | (simp +decide only [go_sem, ↓reduceIte, h3, e] <;> rfl) | fail) only [go_sem, ↓reduceIte, h3, e]
      refine Ql n (by omega) ⟨by omega, hc, ?_⟩
      simp +decide (disch := first | omega | rfl | (simp +decide only [go_sem, ↓reduceIte] <;> rfl) | fail) only [go_sem, ↓reduceIte]
    · rw [if_neg (by simpa [show n < a.length by omega] using hz)] at hc
      simp +decide (disch := first | omega | rfl | (simp +decide only [go_sem, ↓reduceIte, h3, e] <;> rfl) | fail) only [go_sem, ↓reduceIte, h3, e]
      refine Qb (fun h => by omega) (fun h => ?_)
      simp +decide (disch := first | omega | rfl | (simp +decide only [go_sem, ↓reduceIte, h3, e] <;> rfl) | fail) only [go_sem, ↓reduceIte, h3, e]
      exact Qc (congrArg PV.mono hc) rfl
  · obtain rfl : n = 0 := by omega
    simp +decide (disch := first | omega | rfl | (simp +decide only [go_sem, ↓reduceIte, h3] <;> rfl) | fail) only [go_sem, ↓reduceIte, h3]
    exact Qcl (Qr5 (by rw [← hc]; rfl)) rfl
theorem Ql6 {a : List Int} (hl : a.length ≤ 1048576) (hb : ∀ x ∈ a, 0 ≤ x ∧ x ≤ 1099511627776) : Qd Tryz.prog 110 [PV.mono a] (· = .int .i64 (Qfb a)) := by
  refine Qf Qk Tryz.func110 rfl Q7q (by simp [Q4b]) fun C hP => ?_; simp only [Q4b]
  simp +decide (disch := first | omega | rfl | (simp +decide only [go_sem, ↓reduceIte] <;> rfl) | fail) only [go_sem, ↓reduceIte]
  refine Qz (by repeat (first | exact Qv | exact Qp | exact Qq | apply Qo | apply Qu | apply Q2 | apply Q5 | apply Q6 | apply Qm)) [(3, 3), (5, 5), (8, 15)] [] (fun k J hp => ∃ (i : Nat) (s : Int), k = a.length - i ∧ i ≤ a.length ∧ 0 ≤ s ∧ s ≤ 1099511627776 * i ∧ s + (a.drop i).sum = Qfb a ∧ J 8 = .int .i64 (i : Nat) ∧ J 3 = .int .i64 s ∧ hp = hp0) a.length ?_ ?_
  · refine ⟨0, 0, rfl, by omega, by omega, by omega, by simp [Qfb], ?_⟩
    simp +decide (disch := first | omega | rfl | (simp +decide only [go_sem, ↓reduceIte] <;> rfl) | fail) only [go_sem, ↓reduceIte]
    simp
  rintro _ J _ ⟨i, s, rfl, hi, hs0, hs1, hsum, h8, h3, rfl⟩
  simp +decide (disch := first | omega | rfl | (simp +decide only [go_sem, ↓reduceIte, h8, h3] <;> rfl) | fail) only [go_sem, ↓reduceIte, h8, h3]
  refine Qb (fun hg => ?_) (fun hg => ?_)
  · have hi' : i < a.length := by omega
    have hx := hb _ (List.getElem_mem hi')
    rw [List.drop_eq_getElem_cons hi', List.sum_cons] at hsum
    generalize hxx : a[i] = x at *
    simp +decide (disch := first | omega | rfl | (simp +decide only [go_sem, ↓reduceIte, h8, h3, hxx] <;> rfl) | fail) only [go_sem, ↓reduceIte, h8, h3, hxx]
    refine Ql (a.length - (i + 1)) (by omega) ⟨i + 1, s + x, rfl, by omega, by omega, by push_cast; omega, by omega, ?_⟩
    simp +decide (disch := first | omega | rfl | (simp +decide only [go_sem, ↓reduceIte] <;> rfl) | fail) only [go_sem, ↓reduceIte]
  · rw [List.drop_of_length_le (by omega), List.sum_nil, Int.add_zero] at hsum
    simp +decide (disch := first | omega | rfl | (simp +decide only [go_sem, ↓reduceIte, h3] <;> rfl) | fail) only [go_sem, ↓reduceIte, h3]
    exact Qc (by rw [hsum]) rfl
theorem Qye {a : List Int} {v : Int} (hl : a.length < 2 ^ 42) : Qd Tryz.prog 75 [PV.mono a, .int .i64 v] (· = .int .i64 (if v < 0 then 0 else eN a v.toNat)) := by
  refine Qf Qk Tryz.func75 rfl Qaad (by simp [c75]) fun C hP => ?_; simp only [c75]
  simp +decide (disch := first | omega | rfl | (simp +decide only [go_sem, ↓reduceIte] <;> rfl) | fail) only [go_sem, ↓reduceIte]
  refine Qad (fun h1 => ?_) (fun h1 => ?_)
  · simp +decide (disch := first | omega | rfl | (simp +decide only [go_sem, ↓reduceIte] <;> rfl) | fail) only [go_sem, ↓reduceIte]
    exact Qc (by rw [if_pos h1]) rfl
  · obtain ⟨n, rfl⟩ : ∃ n : Nat, v = n := ⟨v.toNat, by omega⟩
    rw [if_neg h1]
    simp +decide (disch := first | omega | rfl | (simp +decide only [go_sem, ↓reduceIte] <;> rfl) | fail) only [go_sem, ↓reduceIte]
    refine Qb (fun h2 => ?_) (fun h2 => ?_)
    · simp +decide (disch := first | omega | rfl | (simp +decide only [go_sem, ↓reduceIte] <;> rfl) | fail) only [go_sem, ↓reduceIte]
      exact Qc (by rw [Qcf (by omega)]) rfl
    · have hn : n < a.length := by omega
      simp +decide (disch := first | omega | rfl | (simp +decide only [go_sem, ↓reduceIte] <;> rfl) | fail) only [go_sem, ↓reduceIte]
      exact Qc (by rw [Qca hn]) rfl
theorem Qhn {a : List Int} {i : Nat} (hl : a.length < 2 ^ 42) : Qd Tryz.prog 75 [PV.mono a, .int .i64 i] (· = .int .i64 (eN a i)) := by
  have := Qye (v := i) hl
  rwa [if_neg (by omega), Int.toNat_natCast] at this
end Go.Proofs.YtjkbalanglgoiaaGreat
