/- Part 5 of the proof of PseudoBack: P8, CS2, CS3, CU, FwSE, FwSF, FwSG, FwSH, FwSI, FwSJ, FwSK, FwSL, FwUA, FwUB. Own lemmas; no conditions. -/
import Derived.Test.YtmnkngmmfnncoaaGreatPseudoBackPart4
set_option linter.unusedSimpArgs false
set_option linter.unnecessarySimpa false
set_option linter.unusedVariables false
namespace Go.Proofs.YtmnkngmmfnncoaaGreat
open Go Go.FW
set_option linter.unusedSimpArgs false
set_option linter.unusedVariables false
set_option maxRecDepth 100000
theorem Q2p {a : Rat} {k : Nat} (h : rs a ≤ k) (hk : k < 2 ^ 36) : Qe Tryz.prog 123 [PV.rat a] (· = PV.poly (Qni a)) := by
  have := Qv0 (Qb4 h) hk
  rwa [Qct] at this
end Go.Proofs.YtmnkngmmfnncoaaGreat
namespace Go.Proofs.YtmnkngmmfnncoaaGreat
open Go Go.FW
set_option maxRecDepth 100000
def Q65 : SFn := ⟨39, [.t 2], .seq (.rg (.o none (.mv 2 (.c (.bool false))) .nil)) <| .seq (.seq (.rg (.o none (.mv 4 (.t 0)) <|
  .o none (.len 5 (.t 4)) <|
  .o none (.bin 6 .gtr false (.t 5) (.c (.int .i64 64))) <|
  .o none (.mv 7 (.t 6)) <|
  .o (some (7, false)) (.mv 8 (.t 0)) <|
  .o (some (7, false)) (.len 9 (.t 8)) <|
  .o (some (7, false)) (.bin 10 .gtr false (.t 9) (.c (.int .i64 0))) <|
  .o (some (7, false)) (.mv 11 (.t 10)) <|
  .o (some (11, true)) (.mv 12 (.t 0)) <|
  .o (some (11, true)) (.mv 13 (.t 0)) <|
  .o (some (11, true)) (.len 14 (.t 13)) <|
  .o (some (11, true)) (.bin 15 .sub false (.t 14) (.c (.int .i64 1))) <|
  .o (some (11, true)) (.idx 16 1 (.t 12) (.t 15)) <|
  .o (some (11, true)) (.ld 17 1 false (.t 16)) <|
  .o (some (11, true)) (.bin 18 .eql false (.t 17) (.c (.int .i64 0))) <|
  .o (some (7, false)) (.pick 19 (.t 11) (.t 18) (.c (.bool false))) <|
  .o none (.pick 20 (.t 7) (.c (.bool true)) (.t 19)) .nil)) <| .cond (.t 20) (.seq (.rg (.o none (.mv 2 (.c (.bool false))) .nil)) <| .ret) (.skip)) <| .seq (.seq (.rg (.o none (.mv 3 (.c (.int .i64 0))) .nil)) <| .block 0 (.loop (.seq (.seq (.rg (.o none (.mv 21 (.t 3)) <|
  .o none (.mv 22 (.t 0)) <|
  .o none (.len 23 (.t 22)) <|
  .o none (.bin 24 .lss false (.t 21) (.t 23)) .nil)) <| .cond (.t 24) (.skip) (.exit 0)) <| .seq (.block 1 (.seq (.rg (.o none (.mv 27 (.t 0)) <|
  .o none (.mv 28 (.t 3)) <|
  .o none (.idx 29 1 (.t 27) (.t 28)) <|
  .o none (.ld 30 1 false (.t 29)) <|
  .o none (.bin 31 .lss false (.t 30) (.c (.int .i64 0))) <|
  .o none (.mv 32 (.t 31)) <|
  .o (some (32, false)) (.mv 33 (.t 0)) <|
  .o (some (32, false)) (.mv 34 (.t 3)) <|
  .o (some (32, false)) (.idx 35 1 (.t 33) (.t 34)) <|
  .o (some (32, false)) (.ld 36 1 false (.t 35)) <|
  .o (some (32, false)) (.bin 37 .gtr false (.t 36) (.c (.int .i64 1048576))) <|
  .o none (.pick 38 (.t 32) (.c (.bool true)) (.t 37)) .nil)) <| .cond (.t 38) (.seq (.rg (.o none (.mv 2 (.c (.bool false))) .nil)) <| .ret) (.skip))) <| .rg (.o none (.mv 25 (.t 3)) <|
  .o none (.bin 26 .add false (.t 25) (.c (.int .i64 1))) <|
  .o none (.mv 3 (.t 26)) .nil)))) <| .seq (.rg (.o none (.mv 2 (.c (.bool true))) .nil)) <| .ret⟩
theorem Qabv : Qf Tryz.prog Tryz.f179 = some Q65 := by kernel_rfl
def Q66 : SFn := ⟨24, [.t 2], .seq (.rg (.o none (.mv 2 (.c .nilS)) .nil)) <| .seq (.rg (.o none (.mv 5 (.t 0)) <|
  .o none (.len 6 (.t 5)) <|
  .o none (.mv 3 (.t 6)) .nil)) <| .seq (.block 0 (.loop (.seq (.seq (.rg (.o none (.mv 7 (.t 3)) <|
  .o none (.bin 8 .gtr false (.t 7) (.c (.int .i64 0))) <|
  .o none (.mv 9 (.t 8)) <|
  .o (some (9, true)) (.mv 10 (.t 0)) <|
  .o (some (9, true)) (.mv 11 (.t 3)) <|
  .o (some (9, true)) (.bin 12 .sub false (.t 11) (.c (.int .i64 1))) <|
  .o (some (9, true)) (.idx 13 1 (.t 10) (.t 12)) <|
  .o (some (9, true)) (.ld 14 1 false (.t 13)) <|
  .o (some (9, true)) (.bin 15 .eql false (.t 14) (.c (.int .i64 0))) <|
  .o none (.pick 16 (.t 9) (.t 15) (.c (.bool false))) .nil)) <| .cond (.t 16) (.skip) (.exit 0)) <| .block 1 (.rg (.o none (.mv 17 (.t 3)) <|
  .o none (.bin 18 .sub false (.t 17) (.c (.int .i64 1))) <|
  .o none (.mv 3 (.t 18)) .nil))))) <| .seq (.rg (.o none (.mv 4 (.c .nilS)) .nil)) <| .seq (.rg (.o none (.mv 19 (.t 4)) <|
  .o none (.mv 20 (.t 0)) <|
  .o none (.mv 21 (.t 3)) <|
  .o none (.sl 22 1 (.t 20) none (some (.t 21)) none) <|
  .o none (.app 23 1 8 3 (.t 19) (.t 22)) <|
  .o none (.mv 2 (.t 23)) .nil)) <| .ret⟩
theorem Qabw : Qf Tryz.prog Tryz.f218 = some Q66 := by kernel_rfl
def Q67 : SFn := ⟨9, [.t 2], .seq (.rg (.o none (.mv 2 (.c .nilS)) .nil)) <| .seq (.seq (.rg (.o none (.mv 4 (.t 0)) <|
  .o none (.call (some 5) false (.c (.fn 218 [] [])) [(.t 4)]) <|
  .o none (.mv 3 (.t 5)) .nil)) <| .seq (.rg (.o none (.mv 6 (.t 3)) <|
  .o none (.call (some 7) false (.c (.fn 179 [] [])) [(.t 6)]) .nil)) <| .cond (.t 7) (.seq (.rg (.o none (.mv 8 (.t 3)) <|
  .o none (.mv 2 (.t 8)) .nil)) <| .ret) (.skip)) <| .seq (.rg (.o none (.mv 2 (.c .nilS)) .nil)) <| .ret⟩
theorem Qabx : Qf Tryz.prog Tryz.f183 = some Q67 := by kernel_rfl
def Q68 : SFn := ⟨18, [.t 2], .seq (.rg (.o none (.mv 2 (.c (.int .i64 0))) .nil)) <| .seq (.rg (.o none (.mv 3 (.c (.int .i64 0))) .nil)) <| .seq (.seq (.rg (.o none (.mv 4 (.c (.int .i64 0))) .nil)) <| .block 0 (.loop (.seq (.seq (.rg (.o none (.mv 5 (.t 4)) <|
  .o none (.mv 6 (.t 0)) <|
  .o none (.len 7 (.t 6)) <|
  .o none (.bin 8 .lss false (.t 5) (.t 7)) .nil)) <| .cond (.t 8) (.skip) (.exit 0)) <| .seq (.block 1 (.rg (.o none (.mv 11 (.t 3)) <|
  .o none (.mv 12 (.t 0)) <|
  .o none (.mv 13 (.t 4)) <|
  .o none (.idx 14 1 (.t 12) (.t 13)) <|
  .o none (.ld 15 1 false (.t 14)) <|
  .o none (.bin 16 .add false (.t 11) (.t 15)) <|
  .o none (.mv 3 (.t 16)) .nil))) <| .rg (.o none (.mv 9 (.t 4)) <|
  .o none (.bin 10 .add false (.t 9) (.c (.int .i64 1))) <|
  .o none (.mv 4 (.t 10)) .nil)))) <| .seq (.rg (.o none (.mv 17 (.t 3)) <|
  .o none (.mv 2 (.t 17)) .nil)) <| .ret⟩
theorem Qaby : Qf Tryz.prog Tryz.f216 = some Q68 := by kernel_rfl
def Q69 : SFn := ⟨17, [.t 4], .seq (.rg (.o none (.mv 4 (.c (.int .i64 0))) .nil)) <| .seq (.seq (.rg (.o none (.mv 5 (.t 1)) <|
  .o none (.bin 6 .lss false (.t 5) (.c (.int .i64 0))) <|
  .o none (.mv 7 (.t 6)) <|
  .o (some (7, false)) (.mv 8 (.t 1)) <|
  .o (some (7, false)) (.mv 9 (.t 0)) <|
  .o (some (7, false)) (.len 10 (.t 9)) <|
  .o (some (7, false)) (.bin 11 .geq false (.t 8) (.t 10)) <|
  .o none (.pick 12 (.t 7) (.c (.bool true)) (.t 11)) .nil)) <| .cond (.t 12) (.seq (.rg (.o none (.mv 4 (.c (.int .i64 0))) .nil)) <| .ret) (.skip)) <| .seq (.rg (.o none (.mv 13 (.t 0)) <|
  .o none (.mv 14 (.t 1)) <|
  .o none (.idx 15 1 (.t 13) (.t 14)) <|
  .o none (.ld 16 1 false (.t 15)) <|
  .o none (.mv 4 (.t 16)) .nil)) <| .ret⟩
theorem Qabz : Qf Tryz.prog Tryz.f131 = some Q69 := by kernel_rfl
def Q7a : SFn := ⟨48, [.t 6], .seq (.rg (.o none (.mv 6 (.c (.int .i64 0))) .nil)) <| .seq (.seq (.rg (.o none (.mv 8 (.t 2)) <|
  .o none (.bin 9 .eql false (.t 8) (.c (.int .i64 1))) <|
  .o none (.mv 10 (.t 9)) <|
  .o (some (10, true)) (.mv 11 (.t 0)) <|
  .o (some (10, true)) (.call (some 12) false (.c (.fn 216 [] [])) [(.t 11)]) <|
  .o (some (10, true)) (.mv 13 (.t 1)) <|
  .o (some (10, true)) (.call (some 14) false (.c (.fn 216 [] [])) [(.t 13)]) <|
  .o (some (10, true)) (.bin 15 .neq false (.t 12) (.t 14)) <|
  .o none (.pick 16 (.t 10) (.t 15) (.c (.bool false))) .nil)) <| .cond (.t 16) (.seq (.rg (.o none (.mv 17 (.t 0)) <|
  .o none (.call (some 18) false (.c (.fn 216 [] [])) [(.t 17)]) <|
  .o none (.mv 19 (.t 1)) <|
  .o none (.call (some 20) false (.c (.fn 216 [] [])) [(.t 19)]) <|
  .o none (.bin 21 .sub false (.t 18) (.t 20)) <|
  .o none (.call (some 22) false (.c (.fn 217 [] [])) [(.t 21)]) <|
  .o none (.mv 6 (.t 22)) .nil)) <| .ret) (.skip)) <| .seq (.seq (.rg (.o none (.mv 23 (.t 0)) <|
  .o none (.len 24 (.t 23)) <|
  .o none (.mv 25 (.t 1)) <|
  .o none (.len 26 (.t 25)) <|
  .o none (.mx 27 (.t 24) (.t 26)) <|
  .o none (.bin 28 .sub false (.t 27) (.c (.int .i64 1))) <|
  .o none (.mv 7 (.t 28)) .nil)) <| .block 0 (.loop (.seq (.seq (.rg (.o none (.mv 29 (.t 7)) <|
  .o none (.bin 30 .geq false (.t 29) (.c (.int .i64 0))) .nil)) <| .cond (.t 30) (.skip) (.exit 0)) <| .seq (.block 1 (.seq (.rg (.o none (.mv 33 (.t 0)) <|
  .o none (.mv 34 (.t 7)) <|
  .o none (.call (some 35) false (.c (.fn 131 [] [])) [(.t 33), (.t 34)]) <|
  .o none (.mv 36 (.t 1)) <|
  .o none (.mv 37 (.t 7)) <|
  .o none (.call (some 38) false (.c (.fn 131 [] [])) [(.t 36), (.t 37)]) <|
  .o none (.bin 39 .neq false (.t 35) (.t 38)) .nil)) <| .cond (.t 39) (.seq (.rg (.o none (.mv 40 (.t 0)) <|
  .o none (.mv 41 (.t 7)) <|
  .o none (.call (some 42) false (.c (.fn 131 [] [])) [(.t 40), (.t 41)]) <|
  .o none (.mv 43 (.t 1)) <|
  .o none (.mv 44 (.t 7)) <|
  .o none (.call (some 45) false (.c (.fn 131 [] [])) [(.t 43), (.t 44)]) <|
  .o none (.bin 46 .sub false (.t 42) (.t 45)) <|
  .o none (.call (some 47) false (.c (.fn 217 [] [])) [(.t 46)]) <|
  .o none (.mv 6 (.t 47)) .nil)) <| .ret) (.skip))) <| .rg (.o none (.mv 31 (.t 7)) <|
  .o none (.bin 32 .sub false (.t 31) (.c (.int .i64 1))) <|
  .o none (.mv 7 (.t 32)) .nil)))) <| .seq (.rg (.o none (.mv 6 (.c (.int .i64 0))) .nil)) <| .ret⟩
theorem Qab0 : Qf Tryz.prog Tryz.f180 = some Q7a := by kernel_rfl
def Q7b : SFn := ⟨7, [.t 2], .seq (.rg (.o none (.mv 2 (.c (.int .i64 0))) .nil)) <| .seq (.seq (.rg (.o none (.mv 3 (.t 0)) <|
  .o none (.bin 4 .lss false (.t 3) (.c (.int .i64 0))) .nil)) <| .cond (.t 4) (.seq (.rg (.o none (.mv 2 (.c (.int .i64 (-1)))) .nil)) <| .ret) (.skip)) <| .seq (.seq (.rg (.o none (.mv 5 (.t 0)) <|
  .o none (.bin 6 .gtr false (.t 5) (.c (.int .i64 0))) .nil)) <| .cond (.t 6) (.seq (.rg (.o none (.mv 2 (.c (.int .i64 1))) .nil)) <| .ret) (.skip)) <| .seq (.rg (.o none (.mv 2 (.c (.int .i64 0))) .nil)) <| .ret⟩
theorem Qab1 : Qf Tryz.prog Tryz.f217 = some Q7b := by kernel_rfl
end Go.Proofs.YtmnkngmmfnncoaaGreat
namespace Go.Proofs.YtmnkngmmfnncoaaGreat
open Go Go.FW
set_option maxRecDepth 100000
def Q7c : SFn := ⟨92, [.t 4], .seq (.rg (.o none (.mv 4 (.c .nilS)) .nil)) <| .seq (.rg (.o none (.mv 5 (.c .nilS)) .nil)) <| .seq (.rg (.o none (.mv 6 (.c (.int .i64 0))) <|
  .o none (.mv 7 (.c (.int .i64 0))) .nil)) <| .seq (.block 0 (.loop (.seq (.seq (.rg (.o none (.mv 10 (.t 6)) <|
  .o none (.mv 11 (.t 0)) <|
  .o none (.len 12 (.t 11)) <|
  .o none (.bin 13 .lss false (.t 10) (.t 12)) <|
  .o none (.mv 14 (.t 13)) <|
  .o (some (14, false)) (.mv 15 (.t 7)) <|
  .o (some (14, false)) (.mv 16 (.t 1)) <|
  .o (some (14, false)) (.len 17 (.t 16)) <|
  .o (some (14, false)) (.bin 18 .lss false (.t 15) (.t 17)) <|
  .o none (.pick 19 (.t 14) (.c (.bool true)) (.t 18)) .nil)) <| .cond (.t 19) (.skip) (.exit 0)) <| .block 1 (.seq (.rg (.o none (.mv 8 (.c (.int .i64 1))) .nil)) <| .seq (.seq (.rg (.o none (.mv 20 (.t 6)) <|
  .o none (.mv 21 (.t 0)) <|
  .o none (.len 22 (.t 21)) <|
  .o none (.bin 23 .eql false (.t 20) (.t 22)) .nil)) <| .cond (.t 23) (.rg (.o none (.mv 8 (.c (.int .i64 (-1)))) .nil)) (.seq (.rg (.o none (.mv 24 (.t 7)) <|
  .o none (.mv 25 (.t 1)) <|
  .o none (.len 26 (.t 25)) <|
  .o none (.bin 27 .lss false (.t 24) (.t 26)) .nil)) <| .cond (.t 27) (.rg (.o none (.mv 28 (.t 0)) <|
  .o none (.mv 29 (.t 6)) <|
  .o none (.idx 30 4 (.t 28) (.t 29)) <|
  .o none (.fld 31 3 (.t 30)) <|
  .o none (.ld 32 1 false (.t 31)) <|
  .o none (.mv 33 (.t 1)) <|
  .o none (.mv 34 (.t 7)) <|
  .o none (.idx 35 4 (.t 33) (.t 34)) <|
  .o none (.fld 36 3 (.t 35)) <|
  .o none (.ld 37 1 false (.t 36)) <|
  .o none (.call (some 38) false (.c (.fn 180 [] [])) [(.t 32), (.t 37), (.c (.int .i64 0))]) <|
  .o none (.mv 8 (.t 38)) .nil)) (.skip))) <| .block 2 (.seq (.rg (.o none (.mv 68 (.t 8)) <|
  .o none (.bin 69 .gtr false (.t 68) (.c (.int .i64 0))) <|
  .o none (.mv 67 (.t 69)) .nil)) <| .cond (.t 67) (.seq (.rg (.o none (.mv 70 (.t 5)) <|
  .o none (.mv 71 (.t 0)) <|
  .o none (.mv 72 (.t 6)) <|
  .o none (.idx 73 4 (.t 71) (.t 72)) <|
  .o none (.ld 74 4 true (.t 73)) <|
  .o none (.bs 75 4 133 [(.t 74)]) <|
  .o none (.app 76 4 80 133 (.t 70) (.t 75)) <|
  .o none (.mv 5 (.t 76)) .nil)) <| .rg (.o none (.mv 77 (.t 6)) <|
  .o none (.bin 78 .add false (.t 77) (.c (.int .i64 1))) <|
  .o none (.mv 6 (.t 78)) .nil)) (.seq (.rg (.o none (.mv 80 (.t 8)) <|
  .o none (.bin 81 .lss false (.t 80) (.c (.int .i64 0))) <|
  .o none (.mv 79 (.t 81)) .nil)) <| .cond (.t 79) (.seq (.rg (.o none (.mv 82 (.t 5)) <|
  .o none (.mv 83 (.t 1)) <|
  .o none (.mv 84 (.t 7)) <|
  .o none (.idx 85 4 (.t 83) (.t 84)) <|
  .o none (.ld 86 4 true (.t 85)) <|
  .o none (.bs 87 4 133 [(.t 86)]) <|
  .o none (.app 88 4 80 133 (.t 82) (.t 87)) <|
  .o none (.mv 5 (.t 88)) .nil)) <| .rg (.o none (.mv 89 (.t 7)) <|
  .o none (.bin 90 .add false (.t 89) (.c (.int .i64 1))) <|
  .o none (.mv 7 (.t 90)) .nil)) (.seq (.seq (.rg (.o none (.mv 39 (.t 0)) <|
  .o none (.mv 40 (.t 6)) <|
  .o none (.idx 41 4 (.t 39) (.t 40)) <|
  .o none (.fld 42 0 (.t 41)) <|
  .o none (.ld 43 3 true (.t 42)) <|
  .o none (.mv 44 (.t 1)) <|
  .o none (.mv 45 (.t 7)) <|
  .o none (.idx 46 4 (.t 44) (.t 45)) <|
  .o none (.fld 47 0 (.t 46)) <|
  .o none (.ld 48 3 true (.t 47)) <|
  .br (.o none (.call (some 49) true (.c (.fn 101 [] [])) [(.t 43), (.t 48)]) <|
  .o none (.alloc 9 3 32 (.agg [(.bool false), .nilS, .nilS])) <|
  .o none (.st 3 (.t 9) (.t 49)) .nil) (.o none (.alloc 9 3 32 (.agg [(.bool false), .nilS, .nilS])) <|
  .o none (.call (some 49) true (.c (.fn 101 [] [])) [(.t 43), (.t 48)]) <|
  .o none (.st 3 (.t 9) (.t 49)) .nil))) <| .seq (.rg (.o none (.ld 50 3 true (.t 9)) <|
  .o none (.call (some 51) false (.c (.fn 81 [] [])) [(.t 50)]) <|
  .o none (.bin 52 .neq false (.t 51) (.c (.int .i64 0))) .nil)) <| .cond (.t 52) (.rg (.o none (.mv 53 (.t 5)) <|
  .o none (.ld 54 3 true (.t 9)) <|
  .o none (.mv 55 (.t 0)) <|
  .o none (.mv 56 (.t 6)) <|
  .o none (.idx 57 4 (.t 55) (.t 56)) <|
  .o none (.fld 58 3 (.t 57)) <|
  .o none (.ld 59 1 false (.t 58)) <|
  .o none (.bld 60 [(.bool false), .nilS, .nilS, .nilS] [(0, 3, (.t 54)), (3, 1, (.t 59))]) <|
  .o none (.bs 61 4 133 [(.t 60)]) <|
  .o none (.app 62 4 80 133 (.t 53) (.t 61)) <|
  .o none (.mv 5 (.t 62)) .nil)) (.skip)) <| .seq (.rg (.o none (.mv 63 (.t 6)) <|
  .o none (.bin 64 .add false (.t 63) (.c (.int .i64 1))) <|
  .o none (.mv 6 (.t 64)) .nil)) <| .rg (.o none (.mv 65 (.t 7)) <|
  .o none (.bin 66 .add false (.t 65) (.c (.int .i64 1))) <|
  .o none (.mv 7 (.t 66)) .nil)))))))) <| .seq (.rg (.o none (.mv 91 (.t 5)) <|
  .o none (.mv 4 (.t 91)) .nil)) <| .ret⟩
theorem Qab2 : Qf Tryz.prog Tryz.f126 = some Q7c := by kernel_rfl
def Q7d : SFn := ⟨58, [.t 4], .seq (.rg (.o none (.mv 4 (.c (.int .i64 0))) .nil)) <| .seq (.seq (.rg (.o none (.mv 5 (.c (.int .i64 0))) .nil)) <| .block 0 (.loop (.seq (.seq (.rg (.o none (.mv 8 (.t 5)) <|
  .o none (.mv 9 (.t 0)) <|
  .o none (.len 10 (.t 9)) <|
  .o none (.bin 11 .lss false (.t 8) (.t 10)) <|
  .o none (.mv 12 (.t 11)) <|
  .o (some (12, true)) (.mv 13 (.t 5)) <|
  .o (some (12, true)) (.mv 14 (.t 1)) <|
  .o (some (12, true)) (.len 15 (.t 14)) <|
  .o (some (12, true)) (.bin 16 .lss false (.t 13) (.t 15)) <|
  .o none (.pick 17 (.t 12) (.t 16) (.c (.bool false))) .nil)) <| .cond (.t 17) (.skip) (.exit 0)) <| .seq (.block 1 (.seq (.seq (.rg (.o none (.mv 20 (.t 0)) <|
  .o none (.mv 21 (.t 5)) <|
  .o none (.idx 22 4 (.t 20) (.t 21)) <|
  .o none (.fld 23 3 (.t 22)) <|
  .o none (.ld 24 1 false (.t 23)) <|
  .o none (.mv 25 (.t 1)) <|
  .o none (.mv 26 (.t 5)) <|
  .o none (.idx 27 4 (.t 25) (.t 26)) <|
  .o none (.fld 28 3 (.t 27)) <|
  .o none (.ld 29 1 false (.t 28)) <|
  .o none (.call (some 30) false (.c (.fn 180 [] [])) [(.t 24), (.t 29), (.c (.int .i64 0))]) <|
  .o none (.mv 6 (.t 30)) .nil)) <| .seq (.rg (.o none (.mv 31 (.t 6)) <|
  .o none (.bin 32 .neq false (.t 31) (.c (.int .i64 0))) .nil)) <| .cond (.t 32) (.seq (.rg (.o none (.mv 33 (.t 6)) <|
  .o none (.mv 4 (.t 33)) .nil)) <| .ret) (.skip)) <| .seq (.rg (.o none (.mv 34 (.t 0)) <|
  .o none (.mv 35 (.t 5)) <|
  .o none (.idx 36 4 (.t 34) (.t 35)) <|
  .o none (.fld 37 0 (.t 36)) <|
  .o none (.ld 38 3 true (.t 37)) <|
  .o none (.mv 39 (.t 1)) <|
  .o none (.mv 40 (.t 5)) <|
  .o none (.idx 41 4 (.t 39) (.t 40)) <|
  .o none (.fld 42 0 (.t 41)) <|
  .o none (.ld 43 3 true (.t 42)) <|
  .o none (.call (some 44) false (.c (.fn 148 [] [])) [(.t 38), (.t 43)]) <|
  .o none (.mv 7 (.t 44)) .nil)) <| .seq (.rg (.o none (.mv 45 (.t 7)) <|
  .o none (.bin 46 .neq false (.t 45) (.c (.int .i64 0))) .nil)) <| .cond (.t 46) (.seq (.rg (.o none (.mv 47 (.t 7)) <|
  .o none (.mv 4 (.t 47)) .nil)) <| .ret) (.skip))) <| .rg (.o none (.mv 18 (.t 5)) <|
  .o none (.bin 19 .add false (.t 18) (.c (.int .i64 1))) <|
  .o none (.mv 5 (.t 19)) .nil)))) <| .seq (.seq (.rg (.o none (.mv 48 (.t 0)) <|
  .o none (.len 49 (.t 48)) <|
  .o none (.mv 50 (.t 1)) <|
  .o none (.len 51 (.t 50)) <|
  .o none (.bin 52 .lss false (.t 49) (.t 51)) .nil)) <| .cond (.t 52) (.seq (.rg (.o none (.mv 4 (.c (.int .i64 (-1)))) .nil)) <| .ret) (.skip)) <| .seq (.seq (.rg (.o none (.mv 53 (.t 0)) <|
  .o none (.len 54 (.t 53)) <|
  .o none (.mv 55 (.t 1)) <|
  .o none (.len 56 (.t 55)) <|
  .o none (.bin 57 .gtr false (.t 54) (.t 56)) .nil)) <| .cond (.t 57) (.seq (.rg (.o none (.mv 4 (.c (.int .i64 1))) .nil)) <| .ret) (.skip)) <| .seq (.rg (.o none (.mv 4 (.c (.int .i64 0))) .nil)) <| .ret⟩
theorem Qab3 : Qf Tryz.prog Tryz.f134 = some Q7d := by kernel_rfl
def c61 : SFn := ⟨9, [.t 4], .seq (.rg (.o none (.mv 4 (.c (.bool false))) .nil)) <| .seq (.rg (.o none (.mv 5 (.t 0)) <|
  .o none (.mv 6 (.t 1)) <|
  .o none (.call (some 7) false (.c (.fn 134 [] [])) [(.t 5), (.t 6)]) <|
  .o none (.bin 8 .eql false (.t 7) (.c (.int .i64 0))) <|
  .o none (.mv 4 (.t 8)) .nil)) <| .ret⟩
theorem Qae7 : Qf Tryz.prog Tryz.f61 = some c61 := by kernel_rfl
def Q7e : SFn := ⟨34, [.t 2], .seq (.rg (.o none (.mv 2 (.c .nilS)) .nil)) <| .seq (.rg (.o none (.mv 3 (.c .nilS)) .nil)) <| .seq (.seq (.rg (.o none (.mv 4 (.c (.int .i64 0))) .nil)) <| .block 0 (.loop (.seq (.seq (.rg (.o none (.mv 6 (.t 4)) <|
  .o none (.mv 7 (.t 0)) <|
  .o none (.len 8 (.t 7)) <|
  .o none (.bin 9 .lss false (.t 6) (.t 8)) .nil)) <| .cond (.t 9) (.skip) (.exit 0)) <| .seq (.block 1 (.seq (.rg (.o none (.mv 12 (.t 0)) <|
  .o none (.mv 13 (.t 4)) <|
  .o none (.idx 14 4 (.t 12) (.t 13)) <|
  .o none (.fld 15 3 (.t 14)) <|
  .o none (.ld 16 1 false (.t 15)) <|
  .o none (.call (some 17) false (.c (.fn 183 [] [])) [(.t 16)]) <|
  .o none (.mv 5 (.t 17)) .nil)) <| .seq (.rg (.o none (.mv 18 (.t 0)) <|
  .o none (.mv 19 (.t 4)) <|
  .o none (.idx 20 4 (.t 18) (.t 19)) <|
  .o none (.fld 21 3 (.t 20)) <|
  .o none (.ld 22 1 false (.t 21)) <|
  .o none (.mv 23 (.t 5)) <|
  .o none (.call (some 24) false (.c (.fn 184 [] [])) [(.t 22), (.t 23)]) .nil)) <| .cond (.t 24) (.rg (.o none (.mv 25 (.t 3)) <|
  .o none (.mv 26 (.t 0)) <|
  .o none (.mv 27 (.t 4)) <|
  .o none (.idx 28 4 (.t 26) (.t 27)) <|
  .o none (.fld 29 0 (.t 28)) <|
  .o none (.ld 30 3 true (.t 29)) <|
  .o none (.mv 31 (.t 5)) <|
  .o none (.call (some 32) false (.c (.fn 185 [] [])) [(.t 25), (.t 30), (.t 31)]) <|
  .o none (.mv 3 (.t 32)) .nil)) (.skip))) <| .rg (.o none (.mv 10 (.t 4)) <|
  .o none (.bin 11 .add false (.t 10) (.c (.int .i64 1))) <|
  .o none (.mv 4 (.t 11)) .nil)))) <| .seq (.rg (.o none (.mv 33 (.t 3)) <|
  .o none (.mv 2 (.t 33)) .nil)) <| .ret⟩
theorem Qab4 : Qf Tryz.prog Tryz.f125 = some Q7e := by kernel_rfl
def Q7f : SFn := ⟨52, [.t 2], .seq (.rg (.o none (.mv 2 (.c (.bool false))) .nil)) <| .seq (.seq (.rg (.o none (.mv 3 (.c (.int .i64 0))) .nil)) <| .block 0 (.loop (.seq (.seq (.rg (.o none (.mv 4 (.t 3)) <|
  .o none (.mv 5 (.t 0)) <|
  .o none (.len 6 (.t 5)) <|
  .o none (.bin 7 .lss false (.t 4) (.t 6)) .nil)) <| .cond (.t 7) (.skip) (.exit 0)) <| .seq (.block 1 (.seq (.seq (.rg (.o none (.mv 10 (.t 0)) <|
  .o none (.mv 11 (.t 3)) <|
  .o none (.idx 12 4 (.t 10) (.t 11)) <|
  .o none (.fld 13 0 (.t 12)) <|
  .o none (.ld 14 3 true (.t 13)) <|
  .o none (.call (some 15) false (.c (.fn 45 [] [])) [(.t 14)]) <|
  .o none (.un 16 .not (.t 15)) <|
  .o none (.mv 17 (.t 16)) <|
  .o (some (17, false)) (.mv 18 (.t 0)) <|
  .o (some (17, false)) (.mv 19 (.t 3)) <|
  .o (some (17, false)) (.idx 20 4 (.t 18) (.t 19)) <|
  .o (some (17, false)) (.fld 21 0 (.t 20)) <|
  .o (some (17, false)) (.ld 22 3 true (.t 21)) <|
  .o (some (17, false)) (.call (some 23) false (.c (.fn 81 [] [])) [(.t 22)]) <|
  .o (some (17, false)) (.bin 24 .eql false (.t 23) (.c (.int .i64 0))) <|
  .o none (.pick 25 (.t 17) (.c (.bool true)) (.t 24)) <|
  .o none (.mv 26 (.t 25)) <|
  .o (some (26, false)) (.mv 27 (.t 0)) <|
  .o (some (26, false)) (.mv 28 (.t 3)) <|
  .o (some (26, false)) (.idx 29 4 (.t 27) (.t 28)) <|
  .o (some (26, false)) (.fld 30 3 (.t 29)) <|
  .o (some (26, false)) (.ld 31 1 false (.t 30)) <|
  .o (some (26, false)) (.call (some 32) false (.c (.fn 179 [] [])) [(.t 31)]) <|
  .o (some (26, false)) (.un 33 .not (.t 32)) <|
  .o none (.pick 34 (.t 26) (.c (.bool true)) (.t 33)) .nil)) <| .cond (.t 34) (.seq (.rg (.o none (.mv 2 (.c (.bool false))) .nil)) <| .ret) (.skip)) <| .seq (.rg (.o none (.mv 35 (.t 3)) <|
  .o none (.bin 36 .gtr false (.t 35) (.c (.int .i64 0))) <|
  .o none (.mv 37 (.t 36)) <|
  .o (some (37, true)) (.mv 38 (.t 0)) <|
  .o (some (37, true)) (.mv 39 (.t 3)) <|
  .o (some (37, true)) (.bin 40 .sub false (.t 39) (.c (.int .i64 1))) <|
  .o (some (37, true)) (.idx 41 4 (.t 38) (.t 40)) <|
  .o (some (37, true)) (.fld 42 3 (.t 41)) <|
  .o (some (37, true)) (.ld 43 1 false (.t 42)) <|
  .o (some (37, true)) (.mv 44 (.t 0)) <|
  .o (some (37, true)) (.mv 45 (.t 3)) <|
  .o (some (37, true)) (.idx 46 4 (.t 44) (.t 45)) <|
  .o (some (37, true)) (.fld 47 3 (.t 46)) <|
  .o (some (37, true)) (.ld 48 1 false (.t 47)) <|
  .o (some (37, true)) (.call (some 49) false (.c (.fn 180 [] [])) [(.t 43), (.t 48), (.c (.int .i64 0))]) <|
  .o (some (37, true)) (.bin 50 .leq false (.t 49) (.c (.int .i64 0))) <|
  .o none (.pick 51 (.t 37) (.t 50) (.c (.bool false))) .nil)) <| .cond (.t 51) (.seq (.rg (.o none (.mv 2 (.c (.bool false))) .nil)) <| .ret) (.skip))) <| .rg (.o none (.mv 8 (.t 3)) <|
  .o none (.bin 9 .add false (.t 8) (.c (.int .i64 1))) <|
  .o none (.mv 3 (.t 9)) .nil)))) <| .seq (.rg (.o none (.mv 2 (.c (.bool true))) .nil)) <| .ret⟩
theorem Qab5 : Qf Tryz.prog Tryz.f121 = some Q7f := by kernel_rfl
def c52 : SFn := ⟨72, [.t 8], .seq (.rg (.o none (.mv 8 (.c (.bool false))) .nil)) <| .seq (.seq (.rg (.o none (.mv 11 (.t 0)) <|
  .o none (.len 12 (.t 11)) <|
  .o none (.mv 13 (.t 1)) <|
  .o none (.bin 14 .gtr false (.t 12) (.t 13)) .nil)) <| .cond (.t 14) (.seq (.rg (.o none (.mv 8 (.c (.bool false))) .nil)) <| .ret) (.skip)) <| .seq (.seq (.rg (.o none (.mv 9 (.c (.int .i64 0))) .nil)) <| .block 0 (.loop (.seq (.seq (.rg (.o none (.mv 15 (.t 9)) <|
  .o none (.mv 16 (.t 0)) <|
  .o none (.len 17 (.t 16)) <|
  .o none (.bin 18 .lss false (.t 15) (.t 17)) .nil)) <| .cond (.t 18) (.skip) (.exit 0)) <| .seq (.block 1 (.seq (.seq (.rg (.o none (.mv 21 (.t 0)) <|
  .o none (.mv 22 (.t 9)) <|
  .o none (.idx 23 4 (.t 21) (.t 22)) <|
  .o none (.fld 24 3 (.t 23)) <|
  .o none (.ld 25 1 false (.t 24)) <|
  .o none (.len 26 (.t 25)) <|
  .o none (.mv 27 (.t 2)) <|
  .o none (.bin 28 .gtr false (.t 26) (.t 27)) <|
  .o none (.mv 29 (.t 28)) <|
  .o (some (29, false)) (.mv 30 (.t 0)) <|
  .o (some (29, false)) (.mv 31 (.t 9)) <|
  .o (some (29, false)) (.idx 32 4 (.t 30) (.t 31)) <|
  .o (some (29, false)) (.fld 33 0 (.t 32)) <|
  .o (some (29, false)) (.fld 34 0 (.t 33)) <|
  .o (some (29, false)) (.fld 35 1 (.t 34)) <|
  .o (some (29, false)) (.ld 36 1 false (.t 35)) <|
  .o (some (29, false)) (.len 37 (.t 36)) <|
  .o (some (29, false)) (.bin 38 .gtr false (.t 37) (.c (.int .i64 4))) <|
  .o none (.pick 39 (.t 29) (.c (.bool true)) (.t 38)) <|
  .o none (.mv 40 (.t 39)) <|
  .o (some (40, false)) (.mv 41 (.t 0)) <|
  .o (some (40, false)) (.mv 42 (.t 9)) <|
  .o (some (40, false)) (.idx 43 4 (.t 41) (.t 42)) <|
  .o (some (40, false)) (.fld 44 0 (.t 43)) <|
  .o (some (40, false)) (.fld 45 2 (.t 44)) <|
  .o (some (40, false)) (.ld 46 1 false (.t 45)) <|
  .o (some (40, false)) (.len 47 (.t 46)) <|
  .o (some (40, false)) (.bin 48 .gtr false (.t 47) (.c (.int .i64 4))) <|
  .o none (.pick 49 (.t 40) (.c (.bool true)) (.t 48)) .nil)) <| .cond (.t 49) (.seq (.rg (.o none (.mv 8 (.c (.bool false))) .nil)) <| .ret) (.skip)) <| .seq (.rg (.o none (.mv 10 (.c (.int .i64 0))) .nil)) <| .block 2 (.loop (.seq (.seq (.rg (.o none (.mv 50 (.t 10)) <|
  .o none (.mv 51 (.t 0)) <|
  .o none (.mv 52 (.t 9)) <|
  .o none (.idx 53 4 (.t 51) (.t 52)) <|
  .o none (.fld 54 3 (.t 53)) <|
  .o none (.ld 55 1 false (.t 54)) <|
  .o none (.len 56 (.t 55)) <|
  .o none (.bin 57 .lss false (.t 50) (.t 56)) .nil)) <| .cond (.t 57) (.skip) (.exit 2)) <| .seq (.block 3 (.seq (.rg (.o none (.mv 60 (.t 0)) <|
  .o none (.mv 61 (.t 9)) <|
  .o none (.idx 62 4 (.t 60) (.t 61)) <|
  .o none (.fld 63 3 (.t 62)) <|
  .o none (.ld 64 1 false (.t 63)) <|
  .o none (.mv 65 (.t 10)) <|
  .o none (.idx 66 1 (.t 64) (.t 65)) <|
  .o none (.ld 67 1 false (.t 66)) <|
  .o none (.mv 68 (.t 3)) <|
  .o none (.bin 69 .gtr false (.t 67) (.t 68)) .nil)) <| .cond (.t 69) (.seq (.rg (.o none (.mv 8 (.c (.bool false))) .nil)) <| .ret) (.skip))) <| .rg (.o none (.mv 58 (.t 10)) <|
  .o none (.bin 59 .add false (.t 58) (.c (.int .i64 1))) <|
  .o none (.mv 10 (.t 59)) .nil))))) <| .rg (.o none (.mv 19 (.t 9)) <|
  .o none (.bin 20 .add false (.t 19) (.c (.int .i64 1))) <|
  .o none (.mv 9 (.t 20)) .nil)))) <| .seq (.rg (.o none (.mv 70 (.t 0)) <|
  .o none (.call (some 71) false (.c (.fn 121 [] [])) [(.t 70)]) <|
  .o none (.mv 8 (.t 71)) .nil)) <| .ret⟩
theorem Qae8 : Qf Tryz.prog Tryz.f52 = some c52 := by kernel_rfl
def Q7g : SFn := ⟨88, [.t 6], .seq (.rg (.o none (.box 4 3 32 (.t 1)) <|
  .o none (.mv 6 (.c .nilS)) .nil)) <| .seq (.rg (.o none (.mv 10 (.t 0)) <|
  .o none (.len 11 (.t 10)) <|
  .o none (.mv 7 (.t 11)) .nil)) <| .seq (.block 0 (.loop (.seq (.seq (.rg (.o none (.mv 12 (.t 7)) <|
  .o none (.bin 13 .gtr false (.t 12) (.c (.int .i64 0))) <|
  .o none (.mv 14 (.t 13)) <|
  .o (some (14, true)) (.mv 15 (.t 0)) <|
  .o (some (14, true)) (.mv 16 (.t 7)) <|
  .o (some (14, true)) (.bin 17 .sub false (.t 16) (.c (.int .i64 1))) <|
  .o (some (14, true)) (.idx 18 4 (.t 15) (.t 17)) <|
  .o (some (14, true)) (.fld 19 3 (.t 18)) <|
  .o (some (14, true)) (.ld 20 1 false (.t 19)) <|
  .o (some (14, true)) (.mv 21 (.t 2)) <|
  .o (some (14, true)) (.call (some 22) false (.c (.fn 180 [] [])) [(.t 20), (.t 21), (.c (.int .i64 0))]) <|
  .o (some (14, true)) (.bin 23 .lss false (.t 22) (.c (.int .i64 0))) <|
  .o none (.pick 24 (.t 14) (.t 23) (.c (.bool false))) .nil)) <| .cond (.t 24) (.skip) (.exit 0)) <| .block 1 (.rg (.o none (.mv 25 (.t 7)) <|
  .o none (.bin 26 .sub false (.t 25) (.c (.int .i64 1))) <|
  .o none (.mv 7 (.t 26)) .nil))))) <| .seq (.rg (.o none (.mv 8 (.c .nilS)) .nil)) <| .seq (.seq (.rg (.o none (.mv 27 (.t 7)) <|
  .o none (.bin 28 .gtr false (.t 27) (.c (.int .i64 0))) <|
  .o none (.mv 29 (.t 28)) <|
  .o (some (29, true)) (.mv 30 (.t 0)) <|
  .o (some (29, true)) (.mv 31 (.t 7)) <|
  .o (some (29, true)) (.bin 32 .sub false (.t 31) (.c (.int .i64 1))) <|
  .o (some (29, true)) (.idx 33 4 (.t 30) (.t 32)) <|
  .o (some (29, true)) (.fld 34 3 (.t 33)) <|
  .o (some (29, true)) (.ld 35 1 false (.t 34)) <|
  .o (some (29, true)) (.mv 36 (.t 2)) <|
  .o (some (29, true)) (.call (some 37) false (.c (.fn 180 [] [])) [(.t 35), (.t 36), (.c (.int .i64 0))]) <|
  .o (some (29, true)) (.bin 38 .eql false (.t 37) (.c (.int .i64 0))) <|
  .o none (.pick 39 (.t 29) (.t 38) (.c (.bool false))) .nil)) <| .cond (.t 39) (.seq (.rg (.o none (.mv 40 (.t 8)) <|
  .o none (.mv 41 (.t 0)) <|
  .o none (.mv 42 (.t 7)) <|
  .o none (.bin 43 .sub false (.t 42) (.c (.int .i64 1))) <|
  .o none (.sl 44 4 (.t 41) none (some (.t 43)) none) <|
  .o none (.app 45 4 80 133 (.t 40) (.t 44)) <|
  .o none (.mv 8 (.t 45)) .nil)) <| .seq (.seq (.rg (.o none (.mv 46 (.t 0)) <|
  .o none (.mv 47 (.t 7)) <|
  .o none (.bin 48 .sub false (.t 47) (.c (.int .i64 1))) <|
  .o none (.idx 49 4 (.t 46) (.t 48)) <|
  .o none (.fld 50 0 (.t 49)) <|
  .o none (.ld 51 3 true (.t 50)) <|
  .o none (.ld 52 3 true (.t 4)) <|
  .br (.o none (.call (some 53) true (.c (.fn 101 [] [])) [(.t 51), (.t 52)]) <|
  .o none (.alloc 9 3 32 (.agg [(.bool false), .nilS, .nilS])) <|
  .o none (.st 3 (.t 9) (.t 53)) .nil) (.o none (.alloc 9 3 32 (.agg [(.bool false), .nilS, .nilS])) <|
  .o none (.call (some 53) true (.c (.fn 101 [] [])) [(.t 51), (.t 52)]) <|
  .o none (.st 3 (.t 9) (.t 53)) .nil))) <| .seq (.rg (.o none (.ld 54 3 true (.t 9)) <|
  .o none (.call (some 55) false (.c (.fn 81 [] [])) [(.t 54)]) <|
  .o none (.bin 56 .neq false (.t 55) (.c (.int .i64 0))) .nil)) <| .cond (.t 56) (.rg (.o none (.mv 57 (.t 8)) <|
  .o none (.ld 58 3 true (.t 9)) <|
  .o none (.mv 59 (.t 2)) <|
  .o none (.bld 60 [(.bool false), .nilS, .nilS, .nilS] [(0, 3, (.t 58)), (3, 1, (.t 59))]) <|
  .o none (.bs 61 4 133 [(.t 60)]) <|
  .o none (.app 62 4 80 133 (.t 57) (.t 61)) <|
  .o none (.mv 8 (.t 62)) .nil)) (.skip)) <| .seq (.rg (.o none (.mv 63 (.t 8)) <|
  .o none (.mv 64 (.t 0)) <|
  .o none (.mv 65 (.t 7)) <|
  .o none (.sl 66 4 (.t 64) (some (.t 65)) none none) <|
  .o none (.app 67 4 80 133 (.t 63) (.t 66)) <|
  .o none (.mv 6 (.t 67)) .nil)) <| .ret) (.skip)) <| .seq (.rg (.o none (.mv 68 (.t 8)) <|
  .o none (.mv 69 (.t 0)) <|
  .o none (.mv 70 (.t 7)) <|
  .o none (.sl 71 4 (.t 69) none (some (.t 70)) none) <|
  .o none (.app 72 4 80 133 (.t 68) (.t 71)) <|
  .o none (.mv 8 (.t 72)) .nil)) <| .seq (.seq (.rg (.o none (.ld 73 3 true (.t 4)) <|
  .o none (.call (some 74) false (.c (.fn 81 [] [])) [(.t 73)]) <|
  .o none (.bin 75 .neq false (.t 74) (.c (.int .i64 0))) .nil)) <| .cond (.t 75) (.rg (.o none (.mv 76 (.t 8)) <|
  .o none (.ld 77 3 true (.t 4)) <|
  .o none (.call (some 78) false (.c (.fn 157 [] [])) [(.t 77)]) <|
  .o none (.mv 79 (.t 2)) <|
  .o none (.bld 80 [(.bool false), .nilS, .nilS, .nilS] [(0, 3, (.t 78)), (3, 1, (.t 79))]) <|
  .o none (.bs 81 4 133 [(.t 80)]) <|
  .o none (.app 82 4 80 133 (.t 76) (.t 81)) <|
  .o none (.mv 8 (.t 82)) .nil)) (.skip)) <| .seq (.rg (.o none (.mv 83 (.t 8)) <|
  .o none (.mv 84 (.t 0)) <|
  .o none (.mv 85 (.t 7)) <|
  .o none (.sl 86 4 (.t 84) (some (.t 85)) none none) <|
  .o none (.app 87 4 80 133 (.t 83) (.t 86)) <|
  .o none (.mv 6 (.t 87)) .nil)) <| .ret⟩
theorem Qab6 : Qf Tryz.prog Tryz.f185 = some Q7g := by kernel_rfl
def Q7h : SFn := ⟨20, [.t 4], .seq (.rg (.o none (.mv 4 (.c (.bool false))) .nil)) <| .seq (.seq (.rg (.o none (.mv 5 (.c (.int .i64 0))) .nil)) <| .block 0 (.loop (.seq (.seq (.rg (.o none (.mv 6 (.t 5)) <|
  .o none (.mv 7 (.t 0)) <|
  .o none (.len 8 (.t 7)) <|
  .o none (.bin 9 .lss false (.t 6) (.t 8)) .nil)) <| .cond (.t 9) (.skip) (.exit 0)) <| .seq (.block 1 (.seq (.rg (.o none (.mv 12 (.t 0)) <|
  .o none (.mv 13 (.t 5)) <|
  .o none (.idx 14 1 (.t 12) (.t 13)) <|
  .o none (.ld 15 1 false (.t 14)) <|
  .o none (.mv 16 (.t 1)) <|
  .o none (.mv 17 (.t 5)) <|
  .o none (.call (some 18) true (.c (.fn 131 [] [])) [(.t 16), (.t 17)]) <|
  .o none (.bin 19 .neq false (.t 15) (.t 18)) .nil)) <| .cond (.t 19) (.seq (.rg (.o none (.mv 4 (.c (.bool false))) .nil)) <| .ret) (.skip))) <| .rg (.o none (.mv 10 (.t 5)) <|
  .o none (.bin 11 .add false (.t 10) (.c (.int .i64 1))) <|
  .o none (.mv 5 (.t 11)) .nil)))) <| .seq (.rg (.o none (.mv 4 (.c (.bool true))) .nil)) <| .ret⟩
theorem Qab7 : Qf Tryz.prog Tryz.f184 = some Q7h := by kernel_rfl
end Go.Proofs.YtmnkngmmfnncoaaGreat
namespace Go.Proofs.YtmnkngmmfnncoaaGreat
open Go Go.FW
set_option maxRecDepth 100000
def c56 : SFn := ⟨22, [.t 4], .seq (.rg (.o none (.mv 4 (.c (.int .i64 0))) .nil)) <| .seq (.rg (.o none (.mv 5 (.c (.int .i64 (-1)))) .nil)) <| .seq (.seq (.rg (.o none (.mv 8 (.t 0)) <|
  .o none (.len 9 (.t 8)) <|
  .o none (.mv 10 (.c (.int .i64 0))) .nil)) <| .block 0 (.loop (.seq (.rg (.o none (.bin 11 .lss false (.t 10) (.t 9)) .nil)) <| .seq (.cond (.t 11) (.skip) (.exit 0)) <| .seq (.block 1 (.seq (.rg (.o none (.idx 12 4 (.t 8) (.t 10)) <|
  .o none (.ld 13 4 true (.t 12)) <|
  .o none (.alloc 7 4 133 (.agg [(.bool false), .nilS, .nilS, .nilS])) <|
  .o none (.st 4 (.t 7) (.t 13)) .nil)) <| .rg (.o none (.mv 14 (.t 5)) <|
  .o none (.fld 15 3 (.t 7)) <|
  .o none (.ld 16 1 false (.t 15)) <|
  .o none (.mv 17 (.t 1)) <|
  .o none (.call (some 18) false (.c (.fn 130 [] [])) [(.t 16), (.t 17)]) <|
  .o none (.mx 19 (.t 14) (.t 18)) <|
  .o none (.mv 5 (.t 19)) .nil))) <| .rg (.o none (.bin 20 .add false (.t 10) (.c (.int .i64 1))) <|
  .o none (.mv 10 (.t 20)) .nil)))) <| .seq (.rg (.o none (.mv 21 (.t 5)) <|
  .o none (.mv 4 (.t 21)) .nil)) <| .ret⟩
theorem Qae9 : Qf Tryz.prog Tryz.f56 = some c56 := by kernel_rfl
def Q7i : SFn := ⟨35, [.t 4], .seq (.rg (.o none (.mv 4 (.c .nilS)) .nil)) <| .seq (.seq (.rg (.o none (.mv 7 (.t 0)) <|
  .o none (.mv 8 (.t 1)) <|
  .o none (.call (some 9) false (.c (.fn 130 [] [])) [(.t 7), (.t 8)]) <|
  .o none (.bin 10 .eql false (.t 9) (.c (.int .i64 0))) .nil)) <| .cond (.t 10) (.seq (.rg (.o none (.mv 11 (.t 0)) <|
  .o none (.mv 4 (.t 11)) .nil)) <| .ret) (.skip)) <| .seq (.rg (.o none (.mv 12 (.t 0)) <|
  .o none (.app 13 1 8 3 (.c .nilS) (.t 12)) <|
  .o none (.mv 5 (.t 13)) .nil)) <| .seq (.rg (.o none (.mv 14 (.t 5)) <|
  .o none (.mv 15 (.t 1)) <|
  .o none (.idx 16 1 (.t 14) (.t 15)) <|
  .o none (.st 1 (.t 16) (.c (.int .i64 0))) .nil)) <| .seq (.rg (.o none (.mv 17 (.t 5)) <|
  .o none (.len 18 (.t 17)) <|
  .o none (.mv 6 (.t 18)) .nil)) <| .seq (.block 0 (.loop (.seq (.seq (.rg (.o none (.mv 19 (.t 6)) <|
  .o none (.bin 20 .gtr false (.t 19) (.c (.int .i64 0))) <|
  .o none (.mv 21 (.t 20)) <|
  .o (some (21, true)) (.mv 22 (.t 5)) <|
  .o (some (21, true)) (.mv 23 (.t 6)) <|
  .o (some (21, true)) (.bin 24 .sub false (.t 23) (.c (.int .i64 1))) <|
  .o (some (21, true)) (.idx 25 1 (.t 22) (.t 24)) <|
  .o (some (21, true)) (.ld 26 1 false (.t 25)) <|
  .o (some (21, true)) (.bin 27 .eql false (.t 26) (.c (.int .i64 0))) <|
  .o none (.pick 28 (.t 21) (.t 27) (.c (.bool false))) .nil)) <| .cond (.t 28) (.skip) (.exit 0)) <| .block 1 (.rg (.o none (.mv 29 (.t 6)) <|
  .o none (.bin 30 .sub false (.t 29) (.c (.int .i64 1))) <|
  .o none (.mv 6 (.t 30)) .nil))))) <| .seq (.rg (.o none (.mv 31 (.t 5)) <|
  .o none (.mv 32 (.t 6)) <|
  .o none (.mv 33 (.t 6)) <|
  .o none (.sl 34 1 (.t 31) none (some (.t 32)) (some (.t 33))) <|
  .o none (.mv 4 (.t 34)) .nil)) <| .ret⟩
theorem Qab8 : Qf Tryz.prog Tryz.f132 = some Q7i := by kernel_rfl
def c59 : SFn := ⟨43, [.t 4], .seq (.rg (.o none (.mv 4 (.c .nilS)) .nil)) <| .seq (.rg (.o none (.mv 9 (.t 0)) <|
  .o none (.mv 10 (.t 1)) <|
  .o none (.call (some 11) false (.c (.fn 56 [] [])) [(.t 9), (.t 10)]) <|
  .o none (.bin 12 .add false (.t 11) (.c (.int .i64 1))) <|
  .o none (.mk 13 1 24 65 .nilS (.t 12) (.t 12)) <|
  .o none (.mv 5 (.t 13)) .nil)) <| .seq (.seq (.rg (.o none (.mv 14 (.t 0)) <|
  .o none (.len 15 (.t 14)) <|
  .o none (.mv 16 (.c (.int .i64 0))) .nil)) <| .block 0 (.loop (.seq (.rg (.o none (.bin 17 .lss false (.t 16) (.t 15)) .nil)) <| .seq (.cond (.t 17) (.skip) (.exit 0)) <| .seq (.block 1 (.seq (.rg (.o none (.idx 18 4 (.t 14) (.t 16)) <|
  .o none (.ld 19 4 true (.t 18)) <|
  .o none (.alloc 7 4 133 (.agg [(.bool false), .nilS, .nilS, .nilS])) <|
  .o none (.st 4 (.t 7) (.t 19)) .nil)) <| .seq (.rg (.o none (.fld 20 3 (.t 7)) <|
  .o none (.ld 21 1 false (.t 20)) <|
  .o none (.mv 22 (.t 1)) <|
  .o none (.call (some 23) false (.c (.fn 130 [] [])) [(.t 21), (.t 22)]) <|
  .o none (.mx 24 (.t 23) (.c (.int .i64 0))) <|
  .o none (.mv 8 (.t 24)) .nil)) <| .rg (.o none (.mv 25 (.t 5)) <|
  .o none (.mv 26 (.t 8)) <|
  .o none (.mv 27 (.t 5)) <|
  .o none (.mv 28 (.t 8)) <|
  .o none (.idx 29 1 (.t 27) (.t 28)) <|
  .o none (.ld 30 1 false (.t 29)) <|
  .o none (.fld 31 0 (.t 7)) <|
  .o none (.ld 32 3 true (.t 31)) <|
  .o none (.fld 33 3 (.t 7)) <|
  .o none (.ld 34 1 false (.t 33)) <|
  .o none (.mv 35 (.t 1)) <|
  .o none (.call (some 36) true (.c (.fn 132 [] [])) [(.t 34), (.t 35)]) <|
  .o none (.bld 37 [(.bool false), .nilS, .nilS, .nilS] [(0, 3, (.t 32)), (3, 1, (.t 36))]) <|
  .o none (.bs 38 4 133 [(.t 37)]) <|
  .o none (.app 39 4 80 133 (.t 30) (.t 38)) <|
  .o none (.idx 40 1 (.t 25) (.t 26)) <|
  .o none (.st 1 (.t 40) (.t 39)) .nil))) <| .rg (.o none (.bin 41 .add false (.t 16) (.c (.int .i64 1))) <|
  .o none (.mv 16 (.t 41)) .nil)))) <| .seq (.rg (.o none (.mv 42 (.t 5)) <|
  .o none (.mv 4 (.t 42)) .nil)) <| .ret⟩
theorem Qafa : Qf Tryz.prog Tryz.f59 = some c59 := by kernel_rfl
def Q7j : SFn := ⟨32, [.t 6], .seq (.rg (.o none (.mv 6 (.c .nilS)) .nil)) <| .seq (.seq (.rg (.o none (.mv 8 (.t 1)) <|
  .o none (.bin 9 .lss false (.t 8) (.c (.int .i64 0))) <|
  .o none (.mv 10 (.t 9)) <|
  .o (some (10, false)) (.mv 11 (.t 1)) <|
  .o (some (10, false)) (.bin 12 .geq false (.t 11) (.c (.int .i64 64))) <|
  .o none (.pick 13 (.t 10) (.c (.bool true)) (.t 12)) <|
  .o none (.mv 14 (.t 13)) <|
  .o (some (14, false)) (.mv 15 (.t 2)) <|
  .o (some (14, false)) (.bin 16 .leq false (.t 15) (.c (.int .i64 0))) <|
  .o none (.pick 17 (.t 14) (.c (.bool true)) (.t 16)) .nil)) <| .cond (.t 17) (.seq (.rg (.o none (.mv 18 (.t 0)) <|
  .o none (.mv 6 (.t 18)) .nil)) <| .ret) (.skip)) <| .seq (.rg (.o none (.mv 19 (.t 1)) <|
  .o none (.bin 20 .add false (.t 19) (.c (.int .i64 1))) <|
  .o none (.mk 21 1 8 3 (.int .i64 0) (.t 20) (.t 20)) <|
  .o none (.mv 7 (.t 21)) .nil)) <| .seq (.rg (.o none (.mv 22 (.t 7)) <|
  .o none (.mv 23 (.t 1)) <|
  .o none (.mv 24 (.t 2)) <|
  .o none (.idx 25 1 (.t 22) (.t 23)) <|
  .o none (.st 1 (.t 25) (.t 24)) .nil)) <| .seq (.rg (.o none (.mv 26 (.t 0)) <|
  .o none (.call (some 27) false (.c (.fn 79 [] [])) [(.c (.int .i64 1))]) <|
  .o none (.mv 28 (.t 7)) <|
  .o none (.bld 29 [(.bool false), .nilS, .nilS, .nilS] [(0, 3, (.t 27)), (3, 1, (.t 28))]) <|
  .o none (.bs 30 4 133 [(.t 29)]) <|
  .o none (.call (some 31) false (.c (.fn 68 [] [])) [(.t 26), (.t 30)]) <|
  .o none (.mv 6 (.t 31)) .nil)) <| .ret⟩
theorem Qab9 : Qf Tryz.prog Tryz.f137 = some Q7j := by kernel_rfl
def c66 : SFn := ⟨26, [.t 4], .seq (.rg (.o none (.mv 4 (.c .nilS)) .nil)) <| .seq (.rg (.o none (.mv 5 (.c .nilS)) .nil)) <| .seq (.seq (.rg (.o none (.mv 8 (.t 0)) <|
  .o none (.len 9 (.t 8)) <|
  .o none (.mv 10 (.c (.int .i64 0))) .nil)) <| .block 0 (.loop (.seq (.rg (.o none (.bin 11 .lss false (.t 10) (.t 9)) .nil)) <| .seq (.cond (.t 11) (.skip) (.exit 0)) <| .seq (.block 1 (.seq (.rg (.o none (.mv 12 (.t 10)) <|
  .o none (.idx 13 1 (.t 8) (.t 10)) <|
  .o none (.ld 14 1 false (.t 13)) <|
  .o none (.mv 6 (.t 12)) <|
  .o none (.mv 7 (.t 14)) .nil)) <| .seq (.rg (.o none (.mv 15 (.t 7)) <|
  .o none (.len 16 (.t 15)) <|
  .o none (.bin 17 .gtr false (.t 16) (.c (.int .i64 0))) .nil)) <| .cond (.t 17) (.rg (.o none (.mv 18 (.t 5)) <|
  .o none (.mv 19 (.t 7)) <|
  .o none (.mv 20 (.t 1)) <|
  .o none (.mv 21 (.t 6)) <|
  .o none (.call (some 22) false (.c (.fn 137 [] [])) [(.t 19), (.t 20), (.t 21)]) <|
  .o none (.call (some 23) false (.c (.fn 75 [] [])) [(.t 18), (.t 22)]) <|
  .o none (.mv 5 (.t 23)) .nil)) (.skip))) <| .rg (.o none (.bin 24 .add false (.t 10) (.c (.int .i64 1))) <|
  .o none (.mv 10 (.t 24)) .nil)))) <| .seq (.rg (.o none (.mv 25 (.t 5)) <|
  .o none (.mv 4 (.t 25)) .nil)) <| .ret⟩
theorem Qafb : Qf Tryz.prog Tryz.f66 = some c66 := by kernel_rfl
def c67 : SFn := ⟨78, [.t 4, .t 5], .seq (.rg (.o none (.mv 4 (.c .nilS)) <|
  .o none (.mv 5 (.c (.bool false))) .nil)) <| .seq (.seq (.rg (.o none (.mv 13 (.t 1)) <|
  .o none (.len 14 (.t 13)) <|
  .o none (.bin 15 .eql false (.t 14) (.c (.int .i64 0))) .nil)) <| .cond (.t 15) (.seq (.rg (.o none (.mv 4 (.c .nilS)) <|
  .o none (.mv 5 (.c (.bool false))) .nil)) <| .ret) (.skip)) <| .seq (.rg (.o none (.mv 6 (.c .nilS)) .nil)) <| .seq (.block 0 (.loop (.seq (.seq (.rg (.o none (.mv 16 (.t 0)) <|
  .o none (.len 17 (.t 16)) <|
  .o none (.bin 18 .gtr false (.t 17) (.c (.int .i64 0))) .nil)) <| .cond (.t 18) (.skip) (.exit 0)) <| .block 1 (.seq (.rg (.o none (.mv 20 (.t 0)) <|
  .o none (.idx 21 4 (.t 20) (.c (.int .i64 0))) <|
  .o none (.fld 22 3 (.t 21)) <|
  .o none (.ld 23 1 false (.t 22)) <|
  .o none (.mv 24 (.t 1)) <|
  .o none (.idx 25 4 (.t 24) (.c (.int .i64 0))) <|
  .o none (.fld 26 3 (.t 25)) <|
  .o none (.ld 27 1 false (.t 26)) <|
  .o none (.call (some 28) false (.c (.fn 138 [] [])) [(.t 23), (.t 27)]) <|
  .o none (.mv 19 (.t 28)) <|
  .o none (.ext 29 (.t 19) 0) <|
  .o none (.ext 30 (.t 19) 1) <|
  .o none (.mv 7 (.t 29)) <|
  .o none (.mv 8 (.t 30)) .nil)) <| .seq (.rg (.o none (.mv 32 (.t 0)) <|
  .o none (.idx 33 4 (.t 32) (.c (.int .i64 0))) <|
  .o none (.fld 34 0 (.t 33)) <|
  .o none (.ld 35 3 true (.t 34)) <|
  .o none (.mv 36 (.t 1)) <|
  .o none (.idx 37 4 (.t 36) (.c (.int .i64 0))) <|
  .o none (.fld 38 0 (.t 37)) <|
  .o none (.ld 39 3 true (.t 38)) <|
  .br (.o none (.call (some 40) true (.c (.fn 139 [] [])) [(.t 35), (.t 39)]) <|
  .o none (.mv 31 (.t 40)) <|
  .o none (.ext 41 (.t 31) 0) <|
  .o none (.ext 42 (.t 31) 1) <|
  .o none (.alloc 9 3 32 (.agg [(.bool false), .nilS, .nilS])) <|
  .o none (.st 3 (.t 9) (.t 41)) <|
  .o none (.mv 10 (.t 42)) .nil) (.o none (.alloc 9 3 32 (.agg [(.bool false), .nilS, .nilS])) <|
  .o none (.call (some 40) true (.c (.fn 139 [] [])) [(.t 35), (.t 39)]) <|
  .o none (.mv 31 (.t 40)) <|
  .o none (.ext 41 (.t 31) 0) <|
  .o none (.ext 42 (.t 31) 1) <|
  .o none (.st 3 (.t 9) (.t 41)) <|
  .o none (.mv 10 (.t 42)) .nil))) <| .seq (.seq (.rg (.o none (.mv 43 (.t 8)) <|
  .o none (.un 44 .not (.t 43)) <|
  .o none (.mv 45 (.t 44)) <|
  .o (some (45, false)) (.mv 46 (.t 10)) <|
  .o (some (45, false)) (.bin 47 .neq false (.t 46) (.c (.int .i64 0))) <|
  .o none (.pick 48 (.t 45) (.c (.bool true)) (.t 47)) .nil)) <| .cond (.t 48) (.seq (.rg (.o none (.mv 4 (.c .nilS)) <|
  .o none (.mv 5 (.c (.bool false))) .nil)) <| .ret) (.skip)) <| .seq (.rg (.o none (.ld 49 3 true (.t 9)) <|
  .o none (.mv 50 (.t 7)) <|
  .o none (.bld 51 [(.bool false), .nilS, .nilS, .nilS] [(0, 3, (.t 49)), (3, 1, (.t 50))]) <|
  .o none (.bs 52 4 133 [(.t 51)]) <|
  .o none (.mv 11 (.t 52)) .nil)) <| .seq (.rg (.o none (.mv 53 (.t 6)) <|
  .o none (.mv 54 (.t 11)) <|
  .o none (.app 55 4 80 133 (.t 53) (.t 54)) <|
  .o none (.mv 6 (.t 55)) .nil)) <| .seq (.rg (.o none (.mv 56 (.t 0)) <|
  .o none (.idx 57 4 (.t 56) (.c (.int .i64 0))) <|
  .o none (.fld 58 3 (.t 57)) <|
  .o none (.ld 59 1 false (.t 58)) <|
  .o none (.mv 12 (.t 59)) .nil)) <| .seq (.rg (.o none (.mv 60 (.t 0)) <|
  .o none (.mv 61 (.t 11)) <|
  .o none (.mv 62 (.t 1)) <|
  .o none (.call (some 63) false (.c (.fn 68 [] [])) [(.t 61), (.t 62)]) <|
  .o none (.call (some 64) false (.c (.fn 124 [] [])) [(.t 60), (.t 63)]) <|
  .o none (.mv 0 (.t 64)) .nil)) <| .seq (.rg (.o none (.mv 65 (.t 0)) <|
  .o none (.len 66 (.t 65)) <|
  .o none (.bin 67 .gtr false (.t 66) (.c (.int .i64 0))) <|
  .o none (.mv 68 (.t 67)) <|
  .o (some (68, true)) (.mv 69 (.t 0)) <|
  .o (some (68, true)) (.idx 70 4 (.t 69) (.c (.int .i64 0))) <|
  .o (some (68, true)) (.fld 71 3 (.t 70)) <|
  .o (some (68, true)) (.ld 72 1 false (.t 71)) <|
  .o (some (68, true)) (.mv 73 (.t 12)) <|
  .o (some (68, true)) (.call (some 74) false (.c (.fn 140 [] [])) [(.t 72), (.t 73), (.c (.int .i64 0))]) <|
  .o (some (68, true)) (.bin 75 .geq false (.t 74) (.c (.int .i64 0))) <|
  .o none (.pick 76 (.t 68) (.t 75) (.c (.bool false))) .nil)) <| .cond (.t 76) (.seq (.rg (.o none (.mv 4 (.c .nilS)) <|
  .o none (.mv 5 (.c (.bool false))) .nil)) <| .ret) (.skip))))) <| .seq (.rg (.o none (.mv 77 (.t 6)) <|
  .o none (.mv 4 (.t 77)) <|
  .o none (.mv 5 (.c (.bool true))) .nil)) <| .ret⟩
theorem Q2q : Qf Tryz.prog Tryz.f67 = some c67 := by kernel_rfl
def c69 : SFn := ⟨67, [.t 2, .cell 3 3 true], .seq (.rg (.o none (.mv 2 (.c .nilS)) <|
  .o none (.alloc 3 3 32 (.agg [(.bool false), .nilS, .nilS])) .nil)) <| .seq (.seq (.rg (.o none (.mv 14 (.t 0)) <|
  .o none (.len 15 (.t 14)) <|
  .o none (.bin 16 .eql false (.t 15) (.c (.int .i64 0))) .nil)) <| .cond (.t 16) (.seq (.rg (.o none (.call (some 17) false (.c (.fn 79 [] [])) [(.c (.int .i64 1))]) <|
  .o none (.mv 2 (.c .nilS)) <|
  .o none (.st 3 (.t 3) (.t 17)) .nil)) <| .ret) (.skip)) <| .seq (.rg (.o none (.mv 4 (.c .nilS)) .nil)) <| .seq (.rg (.o none (.call (some 18) false (.c (.fn 143 [] [])) [(.c (.int .u64 1))]) <|
  .o none (.mv 5 (.t 18)) .nil)) <| .seq (.seq (.rg (.o none (.mv 19 (.t 0)) <|
  .o none (.len 20 (.t 19)) <|
  .o none (.mv 21 (.c (.int .i64 0))) .nil)) <| .block 0 (.loop (.seq (.rg (.o none (.bin 22 .lss false (.t 21) (.t 20)) .nil)) <| .seq (.cond (.t 22) (.skip) (.exit 0)) <| .seq (.block 1 (.seq (.rg (.o none (.idx 23 4 (.t 19) (.t 21)) <|
  .o none (.ld 24 4 true (.t 23)) <|
  .o none (.alloc 7 4 133 (.agg [(.bool false), .nilS, .nilS, .nilS])) <|
  .o none (.st 4 (.t 7) (.t 24)) .nil)) <| .seq (.rg (.o none (.mv 25 (.t 4)) <|
  .o none (.fld 26 0 (.t 7)) <|
  .o none (.fld 27 0 (.t 26)) <|
  .o none (.fld 28 1 (.t 27)) <|
  .o none (.ld 29 1 false (.t 28)) <|
  .o none (.call (some 30) false (.c (.fn 144 [] [])) [(.t 25), (.t 29)]) <|
  .o none (.mv 4 (.t 30)) .nil)) <| .seq (.rg (.o none (.mv 31 (.t 5)) <|
  .o none (.fld 32 0 (.t 7)) <|
  .o none (.fld 33 2 (.t 32)) <|
  .o none (.ld 34 1 false (.t 33)) <|
  .o none (.call (some 35) false (.c (.fn 144 [] [])) [(.t 31), (.t 34)]) <|
  .o none (.mv 8 (.t 35)) .nil)) <| .seq (.rg (.o none (.fld 37 0 (.t 7)) <|
  .o none (.fld 38 2 (.t 37)) <|
  .o none (.ld 39 1 false (.t 38)) <|
  .o none (.mv 40 (.t 8)) <|
  .o none (.call (some 41) false (.c (.fn 145 [] [])) [(.t 39), (.t 40)]) <|
  .o none (.mv 36 (.t 41)) <|
  .o none (.ext 42 (.t 36) 0) <|
  .o none (.ext 43 (.t 36) 1) <|
  .o none (.ext 44 (.t 36) 2) <|
  .o none (.mv 9 (.t 42)) <|
  .o none (.mv 10 (.t 43)) <|
  .o none (.mv 11 (.t 44)) .nil)) <| .rg (.o none (.mv 45 (.t 5)) <|
  .o none (.mv 46 (.t 9)) <|
  .o none (.call (some 47) false (.c (.fn 114 [] [])) [(.t 45), (.t 46)]) <|
  .o none (.mv 5 (.t 47)) .nil))) <| .rg (.o none (.bin 48 .add false (.t 21) (.c (.int .i64 1))) <|
  .o none (.mv 21 (.t 48)) .nil)))) <| .seq (.rg (.o none (.mv 50 (.t 0)) <|
  .o none (.idx 51 4 (.t 50) (.c (.int .i64 0))) <|
  .o none (.fld 52 0 (.t 51)) <|
  .o none (.ld 53 3 true (.t 52)) <|
  .o none (.call (some 54) false (.c (.fn 36 [] [])) [(.t 53)]) <|
  .o none (.bin 55 .lss false (.t 54) (.c (.int .i64 0))) <|
  .o none (.mv 56 (.t 5)) <|
  .o none (.bld 57 [(.bool false), .nilS] [(0, 1, (.t 55)), (1, 1, (.t 56))]) <|
  .o none (.mv 58 (.t 4)) <|
  .o none (.bld 59 [(.bool false), .nilS] [(1, 1, (.t 58))]) <|
  .o none (.call (some 60) false (.c (.fn 146 [] [])) [(.t 57), (.t 59)]) <|
  .o none (.mv 49 (.t 60)) <|
  .o none (.ext 61 (.t 49) 0) <|
  .o none (.ext 62 (.t 49) 1) <|
  .o none (.alloc 12 3 32 (.agg [(.bool false), .nilS, .nilS])) <|
  .o none (.st 3 (.t 12) (.t 61)) <|
  .o none (.mv 13 (.t 62)) .nil)) <| .seq (.rg (.o none (.mv 63 (.t 0)) <|
  .o none (.ld 64 3 true (.t 12)) <|
  .o none (.ld 66 3 true (.t 12)) <|
  .o none (.call (some 65) true (.c (.fn 70 [] [])) [(.t 63), (.t 64)]) <|
  .o none (.mv 2 (.t 65)) <|
  .o none (.st 3 (.t 3) (.t 66)) .nil)) <| .ret⟩
theorem Q2r : Qf Tryz.prog Tryz.f69 = some c69 := by kernel_rfl
def c71 : SFn := ⟨19, [.cell 4 3 true], .seq (.rg (.o none (.alloc 4 3 32 (.agg [(.bool false), .nilS, .nilS])) .nil)) <| .seq (.rg (.o none (.mv 8 (.t 0)) <|
  .o none (.call (some 9) false (.c (.fn 105 [] [])) [(.t 8)]) <|
  .o none (.mv 10 (.t 1)) <|
  .o none (.call (some 11) false (.c (.fn 105 [] [])) [(.t 10)]) <|
  .o none (.call (some 12) false (.c (.fn 147 [] [])) [(.t 9), (.t 11)]) <|
  .o none (.mv 7 (.t 12)) <|
  .o none (.ext 13 (.t 7) 0) <|
  .o none (.ext 14 (.t 7) 1) <|
  .o none (.alloc 5 3 32 (.agg [(.bool false), .nilS, .nilS])) <|
  .o none (.st 3 (.t 5) (.t 13)) <|
  .o none (.mv 6 (.t 14)) .nil)) <| .seq (.seq (.rg (.o none (.mv 15 (.t 6)) <|
  .o none (.bin 16 .neq false (.t 15) (.c (.int .i64 0))) .nil)) <| .cond (.t 16) (.seq (.rg (.o none (.call (some 17) false (.c (.fn 34 [] [])) [(.c (.int .i64 0))]) <|
  .o none (.st 3 (.t 4) (.t 17)) .nil)) <| .ret) (.skip)) <| .seq (.rg (.o none (.ld 18 3 true (.t 5)) <|
  .o none (.st 3 (.t 4) (.t 18)) .nil)) <| .ret⟩
theorem Qafc : Qf Tryz.prog Tryz.f71 = some c71 := by kernel_rfl
def Q7k : SFn := ⟨19, [.t 2], .seq (.rg (.o none (.mv 2 (.c .nilS)) .nil)) <| .seq (.seq (.rg (.o none (.mv 4 (.t 0)) <|
  .o none (.bin 5 .lss false (.t 4) (.c (.int .i64 0))) <|
  .o none (.mv 6 (.t 5)) <|
  .o (some (6, false)) (.mv 7 (.t 0)) <|
  .o (some (6, false)) (.bin 8 .geq false (.t 7) (.c (.int .i64 64))) <|
  .o none (.pick 9 (.t 6) (.c (.bool true)) (.t 8)) .nil)) <| .cond (.t 9) (.seq (.rg (.o none (.mv 2 (.c .nilS)) .nil)) <| .ret) (.skip)) <| .seq (.rg (.o none (.mv 10 (.t 0)) <|
  .o none (.bin 11 .add false (.t 10) (.c (.int .i64 1))) <|
  .o none (.mk 12 1 8 3 (.int .i64 0) (.t 11) (.t 11)) <|
  .o none (.mv 3 (.t 12)) .nil)) <| .seq (.rg (.o none (.mv 13 (.t 3)) <|
  .o none (.mv 14 (.t 0)) <|
  .o none (.idx 15 1 (.t 13) (.t 14)) <|
  .o none (.st 1 (.t 15) (.c (.int .i64 1))) .nil)) <| .seq (.rg (.o none (.call (some 16) false (.c (.fn 34 [] [])) [(.c (.int .i64 1))]) <|
  .o none (.mv 17 (.t 3)) <|
  .o none (.call (some 18) false (.c (.fn 185 [] [])) [(.c .nilS), (.t 16), (.t 17)]) <|
  .o none (.mv 2 (.t 18)) .nil)) <| .ret⟩
theorem Qaca : Qf Tryz.prog Tryz.f127 = some Q7k := by kernel_rfl
def c53 : SFn := ⟨53, [.t 0], .seq (.rg (.o none (.mv 0 (.c (.bool false))) .nil)) <| .seq (.rg (.o none (.call (some 6) false (.c (.fn 122 [] [])) [(.c (.int .i64 0))]) <|
  .o none (.call (some 7) false (.c (.fn 71 [] [])) [(.c (.int .i64 (-1))), (.c (.int .i64 2))]) <|
  .o none (.call (some 8) false (.c (.fn 70 [] [])) [(.t 6), (.t 7)]) <|
  .o none (.call (some 9) false (.c (.fn 71 [] [])) [(.c (.int .i64 1)), (.c (.int .i64 3))]) <|
  .o none (.call (some 10) false (.c (.fn 123 [] [])) [(.t 9)]) <|
  .o none (.call (some 11) false (.c (.fn 75 [] [])) [(.t 8), (.t 10)]) <|
  .o none (.call (some 12) false (.c (.fn 69 [] [])) [(.t 11)]) <|
  .o none (.mv 5 (.t 12)) <|
  .o none (.ext 13 (.t 5) 0) <|
  .o none (.ext 14 (.t 5) 1) <|
  .o none (.alloc 2 3 32 (.agg [(.bool false), .nilS, .nilS])) <|
  .o none (.mv 1 (.t 13)) <|
  .o none (.st 3 (.t 2) (.t 14)) .nil)) <| .seq (.rg (.o none (.call (some 16) false (.c (.fn 122 [] [])) [(.c (.int .i64 0))]) <|
  .o none (.call (some 17) false (.c (.fn 122 [] [])) [(.c (.int .i64 0))]) <|
  .o none (.call (some 18) false (.c (.fn 68 [] [])) [(.t 16), (.t 17)]) <|
  .o none (.call (some 19) false (.c (.fn 122 [] [])) [(.c (.int .i64 1))]) <|
  .o none (.call (some 20) false (.c (.fn 122 [] [])) [(.c (.int .i64 1))]) <|
  .o none (.call (some 21) false (.c (.fn 68 [] [])) [(.t 19), (.t 20)]) <|
  .o none (.call (some 22) false (.c (.fn 124 [] [])) [(.t 18), (.t 21)]) <|
  .o none (.call (some 23) false (.c (.fn 122 [] [])) [(.c (.int .i64 0))]) <|
  .o none (.call (some 24) false (.c (.fn 122 [] [])) [(.c (.int .i64 1))]) <|
  .o none (.call (some 25) false (.c (.fn 124 [] [])) [(.t 23), (.t 24)]) <|
  .o none (.call (some 26) false (.c (.fn 67 [] [])) [(.t 22), (.t 25)]) <|
  .o none (.mv 15 (.t 26)) <|
  .o none (.ext 27 (.t 15) 0) <|
  .o none (.ext 28 (.t 15) 1) <|
  .o none (.mv 3 (.t 27)) <|
  .o none (.mv 4 (.t 28)) .nil)) <| .seq (.rg (.o none (.mv 29 (.t 1)) <|
  .br (.o none (.call (some 30) true (.c (.fn 34 [] [])) [(.c (.int .i64 3))]) <|
  .br (.o none (.bs 31 1 3 [(.c (.int .i64 1))]) <|
  .o none (.bld 32 [(.bool false), .nilS, .nilS, .nilS] [(0, 3, (.t 30)), (3, 1, (.t 31))]) <|
  .o none (.call (some 33) true (.c (.fn 34 [] [])) [(.c (.int .i64 (-2)))]) <|
  .o none (.bld 34 [(.bool false), .nilS, .nilS, .nilS] [(0, 3, (.t 33))]) <|
  .o none (.bs 35 4 133 [(.t 32), (.t 34)]) <|
  .o none (.call (some 36) true (.c (.fn 125 [] [])) [(.t 35)]) <|
  .o none (.call (some 37) true (.c (.fn 61 [] [])) [(.t 29), (.t 36)]) <|
  .o none (.mv 38 (.t 37)) <|
  .o (some (38, true)) (.ld 39 3 true (.t 2)) <|
  .o (some (38, true)) (.call (some 40) true (.c (.fn 34 [] [])) [(.c (.int .i64 (-6)))]) <|
  .o (some (38, true)) (.call (some 41) true (.c (.fn 72 [] [])) [(.t 39), (.t 40)]) <|
  .o none (.pick 42 (.t 38) (.t 41) (.c (.bool false))) <|
  .o none (.mv 43 (.t 42)) <|
  .o (some (43, true)) (.mv 44 (.t 4)) <|
  .o none (.pick 45 (.t 43) (.t 44) (.c (.bool false))) <|
  .o none (.mv 46 (.t 45)) <|
  .o (some (46, true)) (.mv 47 (.t 3)) <|
  .o (some (46, true)) (.call (some 48) true (.c (.fn 127 [] [])) [(.c (.int .i64 0))]) <|
  .o (some (46, true)) (.call (some 49) true (.c (.fn 127 [] [])) [(.c (.int .i64 1))]) <|
  .o (some (46, true)) (.call (some 50) true (.c (.fn 126 [] [])) [(.t 48), (.t 49)]) <|
  .o (some (46, true)) (.call (some 51) true (.c (.fn 61 [] [])) [(.t 47), (.t 50)]) <|
  .o none (.pick 52 (.t 46) (.t 51) (.c (.bool false))) <|
  .o none (.mv 0 (.t 52)) .nil) (.o none (.call (some 33) true (.c (.fn 34 [] [])) [(.c (.int .i64 (-2)))]) <|
  .o none (.bld 34 [(.bool false), .nilS, .nilS, .nilS] [(0, 3, (.t 33))]) <|
  .o none (.bs 31 1 3 [(.c (.int .i64 1))]) <|
  .o none (.bld 32 [(.bool false), .nilS, .nilS, .nilS] [(0, 3, (.t 30)), (3, 1, (.t 31))]) <|
  .o none (.bs 35 4 133 [(.t 32), (.t 34)]) <|
  .o none (.call (some 36) true (.c (.fn 125 [] [])) [(.t 35)]) <|
  .o none (.call (some 37) true (.c (.fn 61 [] [])) [(.t 29), (.t 36)]) <|
  .o none (.mv 38 (.t 37)) <|
  .o (some (38, true)) (.ld 39 3 true (.t 2)) <|
  .o (some (38, true)) (.call (some 40) true (.c (.fn 34 [] [])) [(.c (.int .i64 (-6)))]) <|
  .o (some (38, true)) (.call (some 41) true (.c (.fn 72 [] [])) [(.t 39), (.t 40)]) <|
  .o none (.pick 42 (.t 38) (.t 41) (.c (.bool false))) <|
  .o none (.mv 43 (.t 42)) <|
  .o (some (43, true)) (.mv 44 (.t 4)) <|
  .o none (.pick 45 (.t 43) (.t 44) (.c (.bool false))) <|
  .o none (.mv 46 (.t 45)) <|
  .o (some (46, true)) (.mv 47 (.t 3)) <|
  .o (some (46, true)) (.call (some 48) true (.c (.fn 127 [] [])) [(.c (.int .i64 0))]) <|
  .o (some (46, true)) (.call (some 49) true (.c (.fn 127 [] [])) [(.c (.int .i64 1))]) <|
  .o (some (46, true)) (.call (some 50) true (.c (.fn 126 [] [])) [(.t 48), (.t 49)]) <|
  .o (some (46, true)) (.call (some 51) true (.c (.fn 61 [] [])) [(.t 47), (.t 50)]) <|
  .o none (.pick 52 (.t 46) (.t 51) (.c (.bool false))) <|
  .o none (.mv 0 (.t 52)) .nil)) (.o none (.bs 31 1 3 [(.c (.int .i64 1))]) <|
  .o none (.call (some 30) true (.c (.fn 34 [] [])) [(.c (.int .i64 3))]) <|
  .o none (.bld 32 [(.bool false), .nilS, .nilS, .nilS] [(0, 3, (.t 30)), (3, 1, (.t 31))]) <|
  .o none (.call (some 33) true (.c (.fn 34 [] [])) [(.c (.int .i64 (-2)))]) <|
  .o none (.bld 34 [(.bool false), .nilS, .nilS, .nilS] [(0, 3, (.t 33))]) <|
  .o none (.bs 35 4 133 [(.t 32), (.t 34)]) <|
  .o none (.call (some 36) true (.c (.fn 125 [] [])) [(.t 35)]) <|
  .o none (.call (some 37) true (.c (.fn 61 [] [])) [(.t 29), (.t 36)]) <|
  .o none (.mv 38 (.t 37)) <|
  .o (some (38, true)) (.ld 39 3 true (.t 2)) <|
  .o (some (38, true)) (.call (some 40) true (.c (.fn 34 [] [])) [(.c (.int .i64 (-6)))]) <|
  .o (some (38, true)) (.call (some 41) true (.c (.fn 72 [] [])) [(.t 39), (.t 40)]) <|
  .o none (.pick 42 (.t 38) (.t 41) (.c (.bool false))) <|
  .o none (.mv 43 (.t 42)) <|
  .o (some (43, true)) (.mv 44 (.t 4)) <|
  .o none (.pick 45 (.t 43) (.t 44) (.c (.bool false))) <|
  .o none (.mv 46 (.t 45)) <|
  .o (some (46, true)) (.mv 47 (.t 3)) <|
  .o (some (46, true)) (.call (some 48) true (.c (.fn 127 [] [])) [(.c (.int .i64 0))]) <|
  .o (some (46, true)) (.call (some 49) true (.c (.fn 127 [] [])) [(.c (.int .i64 1))]) <|
  .o (some (46, true)) (.call (some 50) true (.c (.fn 126 [] [])) [(.t 48), (.t 49)]) <|
  .o (some (46, true)) (.call (some 51) true (.c (.fn 61 [] [])) [(.t 47), (.t 50)]) <|
  .o none (.pick 52 (.t 46) (.t 51) (.c (.bool false))) <|
  .o none (.mv 0 (.t 52)) .nil))) <| .ret⟩
theorem Qafd : Qf Tryz.prog Tryz.f53 = some c53 := by kernel_rfl
def c64 : SFn := ⟨16, [.t 2], .seq (.rg (.o none (.mv 2 (.c (.bool false))) .nil)) <| .seq (.seq (.rg (.o none (.mv 3 (.c (.int .i64 0))) .nil)) <| .block 0 (.loop (.seq (.seq (.rg (.o none (.mv 4 (.t 3)) <|
  .o none (.mv 5 (.t 0)) <|
  .o none (.len 6 (.t 5)) <|
  .o none (.bin 7 .lss false (.t 4) (.t 6)) .nil)) <| .cond (.t 7) (.skip) (.exit 0)) <| .seq (.block 1 (.seq (.rg (.o none (.mv 10 (.t 0)) <|
  .o none (.mv 11 (.t 3)) <|
  .o none (.idx 12 1 (.t 10) (.t 11)) <|
  .o none (.ld 13 1 false (.t 12)) <|
  .o none (.call (some 14) false (.c (.fn 52 [] [])) [(.t 13), (.c (.int .i64 5)), (.c (.int .i64 4)), (.c (.int .i64 4))]) <|
  .o none (.un 15 .not (.t 14)) .nil)) <| .cond (.t 15) (.seq (.rg (.o none (.mv 2 (.c (.bool false))) .nil)) <| .ret) (.skip))) <| .rg (.o none (.mv 8 (.t 3)) <|
  .o none (.bin 9 .add false (.t 8) (.c (.int .i64 1))) <|
  .o none (.mv 3 (.t 9)) .nil)))) <| .seq (.rg (.o none (.mv 2 (.c (.bool true))) .nil)) <| .ret⟩
theorem Qafe : Qf Tryz.prog Tryz.f64 = some c64 := by kernel_rfl
def c12 : SFn := ⟨99, [.t 6], .seq (.rg (.o none (.mv 6 (.c (.bool false))) .nil)) <| .seq (.seq (.rg (.o none (.mv 15 (.t 0)) <|
  .o none (.mv 16 (.t 1)) <|
  .o none (.bs 17 1 65 [(.t 15), (.t 16)]) <|
  .o none (.call (some 18) false (.c (.fn 64 [] [])) [(.t 17)]) <|
  .o none (.un 19 .not (.t 18)) <|
  .o none (.mv 20 (.t 19)) <|
  .o (some (20, false)) (.mv 21 (.t 2)) <|
  .o (some (20, false)) (.bin 22 .lss false (.t 21) (.c (.int .i64 0))) <|
  .o none (.pick 23 (.t 20) (.c (.bool true)) (.t 22)) <|
  .o none (.mv 24 (.t 23)) <|
  .o (some (24, false)) (.mv 25 (.t 2)) <|
  .o (some (24, false)) (.bin 26 .geq false (.t 25) (.c (.int .i64 64))) <|
  .o none (.pick 27 (.t 24) (.c (.bool true)) (.t 26)) .nil)) <| .cond (.t 27) (.seq (.rg (.o none (.call (some 28) false (.c (.fn 53 [] [])) []) <|
  .o none (.mv 6 (.t 28)) .nil)) <| .ret) (.skip)) <| .seq (.seq (.rg (.o none (.mv 29 (.t 0)) <|
  .o none (.mv 30 (.t 2)) <|
  .o none (.call (some 31) false (.c (.fn 59 [] [])) [(.t 29), (.t 30)]) <|
  .o none (.mv 32 (.t 2)) <|
  .o none (.call (some 33) false (.c (.fn 66 [] [])) [(.t 31), (.t 32)]) <|
  .o none (.mv 34 (.t 0)) <|
  .o none (.call (some 35) false (.c (.fn 65 [] [])) [(.t 33), (.t 34)]) <|
  .o none (.un 36 .not (.t 35)) .nil)) <| .cond (.t 36) (.seq (.rg (.o none (.mv 6 (.c (.bool false))) .nil)) <| .ret) (.skip)) <| .seq (.rg (.o none (.mv 38 (.t 0)) <|
  .o none (.mv 39 (.t 1)) <|
  .o none (.call (some 40) false (.c (.fn 68 [] [])) [(.t 38), (.t 39)]) <|
  .o none (.mv 41 (.t 1)) <|
  .o none (.call (some 42) false (.c (.fn 67 [] [])) [(.t 40), (.t 41)]) <|
  .o none (.mv 37 (.t 42)) <|
  .o none (.ext 43 (.t 37) 0) <|
  .o none (.ext 44 (.t 37) 1) <|
  .o none (.mv 7 (.t 43)) <|
  .o none (.mv 8 (.t 44)) .nil)) <| .seq (.seq (.rg (.o none (.mv 45 (.t 8)) <|
  .o none (.mv 46 (.t 1)) <|
  .o none (.len 47 (.t 46)) <|
  .o none (.bin 48 .gtr false (.t 47) (.c (.int .i64 0))) <|
  .o none (.bin 49 .neq true (.t 45) (.t 48)) <|
  .o none (.mv 50 (.t 49)) <|
  .o (some (50, false)) (.mv 51 (.t 8)) <|
  .o (some (50, false)) (.mv 52 (.t 51)) <|
  .o (some (52, true)) (.mv 53 (.t 7)) <|
  .o (some (52, true)) (.mv 54 (.t 0)) <|
  .o (some (52, true)) (.call (some 55) false (.c (.fn 65 [] [])) [(.t 53), (.t 54)]) <|
  .o (some (52, true)) (.un 56 .not (.t 55)) <|
  .o (some (50, false)) (.pick 57 (.t 52) (.t 56) (.c (.bool false))) <|
  .o none (.pick 58 (.t 50) (.c (.bool true)) (.t 57)) .nil)) <| .cond (.t 58) (.seq (.rg (.o none (.mv 6 (.c (.bool false))) .nil)) <| .ret) (.skip)) <| .seq (.rg (.o none (.mv 60 (.t 0)) <|
  .o none (.call (some 61) false (.c (.fn 69 [] [])) [(.t 60)]) <|
  .o none (.mv 59 (.t 61)) <|
  .o none (.ext 62 (.t 59) 0) <|
  .o none (.ext 63 (.t 59) 1) <|
  .o none (.alloc 10 3 32 (.agg [(.bool false), .nilS, .nilS])) <|
  .o none (.mv 9 (.t 62)) <|
  .o none (.st 3 (.t 10) (.t 63)) .nil)) <| .seq (.rg (.o none (.mv 65 (.t 9)) <|
  .o none (.call (some 66) false (.c (.fn 69 [] [])) [(.t 65)]) <|
  .o none (.mv 64 (.t 66)) <|
  .o none (.ext 67 (.t 64) 0) <|
  .o none (.ext 68 (.t 64) 1) <|
  .o none (.alloc 12 3 32 (.agg [(.bool false), .nilS, .nilS])) <|
  .o none (.mv 11 (.t 67)) <|
  .o none (.st 3 (.t 12) (.t 68)) .nil)) <| .seq (.rg (.o none (.mv 70 (.t 0)) <|
  .o none (.call (some 71) false (.c (.fn 71 [] [])) [(.c (.int .i64 (-2))), (.c (.int .i64 3))]) <|
  .o none (.call (some 72) false (.c (.fn 70 [] [])) [(.t 70), (.t 71)]) <|
  .o none (.call (some 73) false (.c (.fn 69 [] [])) [(.t 72)]) <|
  .o none (.mv 69 (.t 73)) <|
  .o none (.ext 74 (.t 69) 0) <|
  .o none (.ext 75 (.t 69) 1) <|
  .o none (.alloc 14 3 32 (.agg [(.bool false), .nilS, .nilS])) <|
  .o none (.mv 13 (.t 74)) <|
  .o none (.st 3 (.t 14) (.t 75)) .nil)) <| .seq (.rg (.o none (.mv 76 (.t 0)) <|
  .o none (.ld 77 3 true (.t 10)) <|
  .o none (.mv 79 (.t 9)) <|
  .o none (.call (some 78) true (.c (.fn 70 [] [])) [(.t 76), (.t 77)]) <|
  .o none (.call (some 80) true (.c (.fn 65 [] [])) [(.t 78), (.t 79)]) <|
  .o none (.mv 81 (.t 80)) <|
  .o (some (81, true)) (.mv 82 (.t 9)) <|
  .o (some (81, true)) (.mv 83 (.t 11)) <|
  .o (some (81, true)) (.call (some 84) true (.c (.fn 65 [] [])) [(.t 82), (.t 83)]) <|
  .o none (.pick 85 (.t 81) (.t 84) (.c (.bool false))) <|
  .o none (.mv 86 (.t 85)) <|
  .o (some (86, true)) (.mv 87 (.t 9)) <|
  .o (some (86, true)) (.mv 88 (.t 13)) <|
  .o (some (86, true)) (.call (some 89) true (.c (.fn 65 [] [])) [(.t 87), (.t 88)]) <|
  .o none (.pick 90 (.t 86) (.t 89) (.c (.bool false))) <|
  .o none (.mv 91 (.t 90)) <|
  .o (some (91, true)) (.ld 92 3 true (.t 12)) <|
  .o (some (91, true)) (.call (some 93) true (.c (.fn 34 [] [])) [(.c (.int .i64 1))]) <|
  .o (some (91, true)) (.call (some 94) true (.c (.fn 72 [] [])) [(.t 92), (.t 93)]) <|
  .o none (.pick 95 (.t 91) (.t 94) (.c (.bool false))) <|
  .o none (.mv 96 (.t 95)) <|
  .o (some (96, true)) (.call (some 97) true (.c (.fn 53 [] [])) []) <|
  .o none (.pick 98 (.t 96) (.t 97) (.c (.bool false))) <|
  .o none (.mv 6 (.t 98)) .nil)) <| .ret⟩
theorem Qaff : Qf Tryz.prog Tryz.f12 = some c12 := by kernel_rfl
end Go.Proofs.YtmnkngmmfnncoaaGreat
namespace Go.FW
open Go
def Qiz (a m : List Int) : Bool := (List.range a.length).all fun i => decide (eN a i = eN m i)
theorem Qhl {a m : List Int} : Qiz a m = true ↔ ∀ i, i < a.length → eN a i = eN m i := by
  simp [Qiz, List.all_eq_true]
theorem Qv5 (a : List Int) : Qiz a (if Qb3 (Qcl a) then Qcl a else []) = Qb3 (Qcl a) := by
  cases h : Qb3 (Qcl a)
  · rw [if_neg (by simp)]
    cases hz : Qiz a [] with
    | false => rfl
    | true =>
      rw [Qhl] at hz
      have e : Qcl a = [] := Qea (Qgo a) (by simp) fun i => by
        rw [Qg6, Qvk]
        by_cases hi : i < a.length
        · rw [hz i hi, Qvk]
        · exact Qb6 (by omega)
      rw [e] at h
      exact absurd h (by decide)
  · rw [if_pos rfl, Qhl]
    intro i _; rw [Qg6]
theorem Qq9 : ∀ (ts : List Tm), (∀ t ∈ ts, t.2.getLast? ≠ some 0) → ∀ out, Nrm out → Nrm (ts.foldl (fun out t => Qdp out t.1 t.2) out) ∧ ∀ φ, pev φ (ts.foldl (fun out t => Qdp out t.1 t.2) out) = pev φ out + pev φ ts
  | [], _, out, ho => ⟨ho, fun φ => by rw [List.foldl_nil, Qcp]; grind⟩
  | t :: ts, h, out, ho => by
    have hl := h t (by simp)
    obtain ⟨h1, h2⟩ := Qq9 ts (fun x hx => h x (by simp [hx])) (Qdp out t.1 t.2) (Q2n ho hl)
    refine ⟨h1, fun φ => ?_⟩
    rw [List.foldl_cons, h2, Q2o ho.c hl, Qag]; grind
end Go.FW
namespace Go.FW
open Go
end Go.FW
namespace Go.FW
open Go
def Q7l (a : Rat) : Nat → Rat
  | 0 => 1
  | n + 1 => Q7l a n * a
def mevN (vs : List Rat) (m : List Int) : Nat → Rat
  | 0 => 1
  | n + 1 => mevN vs m n * Q7l (vs.getD n 0) (eN m n).toNat
def mev (vs : List Rat) (m : List Int) : Rat := mevN vs m m.length
end Go.FW
namespace Go.FW
open Go
end Go.FW
namespace Go.FW
open Go
section
variable {C : Ctx} {fr : Fr} {hp : HP} {w : World} {K R : Qh}
end
def Qb0 (m : List Int) (v : Nat) : List Int := Qcl (m.set v 0)
theorem Qafh (m : List Int) (v i : Nat) : eN (m.set v 0) i = if i = v then 0 else eN m i := by
  by_cases hi : i < m.length
  · rw [Qcx (by simpa using hi), List.getElem_set]
    by_cases h : i = v
    · rw [if_pos h, if_pos h.symm]
    · rw [if_neg h, if_neg (fun h' => h h'.symm), Qcx hi]
  · rw [Qb6 (by simpa using hi), Qb6 (by omega)]; split <;> rfl
theorem Qha (m : List Int) (v i : Nat) : eN (Qb0 m v) i = if i = v then 0 else eN m i := by rw [Qb0, Qg6, Qafh]
theorem Qmj (m : List Int) (v : Nat) : (Qb0 m v).getLast? ≠ some 0 := Qgo _
theorem Q7m {E : Nat} {m : List Int} (h : MB E m) (v : Nat) : MB E (Qb0 m v) := by
  have hl : (Qb0 m v).length ≤ 64 := by
    have := Qdk (m.set v 0)
    have := h.len
    rw [List.length_set] at *
    unfold Qb0; omega
  refine ⟨hl, fun x hx => ?_, fun x hx => ?_⟩
  all_goals
    obtain ⟨i, hi, rfl⟩ := List.getElem_of_mem hx
    rw [← Qcx hi, Qha]
    have := h.eN i
    split <;> omega
theorem Q2s {a b : List Int} {v : Nat} (h : eN a v = eN b v) : Qab (Qb0 a v) (Qb0 b v) = Qab a b := by
  have key : ∀ n, Qbs (Qb0 a v) (Qb0 b v) n = Qbs a b n := by
    intro n
    induction n with
    | zero => rfl
    | succ n ih =>
      rw [Qbs, Qbs, ih, Qha, Qha]
      by_cases hn : n = v
      · subst hn; rw [if_pos rfl, if_pos rfl, if_pos rfl, if_pos h]
      · rw [if_neg hn, if_neg hn]
  have e1 : (Qb0 a v).length ≤ a.length := by have := Qdk (a.set v 0); rwa [List.length_set] at this
  have e2 : (Qb0 b v).length ≤ b.length := by have := Qdk (b.set v 0); rwa [List.length_set] at this
  rw [← Qf5 (m := max a.length b.length) (by omega), key, Qf5 (by omega)]
def Qa4 (p : List Tm) (v : Nat) (n : Int) : List Tm := p.filterMap fun t => if eN t.2 v = n then some (t.1, Qb0 t.2 v) else none
theorem Qz0 {p : List Tm} {v i : Nat} {n : Int} (h : i < p.length) : Qa4 (p.take (i + 1)) v n = Qa4 (p.take i) v n ++ (if eN p[i].2 v = n then [(p[i].1, Qb0 p[i].2 v)] else []) := by
  rw [List.take_succ_eq_append_getElem h, Qa4, List.filterMap_append]
  congr 1
  rw [List.filterMap_cons]
  by_cases h : eN p[i].2 v = n <;> simp [h]
theorem Qnn (p : List Tm) (v : Nat) (n : Int) : (Qa4 p v n).length ≤ p.length := List.length_filterMap_le _ _
theorem Qh6 {p : List Tm} {v : Nat} {n : Int} {t : Tm} (h : t ∈ Qa4 p v n) : ∃ s ∈ p, eN s.2 v = n ∧ t = (s.1, Qb0 s.2 v) := by
  simp only [Qa4, List.mem_filterMap] at h
  obtain ⟨s, h1, h2⟩ := h
  split at h2
  · rename_i h3; cases h2; exact ⟨s, h1, h3, rfl⟩
  · cases h2
theorem Q7n {K E : Nat} {p : List Tm} (hp : PB K E p) (v : Nat) (n : Int) : PB K E (Qa4 p v n) := fun t ht => by
  obtain ⟨s, h1, _, rfl⟩ := Qh6 ht
  have := hp s h1
  exact ⟨this.c, Q7m this.m v, Qmj _ _⟩
theorem Qno (v : Nat) (n : Int) : ∀ {p : List Tm}, Qbb p → Qbb (Qa4 p v n)
  | [], _ => trivial
  | s :: p, h => by
    have ih := Qno v n h.2
    by_cases hs : eN s.2 v = n
    · have e : Qa4 (s :: p) v n = (s.1, Qb0 s.2 v) :: Qa4 p v n := by rw [Qa4, List.filterMap_cons, if_pos hs]; rfl
      rw [e]
      refine ⟨fun t ht => ?_, ih⟩
      obtain ⟨u, h1, h2, rfl⟩ := Qh6 ht
      show 0 < Qab (Qb0 s.2 v) (Qb0 u.2 v)
      rw [Q2s (by rw [hs, h2])]
      exact h.1 u h1
    · have e : Qa4 (s :: p) v n = Qa4 p v n := by rw [Qa4, List.filterMap_cons, if_neg hs]; rfl
      rw [e]; exact ih
theorem Qnp {p : List Tm} (hp : Nrm p) (v : Nat) (n : Int) : Nrm (Qa4 p v n) := ⟨fun t ht => by
  obtain ⟨s, _, _, rfl⟩ := Qh6 ht
  exact Qmj _ _, fun t ht => by
  obtain ⟨s, h1, _, rfl⟩ := Qh6 ht
  exact hp.z s h1, Qno v n hp.s⟩
end Go.FW
namespace Go.FW
open Go
def hor (p : List Tm) (v : Nat) (q : List Tm) (top : Nat) : Nat → List Tm
  | 0 => Qa4 p v top
  | k + 1 => Q4 (Qaz (hor p v q top k) q) (Qa4 p v ((top : Int) - (k + 1)))
def Qld (x l : List Tm) : List Tm := l.foldl (fun out t => Qdp out t.1 t.2) x
theorem Q2t {x l : List Tm} (hx : Nrm x) (hl : Nrm l) : Qld x l = Q4 x l := by
  obtain ⟨h1, h2⟩ := Qq9 l hl.c x hx
  refine Qlc h1 (Qjl hx hl) fun φ => ?_
  rw [Qld, h2, Qjk hx.c hl.c]
theorem Qxh (x l : List Tm) (t : Tm) : Qld x (l ++ [t]) = Qdp (Qld x l) t.1 t.2 := by rw [Qld, List.foldl_append]; rfl
theorem Qv6 (v : Nat) : ∀ (p : List Tm) (d : Int), d ≤ p.foldl (fun d t => max d (eN t.2 v)) d ∧ (∀ t ∈ p, eN t.2 v ≤ p.foldl (fun d t => max d (eN t.2 v)) d) ∧ (p.foldl (fun d t => max d (eN t.2 v)) d = d ∨ ∃ t ∈ p, p.foldl (fun d t => max d (eN t.2 v)) d = eN t.2 v)
  | [], d => ⟨Int.le_refl _, by simp, .inl rfl⟩
  | s :: p, d => by
    obtain ⟨h1, h2, h3⟩ := Qv6 v p (max d (eN s.2 v))
    rw [List.foldl_cons]
    refine ⟨by omega, fun t ht => ?_, ?_⟩
    · rcases List.mem_cons.1 ht with rfl | ht
      · omega
      · exact h2 t ht
    · rcases h3 with h3 | ⟨t, ht, h3⟩
      · rw [h3]
        by_cases h : d ≤ eN s.2 v
        · right; exact ⟨s, by simp, by omega⟩
        · left; omega
      · right; exact ⟨t, by simp [ht], h3⟩
end Go.FW
namespace Go.FW
open Go
def Qce (vs : List Rat) (v : Nat) (b : Rat) (n : Int) : List Tm → Rat
  | [] => 0
  | t :: p => (if n ≤ eN t.2 v then t.1 * mev vs (Qb0 t.2 v) * Q7l b (eN t.2 v - n).toNat else 0) + Qce vs v b n p
theorem Q7o (a b : List Int) : (Qam a b).length ≤ max a.length b.length := by
  have := Qdk (Qfu (· + ·) a b)
  rwa [Qcf] at this
theorem Qra {p : List Tm} {t x : Tm} (h : x ∈ Qak p t) : ∃ s ∈ p, x.2 = Qam s.2 t.2 := by
  simp only [Qak, List.mem_filterMap] at h
  obtain ⟨y, hy, h⟩ := h
  split at h
  · cases h
  · cases h; exact ⟨y, hy, rfl⟩
theorem Q7p : ∀ (n : Nat) (l : List (List Tm)), l.length ≤ n → ∀ {t : Tm}, t ∈ Qca l → ∃ p ∈ l, ∃ s ∈ p, s.2 = t.2 := by
  intro n
  induction n with
  | zero =>
    intro l hl t ht
    have : l = [] := List.length_eq_zero_iff.1 (by omega)
    subst this
    rw [Qca] at ht; cases ht
  | succ n ih =>
    intro l hl t ht
    match l, ht with
    | [], ht => rw [Qca] at ht; cases ht
    | [p], ht => rw [Qca] at ht; exact ⟨p, by simp, t, ht, rfl⟩
    | p :: q :: r, ht =>
      rw [Qhz (by simp)] at ht
      generalize hL : p :: q :: r = L at *
      have hlen : 2 ≤ L.length := by rw [← hL]; simp
      rcases Qg9 ht with ⟨s, h1, h2⟩ | ⟨s, h1, h2⟩
      · obtain ⟨p', hp', s', hs', e⟩ := ih _ (by rw [List.length_take]; omega) h1
        exact ⟨p', List.mem_of_mem_take hp', s', hs', e.trans h2⟩
      · obtain ⟨p', hp', s', hs', e⟩ := ih _ (by rw [List.length_drop]; omega) h1
        exact ⟨p', List.mem_of_mem_drop hp', s', hs', e.trans h2⟩
theorem Qpz {p q : List Tm} {t : Tm} (h : t ∈ Qaz p q) : ∃ a ∈ p, ∃ b ∈ q, t.2 = Qam a.2 b.2 := by
  have main : ∀ {p q : List Tm}, t ∈ Qhj p q → ∃ a ∈ p, ∃ b ∈ q, t.2 = Qam a.2 b.2 := fun {p q} h => by
    obtain ⟨x, hx, s, hs, e⟩ := Q7p _ _ (Nat.le_refl _) h
    obtain ⟨a, ha, rfl⟩ := List.mem_map.1 hx
    obtain ⟨b, hb, e2⟩ := Qra hs
    exact ⟨a, ha, b, hb, by rw [← e, e2, Qde]⟩
  unfold Qaz at h
  split at h
  · obtain ⟨a, ha, b, hb, e⟩ := main h
    exact ⟨b, hb, a, ha, by rw [e, Qde]⟩
  · exact main h
end Go.FW
namespace Go.FW
open Go
def Qkr (a : List Int) : Nat → Int
  | 0 => 0
  | n + 1 => Qkr a n + eN a n
theorem Qtg (a : List Int) : ∀ n, n ≤ a.length → Qkr a n = (a.take n).sum
  | 0, _ => by simp [Qkr]
  | n + 1, h => by
    rw [Qkr, Qtg a n (by omega), List.take_succ_eq_append_getElem (by omega), List.sum_append, Qcx (by omega)]; simp
theorem Qacb (a : List Int) (k : Nat) : Qkr a (a.length + k) = Qcm a := by
  induction k with
  | zero => rw [Nat.add_zero, Qtg a _ (Nat.le_refl _), List.take_length]; rfl
  | succ k ih => rw [← Nat.add_assoc, Qkr, ih, Qb6 (by omega)]; omega
theorem Qse {a : List Int} {n : Nat} (h : a.length ≤ n) : Qkr a n = Qcm a := by
  obtain ⟨k, rfl⟩ : ∃ k, n = a.length + k := ⟨n - a.length, by omega⟩
  exact Qacb a k
theorem Qv7 (a b : List Int) : Qcm (Qam a b) = Qcm a + Qcm b := by
  rw [← Qse (Q7o a b), ← Qse (a := a) (n := max a.length b.length) (by omega), ← Qse (a := b) (n := max a.length b.length) (by omega)]
  generalize max a.length b.length = n
  induction n with
  | zero => rfl
  | succ n ih => rw [Qkr, Qkr, Qkr, ih, Qdh]; omega
theorem Qv8 (o : Int) (a b : List Int) : Qay o b a = - Qay o a b := by
  unfold Qay
  by_cases h : o = 1 ∧ Qcm a ≠ Qcm b
  · rw [if_pos h, if_pos ⟨h.1, fun e => h.2 e.symm⟩, Qvl]
  · rw [if_neg h, if_neg (fun h' => h ⟨h'.1, fun e => h'.2 e.symm⟩), Qfi]
theorem Qsf (o : Int) {a b : List Int} : 0 < Qay o a b ↔ (o = 1 ∧ Qcm b < Qcm a) ∨ ((o = 1 → Qcm a = Qcm b) ∧ 0 < Qab a b) := by
  unfold Qay
  by_cases h : o = 1 ∧ Qcm a ≠ Qcm b
  · rw [if_pos h, Q9y]
    constructor
    · intro h'; exact .inl ⟨h.1, h'⟩
    · rintro (h' | h')
      · exact h'.2
      · exact absurd (h'.1 h.1) h.2
  · rw [if_neg h]
    constructor
    · intro h'
      refine .inr ⟨fun ho => ?_, h'⟩
      apply Decidable.byContradiction; intro hn; exact h ⟨ho, hn⟩
    · rintro (h' | h')
      · exact absurd ⟨h'.1, by omega⟩ h
      · exact h'.2
theorem Qir {o : Int} {a b c : List Int} (h1 : 0 < Qay o a b) (h2 : 0 < Qay o b c) : 0 < Qay o a c := by
  rw [Qsf] at *
  by_cases ho : o = 1
  · rcases h1 with h1 | h1 <;> rcases h2 with h2 | h2
    · exact .inl ⟨ho, by omega⟩
    · have := h2.1 ho; exact .inl ⟨ho, by omega⟩
    · have := h1.1 ho; exact .inl ⟨ho, by omega⟩
    · have := h1.1 ho; have := h2.1 ho; exact .inr ⟨fun _ => by omega, Qcq h1.2 h2.2⟩
  · rcases h1 with h1 | h1
    · exact absurd h1.1 ho
    · rcases h2 with h2 | h2
      · exact absurd h2.1 ho
      · exact .inr ⟨fun h => absurd h ho, Qcq h1.2 h2.2⟩
theorem Qv9 (o : Int) (a b c : List Int) : 0 < Qay o (Qam a c) (Qam b c) ↔ 0 < Qay o a b := by
  rw [Qsf, Qsf, Ql2, Qv7, Qv7]
  constructor
  · rintro (h | h)
    · exact .inl ⟨h.1, by omega⟩
    · exact .inr ⟨fun ho => by have := h.1 ho; omega, h.2⟩
  · rintro (h | h)
    · exact .inl ⟨h.1, by omega⟩
    · exact .inr ⟨fun ho => by have := h.1 ho; omega, h.2⟩
theorem Qwa (o : Int) {a b : List Int} (ha : a.getLast? ≠ some 0) (hb : b.getLast? ≠ some 0) (h : a ≠ b) : 0 < Qay o a b ∨ 0 < Qay o b a := by
  have e := Qv8 o a b
  by_cases h1 : 0 < Qay o a b
  · exact .inl h1
  · by_cases h2 : 0 < Qay o b a
    · exact .inr h2
    · exfalso
      have h0 : Qay o a b = 0 := by omega
      unfold Qay at h0
      split at h0
      · rename_i h3; rw [Qx7] at h0; exact h3.2 h0
      · exact h ((Qoj ha hb).1 h0)
theorem Qka (o : Int) (a : List Int) : ¬ 0 < Qay o a a := by
  have := Qv8 o a a; omega
theorem Qth {o : Int} : ∀ {p : List Tm} {t : Tm}, Can p → t.2.getLast? ≠ some 0 → (∀ x ∈ p, ¬ 0 < Qay o x.2 (Qgq o t p).2) ∧ ¬ 0 < Qay o t.2 (Qgq o t p).2
  | [], t, _, _ => ⟨by simp, Qka o _⟩
  | s :: p, t, hc, ht => by
    have hs := (Can.cons.1 hc).1
    have e : Qgq o t (s :: p) = Qgq o (if 0 < Qay o s.2 t.2 then s else t) p := rfl
    obtain ⟨h1, h2⟩ := Qth (o := o) (p := p) (t := if 0 < Qay o s.2 t.2 then s else t) (Can.cons.1 hc).2 (by split; exact hs; exact ht)
    rw [e]
    generalize hL : Qgq o (if 0 < Qay o s.2 t.2 then s else t) p = L at *
    by_cases h : 0 < Qay o s.2 t.2
    · rw [if_pos h] at h2
      refine ⟨fun x hx => ?_, fun h3 => h2 (Qir h h3)⟩
      rcases List.mem_cons.1 hx with rfl | hx
      · exact h2
      · exact h1 x hx
    · rw [if_neg h] at h2
      refine ⟨fun x hx h3 => ?_, h2⟩
      rcases List.mem_cons.1 hx with rfl | hx
      · by_cases hxt : x.2 = t.2
        · rw [hxt] at h3; exact h2 h3
        · rcases Qwa o hs ht hxt with h4 | h4
          · exact h h4
          · exact h2 (Qir h4 h3)
      · exact h1 x hx h3
theorem Qrb (o : Int) : ∀ (p : List Tm) (t : Tm), Qgq o t p = t ∨ Qgq o t p ∈ p
  | [], t => Or.inl rfl
  | s :: p, t => by
    have h := Qrb o p (if 0 < Qay o s.2 t.2 then s else t)
    have e : Qgq o t (s :: p) = Qgq o (if 0 < Qay o s.2 t.2 then s else t) p := rfl
    rw [e]
    rcases h with h | h
    · rw [h]; split
      · right; simp
      · left; rfl
    · right; simp [h]
theorem Qmk {l : List Tm} (hs : Qbb l) {a b : Tm} (ha : a ∈ l) (hb : b ∈ l) (e : a.2 = b.2) : a = b := by
  induction l with
  | nil => cases ha
  | cons c l ih =>
    rcases List.mem_cons.1 ha with h1 | h1 <;> rcases List.mem_cons.1 hb with h2 | h2
    · rw [h1, h2]
    · subst h1; exact absurd e.symm (Qj9 (hs.1 b h2))
    · subst h2; exact absurd e (Qj9 (hs.1 a h1))
    · exact ih hs.2 h1 h2
def plt (o : Int) (p : List Tm) : Tm := Qgq o (p.headD (0, [])) p
theorem Qml {o : Int} {p : List Tm} (hp : Nrm p) (h0 : p ≠ []) : plt o p ∈ p ∧ ∀ x ∈ p, x ≠ plt o p → 0 < Qay o (plt o p).2 x.2 := by
  obtain ⟨t, p', rfl⟩ := List.exists_cons_of_ne_nil h0
  have hm : plt o (t :: p') ∈ t :: p' := by
    rcases Qrb o (t :: p') t with h | h
    · show Qgq o t (t :: p') ∈ _; rw [h]; simp
    · exact h
  refine ⟨hm, fun x hx hne => ?_⟩
  obtain ⟨h1, _⟩ := Qth (o := o) (p := t :: p') (t := t) hp.c (hp.c t (by simp))
  have h2 := h1 x hx
  have hd : x.2 ≠ (plt o (t :: p')).2 := fun e => hne (by
    exact Qmk hp.s hx hm e)
  rcases Qwa o (hp.c x hx) (hp.c _ hm) hd with h | h
  · exact absurd h h2
  · exact h
theorem Qf7 {φ : List Int → Rat} : ∀ {p : List Tm} {x : Tm}, Qbb p → x ∈ p → (∀ t ∈ p, t ≠ x → φ t.2 = 0) → pev φ p = x.1 * φ x.2
  | [], x, _, hx, _ => by cases hx
  | t :: p, x, hs, hx, h => by
    have hz : ∀ {l : List Tm}, (∀ s ∈ l, φ s.2 = 0) → pev φ l = 0 := by
      intro l
      induction l with
      | nil => intro _; rfl
      | cons s l ih => intro hl; rw [Qag, hl s (by simp), ih (fun y hy => hl y (by simp [hy]))]; grind
    by_cases htx : t = x
    · subst htx
      rw [Qag, hz (fun s hs' => h s (by simp [hs']) (fun e => Qj9 (hs.1 s hs') (by rw [e])))]; grind
    · have hx' : x ∈ p := by
        rcases List.mem_cons.1 hx with h1 | h1
        · exact absurd h1.symm htx
        · exact h1
      rw [Qag, h t (by simp) htx, Qf7 hs.2 hx' (fun s hs' => h s (by simp [hs']))]; grind
theorem Qacc {o : Int} {p q : List Tm} (hp : Nrm p) (hq : Nrm q) (h1 : p ≠ []) (h2 : q ≠ []) : Qaz p q ≠ [] ∧ plt o (Qaz p q) = ((plt o p).1 * (plt o q).1, Qam (plt o p).2 (plt o q).2) := by
  obtain ⟨a1, a2⟩ := Qml (o := o) hp h1
  obtain ⟨b1, b2⟩ := Qml (o := o) hq h2
  generalize plt o p = A at *
  generalize plt o q = B at *
  have hn := Qet hp.s hq.s
  have key : ∀ a ∈ p, ∀ b ∈ q, (a ≠ A ∨ b ≠ B) → 0 < Qay o (Qam A.2 B.2) (Qam a.2 b.2) := fun a ha b hb hab => by
    have hB : b = B ∨ 0 < Qay o (Qam A.2 B.2) (Qam A.2 b.2) := by
      by_cases e : b = B
      · exact .inl e
      · right
        rw [Qde A.2 B.2, Qde A.2 b.2, Qv9]; exact b2 b hb e
    have hA : a = A ∨ 0 < Qay o (Qam A.2 b.2) (Qam a.2 b.2) := by
      by_cases e : a = A
      · exact .inl e
      · right; rw [Qv9]; exact a2 a ha e
    rcases hA with hA | hA
    · rcases hB with hB | hB
      · subst hA hB; rcases hab with h | h <;> exact absurd rfl h
      · subst hA; exact hB
    · rcases hB with hB | hB
      · subst hB; exact hA
      · exact Qir hB hA
  have hne : ∀ a ∈ p, ∀ b ∈ q, (a ≠ A ∨ b ≠ B) → Qam a.2 b.2 ≠ Qam A.2 B.2 := fun a ha b hb hab e => by
    have := key a ha b hb hab
    rw [e] at this; exact Qka o _ this
  have hco : pev (ind (Qam A.2 B.2)) (Qaz p q) = A.1 * B.1 := by
    rw [Qjm, Qf7 hp.s a1 (fun t ht hta => ?_)]
    · rw [Qf7 hq.s b1 (fun s hs hsb => ?_)]
      · rw [ind, if_pos rfl]; grind
      · rw [ind, if_neg (hne A a1 s hs (.inr hsb))]
    · have e : pev (fun n => ind (Qam A.2 B.2) (Qam t.2 n)) q = pev (fun _ => 0) q := Qcr fun s hs => by rw [ind, if_neg (hne t ht s hs (.inl hta))]
      rw [e, Qmh]
  have hnz : A.1 * B.1 ≠ 0 := fun h => by
    rcases Rat.mul_eq_zero.1 h with h | h
    · exact hp.z A a1 h
    · exact hq.z B b1 h
  obtain ⟨t, ht, hte⟩ : ∃ t ∈ Qaz p q, t.2 = Qam A.2 B.2 := by
    apply Classical.byContradiction; intro hno
    rw [Qfw (fun t ht e => hno ⟨t, ht, e⟩)] at hco
    exact hnz hco.symm
  have h0 : Qaz p q ≠ [] := fun h => by rw [h] at ht; cases ht
  refine ⟨h0, ?_⟩
  have htc : t.1 = A.1 * B.1 := by
    rw [← hco, Qf7 hn.s ht (fun s hs hst => by rw [ind, if_neg (fun e => hst (Qmk hn.s hs ht (by rw [e, hte])))]), ind, if_pos hte]; grind
  obtain ⟨c1, c2⟩ := Qml (o := o) hn h0
  have hL : t = plt o (Qaz p q) := by
    apply Classical.byContradiction; intro hno
    have h3 := c2 t ht hno
    obtain ⟨a, ha, b, hb, e⟩ := Qpz c1
    rw [e, hte] at h3
    by_cases hab : a ≠ A ∨ b ≠ B
    · have h4 := key a ha b hb hab
      exact Qka o _ (Qir h3 h4)
    · have ea : a = A := Classical.byContradiction fun h => hab (.inl h)
      have eb : b = B := Classical.byContradiction fun h => hab (.inr h)
      subst ea eb
      exact Qka o _ h3
  rw [← hL]
  exact Prod.ext htc hte
end Go.FW
namespace Go.FW
open Go
def Qfv (p : List Tm) (v : Nat) : Int := p.foldl (fun d t => max d (eN t.2 v)) (-1)
theorem Q2u {p : List Tm} {v i : Nat} (h : i < p.length) : Qfv (p.take (i + 1)) v = max (Qfv (p.take i) v) (eN p[i].2 v) := by
  rw [List.take_succ_eq_append_getElem h, Qfv, List.foldl_append]; rfl
theorem Qkb (p : List Tm) (v : Nat) : -1 ≤ Qfv p v ∧ (∀ t ∈ p, eN t.2 v ≤ Qfv p v) ∧ (Qfv p v = -1 ∨ ∃ t ∈ p, Qfv p v = eN t.2 v) := Qv6 v p (-1)
theorem Q7q {K E : Nat} {p : List Tm} (hp : PB K E p) (h0 : p ≠ []) (v : Nat) : 0 ≤ Qfv p v ∧ Qfv p v ≤ E := by
  obtain ⟨_, h2, h3⟩ := Qkb p v
  obtain ⟨t, ht⟩ := List.exists_mem_of_ne_nil p h0
  have h4 := h2 t ht
  have h5 := (hp t ht).m.eN v
  rcases h3 with h3 | ⟨s, hs, h3⟩
  · omega
  · have := (hp s hs).m.eN v; omega
def Qbt (v n : Nat) : List Int := List.replicate v 0 ++ [(n : Int)]
theorem Qsg (v n i : Nat) : eN (Qbt v n) i = if i = v then (n : Int) else 0 := by
  unfold Qbt
  by_cases h : i < v
  · rw [if_neg (by omega), Qcx (by simp; omega), List.getElem_append_left (by simpa using h), List.getElem_replicate]
  · by_cases h2 : i = v
    · subst h2
      rw [if_pos rfl, Qcx (by simp), List.getElem_append_right (by simp)]
      simp
    · rw [if_neg h2, Qb6 (by simp; omega)]
theorem Qkc {v n : Nat} (h : 0 < n) : (Qbt v n).getLast? ≠ some 0 := by
  unfold Qbt
  rw [List.getLast?_append]
  simp
  omega
theorem Qsh {v n : Nat} (hv : v < 64) : MB n (Qbt v n) := by
  refine ⟨by simp [Qbt]; omega, fun x hx => ?_, fun x hx => ?_⟩
  all_goals
    simp only [Qbt, List.mem_append, List.mem_replicate, List.mem_singleton] at hx
    omega
def Qdz (p : List Tm) (v n : Nat) : List Tm := if n = 0 then p else Qaz p [(1, Qbt v n)]
theorem Q7r {v n : Nat} (h : 0 < n) : Nrm [((1 : Rat), Qbt v n)] := Nrm.one (show (1 : Rat) ≠ 0 by decide) (Qkc h)
theorem Qrc {p : List Tm} (hp : Nrm p) (v n : Nat) : Nrm (Qdz p v n) := by
  unfold Qdz
  split
  · exact hp
  · exact Qet hp.s (Q7r (by omega)).s
theorem Qz1 {p : List Tm} (hp : Can p) (v n : Nat) (φ : List Int → Rat) : pev φ (Qdz p v n) = pev (fun m => φ (Qam m (Qbt v n))) p := by
  unfold Qdz
  split
  · rename_i h
    subst h
    refine Qcr fun t ht => ?_
    congr 1
    refine Qea (hp t ht) (Qdx _ _) fun i => ?_
    rw [Qdh, Qsg]; split <;> simp
  · rw [Qjm]
    refine Qcr fun t ht => ?_
    rw [Qag, Qcp, Rat.one_mul, Rat.add_zero]
theorem Qti {φ : List Int → Rat} {v n : Nat} (h : ∀ m, eN m v ≠ n → φ m = 0) : ∀ {p : List Tm}, Can p → pev φ p = pev (fun m => φ (Qam m (Qbt v n))) (Qa4 p v n)
  | [], _ => rfl
  | t :: p, hp => by
    have ih := Qti h (Can.cons.1 hp).2
    by_cases ht : eN t.2 v = n
    · have e : Qa4 (t :: p) v n = (t.1, Qb0 t.2 v) :: Qa4 p v n := by rw [Qa4, List.filterMap_cons, if_pos ht]; rfl
      have e2 : Qam (Qb0 t.2 v) (Qbt v n) = t.2 := Qea (Qdx _ _) (Can.cons.1 hp).1 fun i => by
        rw [Qdh, Qha, Qsg]
        by_cases hi : i = v
        · subst hi; simp [ht]
        · simp [hi]
      rw [e, Qag, Qag, ih]
      show _ = t.1 * φ (Qam (Qb0 t.2 v) (Qbt v n)) + _
      rw [e2]
    · have e : Qa4 (t :: p) v n = Qa4 p v n := by rw [Qa4, List.filterMap_cons, if_neg ht]; rfl
      rw [e, Qag, h _ ht, Rat.mul_zero, Rat.zero_add, ih]
theorem Q7s {p : List Tm} {v : Nat} {n : Int} {t : Tm} (h : t ∈ Qa4 p v n) : eN t.2 v = 0 := by
  obtain ⟨s, _, _, rfl⟩ := Qh6 h
  rw [Qha, if_pos rfl]
theorem Q7t {p q : List Tm} {t : Tm} (hq : Can q) (h : t ∈ Qjg p q) : (∃ s ∈ p, s.2 = t.2) ∨ (∃ s ∈ q, s.2 = t.2) := by
  rcases Qg9 h with h | ⟨s, hs, h⟩
  · exact .inl h
  · right
    rw [Qpv, Qa0, if_neg (by decide)] at hs
    obtain ⟨u, hu, e⟩ := Qra hs
    exact ⟨u, hu, by rw [← h, e]; exact (Qpu (hq u hu)).symm⟩
end Go.FW
namespace Go.FW
open Go
variable {C : Ctx} {fr : Fr} {hp : HP} {R : Qh}
theorem Q7u {sk : List It} {x : SC} (s : Nat) (hd : (Qz hp (fr s)).isData = true) (h : vc C R (.c (.loop x) :: sk) (upd fr s (Qz hp (fr s))) (FW.Qah hp (fr s).refs)) : vc C R (.c (.loop x) :: sk) fr hp := by
  rw [Qdv] at h ⊢
  obtain ⟨I, μ, ⟨fr0, hp0, h1, h1'⟩, h2⟩ := h
  exact ⟨I, μ, ⟨fr0, hp0, (Qyc s hd).trans h1, h1'⟩, h2⟩
end Go.FW
