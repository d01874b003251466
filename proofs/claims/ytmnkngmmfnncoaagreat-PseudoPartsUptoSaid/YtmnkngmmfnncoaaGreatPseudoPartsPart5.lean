/- Part 5 of the proof of PseudoParts: P8, CS2, CS3, CU, FwSE, FwSF, FwSG, FwSH, FwSI, FwSJ, FwSK, FwSL, FwUA, FwUB. Own lemmas; no conditions. -/
import Derived.Test.YtmnkngmmfnncoaaGreatPseudoPartsPart4
set_option linter.unusedSimpArgs false
set_option linter.unnecessarySimpa false
set_option linter.unusedVariables false
namespace Go.Proofs.YtmnkngmmfnncoaaGreat
open Go Go.FW
set_option linter.unusedSimpArgs false
set_option linter.unusedVariables false
set_option maxRecDepth 100000
theorem Q0x {a : Rat} {k : Nat} (h : rs a ≤ k) (hk : k < 2 ^ 36) : Qe Tryz.prog 123 [PV.rat a] (· = PV.poly (Qmo a)) := by
  have := Qup (Qcd h) hk
  rwa [Qcq] at this
end Go.Proofs.YtmnkngmmfnncoaaGreat
namespace Go.Proofs.YtmnkngmmfnncoaaGreat
open Go Go.FW
set_option maxRecDepth 100000
def Q47 : SFn := ⟨39, [.t 2], .seq (.rg (.o none (.mv 2 (.c (.bool false))) .nil)) <| .seq (.seq (.rg (.o none (.mv 4 (.t 0)) <|
  .o none (.len 5 (.t 4)) <|
  .o none (.bin 6 .gtr false (.t 5) (.c (.int .i64 64))) <|
  .o none (.mv 7 (.t 6)) <|
  .o (some (7, false)) (.mv 8 (.t 0)) <|
  .o (some (7, false)) (.len 9 (.t 8)) <|
  .o (some (7, false)) (.bin 10 .gtr false (.t 9) (.c (.int .i64 0))) <|
  .o (some (7, false)) (.mv 11 (.t 10)) <|
  .o (some (11, true)) (.mv 12 (.t 0)) <|
  .o (some (11, true)) (.mv 13 (.t 0)) <|
  .o (some (11, true)) (.len 14 (.t 13)) <|
  .o (some (11, true)) (.bin 15 .sub false (.t 14) (.c (.int .i64 1))) <|
  .o (some (11, true)) (.idx 16 1 (.t 12) (.t 15)) <|
  .o (some (11, true)) (.ld 17 1 false (.t 16)) <|
  .o (some (11, true)) (.bin 18 .eql false (.t 17) (.c (.int .i64 0))) <|
  .o (some (7, false)) (.pick 19 (.t 11) (.t 18) (.c (.bool false))) <|
  .o none (.pick 20 (.t 7) (.c (.bool true)) (.t 19)) .nil)) <| .cond (.t 20) (.seq (.rg (.o none (.mv 2 (.c (.bool false))) .nil)) <| .ret) (.skip)) <| .seq (.seq (.rg (.o none (.mv 3 (.c (.int .i64 0))) .nil)) <| .block 0 (.loop (.seq (.seq (.rg (.o none (.mv 21 (.t 3)) <|
  .o none (.mv 22 (.t 0)) <|
  .o none (.len 23 (.t 22)) <|
  .o none (.bin 24 .lss false (.t 21) (.t 23)) .nil)) <| .cond (.t 24) (.skip) (.exit 0)) <| .seq (.block 1 (.seq (.rg (.o none (.mv 27 (.t 0)) <|
  .o none (.mv 28 (.t 3)) <|
  .o none (.idx 29 1 (.t 27) (.t 28)) <|
  .o none (.ld 30 1 false (.t 29)) <|
  .o none (.bin 31 .lss false (.t 30) (.c (.int .i64 0))) <|
  .o none (.mv 32 (.t 31)) <|
  .o (some (32, false)) (.mv 33 (.t 0)) <|
  .o (some (32, false)) (.mv 34 (.t 3)) <|
  .o (some (32, false)) (.idx 35 1 (.t 33) (.t 34)) <|
  .o (some (32, false)) (.ld 36 1 false (.t 35)) <|
  .o (some (32, false)) (.bin 37 .gtr false (.t 36) (.c (.int .i64 1048576))) <|
  .o none (.pick 38 (.t 32) (.c (.bool true)) (.t 37)) .nil)) <| .cond (.t 38) (.seq (.rg (.o none (.mv 2 (.c (.bool false))) .nil)) <| .ret) (.skip))) <| .rg (.o none (.mv 25 (.t 3)) <|
  .o none (.bin 26 .add false (.t 25) (.c (.int .i64 1))) <|
  .o none (.mv 3 (.t 26)) .nil)))) <| .seq (.rg (.o none (.mv 2 (.c (.bool true))) .nil)) <| .ret⟩
theorem Q9t : Qd Tryz.prog Tryz.f179 = some Q47 := by kernel_rfl
def Q48 : SFn := ⟨24, [.t 2], .seq (.rg (.o none (.mv 2 (.c .nilS)) .nil)) <| .seq (.rg (.o none (.mv 5 (.t 0)) <|
  .o none (.len 6 (.t 5)) <|
  .o none (.mv 3 (.t 6)) .nil)) <| .seq (.block 0 (.loop (.seq (.seq (.rg (.o none (.mv 7 (.t 3)) <|
  .o none (.bin 8 .gtr false (.t 7) (.c (.int .i64 0))) <|
  .o none (.mv 9 (.t 8)) <|
  .o (some (9, true)) (.mv 10 (.t 0)) <|
  .o (some (9, true)) (.mv 11 (.t 3)) <|
  .o (some (9, true)) (.bin 12 .sub false (.t 11) (.c (.int .i64 1))) <|
  .o (some (9, true)) (.idx 13 1 (.t 10) (.t 12)) <|
  .o (some (9, true)) (.ld 14 1 false (.t 13)) <|
  .o (some (9, true)) (.bin 15 .eql false (.t 14) (.c (.int .i64 0))) <|
  .o none (.pick 16 (.t 9) (.t 15) (.c (.bool false))) .nil)) <| .cond (.t 16) (.skip) (.exit 0)) <| .block 1 (.rg (.o none (.mv 17 (.t 3)) <|
  .o none (.bin 18 .sub false (.t 17) (.c (.int .i64 1))) <|
  .o none (.mv 3 (.t 18)) .nil))))) <| .seq (.rg (.o none (.mv 4 (.c .nilS)) .nil)) <| .seq (.rg (.o none (.mv 19 (.t 4)) <|
  .o none (.mv 20 (.t 0)) <|
  .o none (.mv 21 (.t 3)) <|
  .o none (.sl 22 1 (.t 20) none (some (.t 21)) none) <|
  .o none (.app 23 1 8 3 (.t 19) (.t 22)) <|
  .o none (.mv 2 (.t 23)) .nil)) <| .ret⟩
theorem Q9u : Qd Tryz.prog Tryz.f218 = some Q48 := by kernel_rfl
def Q49 : SFn := ⟨9, [.t 2], .seq (.rg (.o none (.mv 2 (.c .nilS)) .nil)) <| .seq (.seq (.rg (.o none (.mv 4 (.t 0)) <|
  .o none (.call (some 5) false (.c (.fn 218 [] [])) [(.t 4)]) <|
  .o none (.mv 3 (.t 5)) .nil)) <| .seq (.rg (.o none (.mv 6 (.t 3)) <|
  .o none (.call (some 7) false (.c (.fn 179 [] [])) [(.t 6)]) .nil)) <| .cond (.t 7) (.seq (.rg (.o none (.mv 8 (.t 3)) <|
  .o none (.mv 2 (.t 8)) .nil)) <| .ret) (.skip)) <| .seq (.rg (.o none (.mv 2 (.c .nilS)) .nil)) <| .ret⟩
theorem Q9v : Qd Tryz.prog Tryz.f183 = some Q49 := by kernel_rfl
def Q5a : SFn := ⟨18, [.t 2], .seq (.rg (.o none (.mv 2 (.c (.int .i64 0))) .nil)) <| .seq (.rg (.o none (.mv 3 (.c (.int .i64 0))) .nil)) <| .seq (.seq (.rg (.o none (.mv 4 (.c (.int .i64 0))) .nil)) <| .block 0 (.loop (.seq (.seq (.rg (.o none (.mv 5 (.t 4)) <|
  .o none (.mv 6 (.t 0)) <|
  .o none (.len 7 (.t 6)) <|
  .o none (.bin 8 .lss false (.t 5) (.t 7)) .nil)) <| .cond (.t 8) (.skip) (.exit 0)) <| .seq (.block 1 (.rg (.o none (.mv 11 (.t 3)) <|
  .o none (.mv 12 (.t 0)) <|
  .o none (.mv 13 (.t 4)) <|
  .o none (.idx 14 1 (.t 12) (.t 13)) <|
  .o none (.ld 15 1 false (.t 14)) <|
  .o none (.bin 16 .add false (.t 11) (.t 15)) <|
  .o none (.mv 3 (.t 16)) .nil))) <| .rg (.o none (.mv 9 (.t 4)) <|
  .o none (.bin 10 .add false (.t 9) (.c (.int .i64 1))) <|
  .o none (.mv 4 (.t 10)) .nil)))) <| .seq (.rg (.o none (.mv 17 (.t 3)) <|
  .o none (.mv 2 (.t 17)) .nil)) <| .ret⟩
theorem Q9w : Qd Tryz.prog Tryz.f216 = some Q5a := by kernel_rfl
def Q5b : SFn := ⟨17, [.t 4], .seq (.rg (.o none (.mv 4 (.c (.int .i64 0))) .nil)) <| .seq (.seq (.rg (.o none (.mv 5 (.t 1)) <|
  .o none (.bin 6 .lss false (.t 5) (.c (.int .i64 0))) <|
  .o none (.mv 7 (.t 6)) <|
  .o (some (7, false)) (.mv 8 (.t 1)) <|
  .o (some (7, false)) (.mv 9 (.t 0)) <|
  .o (some (7, false)) (.len 10 (.t 9)) <|
  .o (some (7, false)) (.bin 11 .geq false (.t 8) (.t 10)) <|
  .o none (.pick 12 (.t 7) (.c (.bool true)) (.t 11)) .nil)) <| .cond (.t 12) (.seq (.rg (.o none (.mv 4 (.c (.int .i64 0))) .nil)) <| .ret) (.skip)) <| .seq (.rg (.o none (.mv 13 (.t 0)) <|
  .o none (.mv 14 (.t 1)) <|
  .o none (.idx 15 1 (.t 13) (.t 14)) <|
  .o none (.ld 16 1 false (.t 15)) <|
  .o none (.mv 4 (.t 16)) .nil)) <| .ret⟩
theorem Q9x : Qd Tryz.prog Tryz.f131 = some Q5b := by kernel_rfl
def Q5c : SFn := ⟨48, [.t 6], .seq (.rg (.o none (.mv 6 (.c (.int .i64 0))) .nil)) <| .seq (.seq (.rg (.o none (.mv 8 (.t 2)) <|
  .o none (.bin 9 .eql false (.t 8) (.c (.int .i64 1))) <|
  .o none (.mv 10 (.t 9)) <|
  .o (some (10, true)) (.mv 11 (.t 0)) <|
  .o (some (10, true)) (.call (some 12) false (.c (.fn 216 [] [])) [(.t 11)]) <|
  .o (some (10, true)) (.mv 13 (.t 1)) <|
  .o (some (10, true)) (.call (some 14) false (.c (.fn 216 [] [])) [(.t 13)]) <|
  .o (some (10, true)) (.bin 15 .neq false (.t 12) (.t 14)) <|
  .o none (.pick 16 (.t 10) (.t 15) (.c (.bool false))) .nil)) <| .cond (.t 16) (.seq (.rg (.o none (.mv 17 (.t 0)) <|
  .o none (.call (some 18) false (.c (.fn 216 [] [])) [(.t 17)]) <|
  .o none (.mv 19 (.t 1)) <|
  .o none (.call (some 20) false (.c (.fn 216 [] [])) [(.t 19)]) <|
  .o none (.bin 21 .sub false (.t 18) (.t 20)) <|
  .o none (.call (some 22) false (.c (.fn 217 [] [])) [(.t 21)]) <|
  .o none (.mv 6 (.t 22)) .nil)) <| .ret) (.skip)) <| .seq (.seq (.rg (.o none (.mv 23 (.t 0)) <|
  .o none (.len 24 (.t 23)) <|
  .o none (.mv 25 (.t 1)) <|
  .o none (.len 26 (.t 25)) <|
  .o none (.mx 27 (.t 24) (.t 26)) <|
  .o none (.bin 28 .sub false (.t 27) (.c (.int .i64 1))) <|
  .o none (.mv 7 (.t 28)) .nil)) <| .block 0 (.loop (.seq (.seq (.rg (.o none (.mv 29 (.t 7)) <|
  .o none (.bin 30 .geq false (.t 29) (.c (.int .i64 0))) .nil)) <| .cond (.t 30) (.skip) (.exit 0)) <| .seq (.block 1 (.seq (.rg (.o none (.mv 33 (.t 0)) <|
  .o none (.mv 34 (.t 7)) <|
  .o none (.call (some 35) false (.c (.fn 131 [] [])) [(.t 33), (.t 34)]) <|
  .o none (.mv 36 (.t 1)) <|
  .o none (.mv 37 (.t 7)) <|
  .o none (.call (some 38) false (.c (.fn 131 [] [])) [(.t 36), (.t 37)]) <|
  .o none (.bin 39 .neq false (.t 35) (.t 38)) .nil)) <| .cond (.t 39) (.seq (.rg (.o none (.mv 40 (.t 0)) <|
  .o none (.mv 41 (.t 7)) <|
  .o none (.call (some 42) false (.c (.fn 131 [] [])) [(.t 40), (.t 41)]) <|
  .o none (.mv 43 (.t 1)) <|
  .o none (.mv 44 (.t 7)) <|
  .o none (.call (some 45) false (.c (.fn 131 [] [])) [(.t 43), (.t 44)]) <|
  .o none (.bin 46 .sub false (.t 42) (.t 45)) <|
  .o none (.call (some 47) false (.c (.fn 217 [] [])) [(.t 46)]) <|
  .o none (.mv 6 (.t 47)) .nil)) <| .ret) (.skip))) <| .rg (.o none (.mv 31 (.t 7)) <|
  .o none (.bin 32 .sub false (.t 31) (.c (.int .i64 1))) <|
  .o none (.mv 7 (.t 32)) .nil)))) <| .seq (.rg (.o none (.mv 6 (.c (.int .i64 0))) .nil)) <| .ret⟩
theorem Q9y : Qd Tryz.prog Tryz.f180 = some Q5c := by kernel_rfl
def Q5d : SFn := ⟨7, [.t 2], .seq (.rg (.o none (.mv 2 (.c (.int .i64 0))) .nil)) <| .seq (.seq (.rg (.o none (.mv 3 (.t 0)) <|
  .o none (.bin 4 .lss false (.t 3) (.c (.int .i64 0))) .nil)) <| .cond (.t 4) (.seq (.rg (.o none (.mv 2 (.c (.int .i64 (-1)))) .nil)) <| .ret) (.skip)) <| .seq (.seq (.rg (.o none (.mv 5 (.t 0)) <|
  .o none (.bin 6 .gtr false (.t 5) (.c (.int .i64 0))) .nil)) <| .cond (.t 6) (.seq (.rg (.o none (.mv 2 (.c (.int .i64 1))) .nil)) <| .ret) (.skip)) <| .seq (.rg (.o none (.mv 2 (.c (.int .i64 0))) .nil)) <| .ret⟩
theorem Q9z : Qd Tryz.prog Tryz.f217 = some Q5d := by kernel_rfl
end Go.Proofs.YtmnkngmmfnncoaaGreat
namespace Go.Proofs.YtmnkngmmfnncoaaGreat
open Go Go.FW
set_option maxRecDepth 100000
def Q5e : SFn := ⟨92, [.t 4], .seq (.rg (.o none (.mv 4 (.c .nilS)) .nil)) <| .seq (.rg (.o none (.mv 5 (.c .nilS)) .nil)) <| .seq (.rg (.o none (.mv 6 (.c (.int .i64 0))) <|
  .o none (.mv 7 (.c (.int .i64 0))) .nil)) <| .seq (.block 0 (.loop (.seq (.seq (.rg (.o none (.mv 10 (.t 6)) <|
  .o none (.mv 11 (.t 0)) <|
  .o none (.len 12 (.t 11)) <|
  .o none (.bin 13 .lss false (.t 10) (.t 12)) <|
  .o none (.mv 14 (.t 13)) <|
  .o (some (14, false)) (.mv 15 (.t 7)) <|
  .o (some (14, false)) (.mv 16 (.t 1)) <|
  .o (some (14, false)) (.len 17 (.t 16)) <|
  .o (some (14, false)) (.bin 18 .lss false (.t 15) (.t 17)) <|
  .o none (.pick 19 (.t 14) (.c (.bool true)) (.t 18)) .nil)) <| .cond (.t 19) (.skip) (.exit 0)) <| .block 1 (.seq (.rg (.o none (.mv 8 (.c (.int .i64 1))) .nil)) <| .seq (.seq (.rg (.o none (.mv 20 (.t 6)) <|
  .o none (.mv 21 (.t 0)) <|
  .o none (.len 22 (.t 21)) <|
  .o none (.bin 23 .eql false (.t 20) (.t 22)) .nil)) <| .cond (.t 23) (.rg (.o none (.mv 8 (.c (.int .i64 (-1)))) .nil)) (.seq (.rg (.o none (.mv 24 (.t 7)) <|
  .o none (.mv 25 (.t 1)) <|
  .o none (.len 26 (.t 25)) <|
  .o none (.bin 27 .lss false (.t 24) (.t 26)) .nil)) <| .cond (.t 27) (.rg (.o none (.mv 28 (.t 0)) <|
  .o none (.mv 29 (.t 6)) <|
  .o none (.idx 30 4 (.t 28) (.t 29)) <|
  .o none (.fld 31 3 (.t 30)) <|
  .o none (.ld 32 1 false (.t 31)) <|
  .o none (.mv 33 (.t 1)) <|
  .o none (.mv 34 (.t 7)) <|
  .o none (.idx 35 4 (.t 33) (.t 34)) <|
  .o none (.fld 36 3 (.t 35)) <|
  .o none (.ld 37 1 false (.t 36)) <|
  .o none (.call (some 38) false (.c (.fn 180 [] [])) [(.t 32), (.t 37), (.c (.int .i64 0))]) <|
  .o none (.mv 8 (.t 38)) .nil)) (.skip))) <| .block 2 (.seq (.rg (.o none (.mv 68 (.t 8)) <|
  .o none (.bin 69 .gtr false (.t 68) (.c (.int .i64 0))) <|
  .o none (.mv 67 (.t 69)) .nil)) <| .cond (.t 67) (.seq (.rg (.o none (.mv 70 (.t 5)) <|
  .o none (.mv 71 (.t 0)) <|
  .o none (.mv 72 (.t 6)) <|
  .o none (.idx 73 4 (.t 71) (.t 72)) <|
  .o none (.ld 74 4 true (.t 73)) <|
  .o none (.bs 75 4 133 [(.t 74)]) <|
  .o none (.app 76 4 80 133 (.t 70) (.t 75)) <|
  .o none (.mv 5 (.t 76)) .nil)) <| .rg (.o none (.mv 77 (.t 6)) <|
  .o none (.bin 78 .add false (.t 77) (.c (.int .i64 1))) <|
  .o none (.mv 6 (.t 78)) .nil)) (.seq (.rg (.o none (.mv 80 (.t 8)) <|
  .o none (.bin 81 .lss false (.t 80) (.c (.int .i64 0))) <|
  .o none (.mv 79 (.t 81)) .nil)) <| .cond (.t 79) (.seq (.rg (.o none (.mv 82 (.t 5)) <|
  .o none (.mv 83 (.t 1)) <|
  .o none (.mv 84 (.t 7)) <|
  .o none (.idx 85 4 (.t 83) (.t 84)) <|
  .o none (.ld 86 4 true (.t 85)) <|
  .o none (.bs 87 4 133 [(.t 86)]) <|
  .o none (.app 88 4 80 133 (.t 82) (.t 87)) <|
  .o none (.mv 5 (.t 88)) .nil)) <| .rg (.o none (.mv 89 (.t 7)) <|
  .o none (.bin 90 .add false (.t 89) (.c (.int .i64 1))) <|
  .o none (.mv 7 (.t 90)) .nil)) (.seq (.seq (.rg (.o none (.mv 39 (.t 0)) <|
  .o none (.mv 40 (.t 6)) <|
  .o none (.idx 41 4 (.t 39) (.t 40)) <|
  .o none (.fld 42 0 (.t 41)) <|
  .o none (.ld 43 3 true (.t 42)) <|
  .o none (.mv 44 (.t 1)) <|
  .o none (.mv 45 (.t 7)) <|
  .o none (.idx 46 4 (.t 44) (.t 45)) <|
  .o none (.fld 47 0 (.t 46)) <|
  .o none (.ld 48 3 true (.t 47)) <|
  .br (.o none (.call (some 49) true (.c (.fn 101 [] [])) [(.t 43), (.t 48)]) <|
  .o none (.alloc 9 3 32 (.agg [(.bool false), .nilS, .nilS])) <|
  .o none (.st 3 (.t 9) (.t 49)) .nil) (.o none (.alloc 9 3 32 (.agg [(.bool false), .nilS, .nilS])) <|
  .o none (.call (some 49) true (.c (.fn 101 [] [])) [(.t 43), (.t 48)]) <|
  .o none (.st 3 (.t 9) (.t 49)) .nil))) <| .seq (.rg (.o none (.ld 50 3 true (.t 9)) <|
  .o none (.call (some 51) false (.c (.fn 81 [] [])) [(.t 50)]) <|
  .o none (.bin 52 .neq false (.t 51) (.c (.int .i64 0))) .nil)) <| .cond (.t 52) (.rg (.o none (.mv 53 (.t 5)) <|
  .o none (.ld 54 3 true (.t 9)) <|
  .o none (.mv 55 (.t 0)) <|
  .o none (.mv 56 (.t 6)) <|
  .o none (.idx 57 4 (.t 55) (.t 56)) <|
  .o none (.fld 58 3 (.t 57)) <|
  .o none (.ld 59 1 false (.t 58)) <|
  .o none (.bld 60 [(.bool false), .nilS, .nilS, .nilS] [(0, 3, (.t 54)), (3, 1, (.t 59))]) <|
  .o none (.bs 61 4 133 [(.t 60)]) <|
  .o none (.app 62 4 80 133 (.t 53) (.t 61)) <|
  .o none (.mv 5 (.t 62)) .nil)) (.skip)) <| .seq (.rg (.o none (.mv 63 (.t 6)) <|
  .o none (.bin 64 .add false (.t 63) (.c (.int .i64 1))) <|
  .o none (.mv 6 (.t 64)) .nil)) <| .rg (.o none (.mv 65 (.t 7)) <|
  .o none (.bin 66 .add false (.t 65) (.c (.int .i64 1))) <|
  .o none (.mv 7 (.t 66)) .nil)))))))) <| .seq (.rg (.o none (.mv 91 (.t 5)) <|
  .o none (.mv 4 (.t 91)) .nil)) <| .ret⟩
theorem Q90 : Qd Tryz.prog Tryz.f126 = some Q5e := by kernel_rfl
def Q5f : SFn := ⟨58, [.t 4], .seq (.rg (.o none (.mv 4 (.c (.int .i64 0))) .nil)) <| .seq (.seq (.rg (.o none (.mv 5 (.c (.int .i64 0))) .nil)) <| .block 0 (.loop (.seq (.seq (.rg (.o none (.mv 8 (.t 5)) <|
  .o none (.mv 9 (.t 0)) <|
  .o none (.len 10 (.t 9)) <|
  .o none (.bin 11 .lss false (.t 8) (.t 10)) <|
  .o none (.mv 12 (.t 11)) <|
  .o (some (12, true)) (.mv 13 (.t 5)) <|
  .o (some (12, true)) (.mv 14 (.t 1)) <|
  .o (some (12, true)) (.len 15 (.t 14)) <|
  .o (some (12, true)) (.bin 16 .lss false (.t 13) (.t 15)) <|
  .o none (.pick 17 (.t 12) (.t 16) (.c (.bool false))) .nil)) <| .cond (.t 17) (.skip) (.exit 0)) <| .seq (.block 1 (.seq (.seq (.rg (.o none (.mv 20 (.t 0)) <|
  .o none (.mv 21 (.t 5)) <|
  .o none (.idx 22 4 (.t 20) (.t 21)) <|
  .o none (.fld 23 3 (.t 22)) <|
  .o none (.ld 24 1 false (.t 23)) <|
  .o none (.mv 25 (.t 1)) <|
  .o none (.mv 26 (.t 5)) <|
  .o none (.idx 27 4 (.t 25) (.t 26)) <|
  .o none (.fld 28 3 (.t 27)) <|
  .o none (.ld 29 1 false (.t 28)) <|
  .o none (.call (some 30) false (.c (.fn 180 [] [])) [(.t 24), (.t 29), (.c (.int .i64 0))]) <|
  .o none (.mv 6 (.t 30)) .nil)) <| .seq (.rg (.o none (.mv 31 (.t 6)) <|
  .o none (.bin 32 .neq false (.t 31) (.c (.int .i64 0))) .nil)) <| .cond (.t 32) (.seq (.rg (.o none (.mv 33 (.t 6)) <|
  .o none (.mv 4 (.t 33)) .nil)) <| .ret) (.skip)) <| .seq (.rg (.o none (.mv 34 (.t 0)) <|
  .o none (.mv 35 (.t 5)) <|
  .o none (.idx 36 4 (.t 34) (.t 35)) <|
  .o none (.fld 37 0 (.t 36)) <|
  .o none (.ld 38 3 true (.t 37)) <|
  .o none (.mv 39 (.t 1)) <|
  .o none (.mv 40 (.t 5)) <|
  .o none (.idx 41 4 (.t 39) (.t 40)) <|
  .o none (.fld 42 0 (.t 41)) <|
  .o none (.ld 43 3 true (.t 42)) <|
  .o none (.call (some 44) false (.c (.fn 148 [] [])) [(.t 38), (.t 43)]) <|
  .o none (.mv 7 (.t 44)) .nil)) <| .seq (.rg (.o none (.mv 45 (.t 7)) <|
  .o none (.bin 46 .neq false (.t 45) (.c (.int .i64 0))) .nil)) <| .cond (.t 46) (.seq (.rg (.o none (.mv 47 (.t 7)) <|
  .o none (.mv 4 (.t 47)) .nil)) <| .ret) (.skip))) <| .rg (.o none (.mv 18 (.t 5)) <|
  .o none (.bin 19 .add false (.t 18) (.c (.int .i64 1))) <|
  .o none (.mv 5 (.t 19)) .nil)))) <| .seq (.seq (.rg (.o none (.mv 48 (.t 0)) <|
  .o none (.len 49 (.t 48)) <|
  .o none (.mv 50 (.t 1)) <|
  .o none (.len 51 (.t 50)) <|
  .o none (.bin 52 .lss false (.t 49) (.t 51)) .nil)) <| .cond (.t 52) (.seq (.rg (.o none (.mv 4 (.c (.int .i64 (-1)))) .nil)) <| .ret) (.skip)) <| .seq (.seq (.rg (.o none (.mv 53 (.t 0)) <|
  .o none (.len 54 (.t 53)) <|
  .o none (.mv 55 (.t 1)) <|
  .o none (.len 56 (.t 55)) <|
  .o none (.bin 57 .gtr false (.t 54) (.t 56)) .nil)) <| .cond (.t 57) (.seq (.rg (.o none (.mv 4 (.c (.int .i64 1))) .nil)) <| .ret) (.skip)) <| .seq (.rg (.o none (.mv 4 (.c (.int .i64 0))) .nil)) <| .ret⟩
theorem Q91 : Qd Tryz.prog Tryz.f134 = some Q5f := by kernel_rfl
def c61 : SFn := ⟨9, [.t 4], .seq (.rg (.o none (.mv 4 (.c (.bool false))) .nil)) <| .seq (.rg (.o none (.mv 5 (.t 0)) <|
  .o none (.mv 6 (.t 1)) <|
  .o none (.call (some 7) false (.c (.fn 134 [] [])) [(.t 5), (.t 6)]) <|
  .o none (.bin 8 .eql false (.t 7) (.c (.int .i64 0))) <|
  .o none (.mv 4 (.t 8)) .nil)) <| .ret⟩
theorem Qac9 : Qd Tryz.prog Tryz.f61 = some c61 := by kernel_rfl
def Q5g : SFn := ⟨34, [.t 2], .seq (.rg (.o none (.mv 2 (.c .nilS)) .nil)) <| .seq (.rg (.o none (.mv 3 (.c .nilS)) .nil)) <| .seq (.seq (.rg (.o none (.mv 4 (.c (.int .i64 0))) .nil)) <| .block 0 (.loop (.seq (.seq (.rg (.o none (.mv 6 (.t 4)) <|
  .o none (.mv 7 (.t 0)) <|
  .o none (.len 8 (.t 7)) <|
  .o none (.bin 9 .lss false (.t 6) (.t 8)) .nil)) <| .cond (.t 9) (.skip) (.exit 0)) <| .seq (.block 1 (.seq (.rg (.o none (.mv 12 (.t 0)) <|
  .o none (.mv 13 (.t 4)) <|
  .o none (.idx 14 4 (.t 12) (.t 13)) <|
  .o none (.fld 15 3 (.t 14)) <|
  .o none (.ld 16 1 false (.t 15)) <|
  .o none (.call (some 17) false (.c (.fn 183 [] [])) [(.t 16)]) <|
  .o none (.mv 5 (.t 17)) .nil)) <| .seq (.rg (.o none (.mv 18 (.t 0)) <|
  .o none (.mv 19 (.t 4)) <|
  .o none (.idx 20 4 (.t 18) (.t 19)) <|
  .o none (.fld 21 3 (.t 20)) <|
  .o none (.ld 22 1 false (.t 21)) <|
  .o none (.mv 23 (.t 5)) <|
  .o none (.call (some 24) false (.c (.fn 184 [] [])) [(.t 22), (.t 23)]) .nil)) <| .cond (.t 24) (.rg (.o none (.mv 25 (.t 3)) <|
  .o none (.mv 26 (.t 0)) <|
  .o none (.mv 27 (.t 4)) <|
  .o none (.idx 28 4 (.t 26) (.t 27)) <|
  .o none (.fld 29 0 (.t 28)) <|
  .o none (.ld 30 3 true (.t 29)) <|
  .o none (.mv 31 (.t 5)) <|
  .o none (.call (some 32) false (.c (.fn 185 [] [])) [(.t 25), (.t 30), (.t 31)]) <|
  .o none (.mv 3 (.t 32)) .nil)) (.skip))) <| .rg (.o none (.mv 10 (.t 4)) <|
  .o none (.bin 11 .add false (.t 10) (.c (.int .i64 1))) <|
  .o none (.mv 4 (.t 11)) .nil)))) <| .seq (.rg (.o none (.mv 33 (.t 3)) <|
  .o none (.mv 2 (.t 33)) .nil)) <| .ret⟩
theorem Q92 : Qd Tryz.prog Tryz.f125 = some Q5g := by kernel_rfl
def Q5h : SFn := ⟨52, [.t 2], .seq (.rg (.o none (.mv 2 (.c (.bool false))) .nil)) <| .seq (.seq (.rg (.o none (.mv 3 (.c (.int .i64 0))) .nil)) <| .block 0 (.loop (.seq (.seq (.rg (.o none (.mv 4 (.t 3)) <|
  .o none (.mv 5 (.t 0)) <|
  .o none (.len 6 (.t 5)) <|
  .o none (.bin 7 .lss false (.t 4) (.t 6)) .nil)) <| .cond (.t 7) (.skip) (.exit 0)) <| .seq (.block 1 (.seq (.seq (.rg (.o none (.mv 10 (.t 0)) <|
  .o none (.mv 11 (.t 3)) <|
  .o none (.idx 12 4 (.t 10) (.t 11)) <|
  .o none (.fld 13 0 (.t 12)) <|
  .o none (.ld 14 3 true (.t 13)) <|
  .o none (.call (some 15) false (.c (.fn 45 [] [])) [(.t 14)]) <|
  .o none (.un 16 .not (.t 15)) <|
  .o none (.mv 17 (.t 16)) <|
  .o (some (17, false)) (.mv 18 (.t 0)) <|
  .o (some (17, false)) (.mv 19 (.t 3)) <|
  .o (some (17, false)) (.idx 20 4 (.t 18) (.t 19)) <|
  .o (some (17, false)) (.fld 21 0 (.t 20)) <|
  .o (some (17, false)) (.ld 22 3 true (.t 21)) <|
  .o (some (17, false)) (.call (some 23) false (.c (.fn 81 [] [])) [(.t 22)]) <|
  .o (some (17, false)) (.bin 24 .eql false (.t 23) (.c (.int .i64 0))) <|
  .o none (.pick 25 (.t 17) (.c (.bool true)) (.t 24)) <|
  .o none (.mv 26 (.t 25)) <|
  .o (some (26, false)) (.mv 27 (.t 0)) <|
  .o (some (26, false)) (.mv 28 (.t 3)) <|
  .o (some (26, false)) (.idx 29 4 (.t 27) (.t 28)) <|
  .o (some (26, false)) (.fld 30 3 (.t 29)) <|
  .o (some (26, false)) (.ld 31 1 false (.t 30)) <|
  .o (some (26, false)) (.call (some 32) false (.c (.fn 179 [] [])) [(.t 31)]) <|
  .o (some (26, false)) (.un 33 .not (.t 32)) <|
  .o none (.pick 34 (.t 26) (.c (.bool true)) (.t 33)) .nil)) <| .cond (.t 34) (.seq (.rg (.o none (.mv 2 (.c (.bool false))) .nil)) <| .ret) (.skip)) <| .seq (.rg (.o none (.mv 35 (.t 3)) <|
  .o none (.bin 36 .gtr false (.t 35) (.c (.int .i64 0))) <|
  .o none (.mv 37 (.t 36)) <|
  .o (some (37, true)) (.mv 38 (.t 0)) <|
  .o (some (37, true)) (.mv 39 (.t 3)) <|
  .o (some (37, true)) (.bin 40 .sub false (.t 39) (.c (.int .i64 1))) <|
  .o (some (37, true)) (.idx 41 4 (.t 38) (.t 40)) <|
  .o (some (37, true)) (.fld 42 3 (.t 41)) <|
  .o (some (37, true)) (.ld 43 1 false (.t 42)) <|
  .o (some (37, true)) (.mv 44 (.t 0)) <|
  .o (some (37, true)) (.mv 45 (.t 3)) <|
  .o (some (37, true)) (.idx 46 4 (.t 44) (.t 45)) <|
  .o (some (37, true)) (.fld 47 3 (.t 46)) <|
  .o (some (37, true)) (.ld 48 1 false (.t 47)) <|
  .o (some (37, true)) (.call (some 49) false (.c (.fn 180 [] [])) [(.t 43), (.t 48), (.c (.int .i64 0))]) <|
  .o (some (37, true)) (.bin 50 .leq false (.t 49) (.c (.int .i64 0))) <|
  .o none (.pick 51 (.t 37) (.t 50) (.c (.bool false))) .nil)) <| .cond (.t 51) (.seq (.rg (.o none (.mv 2 (.c (.bool false))) .nil)) <| .ret) (.skip))) <| .rg (.o none (.mv 8 (.t 3)) <|
  .o none (.bin 9 .add false (.t 8) (.c (.int .i64 1))) <|
  .o none (.mv 3 (.t 9)) .nil)))) <| .seq (.rg (.o none (.mv 2 (.c (.bool true))) .nil)) <| .ret⟩
theorem Q93 : Qd Tryz.prog Tryz.f121 = some Q5h := by kernel_rfl
def c52 : SFn := ⟨72, [.t 8], .seq (.rg (.o none (.mv 8 (.c (.bool false))) .nil)) <| .seq (.seq (.rg (.o none (.mv 11 (.t 0)) <|
  .o none (.len 12 (.t 11)) <|
  .o none (.mv 13 (.t 1)) <|
  .o none (.bin 14 .gtr false (.t 12) (.t 13)) .nil)) <| .cond (.t 14) (.seq (.rg (.o none (.mv 8 (.c (.bool false))) .nil)) <| .ret) (.skip)) <| .seq (.seq (.rg (.o none (.mv 9 (.c (.int .i64 0))) .nil)) <| .block 0 (.loop (.seq (.seq (.rg (.o none (.mv 15 (.t 9)) <|
  .o none (.mv 16 (.t 0)) <|
  .o none (.len 17 (.t 16)) <|
  .o none (.bin 18 .lss false (.t 15) (.t 17)) .nil)) <| .cond (.t 18) (.skip) (.exit 0)) <| .seq (.block 1 (.seq (.seq (.rg (.o none (.mv 21 (.t 0)) <|
  .o none (.mv 22 (.t 9)) <|
  .o none (.idx 23 4 (.t 21) (.t 22)) <|
  .o none (.fld 24 3 (.t 23)) <|
  .o none (.ld 25 1 false (.t 24)) <|
  .o none (.len 26 (.t 25)) <|
  .o none (.mv 27 (.t 2)) <|
  .o none (.bin 28 .gtr false (.t 26) (.t 27)) <|
  .o none (.mv 29 (.t 28)) <|
  .o (some (29, false)) (.mv 30 (.t 0)) <|
  .o (some (29, false)) (.mv 31 (.t 9)) <|
  .o (some (29, false)) (.idx 32 4 (.t 30) (.t 31)) <|
  .o (some (29, false)) (.fld 33 0 (.t 32)) <|
  .o (some (29, false)) (.fld 34 0 (.t 33)) <|
  .o (some (29, false)) (.fld 35 1 (.t 34)) <|
  .o (some (29, false)) (.ld 36 1 false (.t 35)) <|
  .o (some (29, false)) (.len 37 (.t 36)) <|
  .o (some (29, false)) (.bin 38 .gtr false (.t 37) (.c (.int .i64 4))) <|
  .o none (.pick 39 (.t 29) (.c (.bool true)) (.t 38)) <|
  .o none (.mv 40 (.t 39)) <|
  .o (some (40, false)) (.mv 41 (.t 0)) <|
  .o (some (40, false)) (.mv 42 (.t 9)) <|
  .o (some (40, false)) (.idx 43 4 (.t 41) (.t 42)) <|
  .o (some (40, false)) (.fld 44 0 (.t 43)) <|
  .o (some (40, false)) (.fld 45 2 (.t 44)) <|
  .o (some (40, false)) (.ld 46 1 false (.t 45)) <|
  .o (some (40, false)) (.len 47 (.t 46)) <|
  .o (some (40, false)) (.bin 48 .gtr false (.t 47) (.c (.int .i64 4))) <|
  .o none (.pick 49 (.t 40) (.c (.bool true)) (.t 48)) .nil)) <| .cond (.t 49) (.seq (.rg (.o none (.mv 8 (.c (.bool false))) .nil)) <| .ret) (.skip)) <| .seq (.rg (.o none (.mv 10 (.c (.int .i64 0))) .nil)) <| .block 2 (.loop (.seq (.seq (.rg (.o none (.mv 50 (.t 10)) <|
  .o none (.mv 51 (.t 0)) <|
  .o none (.mv 52 (.t 9)) <|
  .o none (.idx 53 4 (.t 51) (.t 52)) <|
  .o none (.fld 54 3 (.t 53)) <|
  .o none (.ld 55 1 false (.t 54)) <|
  .o none (.len 56 (.t 55)) <|
  .o none (.bin 57 .lss false (.t 50) (.t 56)) .nil)) <| .cond (.t 57) (.skip) (.exit 2)) <| .seq (.block 3 (.seq (.rg (.o none (.mv 60 (.t 0)) <|
  .o none (.mv 61 (.t 9)) <|
  .o none (.idx 62 4 (.t 60) (.t 61)) <|
  .o none (.fld 63 3 (.t 62)) <|
  .o none (.ld 64 1 false (.t 63)) <|
  .o none (.mv 65 (.t 10)) <|
  .o none (.idx 66 1 (.t 64) (.t 65)) <|
  .o none (.ld 67 1 false (.t 66)) <|
  .o none (.mv 68 (.t 3)) <|
  .o none (.bin 69 .gtr false (.t 67) (.t 68)) .nil)) <| .cond (.t 69) (.seq (.rg (.o none (.mv 8 (.c (.bool false))) .nil)) <| .ret) (.skip))) <| .rg (.o none (.mv 58 (.t 10)) <|
  .o none (.bin 59 .add false (.t 58) (.c (.int .i64 1))) <|
  .o none (.mv 10 (.t 59)) .nil))))) <| .rg (.o none (.mv 19 (.t 9)) <|
  .o none (.bin 20 .add false (.t 19) (.c (.int .i64 1))) <|
  .o none (.mv 9 (.t 20)) .nil)))) <| .seq (.rg (.o none (.mv 70 (.t 0)) <|
  .o none (.call (some 71) false (.c (.fn 121 [] [])) [(.t 70)]) <|
  .o none (.mv 8 (.t 71)) .nil)) <| .ret⟩
theorem Qada : Qd Tryz.prog Tryz.f52 = some c52 := by kernel_rfl
def Q5i : SFn := ⟨88, [.t 6], .seq (.rg (.o none (.box 4 3 32 (.t 1)) <|
  .o none (.mv 6 (.c .nilS)) .nil)) <| .seq (.rg (.o none (.mv 10 (.t 0)) <|
  .o none (.len 11 (.t 10)) <|
  .o none (.mv 7 (.t 11)) .nil)) <| .seq (.block 0 (.loop (.seq (.seq (.rg (.o none (.mv 12 (.t 7)) <|
  .o none (.bin 13 .gtr false (.t 12) (.c (.int .i64 0))) <|
  .o none (.mv 14 (.t 13)) <|
  .o (some (14, true)) (.mv 15 (.t 0)) <|
  .o (some (14, true)) (.mv 16 (.t 7)) <|
  .o (some (14, true)) (.bin 17 .sub false (.t 16) (.c (.int .i64 1))) <|
  .o (some (14, true)) (.idx 18 4 (.t 15) (.t 17)) <|
  .o (some (14, true)) (.fld 19 3 (.t 18)) <|
  .o (some (14, true)) (.ld 20 1 false (.t 19)) <|
  .o (some (14, true)) (.mv 21 (.t 2)) <|
  .o (some (14, true)) (.call (some 22) false (.c (.fn 180 [] [])) [(.t 20), (.t 21), (.c (.int .i64 0))]) <|
  .o (some (14, true)) (.bin 23 .lss false (.t 22) (.c (.int .i64 0))) <|
  .o none (.pick 24 (.t 14) (.t 23) (.c (.bool false))) .nil)) <| .cond (.t 24) (.skip) (.exit 0)) <| .block 1 (.rg (.o none (.mv 25 (.t 7)) <|
  .o none (.bin 26 .sub false (.t 25) (.c (.int .i64 1))) <|
  .o none (.mv 7 (.t 26)) .nil))))) <| .seq (.rg (.o none (.mv 8 (.c .nilS)) .nil)) <| .seq (.seq (.rg (.o none (.mv 27 (.t 7)) <|
  .o none (.bin 28 .gtr false (.t 27) (.c (.int .i64 0))) <|
  .o none (.mv 29 (.t 28)) <|
  .o (some (29, true)) (.mv 30 (.t 0)) <|
  .o (some (29, true)) (.mv 31 (.t 7)) <|
  .o (some (29, true)) (.bin 32 .sub false (.t 31) (.c (.int .i64 1))) <|
  .o (some (29, true)) (.idx 33 4 (.t 30) (.t 32)) <|
  .o (some (29, true)) (.fld 34 3 (.t 33)) <|
  .o (some (29, true)) (.ld 35 1 false (.t 34)) <|
  .o (some (29, true)) (.mv 36 (.t 2)) <|
  .o (some (29, true)) (.call (some 37) false (.c (.fn 180 [] [])) [(.t 35), (.t 36), (.c (.int .i64 0))]) <|
  .o (some (29, true)) (.bin 38 .eql false (.t 37) (.c (.int .i64 0))) <|
  .o none (.pick 39 (.t 29) (.t 38) (.c (.bool false))) .nil)) <| .cond (.t 39) (.seq (.rg (.o none (.mv 40 (.t 8)) <|
  .o none (.mv 41 (.t 0)) <|
  .o none (.mv 42 (.t 7)) <|
  .o none (.bin 43 .sub false (.t 42) (.c (.int .i64 1))) <|
  .o none (.sl 44 4 (.t 41) none (some (.t 43)) none) <|
  .o none (.app 45 4 80 133 (.t 40) (.t 44)) <|
  .o none (.mv 8 (.t 45)) .nil)) <| .seq (.seq (.rg (.o none (.mv 46 (.t 0)) <|
  .o none (.mv 47 (.t 7)) <|
  .o none (.bin 48 .sub false (.t 47) (.c (.int .i64 1))) <|
  .o none (.idx 49 4 (.t 46) (.t 48)) <|
  .o none (.fld 50 0 (.t 49)) <|
  .o none (.ld 51 3 true (.t 50)) <|
  .o none (.ld 52 3 true (.t 4)) <|
  .br (.o none (.call (some 53) true (.c (.fn 101 [] [])) [(.t 51), (.t 52)]) <|
  .o none (.alloc 9 3 32 (.agg [(.bool false), .nilS, .nilS])) <|
  .o none (.st 3 (.t 9) (.t 53)) .nil) (.o none (.alloc 9 3 32 (.agg [(.bool false), .nilS, .nilS])) <|
  .o none (.call (some 53) true (.c (.fn 101 [] [])) [(.t 51), (.t 52)]) <|
  .o none (.st 3 (.t 9) (.t 53)) .nil))) <| .seq (.rg (.o none (.ld 54 3 true (.t 9)) <|
  .o none (.call (some 55) false (.c (.fn 81 [] [])) [(.t 54)]) <|
  .o none (.bin 56 .neq false (.t 55) (.c (.int .i64 0))) .nil)) <| .cond (.t 56) (.rg (.o none (.mv 57 (.t 8)) <|
  .o none (.ld 58 3 true (.t 9)) <|
  .o none (.mv 59 (.t 2)) <|
  .o none (.bld 60 [(.bool false), .nilS, .nilS, .nilS] [(0, 3, (.t 58)), (3, 1, (.t 59))]) <|
  .o none (.bs 61 4 133 [(.t 60)]) <|
  .o none (.app 62 4 80 133 (.t 57) (.t 61)) <|
  .o none (.mv 8 (.t 62)) .nil)) (.skip)) <| .seq (.rg (.o none (.mv 63 (.t 8)) <|
  .o none (.mv 64 (.t 0)) <|
  .o none (.mv 65 (.t 7)) <|
  .o none (.sl 66 4 (.t 64) (some (.t 65)) none none) <|
  .o none (.app 67 4 80 133 (.t 63) (.t 66)) <|
  .o none (.mv 6 (.t 67)) .nil)) <| .ret) (.skip)) <| .seq (.rg (.o none (.mv 68 (.t 8)) <|
  .o none (.mv 69 (.t 0)) <|
  .o none (.mv 70 (.t 7)) <|
  .o none (.sl 71 4 (.t 69) none (some (.t 70)) none) <|
  .o none (.app 72 4 80 133 (.t 68) (.t 71)) <|
  .o none (.mv 8 (.t 72)) .nil)) <| .seq (.seq (.rg (.o none (.ld 73 3 true (.t 4)) <|
  .o none (.call (some 74) false (.c (.fn 81 [] [])) [(.t 73)]) <|
  .o none (.bin 75 .neq false (.t 74) (.c (.int .i64 0))) .nil)) <| .cond (.t 75) (.rg (.o none (.mv 76 (.t 8)) <|
  .o none (.ld 77 3 true (.t 4)) <|
  .o none (.call (some 78) false (.c (.fn 157 [] [])) [(.t 77)]) <|
  .o none (.mv 79 (.t 2)) <|
  .o none (.bld 80 [(.bool false), .nilS, .nilS, .nilS] [(0, 3, (.t 78)), (3, 1, (.t 79))]) <|
  .o none (.bs 81 4 133 [(.t 80)]) <|
  .o none (.app 82 4 80 133 (.t 76) (.t 81)) <|
  .o none (.mv 8 (.t 82)) .nil)) (.skip)) <| .seq (.rg (.o none (.mv 83 (.t 8)) <|
  .o none (.mv 84 (.t 0)) <|
  .o none (.mv 85 (.t 7)) <|
  .o none (.sl 86 4 (.t 84) (some (.t 85)) none none) <|
  .o none (.app 87 4 80 133 (.t 83) (.t 86)) <|
  .o none (.mv 6 (.t 87)) .nil)) <| .ret⟩
theorem Q94 : Qd Tryz.prog Tryz.f185 = some Q5i := by kernel_rfl
def Q5j : SFn := ⟨20, [.t 4], .seq (.rg (.o none (.mv 4 (.c (.bool false))) .nil)) <| .seq (.seq (.rg (.o none (.mv 5 (.c (.int .i64 0))) .nil)) <| .block 0 (.loop (.seq (.seq (.rg (.o none (.mv 6 (.t 5)) <|
  .o none (.mv 7 (.t 0)) <|
  .o none (.len 8 (.t 7)) <|
  .o none (.bin 9 .lss false (.t 6) (.t 8)) .nil)) <| .cond (.t 9) (.skip) (.exit 0)) <| .seq (.block 1 (.seq (.rg (.o none (.mv 12 (.t 0)) <|
  .o none (.mv 13 (.t 5)) <|
  .o none (.idx 14 1 (.t 12) (.t 13)) <|
  .o none (.ld 15 1 false (.t 14)) <|
  .o none (.mv 16 (.t 1)) <|
  .o none (.mv 17 (.t 5)) <|
  .o none (.call (some 18) true (.c (.fn 131 [] [])) [(.t 16), (.t 17)]) <|
  .o none (.bin 19 .neq false (.t 15) (.t 18)) .nil)) <| .cond (.t 19) (.seq (.rg (.o none (.mv 4 (.c (.bool false))) .nil)) <| .ret) (.skip))) <| .rg (.o none (.mv 10 (.t 5)) <|
  .o none (.bin 11 .add false (.t 10) (.c (.int .i64 1))) <|
  .o none (.mv 5 (.t 11)) .nil)))) <| .seq (.rg (.o none (.mv 4 (.c (.bool true))) .nil)) <| .ret⟩
theorem Q95 : Qd Tryz.prog Tryz.f184 = some Q5j := by kernel_rfl
end Go.Proofs.YtmnkngmmfnncoaaGreat
namespace Go.Proofs.YtmnkngmmfnncoaaGreat
open Go Go.FW
set_option maxRecDepth 100000
def c54 : SFn := ⟨19, [.t 2], .seq (.rg (.o none (.mv 2 (.c (.int .i64 0))) .nil)) <| .seq (.rg (.o none (.mv 3 (.c (.int .i64 (-1)))) .nil)) <| .seq (.seq (.rg (.o none (.mv 6 (.t 0)) <|
  .o none (.len 7 (.t 6)) <|
  .o none (.mv 8 (.c (.int .i64 0))) .nil)) <| .block 0 (.loop (.seq (.rg (.o none (.bin 9 .lss false (.t 8) (.t 7)) .nil)) <| .seq (.cond (.t 9) (.skip) (.exit 0)) <| .seq (.block 1 (.seq (.rg (.o none (.idx 10 4 (.t 6) (.t 8)) <|
  .o none (.ld 11 4 true (.t 10)) <|
  .o none (.alloc 5 4 133 (.agg [(.bool false), .nilS, .nilS, .nilS])) <|
  .o none (.st 4 (.t 5) (.t 11)) .nil)) <| .rg (.o none (.mv 12 (.t 3)) <|
  .o none (.fld 13 3 (.t 5)) <|
  .o none (.ld 14 1 false (.t 13)) <|
  .o none (.call (some 15) false (.c (.fn 128 [] [])) [(.t 14)]) <|
  .o none (.mx 16 (.t 12) (.t 15)) <|
  .o none (.mv 3 (.t 16)) .nil))) <| .rg (.o none (.bin 17 .add false (.t 8) (.c (.int .i64 1))) <|
  .o none (.mv 8 (.t 17)) .nil)))) <| .seq (.rg (.o none (.mv 18 (.t 3)) <|
  .o none (.mv 2 (.t 18)) .nil)) <| .ret⟩
theorem Qadb : Qd Tryz.prog Tryz.f54 = some c54 := by kernel_rfl
def c56 : SFn := ⟨22, [.t 4], .seq (.rg (.o none (.mv 4 (.c (.int .i64 0))) .nil)) <| .seq (.rg (.o none (.mv 5 (.c (.int .i64 (-1)))) .nil)) <| .seq (.seq (.rg (.o none (.mv 8 (.t 0)) <|
  .o none (.len 9 (.t 8)) <|
  .o none (.mv 10 (.c (.int .i64 0))) .nil)) <| .block 0 (.loop (.seq (.rg (.o none (.bin 11 .lss false (.t 10) (.t 9)) .nil)) <| .seq (.cond (.t 11) (.skip) (.exit 0)) <| .seq (.block 1 (.seq (.rg (.o none (.idx 12 4 (.t 8) (.t 10)) <|
  .o none (.ld 13 4 true (.t 12)) <|
  .o none (.alloc 7 4 133 (.agg [(.bool false), .nilS, .nilS, .nilS])) <|
  .o none (.st 4 (.t 7) (.t 13)) .nil)) <| .rg (.o none (.mv 14 (.t 5)) <|
  .o none (.fld 15 3 (.t 7)) <|
  .o none (.ld 16 1 false (.t 15)) <|
  .o none (.mv 17 (.t 1)) <|
  .o none (.call (some 18) false (.c (.fn 130 [] [])) [(.t 16), (.t 17)]) <|
  .o none (.mx 19 (.t 14) (.t 18)) <|
  .o none (.mv 5 (.t 19)) .nil))) <| .rg (.o none (.bin 20 .add false (.t 10) (.c (.int .i64 1))) <|
  .o none (.mv 10 (.t 20)) .nil)))) <| .seq (.rg (.o none (.mv 21 (.t 5)) <|
  .o none (.mv 4 (.t 21)) .nil)) <| .ret⟩
theorem Qadc : Qd Tryz.prog Tryz.f56 = some c56 := by kernel_rfl
def Q5k : SFn := ⟨35, [.t 4], .seq (.rg (.o none (.mv 4 (.c .nilS)) .nil)) <| .seq (.seq (.rg (.o none (.mv 7 (.t 0)) <|
  .o none (.mv 8 (.t 1)) <|
  .o none (.call (some 9) false (.c (.fn 130 [] [])) [(.t 7), (.t 8)]) <|
  .o none (.bin 10 .eql false (.t 9) (.c (.int .i64 0))) .nil)) <| .cond (.t 10) (.seq (.rg (.o none (.mv 11 (.t 0)) <|
  .o none (.mv 4 (.t 11)) .nil)) <| .ret) (.skip)) <| .seq (.rg (.o none (.mv 12 (.t 0)) <|
  .o none (.app 13 1 8 3 (.c .nilS) (.t 12)) <|
  .o none (.mv 5 (.t 13)) .nil)) <| .seq (.rg (.o none (.mv 14 (.t 5)) <|
  .o none (.mv 15 (.t 1)) <|
  .o none (.idx 16 1 (.t 14) (.t 15)) <|
  .o none (.st 1 (.t 16) (.c (.int .i64 0))) .nil)) <| .seq (.rg (.o none (.mv 17 (.t 5)) <|
  .o none (.len 18 (.t 17)) <|
  .o none (.mv 6 (.t 18)) .nil)) <| .seq (.block 0 (.loop (.seq (.seq (.rg (.o none (.mv 19 (.t 6)) <|
  .o none (.bin 20 .gtr false (.t 19) (.c (.int .i64 0))) <|
  .o none (.mv 21 (.t 20)) <|
  .o (some (21, true)) (.mv 22 (.t 5)) <|
  .o (some (21, true)) (.mv 23 (.t 6)) <|
  .o (some (21, true)) (.bin 24 .sub false (.t 23) (.c (.int .i64 1))) <|
  .o (some (21, true)) (.idx 25 1 (.t 22) (.t 24)) <|
  .o (some (21, true)) (.ld 26 1 false (.t 25)) <|
  .o (some (21, true)) (.bin 27 .eql false (.t 26) (.c (.int .i64 0))) <|
  .o none (.pick 28 (.t 21) (.t 27) (.c (.bool false))) .nil)) <| .cond (.t 28) (.skip) (.exit 0)) <| .block 1 (.rg (.o none (.mv 29 (.t 6)) <|
  .o none (.bin 30 .sub false (.t 29) (.c (.int .i64 1))) <|
  .o none (.mv 6 (.t 30)) .nil))))) <| .seq (.rg (.o none (.mv 31 (.t 5)) <|
  .o none (.mv 32 (.t 6)) <|
  .o none (.mv 33 (.t 6)) <|
  .o none (.sl 34 1 (.t 31) none (some (.t 32)) (some (.t 33))) <|
  .o none (.mv 4 (.t 34)) .nil)) <| .ret⟩
theorem Q96 : Qd Tryz.prog Tryz.f132 = some Q5k := by kernel_rfl
def Q5l : SFn := ⟨34, [.t 6], .seq (.rg (.o none (.mv 6 (.c .nilS)) .nil)) <| .seq (.rg (.o none (.mv 7 (.c .nilS)) .nil)) <| .seq (.seq (.rg (.o none (.mv 10 (.t 0)) <|
  .o none (.len 11 (.t 10)) <|
  .o none (.mv 12 (.c (.int .i64 0))) .nil)) <| .block 0 (.loop (.seq (.rg (.o none (.bin 13 .lss false (.t 12) (.t 11)) .nil)) <| .seq (.cond (.t 13) (.skip) (.exit 0)) <| .seq (.block 1 (.seq (.rg (.o none (.idx 14 4 (.t 10) (.t 12)) <|
  .o none (.ld 15 4 true (.t 14)) <|
  .o none (.alloc 9 4 133 (.agg [(.bool false), .nilS, .nilS, .nilS])) <|
  .o none (.st 4 (.t 9) (.t 15)) .nil)) <| .seq (.rg (.o none (.fld 16 3 (.t 9)) <|
  .o none (.ld 17 1 false (.t 16)) <|
  .o none (.mv 18 (.t 1)) <|
  .o none (.call (some 19) false (.c (.fn 130 [] [])) [(.t 17), (.t 18)]) <|
  .o none (.mv 20 (.t 2)) <|
  .o none (.bin 21 .eql false (.t 19) (.t 20)) .nil)) <| .cond (.t 21) (.rg (.o none (.mv 22 (.t 7)) <|
  .o none (.fld 23 0 (.t 9)) <|
  .o none (.ld 24 3 true (.t 23)) <|
  .o none (.fld 25 3 (.t 9)) <|
  .o none (.ld 26 1 false (.t 25)) <|
  .o none (.mv 27 (.t 1)) <|
  .o none (.call (some 28) true (.c (.fn 132 [] [])) [(.t 26), (.t 27)]) <|
  .o none (.bld 29 [(.bool false), .nilS, .nilS, .nilS] [(0, 3, (.t 24)), (3, 1, (.t 28))]) <|
  .o none (.bs 30 4 133 [(.t 29)]) <|
  .o none (.app 31 4 80 133 (.t 22) (.t 30)) <|
  .o none (.mv 7 (.t 31)) .nil)) (.skip))) <| .rg (.o none (.bin 32 .add false (.t 12) (.c (.int .i64 1))) <|
  .o none (.mv 12 (.t 32)) .nil)))) <| .seq (.rg (.o none (.mv 33 (.t 7)) <|
  .o none (.mv 6 (.t 33)) .nil)) <| .ret⟩
theorem Q97 : Qd Tryz.prog Tryz.f135 = some Q5l := by kernel_rfl
def c59 : SFn := ⟨43, [.t 4], .seq (.rg (.o none (.mv 4 (.c .nilS)) .nil)) <| .seq (.rg (.o none (.mv 9 (.t 0)) <|
  .o none (.mv 10 (.t 1)) <|
  .o none (.call (some 11) false (.c (.fn 56 [] [])) [(.t 9), (.t 10)]) <|
  .o none (.bin 12 .add false (.t 11) (.c (.int .i64 1))) <|
  .o none (.mk 13 1 24 65 .nilS (.t 12) (.t 12)) <|
  .o none (.mv 5 (.t 13)) .nil)) <| .seq (.seq (.rg (.o none (.mv 14 (.t 0)) <|
  .o none (.len 15 (.t 14)) <|
  .o none (.mv 16 (.c (.int .i64 0))) .nil)) <| .block 0 (.loop (.seq (.rg (.o none (.bin 17 .lss false (.t 16) (.t 15)) .nil)) <| .seq (.cond (.t 17) (.skip) (.exit 0)) <| .seq (.block 1 (.seq (.rg (.o none (.idx 18 4 (.t 14) (.t 16)) <|
  .o none (.ld 19 4 true (.t 18)) <|
  .o none (.alloc 7 4 133 (.agg [(.bool false), .nilS, .nilS, .nilS])) <|
  .o none (.st 4 (.t 7) (.t 19)) .nil)) <| .seq (.rg (.o none (.fld 20 3 (.t 7)) <|
  .o none (.ld 21 1 false (.t 20)) <|
  .o none (.mv 22 (.t 1)) <|
  .o none (.call (some 23) false (.c (.fn 130 [] [])) [(.t 21), (.t 22)]) <|
  .o none (.mx 24 (.t 23) (.c (.int .i64 0))) <|
  .o none (.mv 8 (.t 24)) .nil)) <| .rg (.o none (.mv 25 (.t 5)) <|
  .o none (.mv 26 (.t 8)) <|
  .o none (.mv 27 (.t 5)) <|
  .o none (.mv 28 (.t 8)) <|
  .o none (.idx 29 1 (.t 27) (.t 28)) <|
  .o none (.ld 30 1 false (.t 29)) <|
  .o none (.fld 31 0 (.t 7)) <|
  .o none (.ld 32 3 true (.t 31)) <|
  .o none (.fld 33 3 (.t 7)) <|
  .o none (.ld 34 1 false (.t 33)) <|
  .o none (.mv 35 (.t 1)) <|
  .o none (.call (some 36) true (.c (.fn 132 [] [])) [(.t 34), (.t 35)]) <|
  .o none (.bld 37 [(.bool false), .nilS, .nilS, .nilS] [(0, 3, (.t 32)), (3, 1, (.t 36))]) <|
  .o none (.bs 38 4 133 [(.t 37)]) <|
  .o none (.app 39 4 80 133 (.t 30) (.t 38)) <|
  .o none (.idx 40 1 (.t 25) (.t 26)) <|
  .o none (.st 1 (.t 40) (.t 39)) .nil))) <| .rg (.o none (.bin 41 .add false (.t 16) (.c (.int .i64 1))) <|
  .o none (.mv 16 (.t 41)) .nil)))) <| .seq (.rg (.o none (.mv 42 (.t 5)) <|
  .o none (.mv 4 (.t 42)) .nil)) <| .ret⟩
theorem Qadd : Qd Tryz.prog Tryz.f59 = some c59 := by kernel_rfl
def c62 : SFn := ⟨15, [.t 2], .seq (.rg (.o none (.mv 2 (.c .nilS)) .nil)) <| .seq (.rg (.o none (.mv 4 (.t 0)) <|
  .o none (.call (some 5) false (.c (.fn 54 [] [])) [(.t 4)]) <|
  .o none (.mv 3 (.t 5)) .nil)) <| .seq (.seq (.rg (.o none (.mv 6 (.t 3)) <|
  .o none (.bin 7 .lss false (.t 6) (.c (.int .i64 0))) .nil)) <| .cond (.t 7) (.seq (.rg (.o none (.mv 8 (.t 0)) <|
  .o none (.mv 2 (.t 8)) .nil)) <| .ret) (.skip)) <| .seq (.rg (.o none (.mv 9 (.t 0)) <|
  .o none (.mv 10 (.t 3)) <|
  .o none (.mv 11 (.t 0)) <|
  .o none (.mv 12 (.t 3)) <|
  .o none (.call (some 13) false (.c (.fn 56 [] [])) [(.t 11), (.t 12)]) <|
  .o none (.call (some 14) false (.c (.fn 135 [] [])) [(.t 9), (.t 10), (.t 13)]) <|
  .o none (.mv 2 (.t 14)) .nil)) <| .ret⟩
theorem Qade : Qd Tryz.prog Tryz.f62 = some c62 := by kernel_rfl
def c67 : SFn := ⟨78, [.t 4, .t 5], .seq (.rg (.o none (.mv 4 (.c .nilS)) <|
  .o none (.mv 5 (.c (.bool false))) .nil)) <| .seq (.seq (.rg (.o none (.mv 13 (.t 1)) <|
  .o none (.len 14 (.t 13)) <|
  .o none (.bin 15 .eql false (.t 14) (.c (.int .i64 0))) .nil)) <| .cond (.t 15) (.seq (.rg (.o none (.mv 4 (.c .nilS)) <|
  .o none (.mv 5 (.c (.bool false))) .nil)) <| .ret) (.skip)) <| .seq (.rg (.o none (.mv 6 (.c .nilS)) .nil)) <| .seq (.block 0 (.loop (.seq (.seq (.rg (.o none (.mv 16 (.t 0)) <|
  .o none (.len 17 (.t 16)) <|
  .o none (.bin 18 .gtr false (.t 17) (.c (.int .i64 0))) .nil)) <| .cond (.t 18) (.skip) (.exit 0)) <| .block 1 (.seq (.rg (.o none (.mv 20 (.t 0)) <|
  .o none (.idx 21 4 (.t 20) (.c (.int .i64 0))) <|
  .o none (.fld 22 3 (.t 21)) <|
  .o none (.ld 23 1 false (.t 22)) <|
  .o none (.mv 24 (.t 1)) <|
  .o none (.idx 25 4 (.t 24) (.c (.int .i64 0))) <|
  .o none (.fld 26 3 (.t 25)) <|
  .o none (.ld 27 1 false (.t 26)) <|
  .o none (.call (some 28) false (.c (.fn 138 [] [])) [(.t 23), (.t 27)]) <|
  .o none (.mv 19 (.t 28)) <|
  .o none (.ext 29 (.t 19) 0) <|
  .o none (.ext 30 (.t 19) 1) <|
  .o none (.mv 7 (.t 29)) <|
  .o none (.mv 8 (.t 30)) .nil)) <| .seq (.rg (.o none (.mv 32 (.t 0)) <|
  .o none (.idx 33 4 (.t 32) (.c (.int .i64 0))) <|
  .o none (.fld 34 0 (.t 33)) <|
  .o none (.ld 35 3 true (.t 34)) <|
  .o none (.mv 36 (.t 1)) <|
  .o none (.idx 37 4 (.t 36) (.c (.int .i64 0))) <|
  .o none (.fld 38 0 (.t 37)) <|
  .o none (.ld 39 3 true (.t 38)) <|
  .br (.o none (.call (some 40) true (.c (.fn 139 [] [])) [(.t 35), (.t 39)]) <|
  .o none (.mv 31 (.t 40)) <|
  .o none (.ext 41 (.t 31) 0) <|
  .o none (.ext 42 (.t 31) 1) <|
  .o none (.alloc 9 3 32 (.agg [(.bool false), .nilS, .nilS])) <|
  .o none (.st 3 (.t 9) (.t 41)) <|
  .o none (.mv 10 (.t 42)) .nil) (.o none (.alloc 9 3 32 (.agg [(.bool false), .nilS, .nilS])) <|
  .o none (.call (some 40) true (.c (.fn 139 [] [])) [(.t 35), (.t 39)]) <|
  .o none (.mv 31 (.t 40)) <|
  .o none (.ext 41 (.t 31) 0) <|
  .o none (.ext 42 (.t 31) 1) <|
  .o none (.st 3 (.t 9) (.t 41)) <|
  .o none (.mv 10 (.t 42)) .nil))) <| .seq (.seq (.rg (.o none (.mv 43 (.t 8)) <|
  .o none (.un 44 .not (.t 43)) <|
  .o none (.mv 45 (.t 44)) <|
  .o (some (45, false)) (.mv 46 (.t 10)) <|
  .o (some (45, false)) (.bin 47 .neq false (.t 46) (.c (.int .i64 0))) <|
  .o none (.pick 48 (.t 45) (.c (.bool true)) (.t 47)) .nil)) <| .cond (.t 48) (.seq (.rg (.o none (.mv 4 (.c .nilS)) <|
  .o none (.mv 5 (.c (.bool false))) .nil)) <| .ret) (.skip)) <| .seq (.rg (.o none (.ld 49 3 true (.t 9)) <|
  .o none (.mv 50 (.t 7)) <|
  .o none (.bld 51 [(.bool false), .nilS, .nilS, .nilS] [(0, 3, (.t 49)), (3, 1, (.t 50))]) <|
  .o none (.bs 52 4 133 [(.t 51)]) <|
  .o none (.mv 11 (.t 52)) .nil)) <| .seq (.rg (.o none (.mv 53 (.t 6)) <|
  .o none (.mv 54 (.t 11)) <|
  .o none (.app 55 4 80 133 (.t 53) (.t 54)) <|
  .o none (.mv 6 (.t 55)) .nil)) <| .seq (.rg (.o none (.mv 56 (.t 0)) <|
  .o none (.idx 57 4 (.t 56) (.c (.int .i64 0))) <|
  .o none (.fld 58 3 (.t 57)) <|
  .o none (.ld 59 1 false (.t 58)) <|
  .o none (.mv 12 (.t 59)) .nil)) <| .seq (.rg (.o none (.mv 60 (.t 0)) <|
  .o none (.mv 61 (.t 11)) <|
  .o none (.mv 62 (.t 1)) <|
  .o none (.call (some 63) false (.c (.fn 68 [] [])) [(.t 61), (.t 62)]) <|
  .o none (.call (some 64) false (.c (.fn 124 [] [])) [(.t 60), (.t 63)]) <|
  .o none (.mv 0 (.t 64)) .nil)) <| .seq (.rg (.o none (.mv 65 (.t 0)) <|
  .o none (.len 66 (.t 65)) <|
  .o none (.bin 67 .gtr false (.t 66) (.c (.int .i64 0))) <|
  .o none (.mv 68 (.t 67)) <|
  .o (some (68, true)) (.mv 69 (.t 0)) <|
  .o (some (68, true)) (.idx 70 4 (.t 69) (.c (.int .i64 0))) <|
  .o (some (68, true)) (.fld 71 3 (.t 70)) <|
  .o (some (68, true)) (.ld 72 1 false (.t 71)) <|
  .o (some (68, true)) (.mv 73 (.t 12)) <|
  .o (some (68, true)) (.call (some 74) false (.c (.fn 140 [] [])) [(.t 72), (.t 73), (.c (.int .i64 0))]) <|
  .o (some (68, true)) (.bin 75 .geq false (.t 74) (.c (.int .i64 0))) <|
  .o none (.pick 76 (.t 68) (.t 75) (.c (.bool false))) .nil)) <| .cond (.t 76) (.seq (.rg (.o none (.mv 4 (.c .nilS)) <|
  .o none (.mv 5 (.c (.bool false))) .nil)) <| .ret) (.skip))))) <| .seq (.rg (.o none (.mv 77 (.t 6)) <|
  .o none (.mv 4 (.t 77)) <|
  .o none (.mv 5 (.c (.bool true))) .nil)) <| .ret⟩
theorem Qadf : Qd Tryz.prog Tryz.f67 = some c67 := by kernel_rfl
def c69 : SFn := ⟨67, [.t 2, .cell 3 3 true], .seq (.rg (.o none (.mv 2 (.c .nilS)) <|
  .o none (.alloc 3 3 32 (.agg [(.bool false), .nilS, .nilS])) .nil)) <| .seq (.seq (.rg (.o none (.mv 14 (.t 0)) <|
  .o none (.len 15 (.t 14)) <|
  .o none (.bin 16 .eql false (.t 15) (.c (.int .i64 0))) .nil)) <| .cond (.t 16) (.seq (.rg (.o none (.call (some 17) false (.c (.fn 79 [] [])) [(.c (.int .i64 1))]) <|
  .o none (.mv 2 (.c .nilS)) <|
  .o none (.st 3 (.t 3) (.t 17)) .nil)) <| .ret) (.skip)) <| .seq (.rg (.o none (.mv 4 (.c .nilS)) .nil)) <| .seq (.rg (.o none (.call (some 18) false (.c (.fn 143 [] [])) [(.c (.int .u64 1))]) <|
  .o none (.mv 5 (.t 18)) .nil)) <| .seq (.seq (.rg (.o none (.mv 19 (.t 0)) <|
  .o none (.len 20 (.t 19)) <|
  .o none (.mv 21 (.c (.int .i64 0))) .nil)) <| .block 0 (.loop (.seq (.rg (.o none (.bin 22 .lss false (.t 21) (.t 20)) .nil)) <| .seq (.cond (.t 22) (.skip) (.exit 0)) <| .seq (.block 1 (.seq (.rg (.o none (.idx 23 4 (.t 19) (.t 21)) <|
  .o none (.ld 24 4 true (.t 23)) <|
  .o none (.alloc 7 4 133 (.agg [(.bool false), .nilS, .nilS, .nilS])) <|
  .o none (.st 4 (.t 7) (.t 24)) .nil)) <| .seq (.rg (.o none (.mv 25 (.t 4)) <|
  .o none (.fld 26 0 (.t 7)) <|
  .o none (.fld 27 0 (.t 26)) <|
  .o none (.fld 28 1 (.t 27)) <|
  .o none (.ld 29 1 false (.t 28)) <|
  .o none (.call (some 30) false (.c (.fn 144 [] [])) [(.t 25), (.t 29)]) <|
  .o none (.mv 4 (.t 30)) .nil)) <| .seq (.rg (.o none (.mv 31 (.t 5)) <|
  .o none (.fld 32 0 (.t 7)) <|
  .o none (.fld 33 2 (.t 32)) <|
  .o none (.ld 34 1 false (.t 33)) <|
  .o none (.call (some 35) false (.c (.fn 144 [] [])) [(.t 31), (.t 34)]) <|
  .o none (.mv 8 (.t 35)) .nil)) <| .seq (.rg (.o none (.fld 37 0 (.t 7)) <|
  .o none (.fld 38 2 (.t 37)) <|
  .o none (.ld 39 1 false (.t 38)) <|
  .o none (.mv 40 (.t 8)) <|
  .o none (.call (some 41) false (.c (.fn 145 [] [])) [(.t 39), (.t 40)]) <|
  .o none (.mv 36 (.t 41)) <|
  .o none (.ext 42 (.t 36) 0) <|
  .o none (.ext 43 (.t 36) 1) <|
  .o none (.ext 44 (.t 36) 2) <|
  .o none (.mv 9 (.t 42)) <|
  .o none (.mv 10 (.t 43)) <|
  .o none (.mv 11 (.t 44)) .nil)) <| .rg (.o none (.mv 45 (.t 5)) <|
  .o none (.mv 46 (.t 9)) <|
  .o none (.call (some 47) false (.c (.fn 114 [] [])) [(.t 45), (.t 46)]) <|
  .o none (.mv 5 (.t 47)) .nil))) <| .rg (.o none (.bin 48 .add false (.t 21) (.c (.int .i64 1))) <|
  .o none (.mv 21 (.t 48)) .nil)))) <| .seq (.rg (.o none (.mv 50 (.t 0)) <|
  .o none (.idx 51 4 (.t 50) (.c (.int .i64 0))) <|
  .o none (.fld 52 0 (.t 51)) <|
  .o none (.ld 53 3 true (.t 52)) <|
  .o none (.call (some 54) false (.c (.fn 36 [] [])) [(.t 53)]) <|
  .o none (.bin 55 .lss false (.t 54) (.c (.int .i64 0))) <|
  .o none (.mv 56 (.t 5)) <|
  .o none (.bld 57 [(.bool false), .nilS] [(0, 1, (.t 55)), (1, 1, (.t 56))]) <|
  .o none (.mv 58 (.t 4)) <|
  .o none (.bld 59 [(.bool false), .nilS] [(1, 1, (.t 58))]) <|
  .o none (.call (some 60) false (.c (.fn 146 [] [])) [(.t 57), (.t 59)]) <|
  .o none (.mv 49 (.t 60)) <|
  .o none (.ext 61 (.t 49) 0) <|
  .o none (.ext 62 (.t 49) 1) <|
  .o none (.alloc 12 3 32 (.agg [(.bool false), .nilS, .nilS])) <|
  .o none (.st 3 (.t 12) (.t 61)) <|
  .o none (.mv 13 (.t 62)) .nil)) <| .seq (.rg (.o none (.mv 63 (.t 0)) <|
  .o none (.ld 64 3 true (.t 12)) <|
  .o none (.ld 66 3 true (.t 12)) <|
  .o none (.call (some 65) true (.c (.fn 70 [] [])) [(.t 63), (.t 64)]) <|
  .o none (.mv 2 (.t 65)) <|
  .o none (.st 3 (.t 3) (.t 66)) .nil)) <| .ret⟩
theorem Qadg : Qd Tryz.prog Tryz.f69 = some c69 := by kernel_rfl
def c55 : SFn := ⟨11, [.t 2], .seq (.rg (.o none (.mv 2 (.c (.int .i64 0))) .nil)) <| .seq (.seq (.rg (.o none (.mv 3 (.t 0)) <|
  .o none (.len 4 (.t 3)) <|
  .o none (.bin 5 .eql false (.t 4) (.c (.int .i64 0))) .nil)) <| .cond (.t 5) (.seq (.rg (.o none (.mv 2 (.c (.int .i64 (-1)))) .nil)) <| .ret) (.skip)) <| .seq (.rg (.o none (.mv 6 (.t 0)) <|
  .o none (.idx 7 4 (.t 6) (.c (.int .i64 0))) <|
  .o none (.fld 8 3 (.t 7)) <|
  .o none (.ld 9 1 false (.t 8)) <|
  .o none (.call (some 10) false (.c (.fn 129 [] [])) [(.t 9)]) <|
  .o none (.mv 2 (.t 10)) .nil)) <| .ret⟩
theorem Q0y : Qd Tryz.prog Tryz.f55 = some c55 := by kernel_rfl
def c57 : SFn := ⟨23, [.t 4], .seq (.rg (.o none (.mv 4 (.c (.int .i64 0))) .nil)) <| .seq (.rg (.o none (.mv 5 (.c (.int .i64 (-1)))) .nil)) <| .seq (.seq (.rg (.o none (.mv 6 (.c (.int .i64 0))) .nil)) <| .block 0 (.loop (.seq (.seq (.rg (.o none (.mv 7 (.t 6)) <|
  .o none (.mv 8 (.t 0)) <|
  .o none (.len 9 (.t 8)) <|
  .o none (.bin 10 .lss false (.t 7) (.t 9)) .nil)) <| .cond (.t 10) (.skip) (.exit 0)) <| .seq (.block 1 (.rg (.o none (.mv 13 (.t 5)) <|
  .o none (.mv 14 (.t 0)) <|
  .o none (.mv 15 (.t 6)) <|
  .o none (.idx 16 4 (.t 14) (.t 15)) <|
  .o none (.fld 17 3 (.t 16)) <|
  .o none (.ld 18 1 false (.t 17)) <|
  .o none (.mv 19 (.t 1)) <|
  .o none (.call (some 20) false (.c (.fn 131 [] [])) [(.t 18), (.t 19)]) <|
  .o none (.mx 21 (.t 13) (.t 20)) <|
  .o none (.mv 5 (.t 21)) .nil))) <| .rg (.o none (.mv 11 (.t 6)) <|
  .o none (.bin 12 .add false (.t 11) (.c (.int .i64 1))) <|
  .o none (.mv 6 (.t 12)) .nil)))) <| .seq (.rg (.o none (.mv 22 (.t 5)) <|
  .o none (.mv 4 (.t 22)) .nil)) <| .ret⟩
theorem Qadh : Qd Tryz.prog Tryz.f57 = some c57 := by kernel_rfl
def Q5m : SFn := ⟨42, [.t 6], .seq (.rg (.o none (.mv 6 (.c .nilS)) .nil)) <| .seq (.rg (.o none (.mv 7 (.c .nilS)) .nil)) <| .seq (.seq (.rg (.o none (.mv 8 (.c (.int .i64 0))) .nil)) <| .block 0 (.loop (.seq (.seq (.rg (.o none (.mv 9 (.t 8)) <|
  .o none (.mv 10 (.t 0)) <|
  .o none (.len 11 (.t 10)) <|
  .o none (.bin 12 .lss false (.t 9) (.t 11)) .nil)) <| .cond (.t 12) (.skip) (.exit 0)) <| .seq (.block 1 (.seq (.rg (.o none (.mv 15 (.t 0)) <|
  .o none (.mv 16 (.t 8)) <|
  .o none (.idx 17 4 (.t 15) (.t 16)) <|
  .o none (.fld 18 3 (.t 17)) <|
  .o none (.ld 19 1 false (.t 18)) <|
  .o none (.mv 20 (.t 1)) <|
  .o none (.call (some 21) false (.c (.fn 131 [] [])) [(.t 19), (.t 20)]) <|
  .o none (.mv 22 (.t 2)) <|
  .o none (.bin 23 .eql false (.t 21) (.t 22)) .nil)) <| .cond (.t 23) (.rg (.o none (.mv 24 (.t 7)) <|
  .o none (.mv 25 (.t 0)) <|
  .o none (.mv 26 (.t 8)) <|
  .o none (.idx 27 4 (.t 25) (.t 26)) <|
  .o none (.fld 28 0 (.t 27)) <|
  .o none (.ld 29 3 true (.t 28)) <|
  .o none (.mv 30 (.t 0)) <|
  .o none (.mv 31 (.t 8)) <|
  .o none (.idx 32 4 (.t 30) (.t 31)) <|
  .o none (.fld 33 3 (.t 32)) <|
  .o none (.ld 34 1 false (.t 33)) <|
  .o none (.mv 35 (.t 1)) <|
  .o none (.call (some 36) true (.c (.fn 187 [] [])) [(.t 34), (.t 35)]) <|
  .o none (.bld 37 [(.bool false), .nilS, .nilS, .nilS] [(0, 3, (.t 29)), (3, 1, (.t 36))]) <|
  .o none (.bs 38 4 133 [(.t 37)]) <|
  .o none (.app 39 4 80 133 (.t 24) (.t 38)) <|
  .o none (.mv 7 (.t 39)) .nil)) (.skip))) <| .rg (.o none (.mv 13 (.t 8)) <|
  .o none (.bin 14 .add false (.t 13) (.c (.int .i64 1))) <|
  .o none (.mv 8 (.t 14)) .nil)))) <| .seq (.rg (.o none (.mv 40 (.t 7)) <|
  .o none (.call (some 41) false (.c (.fn 125 [] [])) [(.t 40)]) <|
  .o none (.mv 6 (.t 41)) .nil)) <| .ret⟩
theorem Q98 : Qd Tryz.prog Tryz.f133 = some Q5m := by kernel_rfl
def Q5n : SFn := ⟨28, [.t 4], .seq (.rg (.o none (.mv 4 (.c .nilS)) .nil)) <| .seq (.rg (.o none (.mv 5 (.c .nilS)) .nil)) <| .seq (.seq (.rg (.o none (.mv 6 (.c (.int .i64 0))) .nil)) <| .block 0 (.loop (.seq (.seq (.rg (.o none (.mv 7 (.t 6)) <|
  .o none (.mv 8 (.t 0)) <|
  .o none (.len 9 (.t 8)) <|
  .o none (.bin 10 .lss false (.t 7) (.t 9)) .nil)) <| .cond (.t 10) (.skip) (.exit 0)) <| .seq (.block 1 (.seq (.rg (.o none (.mv 13 (.t 6)) <|
  .o none (.mv 14 (.t 1)) <|
  .o none (.bin 15 .eql false (.t 13) (.t 14)) .nil)) <| .cond (.t 15) (.rg (.o none (.mv 16 (.t 5)) <|
  .o none (.bs 17 1 3 [(.c (.int .i64 0))]) <|
  .o none (.app 18 1 8 3 (.t 16) (.t 17)) <|
  .o none (.mv 5 (.t 18)) .nil)) (.rg (.o none (.mv 19 (.t 5)) <|
  .o none (.mv 20 (.t 0)) <|
  .o none (.mv 21 (.t 6)) <|
  .o none (.idx 22 1 (.t 20) (.t 21)) <|
  .o none (.ld 23 1 false (.t 22)) <|
  .o none (.bs 24 1 3 [(.t 23)]) <|
  .o none (.app 25 1 8 3 (.t 19) (.t 24)) <|
  .o none (.mv 5 (.t 25)) .nil)))) <| .rg (.o none (.mv 11 (.t 6)) <|
  .o none (.bin 12 .add false (.t 11) (.c (.int .i64 1))) <|
  .o none (.mv 6 (.t 12)) .nil)))) <| .seq (.rg (.o none (.mv 26 (.t 5)) <|
  .o none (.call (some 27) false (.c (.fn 183 [] [])) [(.t 26)]) <|
  .o none (.mv 4 (.t 27)) .nil)) <| .ret⟩
theorem Q99 : Qd Tryz.prog Tryz.f187 = some Q5n := by kernel_rfl
def c60 : SFn := ⟨22, [.t 4], .seq (.rg (.o none (.mv 4 (.c .nilS)) .nil)) <| .seq (.rg (.o none (.mv 5 (.c .nilS)) .nil)) <| .seq (.seq (.rg (.o none (.mv 6 (.c (.int .i64 0))) .nil)) <| .block 0 (.loop (.seq (.seq (.rg (.o none (.mv 7 (.t 6)) <|
  .o none (.mv 8 (.t 0)) <|
  .o none (.mv 9 (.t 1)) <|
  .o none (.call (some 10) false (.c (.fn 57 [] [])) [(.t 8), (.t 9)]) <|
  .o none (.bin 11 .leq false (.t 7) (.t 10)) .nil)) <| .cond (.t 11) (.skip) (.exit 0)) <| .seq (.block 1 (.rg (.o none (.mv 14 (.t 5)) <|
  .o none (.mv 15 (.t 0)) <|
  .o none (.mv 16 (.t 1)) <|
  .o none (.mv 17 (.t 6)) <|
  .o none (.call (some 18) false (.c (.fn 133 [] [])) [(.t 15), (.t 16), (.t 17)]) <|
  .o none (.bs 19 1 65 [(.t 18)]) <|
  .o none (.app 20 1 24 65 (.t 14) (.t 19)) <|
  .o none (.mv 5 (.t 20)) .nil))) <| .rg (.o none (.mv 12 (.t 6)) <|
  .o none (.bin 13 .add false (.t 12) (.c (.int .i64 1))) <|
  .o none (.mv 6 (.t 13)) .nil)))) <| .seq (.rg (.o none (.mv 21 (.t 5)) <|
  .o none (.mv 4 (.t 21)) .nil)) <| .ret⟩
theorem Qadi : Qd Tryz.prog Tryz.f60 = some c60 := by kernel_rfl
def c63 : SFn := ⟨15, [.t 2], .seq (.rg (.o none (.mv 2 (.c .nilS)) .nil)) <| .seq (.rg (.o none (.mv 4 (.t 0)) <|
  .o none (.call (some 5) false (.c (.fn 55 [] [])) [(.t 4)]) <|
  .o none (.mv 3 (.t 5)) .nil)) <| .seq (.seq (.rg (.o none (.mv 6 (.t 3)) <|
  .o none (.bin 7 .lss false (.t 6) (.c (.int .i64 0))) .nil)) <| .cond (.t 7) (.seq (.rg (.o none (.mv 8 (.t 0)) <|
  .o none (.mv 2 (.t 8)) .nil)) <| .ret) (.skip)) <| .seq (.rg (.o none (.mv 9 (.t 0)) <|
  .o none (.mv 10 (.t 3)) <|
  .o none (.mv 11 (.t 0)) <|
  .o none (.mv 12 (.t 3)) <|
  .o none (.call (some 13) false (.c (.fn 57 [] [])) [(.t 11), (.t 12)]) <|
  .o none (.call (some 14) false (.c (.fn 133 [] [])) [(.t 9), (.t 10), (.t 13)]) <|
  .o none (.mv 2 (.t 14)) .nil)) <| .ret⟩
theorem Qadj : Qd Tryz.prog Tryz.f63 = some c63 := by kernel_rfl
def c58 : SFn := ⟨27, [.t 4], .seq (.rg (.o none (.mv 4 (.c (.bool false))) .nil)) <| .seq (.seq (.rg (.o none (.mv 6 (.t 0)) <|
  .o none (.len 7 (.t 6)) <|
  .o none (.mv 8 (.t 1)) <|
  .o none (.len 9 (.t 8)) <|
  .o none (.bin 10 .neq false (.t 7) (.t 9)) .nil)) <| .cond (.t 10) (.seq (.rg (.o none (.mv 4 (.c (.bool false))) .nil)) <| .ret) (.skip)) <| .seq (.seq (.rg (.o none (.mv 5 (.c (.int .i64 0))) .nil)) <| .block 0 (.loop (.seq (.seq (.rg (.o none (.mv 11 (.t 5)) <|
  .o none (.mv 12 (.t 0)) <|
  .o none (.len 13 (.t 12)) <|
  .o none (.bin 14 .lss false (.t 11) (.t 13)) .nil)) <| .cond (.t 14) (.skip) (.exit 0)) <| .seq (.block 1 (.seq (.rg (.o none (.mv 17 (.t 0)) <|
  .o none (.mv 18 (.t 5)) <|
  .o none (.idx 19 1 (.t 17) (.t 18)) <|
  .o none (.ld 20 1 false (.t 19)) <|
  .o none (.mv 21 (.t 1)) <|
  .o none (.mv 22 (.t 5)) <|
  .o none (.idx 23 1 (.t 21) (.t 22)) <|
  .o none (.ld 24 1 false (.t 23)) <|
  .o none (.call (some 25) false (.c (.fn 61 [] [])) [(.t 20), (.t 24)]) <|
  .o none (.un 26 .not (.t 25)) .nil)) <| .cond (.t 26) (.seq (.rg (.o none (.mv 4 (.c (.bool false))) .nil)) <| .ret) (.skip))) <| .rg (.o none (.mv 15 (.t 5)) <|
  .o none (.bin 16 .add false (.t 15) (.c (.int .i64 1))) <|
  .o none (.mv 5 (.t 16)) .nil)))) <| .seq (.rg (.o none (.mv 4 (.c (.bool true))) .nil)) <| .ret⟩
theorem Qadk : Qd Tryz.prog Tryz.f58 = some c58 := by kernel_rfl
def Q5o : SFn := ⟨6, [.t 2], .seq (.rg (.o none (.mv 2 (.c (.int .i64 0))) .nil)) <| .seq (.rg (.o none (.mv 3 (.t 0)) <|
  .o none (.len 4 (.t 3)) <|
  .o none (.bin 5 .sub false (.t 4) (.c (.int .i64 1))) <|
  .o none (.mv 2 (.t 5)) .nil)) <| .ret⟩
theorem Qaaa : Qd Tryz.prog Tryz.f129 = some Q5o := by kernel_rfl
def c71 : SFn := ⟨19, [.cell 4 3 true], .seq (.rg (.o none (.alloc 4 3 32 (.agg [(.bool false), .nilS, .nilS])) .nil)) <| .seq (.rg (.o none (.mv 8 (.t 0)) <|
  .o none (.call (some 9) false (.c (.fn 105 [] [])) [(.t 8)]) <|
  .o none (.mv 10 (.t 1)) <|
  .o none (.call (some 11) false (.c (.fn 105 [] [])) [(.t 10)]) <|
  .o none (.call (some 12) false (.c (.fn 147 [] [])) [(.t 9), (.t 11)]) <|
  .o none (.mv 7 (.t 12)) <|
  .o none (.ext 13 (.t 7) 0) <|
  .o none (.ext 14 (.t 7) 1) <|
  .o none (.alloc 5 3 32 (.agg [(.bool false), .nilS, .nilS])) <|
  .o none (.st 3 (.t 5) (.t 13)) <|
  .o none (.mv 6 (.t 14)) .nil)) <| .seq (.seq (.rg (.o none (.mv 15 (.t 6)) <|
  .o none (.bin 16 .neq false (.t 15) (.c (.int .i64 0))) .nil)) <| .cond (.t 16) (.seq (.rg (.o none (.call (some 17) false (.c (.fn 34 [] [])) [(.c (.int .i64 0))]) <|
  .o none (.st 3 (.t 4) (.t 17)) .nil)) <| .ret) (.skip)) <| .seq (.rg (.o none (.ld 18 3 true (.t 5)) <|
  .o none (.st 3 (.t 4) (.t 18)) .nil)) <| .ret⟩
theorem Qadl : Qd Tryz.prog Tryz.f71 = some c71 := by kernel_rfl
def Q5p : SFn := ⟨19, [.t 2], .seq (.rg (.o none (.mv 2 (.c .nilS)) .nil)) <| .seq (.seq (.rg (.o none (.mv 4 (.t 0)) <|
  .o none (.bin 5 .lss false (.t 4) (.c (.int .i64 0))) <|
  .o none (.mv 6 (.t 5)) <|
  .o (some (6, false)) (.mv 7 (.t 0)) <|
  .o (some (6, false)) (.bin 8 .geq false (.t 7) (.c (.int .i64 64))) <|
  .o none (.pick 9 (.t 6) (.c (.bool true)) (.t 8)) .nil)) <| .cond (.t 9) (.seq (.rg (.o none (.mv 2 (.c .nilS)) .nil)) <| .ret) (.skip)) <| .seq (.rg (.o none (.mv 10 (.t 0)) <|
  .o none (.bin 11 .add false (.t 10) (.c (.int .i64 1))) <|
  .o none (.mk 12 1 8 3 (.int .i64 0) (.t 11) (.t 11)) <|
  .o none (.mv 3 (.t 12)) .nil)) <| .seq (.rg (.o none (.mv 13 (.t 3)) <|
  .o none (.mv 14 (.t 0)) <|
  .o none (.idx 15 1 (.t 13) (.t 14)) <|
  .o none (.st 1 (.t 15) (.c (.int .i64 1))) .nil)) <| .seq (.rg (.o none (.call (some 16) false (.c (.fn 34 [] [])) [(.c (.int .i64 1))]) <|
  .o none (.mv 17 (.t 3)) <|
  .o none (.call (some 18) false (.c (.fn 185 [] [])) [(.c .nilS), (.t 16), (.t 17)]) <|
  .o none (.mv 2 (.t 18)) .nil)) <| .ret⟩
theorem Qaab : Qd Tryz.prog Tryz.f127 = some Q5p := by kernel_rfl
def c53 : SFn := ⟨53, [.t 0], .seq (.rg (.o none (.mv 0 (.c (.bool false))) .nil)) <| .seq (.rg (.o none (.call (some 6) false (.c (.fn 122 [] [])) [(.c (.int .i64 0))]) <|
  .o none (.call (some 7) false (.c (.fn 71 [] [])) [(.c (.int .i64 (-1))), (.c (.int .i64 2))]) <|
  .o none (.call (some 8) false (.c (.fn 70 [] [])) [(.t 6), (.t 7)]) <|
  .o none (.call (some 9) false (.c (.fn 71 [] [])) [(.c (.int .i64 1)), (.c (.int .i64 3))]) <|
  .o none (.call (some 10) false (.c (.fn 123 [] [])) [(.t 9)]) <|
  .o none (.call (some 11) false (.c (.fn 75 [] [])) [(.t 8), (.t 10)]) <|
  .o none (.call (some 12) false (.c (.fn 69 [] [])) [(.t 11)]) <|
  .o none (.mv 5 (.t 12)) <|
  .o none (.ext 13 (.t 5) 0) <|
  .o none (.ext 14 (.t 5) 1) <|
  .o none (.alloc 2 3 32 (.agg [(.bool false), .nilS, .nilS])) <|
  .o none (.mv 1 (.t 13)) <|
  .o none (.st 3 (.t 2) (.t 14)) .nil)) <| .seq (.rg (.o none (.call (some 16) false (.c (.fn 122 [] [])) [(.c (.int .i64 0))]) <|
  .o none (.call (some 17) false (.c (.fn 122 [] [])) [(.c (.int .i64 0))]) <|
  .o none (.call (some 18) false (.c (.fn 68 [] [])) [(.t 16), (.t 17)]) <|
  .o none (.call (some 19) false (.c (.fn 122 [] [])) [(.c (.int .i64 1))]) <|
  .o none (.call (some 20) false (.c (.fn 122 [] [])) [(.c (.int .i64 1))]) <|
  .o none (.call (some 21) false (.c (.fn 68 [] [])) [(.t 19), (.t 20)]) <|
  .o none (.call (some 22) false (.c (.fn 124 [] [])) [(.t 18), (.t 21)]) <|
  .o none (.call (some 23) false (.c (.fn 122 [] [])) [(.c (.int .i64 0))]) <|
  .o none (.call (some 24) false (.c (.fn 122 [] [])) [(.c (.int .i64 1))]) <|
  .o none (.call (some 25) false (.c (.fn 124 [] [])) [(.t 23), (.t 24)]) <|
  .o none (.call (some 26) false (.c (.fn 67 [] [])) [(.t 22), (.t 25)]) <|
  .o none (.mv 15 (.t 26)) <|
  .o none (.ext 27 (.t 15) 0) <|
  .o none (.ext 28 (.t 15) 1) <|
  .o none (.mv 3 (.t 27)) <|
  .o none (.mv 4 (.t 28)) .nil)) <| .seq (.rg (.o none (.mv 29 (.t 1)) <|
  .br (.o none (.call (some 30) true (.c (.fn 34 [] [])) [(.c (.int .i64 3))]) <|
  .br (.o none (.bs 31 1 3 [(.c (.int .i64 1))]) <|
  .o none (.bld 32 [(.bool false), .nilS, .nilS, .nilS] [(0, 3, (.t 30)), (3, 1, (.t 31))]) <|
  .o none (.call (some 33) true (.c (.fn 34 [] [])) [(.c (.int .i64 (-2)))]) <|
  .o none (.bld 34 [(.bool false), .nilS, .nilS, .nilS] [(0, 3, (.t 33))]) <|
  .o none (.bs 35 4 133 [(.t 32), (.t 34)]) <|
  .o none (.call (some 36) true (.c (.fn 125 [] [])) [(.t 35)]) <|
  .o none (.call (some 37) true (.c (.fn 61 [] [])) [(.t 29), (.t 36)]) <|
  .o none (.mv 38 (.t 37)) <|
  .o (some (38, true)) (.ld 39 3 true (.t 2)) <|
  .o (some (38, true)) (.call (some 40) true (.c (.fn 34 [] [])) [(.c (.int .i64 (-6)))]) <|
  .o (some (38, true)) (.call (some 41) true (.c (.fn 72 [] [])) [(.t 39), (.t 40)]) <|
  .o none (.pick 42 (.t 38) (.t 41) (.c (.bool false))) <|
  .o none (.mv 43 (.t 42)) <|
  .o (some (43, true)) (.mv 44 (.t 4)) <|
  .o none (.pick 45 (.t 43) (.t 44) (.c (.bool false))) <|
  .o none (.mv 46 (.t 45)) <|
  .o (some (46, true)) (.mv 47 (.t 3)) <|
  .o (some (46, true)) (.call (some 48) true (.c (.fn 127 [] [])) [(.c (.int .i64 0))]) <|
  .o (some (46, true)) (.call (some 49) true (.c (.fn 127 [] [])) [(.c (.int .i64 1))]) <|
  .o (some (46, true)) (.call (some 50) true (.c (.fn 126 [] [])) [(.t 48), (.t 49)]) <|
  .o (some (46, true)) (.call (some 51) true (.c (.fn 61 [] [])) [(.t 47), (.t 50)]) <|
  .o none (.pick 52 (.t 46) (.t 51) (.c (.bool false))) <|
  .o none (.mv 0 (.t 52)) .nil) (.o none (.call (some 33) true (.c (.fn 34 [] [])) [(.c (.int .i64 (-2)))]) <|
  .o none (.bld 34 [(.bool false), .nilS, .nilS, .nilS] [(0, 3, (.t 33))]) <|
  .o none (.bs 31 1 3 [(.c (.int .i64 1))]) <|
  .o none (.bld 32 [(.bool false), .nilS, .nilS, .nilS] [(0, 3, (.t 30)), (3, 1, (.t 31))]) <|
  .o none (.bs 35 4 133 [(.t 32), (.t 34)]) <|
  .o none (.call (some 36) true (.c (.fn 125 [] [])) [(.t 35)]) <|
  .o none (.call (some 37) true (.c (.fn 61 [] [])) [(.t 29), (.t 36)]) <|
  .o none (.mv 38 (.t 37)) <|
  .o (some (38, true)) (.ld 39 3 true (.t 2)) <|
  .o (some (38, true)) (.call (some 40) true (.c (.fn 34 [] [])) [(.c (.int .i64 (-6)))]) <|
  .o (some (38, true)) (.call (some 41) true (.c (.fn 72 [] [])) [(.t 39), (.t 40)]) <|
  .o none (.pick 42 (.t 38) (.t 41) (.c (.bool false))) <|
  .o none (.mv 43 (.t 42)) <|
  .o (some (43, true)) (.mv 44 (.t 4)) <|
  .o none (.pick 45 (.t 43) (.t 44) (.c (.bool false))) <|
  .o none (.mv 46 (.t 45)) <|
  .o (some (46, true)) (.mv 47 (.t 3)) <|
  .o (some (46, true)) (.call (some 48) true (.c (.fn 127 [] [])) [(.c (.int .i64 0))]) <|
  .o (some (46, true)) (.call (some 49) true (.c (.fn 127 [] [])) [(.c (.int .i64 1))]) <|
  .o (some (46, true)) (.call (some 50) true (.c (.fn 126 [] [])) [(.t 48), (.t 49)]) <|
  .o (some (46, true)) (.call (some 51) true (.c (.fn 61 [] [])) [(.t 47), (.t 50)]) <|
  .o none (.pick 52 (.t 46) (.t 51) (.c (.bool false))) <|
  .o none (.mv 0 (.t 52)) .nil)) (.o none (.bs 31 1 3 [(.c (.int .i64 1))]) <|
  .o none (.call (some 30) true (.c (.fn 34 [] [])) [(.c (.int .i64 3))]) <|
  .o none (.bld 32 [(.bool false), .nilS, .nilS, .nilS] [(0, 3, (.t 30)), (3, 1, (.t 31))]) <|
  .o none (.call (some 33) true (.c (.fn 34 [] [])) [(.c (.int .i64 (-2)))]) <|
  .o none (.bld 34 [(.bool false), .nilS, .nilS, .nilS] [(0, 3, (.t 33))]) <|
  .o none (.bs 35 4 133 [(.t 32), (.t 34)]) <|
  .o none (.call (some 36) true (.c (.fn 125 [] [])) [(.t 35)]) <|
  .o none (.call (some 37) true (.c (.fn 61 [] [])) [(.t 29), (.t 36)]) <|
  .o none (.mv 38 (.t 37)) <|
  .o (some (38, true)) (.ld 39 3 true (.t 2)) <|
  .o (some (38, true)) (.call (some 40) true (.c (.fn 34 [] [])) [(.c (.int .i64 (-6)))]) <|
  .o (some (38, true)) (.call (some 41) true (.c (.fn 72 [] [])) [(.t 39), (.t 40)]) <|
  .o none (.pick 42 (.t 38) (.t 41) (.c (.bool false))) <|
  .o none (.mv 43 (.t 42)) <|
  .o (some (43, true)) (.mv 44 (.t 4)) <|
  .o none (.pick 45 (.t 43) (.t 44) (.c (.bool false))) <|
  .o none (.mv 46 (.t 45)) <|
  .o (some (46, true)) (.mv 47 (.t 3)) <|
  .o (some (46, true)) (.call (some 48) true (.c (.fn 127 [] [])) [(.c (.int .i64 0))]) <|
  .o (some (46, true)) (.call (some 49) true (.c (.fn 127 [] [])) [(.c (.int .i64 1))]) <|
  .o (some (46, true)) (.call (some 50) true (.c (.fn 126 [] [])) [(.t 48), (.t 49)]) <|
  .o (some (46, true)) (.call (some 51) true (.c (.fn 61 [] [])) [(.t 47), (.t 50)]) <|
  .o none (.pick 52 (.t 46) (.t 51) (.c (.bool false))) <|
  .o none (.mv 0 (.t 52)) .nil))) <| .ret⟩
theorem Qadm : Qd Tryz.prog Tryz.f53 = some c53 := by kernel_rfl
def c10 : SFn := ⟨42, [.t 4], .seq (.rg (.o none (.mv 4 (.c (.bool false))) .nil)) <| .seq (.seq (.rg (.o none (.mv 5 (.t 0)) <|
  .o none (.call (some 6) false (.c (.fn 52 [] [])) [(.t 5), (.c (.int .i64 10)), (.c (.int .i64 64)), (.c (.int .i64 20))]) <|
  .o none (.un 7 .not (.t 6)) .nil)) <| .cond (.t 7) (.seq (.rg (.o none (.call (some 8) false (.c (.fn 53 [] [])) []) <|
  .o none (.mv 4 (.t 8)) .nil)) <| .ret) (.skip)) <| .seq (.rg (.o none (.mv 9 (.t 0)) <|
  .o none (.call (some 10) false (.c (.fn 54 [] [])) [(.t 9)]) <|
  .o none (.mv 11 (.t 0)) <|
  .o none (.call (some 12) false (.c (.fn 55 [] [])) [(.t 11)]) <|
  .o none (.bin 13 .eql false (.t 10) (.t 12)) <|
  .o none (.mv 14 (.t 13)) <|
  .o (some (14, true)) (.mv 15 (.t 0)) <|
  .o (some (14, true)) (.mv 16 (.t 1)) <|
  .o (some (14, true)) (.call (some 17) false (.c (.fn 56 [] [])) [(.t 15), (.t 16)]) <|
  .o (some (14, true)) (.mv 18 (.t 0)) <|
  .o (some (14, true)) (.mv 19 (.t 1)) <|
  .o (some (14, true)) (.call (some 20) false (.c (.fn 57 [] [])) [(.t 18), (.t 19)]) <|
  .o (some (14, true)) (.bin 21 .eql false (.t 17) (.t 20)) <|
  .o none (.pick 22 (.t 14) (.t 21) (.c (.bool false))) <|
  .o none (.mv 23 (.t 22)) <|
  .o (some (23, true)) (.mv 24 (.t 0)) <|
  .o (some (23, true)) (.mv 25 (.t 1)) <|
  .o (some (23, true)) (.call (some 26) false (.c (.fn 59 [] [])) [(.t 24), (.t 25)]) <|
  .o (some (23, true)) (.mv 27 (.t 0)) <|
  .o (some (23, true)) (.mv 28 (.t 1)) <|
  .o (some (23, true)) (.call (some 29) false (.c (.fn 60 [] [])) [(.t 27), (.t 28)]) <|
  .o (some (23, true)) (.call (some 30) false (.c (.fn 58 [] [])) [(.t 26), (.t 29)]) <|
  .o none (.pick 31 (.t 23) (.t 30) (.c (.bool false))) <|
  .o none (.mv 32 (.t 31)) <|
  .o (some (32, true)) (.mv 33 (.t 0)) <|
  .o (some (32, true)) (.call (some 34) false (.c (.fn 62 [] [])) [(.t 33)]) <|
  .o (some (32, true)) (.mv 35 (.t 0)) <|
  .o (some (32, true)) (.call (some 36) false (.c (.fn 63 [] [])) [(.t 35)]) <|
  .o (some (32, true)) (.call (some 37) false (.c (.fn 61 [] [])) [(.t 34), (.t 36)]) <|
  .o none (.pick 38 (.t 32) (.t 37) (.c (.bool false))) <|
  .o none (.mv 39 (.t 38)) <|
  .o (some (39, true)) (.call (some 40) false (.c (.fn 53 [] [])) []) <|
  .o none (.pick 41 (.t 39) (.t 40) (.c (.bool false))) <|
  .o none (.mv 4 (.t 41)) .nil)) <| .ret⟩
theorem Qadn : Qd Tryz.prog Tryz.f10 = some c10 := by kernel_rfl
end Go.Proofs.YtmnkngmmfnncoaaGreat
namespace Go.FW
open Go
def Qh9 (a m : List Int) : Bool := (List.range a.length).all fun i => decide (eN a i = eN m i)
theorem Qgz {a m : List Int} : Qh9 a m = true ↔ ∀ i, i < a.length → eN a i = eN m i := by
  simp [Qh9, List.all_eq_true]
theorem Quv (a : List Int) : Qh9 a (if Qbx (Qb0 a) then Qb0 a else []) = Qbx (Qb0 a) := by
  cases h : Qbx (Qb0 a)
  · rw [if_neg (by simp)]
    cases hz : Qh9 a [] with
    | false => rfl
    | true =>
      rw [Qgz] at hz
      have e : Qb0 a = [] := Qfl (Qf6 a) (by simp) fun i => by
        rw [Qgk, Qt9]
        by_cases hi : i < a.length
        · rw [hz i hi, Qt9]
        · exact Qbz (by omega)
      rw [e] at h
      exact absurd h (by decide)
  · rw [if_pos rfl, Qgz]
    intro i _; rw [Qgk]
theorem Qqf : ∀ (ts : List Tm), (∀ t ∈ ts, t.2.getLast? ≠ some 0) → ∀ out, Nrm out → Nrm (ts.foldl (fun out t => Qdb out t.1 t.2) out) ∧ ∀ φ, pev φ (ts.foldl (fun out t => Qdb out t.1 t.2) out) = pev φ out + pev φ ts
  | [], _, out, ho => ⟨ho, fun φ => by rw [List.foldl_nil, Qcj]; grind⟩
  | t :: ts, h, out, ho => by
    have hl := h t (by simp)
    obtain ⟨h1, h2⟩ := Qqf ts (fun x hx => h x (by simp [hx])) (Qdb out t.1 t.2) (Q0v ho hl)
    refine ⟨h1, fun φ => ?_⟩
    rw [List.foldl_cons, h2, Q0w ho.c hl, Qam]; grind
end Go.FW
namespace Go.FW
open Go
end Go.FW
namespace Go.FW
open Go
def Q5q (a : Rat) : Nat → Rat
  | 0 => 1
  | n + 1 => Q5q a n * a
def mevN (vs : List Rat) (m : List Int) : Nat → Rat
  | 0 => 1
  | n + 1 => mevN vs m n * Q5q (vs.getD n 0) (eN m n).toNat
def mev (vs : List Rat) (m : List Int) : Rat := mevN vs m m.length
end Go.FW
namespace Go.FW
open Go
end Go.FW
namespace Go.FW
open Go
section
variable {C : Ctx} {fr : Fr} {hp : HP} {w : World} {K R : Qh}
end
def Qbq (m : List Int) (v : Nat) : List Int := Qb0 (m.set v 0)
theorem Qadp (m : List Int) (v i : Nat) : eN (m.set v 0) i = if i = v then 0 else eN m i := by
  by_cases hi : i < m.length
  · rw [Qcy (by simpa using hi), List.getElem_set]
    by_cases h : i = v
    · rw [if_pos h, if_pos h.symm]
    · rw [if_neg h, if_neg (fun h' => h h'.symm), Qcy hi]
  · rw [Qbz (by simpa using hi), Qbz (by omega)]; split <;> rfl
theorem Qlq (m : List Int) (v i : Nat) : eN (Qbq m v) i = if i = v then 0 else eN m i := by rw [Qbq, Qgk, Qadp]
theorem Qhz (m : List Int) (v : Nat) : (Qbq m v).getLast? ≠ some 0 := Qf6 _
theorem Quw {E : Nat} {m : List Int} (h : MB E m) (v : Nat) : MB E (Qbq m v) := by
  have hl : (Qbq m v).length ≤ 64 := by
    have := Qc6 (m.set v 0)
    have := h.len
    rw [List.length_set] at *
    unfold Qbq; omega
  refine ⟨hl, fun x hx => ?_, fun x hx => ?_⟩
  all_goals
    obtain ⟨i, hi, rfl⟩ := List.getElem_of_mem hx
    rw [← Qcy hi, Qlq]
    have := h.eN i
    split <;> omega
theorem Q5r {E : Nat} {m : List Int} (h : MB E m) (hE : E ≤ 1048576) (v : Nat) : Qbx (Qbq m v) = true := Qr8 (Quw h v) hE (Qhz m v)
theorem Q0z {a b : List Int} {v : Nat} (h : eN a v = eN b v) : Qac (Qbq a v) (Qbq b v) = Qac a b := by
  have key : ∀ n, Qbj (Qbq a v) (Qbq b v) n = Qbj a b n := by
    intro n
    induction n with
    | zero => rfl
    | succ n ih =>
      rw [Qbj, Qbj, ih, Qlq, Qlq]
      by_cases hn : n = v
      · subst hn; rw [if_pos rfl, if_pos rfl, if_pos rfl, if_pos h]
      · rw [if_neg hn, if_neg hn]
  have e1 : (Qbq a v).length ≤ a.length := by have := Qc6 (a.set v 0); rwa [List.length_set] at this
  have e2 : (Qbq b v).length ≤ b.length := by have := Qc6 (b.set v 0); rwa [List.length_set] at this
  rw [← Qfm (m := max a.length b.length) (by omega), key, Qfm (by omega)]
def Qa2 (p : List Tm) (v : Nat) (n : Int) : List Tm := p.filterMap fun t => if eN t.2 v = n then some (t.1, Qbq t.2 v) else none
theorem Qlr {p : List Tm} {v i : Nat} {n : Int} (h : i < p.length) : Qa2 (p.take (i + 1)) v n = Qa2 (p.take i) v n ++ (if eN p[i].2 v = n then [(p[i].1, Qbq p[i].2 v)] else []) := by
  rw [List.take_succ_eq_append_getElem h, Qa2, List.filterMap_append]
  congr 1
  rw [List.filterMap_cons]
  by_cases h : eN p[i].2 v = n <;> simp [h]
theorem Qdz (p : List Tm) (v : Nat) (n : Int) : (Qa2 p v n).length ≤ p.length := List.length_filterMap_le _ _
theorem Qjk {p : List Tm} {v : Nat} {n : Int} {t : Tm} (h : t ∈ Qa2 p v n) : ∃ s ∈ p, eN s.2 v = n ∧ t = (s.1, Qbq s.2 v) := by
  simp only [Qa2, List.mem_filterMap] at h
  obtain ⟨s, h1, h2⟩ := h
  split at h2
  · rename_i h3; cases h2; exact ⟨s, h1, h3, rfl⟩
  · cases h2
theorem Qo6 {K E : Nat} {p : List Tm} (hp : PB K E p) (v : Nat) (n : Int) : PB K E (Qa2 p v n) := fun t ht => by
  obtain ⟨s, h1, _, rfl⟩ := Qjk ht
  have := hp s h1
  exact ⟨this.c, Quw this.m v, Qhz _ _⟩
theorem Qmt (v : Nat) (n : Int) : ∀ {p : List Tm}, Qa6 p → Qa6 (Qa2 p v n)
  | [], _ => trivial
  | s :: p, h => by
    have ih := Qmt v n h.2
    by_cases hs : eN s.2 v = n
    · have e : Qa2 (s :: p) v n = (s.1, Qbq s.2 v) :: Qa2 p v n := by rw [Qa2, List.filterMap_cons, if_pos hs]; rfl
      rw [e]
      refine ⟨fun t ht => ?_, ih⟩
      obtain ⟨u, h1, h2, rfl⟩ := Qjk ht
      show 0 < Qac (Qbq s.2 v) (Qbq u.2 v)
      rw [Q0z (by rw [hs, h2])]
      exact h.1 u h1
    · have e : Qa2 (s :: p) v n = Qa2 p v n := by rw [Qa2, List.filterMap_cons, if_neg hs]; rfl
      rw [e]; exact ih
theorem Q00 {p : List Tm} (hp : Nrm p) (v : Nat) (n : Int) : Nrm (Qa2 p v n) := ⟨fun t ht => by
  obtain ⟨s, _, _, rfl⟩ := Qjk ht
  exact Qhz _ _, fun t ht => by
  obtain ⟨s, h1, _, rfl⟩ := Qjk ht
  exact hp.z s h1, Qmt v n hp.s⟩
end Go.FW
namespace Go.FW
open Go
def hor (p : List Tm) (v : Nat) (q : List Tm) (top : Nat) : Nat → List Tm
  | 0 => Qa2 p v top
  | k + 1 => Q4 (Qco (hor p v q top k) q) (Qa2 p v ((top : Int) - (k + 1)))
def Qkm (x l : List Tm) : List Tm := l.foldl (fun out t => Qdb out t.1 t.2) x
theorem Q01 {x l : List Tm} (hx : Nrm x) (hl : Nrm l) : Qkm x l = Q4 x l := by
  obtain ⟨h1, h2⟩ := Qqf l hl.c x hx
  refine Qwt h1 (Qlo hx hl) fun φ => ?_
  rw [Qkm, h2, Qln hx.c hl.c]
theorem Qvv (x l : List Tm) (t : Tm) : Qkm x (l ++ [t]) = Qdb (Qkm x l) t.1 t.2 := by rw [Qkm, List.foldl_append]; rfl
theorem Qux (v : Nat) : ∀ (p : List Tm) (d : Int), d ≤ p.foldl (fun d t => max d (eN t.2 v)) d ∧ (∀ t ∈ p, eN t.2 v ≤ p.foldl (fun d t => max d (eN t.2 v)) d) ∧ (p.foldl (fun d t => max d (eN t.2 v)) d = d ∨ ∃ t ∈ p, p.foldl (fun d t => max d (eN t.2 v)) d = eN t.2 v)
  | [], d => ⟨Int.le_refl _, by simp, .inl rfl⟩
  | s :: p, d => by
    obtain ⟨h1, h2, h3⟩ := Qux v p (max d (eN s.2 v))
    rw [List.foldl_cons]
    refine ⟨by omega, fun t ht => ?_, ?_⟩
    · rcases List.mem_cons.1 ht with rfl | ht
      · omega
      · exact h2 t ht
    · rcases h3 with h3 | ⟨t, ht, h3⟩
      · rw [h3]
        by_cases h : d ≤ eN s.2 v
        · right; exact ⟨s, by simp, by omega⟩
        · left; omega
      · right; exact ⟨t, by simp [ht], h3⟩
end Go.FW
namespace Go.FW
open Go
def Qcb (vs : List Rat) (v : Nat) (b : Rat) (n : Int) : List Tm → Rat
  | [] => 0
  | t :: p => (if n ≤ eN t.2 v then t.1 * mev vs (Qbq t.2 v) * Q5q b (eN t.2 v - n).toNat else 0) + Qcb vs v b n p
theorem Qqg {p : List Tm} {t x : Tm} (h : x ∈ Qaj p t) : ∃ s ∈ p, x.2 = Qbs s.2 t.2 := by
  simp only [Qaj, List.mem_filterMap] at h
  obtain ⟨y, hy, h⟩ := h
  split at h
  · cases h
  · cases h; exact ⟨y, hy, rfl⟩
theorem Q5s : ∀ (n : Nat) (l : List (List Tm)), l.length ≤ n → ∀ {t : Tm}, t ∈ Qb3 l → ∃ p ∈ l, ∃ s ∈ p, s.2 = t.2 := by
  intro n
  induction n with
  | zero =>
    intro l hl t ht
    have : l = [] := List.length_eq_zero_iff.1 (by omega)
    subst this
    rw [Qb3] at ht; cases ht
  | succ n ih =>
    intro l hl t ht
    match l, ht with
    | [], ht => rw [Qb3] at ht; cases ht
    | [p], ht => rw [Qb3] at ht; exact ⟨p, by simp, t, ht, rfl⟩
    | p :: q :: r, ht =>
      rw [Qhc (by simp)] at ht
      generalize hL : p :: q :: r = L at *
      have hlen : 2 ≤ L.length := by rw [← hL]; simp
      rcases Qgo ht with ⟨s, h1, h2⟩ | ⟨s, h1, h2⟩
      · obtain ⟨p', hp', s', hs', e⟩ := ih _ (by rw [List.length_take]; omega) h1
        exact ⟨p', List.mem_of_mem_take hp', s', hs', e.trans h2⟩
      · obtain ⟨p', hp', s', hs', e⟩ := ih _ (by rw [List.length_drop]; omega) h1
        exact ⟨p', List.mem_of_mem_drop hp', s', hs', e.trans h2⟩
theorem Q5t {p q : List Tm} {t : Tm} (h : t ∈ Qco p q) : ∃ a ∈ p, ∃ b ∈ q, t.2 = Qbs a.2 b.2 := by
  have main : ∀ {p q : List Tm}, t ∈ Qgx p q → ∃ a ∈ p, ∃ b ∈ q, t.2 = Qbs a.2 b.2 := fun {p q} h => by
    obtain ⟨x, hx, s, hs, e⟩ := Q5s _ _ (Nat.le_refl _) h
    obtain ⟨a, ha, rfl⟩ := List.mem_map.1 hx
    obtain ⟨b, hb, e2⟩ := Qqg hs
    exact ⟨a, ha, b, hb, by rw [← e, e2, Qd4]⟩
  unfold Qco at h
  split at h
  · obtain ⟨a, ha, b, hb, e⟩ := main h
    exact ⟨b, hb, a, ha, by rw [e, Qd4]⟩
  · exact main h
end Go.FW
namespace Go.FW
open Go
theorem Quy {l : List Tm} (hs : Qa6 l) {a b : Tm} (ha : a ∈ l) (hb : b ∈ l) (e : a.2 = b.2) : a = b := by
  induction l with
  | nil => cases ha
  | cons c l ih =>
    rcases List.mem_cons.1 ha with h1 | h1 <;> rcases List.mem_cons.1 hb with h2 | h2
    · rw [h1, h2]
    · subst h1; exact absurd e.symm (Qjj (hs.1 b h2))
    · subst h2; exact absurd e (Qjj (hs.1 a h1))
    · exact ih hs.2 h1 h2
theorem Qls {φ : List Int → Rat} : ∀ {p : List Tm} {x : Tm}, Qa6 p → x ∈ p → (∀ t ∈ p, t ≠ x → φ t.2 = 0) → pev φ p = x.1 * φ x.2
  | [], x, _, hx, _ => by cases hx
  | t :: p, x, hs, hx, h => by
    have hz : ∀ {l : List Tm}, (∀ s ∈ l, φ s.2 = 0) → pev φ l = 0 := by
      intro l
      induction l with
      | nil => intro _; rfl
      | cons s l ih => intro hl; rw [Qam, hl s (by simp), ih (fun y hy => hl y (by simp [hy]))]; grind
    by_cases htx : t = x
    · subst htx
      rw [Qam, hz (fun s hs' => h s (by simp [hs']) (fun e => Qjj (hs.1 s hs') (by rw [e])))]; grind
    · have hx' : x ∈ p := by
        rcases List.mem_cons.1 hx with h1 | h1
        · exact absurd h1.symm htx
        · exact h1
      rw [Qam, h t (by simp) htx, Qls hs.2 hx' (fun s hs' => h s (by simp [hs']))]; grind
end Go.FW
namespace Go.FW
open Go
def Qdu (p : List Tm) (v : Nat) : Int := p.foldl (fun d t => max d (eN t.2 v)) (-1)
theorem Qsb {p : List Tm} {v i : Nat} (h : i < p.length) : Qdu (p.take (i + 1)) v = max (Qdu (p.take i) v) (eN p[i].2 v) := by
  rw [List.take_succ_eq_append_getElem h, Qdu, List.foldl_append]; rfl
theorem Qjl (p : List Tm) (v : Nat) : -1 ≤ Qdu p v ∧ (∀ t ∈ p, eN t.2 v ≤ Qdu p v) ∧ (Qdu p v = -1 ∨ ∃ t ∈ p, Qdu p v = eN t.2 v) := Qux v p (-1)
theorem Q5u {K E : Nat} {p : List Tm} (hp : PB K E p) (h0 : p ≠ []) (v : Nat) : 0 ≤ Qdu p v ∧ Qdu p v ≤ E := by
  obtain ⟨_, h2, h3⟩ := Qjl p v
  obtain ⟨t, ht⟩ := List.exists_mem_of_ne_nil p h0
  have h4 := h2 t ht
  have h5 := (hp t ht).m.eN v
  rcases h3 with h3 | ⟨s, hs, h3⟩
  · omega
  · have := (hp s hs).m.eN v; omega
def Qf7 (v n : Nat) : List Int := List.replicate v 0 ++ [(n : Int)]
theorem Q02 {v n : Nat} (h : 0 < n) : (Qf7 v n).getLast? ≠ some 0 := by
  unfold Qf7
  rw [List.getLast?_append]
  simp
  omega
theorem Qaac {v n : Nat} (hv : v < 64) : MB n (Qf7 v n) := by
  refine ⟨by simp [Qf7]; omega, fun x hx => ?_, fun x hx => ?_⟩
  all_goals
    simp only [Qf7, List.mem_append, List.mem_replicate, List.mem_singleton] at hx
    omega
theorem Q5v {p q : List Tm} {t : Tm} (hq : Can q) (h : t ∈ Qiq p q) : (∃ s ∈ p, s.2 = t.2) ∨ (∃ s ∈ q, s.2 = t.2) := by
  rcases Qgo h with h | ⟨s, hs, h⟩
  · exact .inl h
  · right
    rw [Qo1, Qcp, if_neg (by decide)] at hs
    obtain ⟨u, hu, e⟩ := Qqg hs
    exact ⟨u, hu, by rw [← h, e]; exact (Quc (hq u hu)).symm⟩
end Go.FW
namespace Go.FW
open Go
variable {C : Ctx} {fr : Fr} {hp : HP} {R : Qh}
theorem Q5w {sk : List It} {x : SC} (s : Nat) (hd : (Qz hp (fr s)).isData = true) (h : vc C R (.c (.loop x) :: sk) (upd fr s (Qz hp (fr s))) (FW.Qag hp (fr s).refs)) : vc C R (.c (.loop x) :: sk) fr hp := by
  rw [Qdi] at h ⊢
  obtain ⟨I, μ, ⟨fr0, hp0, h1, h1'⟩, h2⟩ := h
  exact ⟨I, μ, ⟨fr0, hp0, (Qwm s hd).trans h1, h1'⟩, h2⟩
end Go.FW
