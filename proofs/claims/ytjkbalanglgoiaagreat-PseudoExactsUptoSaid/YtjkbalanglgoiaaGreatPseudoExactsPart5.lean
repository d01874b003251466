/- Part 5 of the proof of PseudoExacts: P8, CS2, CS3, CU, FwSE, FwSF, FwSG, FwSH, FwSI, FwSJ, FwSK, FwSL, FwUA, FwUB. Own lemmas; no conditions. -/
import Derived.Test.YtjkbalanglgoiaaGreatPseudoExactsPart4
set_option linter.unusedSimpArgs false
set_option linter.unnecessarySimpa false
set_option linter.unusedVariables false
namespace Go.Proofs.YtjkbalanglgoiaaGreat
open Go Go.FW
set_option linter.unusedSimpArgs false
set_option linter.unusedVariables false
set_option maxRecDepth 100000
theorem Q04 {a : Rat} {k : Nat} (h : rs a ≤ k) (hk : k < 2 ^ 36) : Qd Tryz.prog 41 [PV.rat a] (· = PV.poly (Qm3 a)) := by
  have := Qur (Qbh h) hk
  rwa [Qb0] at this
end Go.Proofs.YtjkbalanglgoiaaGreat
namespace Go.Proofs.YtjkbalanglgoiaaGreat
open Go Go.FW
set_option maxRecDepth 100000
def c94 : SFn := ⟨39, [.t 2], .seq (.rg (.o none (.mv 2 (.c (.bool false))) .nil)) <| .seq (.seq (.rg (.o none (.mv 4 (.t 0)) <|
  .o none (.len 5 (.t 4)) <|
  .o none (.bin 6 .gtr false (.t 5) (.c (.int .i64 64))) <|
  .o none (.mv 7 (.t 6)) <|
  .o (some (7, false)) (.mv 8 (.t 0)) <|
  .o (some (7, false)) (.len 9 (.t 8)) <|
  .o (some (7, false)) (.bin 10 .gtr false (.t 9) (.c (.int .i64 0))) <|
  .o (some (7, false)) (.mv 11 (.t 10)) <|
  .o (some (11, true)) (.mv 12 (.t 0)) <|
  .o (some (11, true)) (.mv 13 (.t 0)) <|
  .o (some (11, true)) (.len 14 (.t 13)) <|
  .o (some (11, true)) (.bin 15 .sub false (.t 14) (.c (.int .i64 1))) <|
  .o (some (11, true)) (.idx 16 1 (.t 12) (.t 15)) <|
  .o (some (11, true)) (.ld 17 1 false (.t 16)) <|
  .o (some (11, true)) (.bin 18 .eql false (.t 17) (.c (.int .i64 0))) <|
  .o (some (7, false)) (.pick 19 (.t 11) (.t 18) (.c (.bool false))) <|
  .o none (.pick 20 (.t 7) (.c (.bool true)) (.t 19)) .nil)) <| .cond (.t 20) (.seq (.rg (.o none (.mv 2 (.c (.bool false))) .nil)) <| .ret) (.skip)) <| .seq (.seq (.rg (.o none (.mv 3 (.c (.int .i64 0))) .nil)) <| .block 0 (.loop (.seq (.seq (.rg (.o none (.mv 21 (.t 3)) <|
  .o none (.mv 22 (.t 0)) <|
  .o none (.len 23 (.t 22)) <|
  .o none (.bin 24 .lss false (.t 21) (.t 23)) .nil)) <| .cond (.t 24) (.skip) (.exit 0)) <| .seq (.block 1 (.seq (.rg (.o none (.mv 27 (.t 0)) <|
  .o none (.mv 28 (.t 3)) <|
  .o none (.idx 29 1 (.t 27) (.t 28)) <|
  .o none (.ld 30 1 false (.t 29)) <|
  .o none (.bin 31 .lss false (.t 30) (.c (.int .i64 0))) <|
  .o none (.mv 32 (.t 31)) <|
  .o (some (32, false)) (.mv 33 (.t 0)) <|
  .o (some (32, false)) (.mv 34 (.t 3)) <|
  .o (some (32, false)) (.idx 35 1 (.t 33) (.t 34)) <|
  .o (some (32, false)) (.ld 36 1 false (.t 35)) <|
  .o (some (32, false)) (.bin 37 .gtr false (.t 36) (.c (.int .i64 1048576))) <|
  .o none (.pick 38 (.t 32) (.c (.bool true)) (.t 37)) .nil)) <| .cond (.t 38) (.seq (.rg (.o none (.mv 2 (.c (.bool false))) .nil)) <| .ret) (.skip))) <| .rg (.o none (.mv 25 (.t 3)) <|
  .o none (.bin 26 .add false (.t 25) (.c (.int .i64 1))) <|
  .o none (.mv 3 (.t 26)) .nil)))) <| .seq (.rg (.o none (.mv 2 (.c (.bool true))) .nil)) <| .ret⟩
theorem Qaas : Qe Tryz.prog Tryz.f94 = some c94 := by kernel_rfl
def Q4i : SFn := ⟨24, [.t 2], .seq (.rg (.o none (.mv 2 (.c .nilS)) .nil)) <| .seq (.rg (.o none (.mv 5 (.t 0)) <|
  .o none (.len 6 (.t 5)) <|
  .o none (.mv 3 (.t 6)) .nil)) <| .seq (.block 0 (.loop (.seq (.seq (.rg (.o none (.mv 7 (.t 3)) <|
  .o none (.bin 8 .gtr false (.t 7) (.c (.int .i64 0))) <|
  .o none (.mv 9 (.t 8)) <|
  .o (some (9, true)) (.mv 10 (.t 0)) <|
  .o (some (9, true)) (.mv 11 (.t 3)) <|
  .o (some (9, true)) (.bin 12 .sub false (.t 11) (.c (.int .i64 1))) <|
  .o (some (9, true)) (.idx 13 1 (.t 10) (.t 12)) <|
  .o (some (9, true)) (.ld 14 1 false (.t 13)) <|
  .o (some (9, true)) (.bin 15 .eql false (.t 14) (.c (.int .i64 0))) <|
  .o none (.pick 16 (.t 9) (.t 15) (.c (.bool false))) .nil)) <| .cond (.t 16) (.skip) (.exit 0)) <| .block 1 (.rg (.o none (.mv 17 (.t 3)) <|
  .o none (.bin 18 .sub false (.t 17) (.c (.int .i64 1))) <|
  .o none (.mv 3 (.t 18)) .nil))))) <| .seq (.rg (.o none (.mv 4 (.c .nilS)) .nil)) <| .seq (.rg (.o none (.mv 19 (.t 4)) <|
  .o none (.mv 20 (.t 0)) <|
  .o none (.mv 21 (.t 3)) <|
  .o none (.sl 22 1 (.t 20) none (some (.t 21)) none) <|
  .o none (.app 23 1 8 3 (.t 19) (.t 22)) <|
  .o none (.mv 2 (.t 23)) .nil)) <| .ret⟩
theorem Q7w : Qe Tryz.prog Tryz.f112 = some Q4i := by kernel_rfl
def c99 : SFn := ⟨9, [.t 2], .seq (.rg (.o none (.mv 2 (.c .nilS)) .nil)) <| .seq (.seq (.rg (.o none (.mv 4 (.t 0)) <|
  .o none (.call (some 5) false (.c (.fn 112 [] [])) [(.t 4)]) <|
  .o none (.mv 3 (.t 5)) .nil)) <| .seq (.rg (.o none (.mv 6 (.t 3)) <|
  .o none (.call (some 7) false (.c (.fn 94 [] [])) [(.t 6)]) .nil)) <| .cond (.t 7) (.seq (.rg (.o none (.mv 8 (.t 3)) <|
  .o none (.mv 2 (.t 8)) .nil)) <| .ret) (.skip)) <| .seq (.rg (.o none (.mv 2 (.c .nilS)) .nil)) <| .ret⟩
theorem Qaat : Qe Tryz.prog Tryz.f99 = some c99 := by kernel_rfl
def Q4j : SFn := ⟨18, [.t 2], .seq (.rg (.o none (.mv 2 (.c (.int .i64 0))) .nil)) <| .seq (.rg (.o none (.mv 3 (.c (.int .i64 0))) .nil)) <| .seq (.seq (.rg (.o none (.mv 4 (.c (.int .i64 0))) .nil)) <| .block 0 (.loop (.seq (.seq (.rg (.o none (.mv 5 (.t 4)) <|
  .o none (.mv 6 (.t 0)) <|
  .o none (.len 7 (.t 6)) <|
  .o none (.bin 8 .lss false (.t 5) (.t 7)) .nil)) <| .cond (.t 8) (.skip) (.exit 0)) <| .seq (.block 1 (.rg (.o none (.mv 11 (.t 3)) <|
  .o none (.mv 12 (.t 0)) <|
  .o none (.mv 13 (.t 4)) <|
  .o none (.idx 14 1 (.t 12) (.t 13)) <|
  .o none (.ld 15 1 false (.t 14)) <|
  .o none (.bin 16 .add false (.t 11) (.t 15)) <|
  .o none (.mv 3 (.t 16)) .nil))) <| .rg (.o none (.mv 9 (.t 4)) <|
  .o none (.bin 10 .add false (.t 9) (.c (.int .i64 1))) <|
  .o none (.mv 4 (.t 10)) .nil)))) <| .seq (.rg (.o none (.mv 17 (.t 3)) <|
  .o none (.mv 2 (.t 17)) .nil)) <| .ret⟩
theorem Q7x : Qe Tryz.prog Tryz.f153 = some Q4j := by kernel_rfl
def c76 : SFn := ⟨17, [.t 4], .seq (.rg (.o none (.mv 4 (.c (.int .i64 0))) .nil)) <| .seq (.seq (.rg (.o none (.mv 5 (.t 1)) <|
  .o none (.bin 6 .lss false (.t 5) (.c (.int .i64 0))) <|
  .o none (.mv 7 (.t 6)) <|
  .o (some (7, false)) (.mv 8 (.t 1)) <|
  .o (some (7, false)) (.mv 9 (.t 0)) <|
  .o (some (7, false)) (.len 10 (.t 9)) <|
  .o (some (7, false)) (.bin 11 .geq false (.t 8) (.t 10)) <|
  .o none (.pick 12 (.t 7) (.c (.bool true)) (.t 11)) .nil)) <| .cond (.t 12) (.seq (.rg (.o none (.mv 4 (.c (.int .i64 0))) .nil)) <| .ret) (.skip)) <| .seq (.rg (.o none (.mv 13 (.t 0)) <|
  .o none (.mv 14 (.t 1)) <|
  .o none (.idx 15 1 (.t 13) (.t 14)) <|
  .o none (.ld 16 1 false (.t 15)) <|
  .o none (.mv 4 (.t 16)) .nil)) <| .ret⟩
theorem Qaau : Qe Tryz.prog Tryz.f76 = some c76 := by kernel_rfl
def Q4k : SFn := ⟨30, [.t 4], .seq (.rg (.o none (.mv 4 (.c .nilS)) .nil)) <| .seq (.rg (.o none (.mv 5 (.c .nilS)) .nil)) <| .seq (.seq (.rg (.o none (.mv 6 (.c (.int .i64 0))) .nil)) <| .block 0 (.loop (.seq (.seq (.rg (.o none (.mv 7 (.t 6)) <|
  .o none (.mv 8 (.t 0)) <|
  .o none (.len 9 (.t 8)) <|
  .o none (.bin 10 .lss false (.t 7) (.t 9)) <|
  .o none (.mv 11 (.t 10)) <|
  .o (some (11, false)) (.mv 12 (.t 6)) <|
  .o (some (11, false)) (.mv 13 (.t 1)) <|
  .o (some (11, false)) (.len 14 (.t 13)) <|
  .o (some (11, false)) (.bin 15 .lss false (.t 12) (.t 14)) <|
  .o none (.pick 16 (.t 11) (.c (.bool true)) (.t 15)) .nil)) <| .cond (.t 16) (.skip) (.exit 0)) <| .seq (.block 1 (.rg (.o none (.mv 19 (.t 5)) <|
  .o none (.mv 20 (.t 0)) <|
  .o none (.mv 21 (.t 6)) <|
  .o none (.call (some 22) false (.c (.fn 76 [] [])) [(.t 20), (.t 21)]) <|
  .o none (.mv 23 (.t 1)) <|
  .o none (.mv 24 (.t 6)) <|
  .o none (.call (some 25) false (.c (.fn 76 [] [])) [(.t 23), (.t 24)]) <|
  .o none (.bin 26 .add false (.t 22) (.t 25)) <|
  .o none (.bs 27 1 3 [(.t 26)]) <|
  .o none (.app 28 1 8 3 (.t 19) (.t 27)) <|
  .o none (.mv 5 (.t 28)) .nil))) <| .rg (.o none (.mv 17 (.t 6)) <|
  .o none (.bin 18 .add false (.t 17) (.c (.int .i64 1))) <|
  .o none (.mv 6 (.t 18)) .nil)))) <| .seq (.rg (.o none (.mv 29 (.t 5)) <|
  .o none (.mv 4 (.t 29)) .nil)) <| .ret⟩
theorem Q7y : Qe Tryz.prog Tryz.f160 = some Q4k := by kernel_rfl
def c95 : SFn := ⟨48, [.t 6], .seq (.rg (.o none (.mv 6 (.c (.int .i64 0))) .nil)) <| .seq (.seq (.rg (.o none (.mv 8 (.t 2)) <|
  .o none (.bin 9 .eql false (.t 8) (.c (.int .i64 1))) <|
  .o none (.mv 10 (.t 9)) <|
  .o (some (10, true)) (.mv 11 (.t 0)) <|
  .o (some (10, true)) (.call (some 12) false (.c (.fn 153 [] [])) [(.t 11)]) <|
  .o (some (10, true)) (.mv 13 (.t 1)) <|
  .o (some (10, true)) (.call (some 14) false (.c (.fn 153 [] [])) [(.t 13)]) <|
  .o (some (10, true)) (.bin 15 .neq false (.t 12) (.t 14)) <|
  .o none (.pick 16 (.t 10) (.t 15) (.c (.bool false))) .nil)) <| .cond (.t 16) (.seq (.rg (.o none (.mv 17 (.t 0)) <|
  .o none (.call (some 18) false (.c (.fn 153 [] [])) [(.t 17)]) <|
  .o none (.mv 19 (.t 1)) <|
  .o none (.call (some 20) false (.c (.fn 153 [] [])) [(.t 19)]) <|
  .o none (.bin 21 .sub false (.t 18) (.t 20)) <|
  .o none (.call (some 22) false (.c (.fn 154 [] [])) [(.t 21)]) <|
  .o none (.mv 6 (.t 22)) .nil)) <| .ret) (.skip)) <| .seq (.seq (.rg (.o none (.mv 23 (.t 0)) <|
  .o none (.len 24 (.t 23)) <|
  .o none (.mv 25 (.t 1)) <|
  .o none (.len 26 (.t 25)) <|
  .o none (.mx 27 (.t 24) (.t 26)) <|
  .o none (.bin 28 .sub false (.t 27) (.c (.int .i64 1))) <|
  .o none (.mv 7 (.t 28)) .nil)) <| .block 0 (.loop (.seq (.seq (.rg (.o none (.mv 29 (.t 7)) <|
  .o none (.bin 30 .geq false (.t 29) (.c (.int .i64 0))) .nil)) <| .cond (.t 30) (.skip) (.exit 0)) <| .seq (.block 1 (.seq (.rg (.o none (.mv 33 (.t 0)) <|
  .o none (.mv 34 (.t 7)) <|
  .o none (.call (some 35) false (.c (.fn 76 [] [])) [(.t 33), (.t 34)]) <|
  .o none (.mv 36 (.t 1)) <|
  .o none (.mv 37 (.t 7)) <|
  .o none (.call (some 38) false (.c (.fn 76 [] [])) [(.t 36), (.t 37)]) <|
  .o none (.bin 39 .neq false (.t 35) (.t 38)) .nil)) <| .cond (.t 39) (.seq (.rg (.o none (.mv 40 (.t 0)) <|
  .o none (.mv 41 (.t 7)) <|
  .o none (.call (some 42) false (.c (.fn 76 [] [])) [(.t 40), (.t 41)]) <|
  .o none (.mv 43 (.t 1)) <|
  .o none (.mv 44 (.t 7)) <|
  .o none (.call (some 45) false (.c (.fn 76 [] [])) [(.t 43), (.t 44)]) <|
  .o none (.bin 46 .sub false (.t 42) (.t 45)) <|
  .o none (.call (some 47) false (.c (.fn 154 [] [])) [(.t 46)]) <|
  .o none (.mv 6 (.t 47)) .nil)) <| .ret) (.skip))) <| .rg (.o none (.mv 31 (.t 7)) <|
  .o none (.bin 32 .sub false (.t 31) (.c (.int .i64 1))) <|
  .o none (.mv 7 (.t 32)) .nil)))) <| .seq (.rg (.o none (.mv 6 (.c (.int .i64 0))) .nil)) <| .ret⟩
theorem Qaav : Qe Tryz.prog Tryz.f95 = some c95 := by kernel_rfl
def Q4l : SFn := ⟨7, [.t 2], .seq (.rg (.o none (.mv 2 (.c (.int .i64 0))) .nil)) <| .seq (.seq (.rg (.o none (.mv 3 (.t 0)) <|
  .o none (.bin 4 .lss false (.t 3) (.c (.int .i64 0))) .nil)) <| .cond (.t 4) (.seq (.rg (.o none (.mv 2 (.c (.int .i64 (-1)))) .nil)) <| .ret) (.skip)) <| .seq (.seq (.rg (.o none (.mv 5 (.t 0)) <|
  .o none (.bin 6 .gtr false (.t 5) (.c (.int .i64 0))) .nil)) <| .cond (.t 6) (.seq (.rg (.o none (.mv 2 (.c (.int .i64 1))) .nil)) <| .ret) (.skip)) <| .seq (.rg (.o none (.mv 2 (.c (.int .i64 0))) .nil)) <| .ret⟩
theorem Q7z : Qe Tryz.prog Tryz.f154 = some Q4l := by kernel_rfl
end Go.Proofs.YtjkbalanglgoiaaGreat
namespace Go.Proofs.YtjkbalanglgoiaaGreat
open Go Go.FW
set_option maxRecDepth 100000
def c44 : SFn := ⟨92, [.t 4], .seq (.rg (.o none (.mv 4 (.c .nilS)) .nil)) <| .seq (.rg (.o none (.mv 5 (.c .nilS)) .nil)) <| .seq (.rg (.o none (.mv 6 (.c (.int .i64 0))) <|
  .o none (.mv 7 (.c (.int .i64 0))) .nil)) <| .seq (.block 0 (.loop (.seq (.seq (.rg (.o none (.mv 10 (.t 6)) <|
  .o none (.mv 11 (.t 0)) <|
  .o none (.len 12 (.t 11)) <|
  .o none (.bin 13 .lss false (.t 10) (.t 12)) <|
  .o none (.mv 14 (.t 13)) <|
  .o (some (14, false)) (.mv 15 (.t 7)) <|
  .o (some (14, false)) (.mv 16 (.t 1)) <|
  .o (some (14, false)) (.len 17 (.t 16)) <|
  .o (some (14, false)) (.bin 18 .lss false (.t 15) (.t 17)) <|
  .o none (.pick 19 (.t 14) (.c (.bool true)) (.t 18)) .nil)) <| .cond (.t 19) (.skip) (.exit 0)) <| .block 1 (.seq (.rg (.o none (.mv 8 (.c (.int .i64 1))) .nil)) <| .seq (.seq (.rg (.o none (.mv 20 (.t 6)) <|
  .o none (.mv 21 (.t 0)) <|
  .o none (.len 22 (.t 21)) <|
  .o none (.bin 23 .eql false (.t 20) (.t 22)) .nil)) <| .cond (.t 23) (.rg (.o none (.mv 8 (.c (.int .i64 (-1)))) .nil)) (.seq (.rg (.o none (.mv 24 (.t 7)) <|
  .o none (.mv 25 (.t 1)) <|
  .o none (.len 26 (.t 25)) <|
  .o none (.bin 27 .lss false (.t 24) (.t 26)) .nil)) <| .cond (.t 27) (.rg (.o none (.mv 28 (.t 0)) <|
  .o none (.mv 29 (.t 6)) <|
  .o none (.idx 30 4 (.t 28) (.t 29)) <|
  .o none (.fld 31 3 (.t 30)) <|
  .o none (.ld 32 1 false (.t 31)) <|
  .o none (.mv 33 (.t 1)) <|
  .o none (.mv 34 (.t 7)) <|
  .o none (.idx 35 4 (.t 33) (.t 34)) <|
  .o none (.fld 36 3 (.t 35)) <|
  .o none (.ld 37 1 false (.t 36)) <|
  .o none (.call (some 38) false (.c (.fn 95 [] [])) [(.t 32), (.t 37), (.c (.int .i64 0))]) <|
  .o none (.mv 8 (.t 38)) .nil)) (.skip))) <| .block 2 (.seq (.rg (.o none (.mv 68 (.t 8)) <|
  .o none (.bin 69 .gtr false (.t 68) (.c (.int .i64 0))) <|
  .o none (.mv 67 (.t 69)) .nil)) <| .cond (.t 67) (.seq (.rg (.o none (.mv 70 (.t 5)) <|
  .o none (.mv 71 (.t 0)) <|
  .o none (.mv 72 (.t 6)) <|
  .o none (.idx 73 4 (.t 71) (.t 72)) <|
  .o none (.ld 74 4 true (.t 73)) <|
  .o none (.bs 75 4 61 [(.t 74)]) <|
  .o none (.app 76 4 80 61 (.t 70) (.t 75)) <|
  .o none (.mv 5 (.t 76)) .nil)) <| .rg (.o none (.mv 77 (.t 6)) <|
  .o none (.bin 78 .add false (.t 77) (.c (.int .i64 1))) <|
  .o none (.mv 6 (.t 78)) .nil)) (.seq (.rg (.o none (.mv 80 (.t 8)) <|
  .o none (.bin 81 .lss false (.t 80) (.c (.int .i64 0))) <|
  .o none (.mv 79 (.t 81)) .nil)) <| .cond (.t 79) (.seq (.rg (.o none (.mv 82 (.t 5)) <|
  .o none (.mv 83 (.t 1)) <|
  .o none (.mv 84 (.t 7)) <|
  .o none (.idx 85 4 (.t 83) (.t 84)) <|
  .o none (.ld 86 4 true (.t 85)) <|
  .o none (.bs 87 4 61 [(.t 86)]) <|
  .o none (.app 88 4 80 61 (.t 82) (.t 87)) <|
  .o none (.mv 5 (.t 88)) .nil)) <| .rg (.o none (.mv 89 (.t 7)) <|
  .o none (.bin 90 .add false (.t 89) (.c (.int .i64 1))) <|
  .o none (.mv 7 (.t 90)) .nil)) (.seq (.seq (.rg (.o none (.mv 39 (.t 0)) <|
  .o none (.mv 40 (.t 6)) <|
  .o none (.idx 41 4 (.t 39) (.t 40)) <|
  .o none (.fld 42 0 (.t 41)) <|
  .o none (.ld 43 3 true (.t 42)) <|
  .o none (.mv 44 (.t 1)) <|
  .o none (.mv 45 (.t 7)) <|
  .o none (.idx 46 4 (.t 44) (.t 45)) <|
  .o none (.fld 47 0 (.t 46)) <|
  .o none (.ld 48 3 true (.t 47)) <|
  .br (.o none (.call (some 49) true (.c (.fn 102 [] [])) [(.t 43), (.t 48)]) <|
  .o none (.alloc 9 3 33 (.agg [(.bool false), .nilS, .nilS])) <|
  .o none (.st 3 (.t 9) (.t 49)) .nil) (.o none (.alloc 9 3 33 (.agg [(.bool false), .nilS, .nilS])) <|
  .o none (.call (some 49) true (.c (.fn 102 [] [])) [(.t 43), (.t 48)]) <|
  .o none (.st 3 (.t 9) (.t 49)) .nil))) <| .seq (.rg (.o none (.ld 50 3 true (.t 9)) <|
  .o none (.call (some 51) false (.c (.fn 93 [] [])) [(.t 50)]) <|
  .o none (.bin 52 .neq false (.t 51) (.c (.int .i64 0))) .nil)) <| .cond (.t 52) (.rg (.o none (.mv 53 (.t 5)) <|
  .o none (.ld 54 3 true (.t 9)) <|
  .o none (.mv 55 (.t 0)) <|
  .o none (.mv 56 (.t 6)) <|
  .o none (.idx 57 4 (.t 55) (.t 56)) <|
  .o none (.fld 58 3 (.t 57)) <|
  .o none (.ld 59 1 false (.t 58)) <|
  .o none (.bld 60 [(.bool false), .nilS, .nilS, .nilS] [(0, 3, (.t 54)), (3, 1, (.t 59))]) <|
  .o none (.bs 61 4 61 [(.t 60)]) <|
  .o none (.app 62 4 80 61 (.t 53) (.t 61)) <|
  .o none (.mv 5 (.t 62)) .nil)) (.skip)) <| .seq (.rg (.o none (.mv 63 (.t 6)) <|
  .o none (.bin 64 .add false (.t 63) (.c (.int .i64 1))) <|
  .o none (.mv 6 (.t 64)) .nil)) <| .rg (.o none (.mv 65 (.t 7)) <|
  .o none (.bin 66 .add false (.t 65) (.c (.int .i64 1))) <|
  .o none (.mv 7 (.t 66)) .nil)))))))) <| .seq (.rg (.o none (.mv 91 (.t 5)) <|
  .o none (.mv 4 (.t 91)) .nil)) <| .ret⟩
theorem Qaaw : Qe Tryz.prog Tryz.f44 = some c44 := by kernel_rfl
def c68 : SFn := ⟨58, [.t 4], .seq (.rg (.o none (.mv 4 (.c (.int .i64 0))) .nil)) <| .seq (.seq (.rg (.o none (.mv 5 (.c (.int .i64 0))) .nil)) <| .block 0 (.loop (.seq (.seq (.rg (.o none (.mv 8 (.t 5)) <|
  .o none (.mv 9 (.t 0)) <|
  .o none (.len 10 (.t 9)) <|
  .o none (.bin 11 .lss false (.t 8) (.t 10)) <|
  .o none (.mv 12 (.t 11)) <|
  .o (some (12, true)) (.mv 13 (.t 5)) <|
  .o (some (12, true)) (.mv 14 (.t 1)) <|
  .o (some (12, true)) (.len 15 (.t 14)) <|
  .o (some (12, true)) (.bin 16 .lss false (.t 13) (.t 15)) <|
  .o none (.pick 17 (.t 12) (.t 16) (.c (.bool false))) .nil)) <| .cond (.t 17) (.skip) (.exit 0)) <| .seq (.block 1 (.seq (.seq (.rg (.o none (.mv 20 (.t 0)) <|
  .o none (.mv 21 (.t 5)) <|
  .o none (.idx 22 4 (.t 20) (.t 21)) <|
  .o none (.fld 23 3 (.t 22)) <|
  .o none (.ld 24 1 false (.t 23)) <|
  .o none (.mv 25 (.t 1)) <|
  .o none (.mv 26 (.t 5)) <|
  .o none (.idx 27 4 (.t 25) (.t 26)) <|
  .o none (.fld 28 3 (.t 27)) <|
  .o none (.ld 29 1 false (.t 28)) <|
  .o none (.call (some 30) false (.c (.fn 95 [] [])) [(.t 24), (.t 29), (.c (.int .i64 0))]) <|
  .o none (.mv 6 (.t 30)) .nil)) <| .seq (.rg (.o none (.mv 31 (.t 6)) <|
  .o none (.bin 32 .neq false (.t 31) (.c (.int .i64 0))) .nil)) <| .cond (.t 32) (.seq (.rg (.o none (.mv 33 (.t 6)) <|
  .o none (.mv 4 (.t 33)) .nil)) <| .ret) (.skip)) <| .seq (.rg (.o none (.mv 34 (.t 0)) <|
  .o none (.mv 35 (.t 5)) <|
  .o none (.idx 36 4 (.t 34) (.t 35)) <|
  .o none (.fld 37 0 (.t 36)) <|
  .o none (.ld 38 3 true (.t 37)) <|
  .o none (.mv 39 (.t 1)) <|
  .o none (.mv 40 (.t 5)) <|
  .o none (.idx 41 4 (.t 39) (.t 40)) <|
  .o none (.fld 42 0 (.t 41)) <|
  .o none (.ld 43 3 true (.t 42)) <|
  .o none (.call (some 44) false (.c (.fn 86 [] [])) [(.t 38), (.t 43)]) <|
  .o none (.mv 7 (.t 44)) .nil)) <| .seq (.rg (.o none (.mv 45 (.t 7)) <|
  .o none (.bin 46 .neq false (.t 45) (.c (.int .i64 0))) .nil)) <| .cond (.t 46) (.seq (.rg (.o none (.mv 47 (.t 7)) <|
  .o none (.mv 4 (.t 47)) .nil)) <| .ret) (.skip))) <| .rg (.o none (.mv 18 (.t 5)) <|
  .o none (.bin 19 .add false (.t 18) (.c (.int .i64 1))) <|
  .o none (.mv 5 (.t 19)) .nil)))) <| .seq (.seq (.rg (.o none (.mv 48 (.t 0)) <|
  .o none (.len 49 (.t 48)) <|
  .o none (.mv 50 (.t 1)) <|
  .o none (.len 51 (.t 50)) <|
  .o none (.bin 52 .lss false (.t 49) (.t 51)) .nil)) <| .cond (.t 52) (.seq (.rg (.o none (.mv 4 (.c (.int .i64 (-1)))) .nil)) <| .ret) (.skip)) <| .seq (.seq (.rg (.o none (.mv 53 (.t 0)) <|
  .o none (.len 54 (.t 53)) <|
  .o none (.mv 55 (.t 1)) <|
  .o none (.len 56 (.t 55)) <|
  .o none (.bin 57 .gtr false (.t 54) (.t 56)) .nil)) <| .cond (.t 57) (.seq (.rg (.o none (.mv 4 (.c (.int .i64 1))) .nil)) <| .ret) (.skip)) <| .seq (.rg (.o none (.mv 4 (.c (.int .i64 0))) .nil)) <| .ret⟩
theorem Qaax : Qe Tryz.prog Tryz.f68 = some c68 := by kernel_rfl
def c15 : SFn := ⟨9, [.t 4], .seq (.rg (.o none (.mv 4 (.c (.bool false))) .nil)) <| .seq (.rg (.o none (.mv 5 (.t 0)) <|
  .o none (.mv 6 (.t 1)) <|
  .o none (.call (some 7) false (.c (.fn 68 [] [])) [(.t 5), (.t 6)]) <|
  .o none (.bin 8 .eql false (.t 7) (.c (.int .i64 0))) <|
  .o none (.mv 4 (.t 8)) .nil)) <| .ret⟩
theorem Qaay : Qe Tryz.prog Tryz.f15 = some c15 := by kernel_rfl
def c52 : SFn := ⟨22, [.t 4], .seq (.rg (.o none (.mv 4 (.c .nilS)) .nil)) <| .seq (.rg (.o none (.mv 5 (.c .nilS)) .nil)) <| .seq (.seq (.rg (.o none (.mv 6 (.c (.int .i64 0))) .nil)) <| .block 0 (.loop (.seq (.seq (.rg (.o none (.mv 7 (.t 6)) <|
  .o none (.mv 8 (.t 1)) <|
  .o none (.len 9 (.t 8)) <|
  .o none (.bin 10 .lss false (.t 7) (.t 9)) .nil)) <| .cond (.t 10) (.skip) (.exit 0)) <| .seq (.block 1 (.rg (.o none (.mv 13 (.t 5)) <|
  .o none (.mv 14 (.t 0)) <|
  .o none (.mv 15 (.t 1)) <|
  .o none (.mv 16 (.t 6)) <|
  .o none (.idx 17 4 (.t 15) (.t 16)) <|
  .o none (.ld 18 4 true (.t 17)) <|
  .o none (.call (some 19) false (.c (.fn 117 [] [])) [(.t 14), (.t 18)]) <|
  .o none (.call (some 20) false (.c (.fn 44 [] [])) [(.t 13), (.t 19)]) <|
  .o none (.mv 5 (.t 20)) .nil))) <| .rg (.o none (.mv 11 (.t 6)) <|
  .o none (.bin 12 .add false (.t 11) (.c (.int .i64 1))) <|
  .o none (.mv 6 (.t 12)) .nil)))) <| .seq (.rg (.o none (.mv 21 (.t 5)) <|
  .o none (.mv 4 (.t 21)) .nil)) <| .ret⟩
theorem Qaaz : Qe Tryz.prog Tryz.f52 = some c52 := by kernel_rfl
def Q4m : SFn := ⟨6, [.t 2], .seq (.rg (.o none (.mv 2 (.c .nilS)) .nil)) <| .seq (.rg (.o none (.mv 3 (.t 0)) <|
  .o none (.call (some 4) false (.c (.fn 36 [] [])) [(.c (.int .i64 (-1)))]) <|
  .o none (.call (some 5) false (.c (.fn 67 [] [])) [(.t 3), (.t 4)]) <|
  .o none (.mv 2 (.t 5)) .nil)) <| .ret⟩
theorem Q70 : Qe Tryz.prog Tryz.f116 = some Q4m := by kernel_rfl
def c43 : SFn := ⟨34, [.t 2], .seq (.rg (.o none (.mv 2 (.c .nilS)) .nil)) <| .seq (.rg (.o none (.mv 3 (.c .nilS)) .nil)) <| .seq (.seq (.rg (.o none (.mv 4 (.c (.int .i64 0))) .nil)) <| .block 0 (.loop (.seq (.seq (.rg (.o none (.mv 6 (.t 4)) <|
  .o none (.mv 7 (.t 0)) <|
  .o none (.len 8 (.t 7)) <|
  .o none (.bin 9 .lss false (.t 6) (.t 8)) .nil)) <| .cond (.t 9) (.skip) (.exit 0)) <| .seq (.block 1 (.seq (.rg (.o none (.mv 12 (.t 0)) <|
  .o none (.mv 13 (.t 4)) <|
  .o none (.idx 14 4 (.t 12) (.t 13)) <|
  .o none (.fld 15 3 (.t 14)) <|
  .o none (.ld 16 1 false (.t 15)) <|
  .o none (.call (some 17) false (.c (.fn 99 [] [])) [(.t 16)]) <|
  .o none (.mv 5 (.t 17)) .nil)) <| .seq (.rg (.o none (.mv 18 (.t 0)) <|
  .o none (.mv 19 (.t 4)) <|
  .o none (.idx 20 4 (.t 18) (.t 19)) <|
  .o none (.fld 21 3 (.t 20)) <|
  .o none (.ld 22 1 false (.t 21)) <|
  .o none (.mv 23 (.t 5)) <|
  .o none (.call (some 24) false (.c (.fn 100 [] [])) [(.t 22), (.t 23)]) .nil)) <| .cond (.t 24) (.rg (.o none (.mv 25 (.t 3)) <|
  .o none (.mv 26 (.t 0)) <|
  .o none (.mv 27 (.t 4)) <|
  .o none (.idx 28 4 (.t 26) (.t 27)) <|
  .o none (.fld 29 0 (.t 28)) <|
  .o none (.ld 30 3 true (.t 29)) <|
  .o none (.mv 31 (.t 5)) <|
  .o none (.call (some 32) false (.c (.fn 101 [] [])) [(.t 25), (.t 30), (.t 31)]) <|
  .o none (.mv 3 (.t 32)) .nil)) (.skip))) <| .rg (.o none (.mv 10 (.t 4)) <|
  .o none (.bin 11 .add false (.t 10) (.c (.int .i64 1))) <|
  .o none (.mv 4 (.t 11)) .nil)))) <| .seq (.rg (.o none (.mv 33 (.t 3)) <|
  .o none (.mv 2 (.t 33)) .nil)) <| .ret⟩
theorem Qaa0 : Qe Tryz.prog Tryz.f43 = some c43 := by kernel_rfl
def c39 : SFn := ⟨52, [.t 2], .seq (.rg (.o none (.mv 2 (.c (.bool false))) .nil)) <| .seq (.seq (.rg (.o none (.mv 3 (.c (.int .i64 0))) .nil)) <| .block 0 (.loop (.seq (.seq (.rg (.o none (.mv 4 (.t 3)) <|
  .o none (.mv 5 (.t 0)) <|
  .o none (.len 6 (.t 5)) <|
  .o none (.bin 7 .lss false (.t 4) (.t 6)) .nil)) <| .cond (.t 7) (.skip) (.exit 0)) <| .seq (.block 1 (.seq (.seq (.rg (.o none (.mv 10 (.t 0)) <|
  .o none (.mv 11 (.t 3)) <|
  .o none (.idx 12 4 (.t 10) (.t 11)) <|
  .o none (.fld 13 0 (.t 12)) <|
  .o none (.ld 14 3 true (.t 13)) <|
  .o none (.call (some 15) false (.c (.fn 92 [] [])) [(.t 14)]) <|
  .o none (.un 16 .not (.t 15)) <|
  .o none (.mv 17 (.t 16)) <|
  .o (some (17, false)) (.mv 18 (.t 0)) <|
  .o (some (17, false)) (.mv 19 (.t 3)) <|
  .o (some (17, false)) (.idx 20 4 (.t 18) (.t 19)) <|
  .o (some (17, false)) (.fld 21 0 (.t 20)) <|
  .o (some (17, false)) (.ld 22 3 true (.t 21)) <|
  .o (some (17, false)) (.call (some 23) false (.c (.fn 93 [] [])) [(.t 22)]) <|
  .o (some (17, false)) (.bin 24 .eql false (.t 23) (.c (.int .i64 0))) <|
  .o none (.pick 25 (.t 17) (.c (.bool true)) (.t 24)) <|
  .o none (.mv 26 (.t 25)) <|
  .o (some (26, false)) (.mv 27 (.t 0)) <|
  .o (some (26, false)) (.mv 28 (.t 3)) <|
  .o (some (26, false)) (.idx 29 4 (.t 27) (.t 28)) <|
  .o (some (26, false)) (.fld 30 3 (.t 29)) <|
  .o (some (26, false)) (.ld 31 1 false (.t 30)) <|
  .o (some (26, false)) (.call (some 32) false (.c (.fn 94 [] [])) [(.t 31)]) <|
  .o (some (26, false)) (.un 33 .not (.t 32)) <|
  .o none (.pick 34 (.t 26) (.c (.bool true)) (.t 33)) .nil)) <| .cond (.t 34) (.seq (.rg (.o none (.mv 2 (.c (.bool false))) .nil)) <| .ret) (.skip)) <| .seq (.rg (.o none (.mv 35 (.t 3)) <|
  .o none (.bin 36 .gtr false (.t 35) (.c (.int .i64 0))) <|
  .o none (.mv 37 (.t 36)) <|
  .o (some (37, true)) (.mv 38 (.t 0)) <|
  .o (some (37, true)) (.mv 39 (.t 3)) <|
  .o (some (37, true)) (.bin 40 .sub false (.t 39) (.c (.int .i64 1))) <|
  .o (some (37, true)) (.idx 41 4 (.t 38) (.t 40)) <|
  .o (some (37, true)) (.fld 42 3 (.t 41)) <|
  .o (some (37, true)) (.ld 43 1 false (.t 42)) <|
  .o (some (37, true)) (.mv 44 (.t 0)) <|
  .o (some (37, true)) (.mv 45 (.t 3)) <|
  .o (some (37, true)) (.idx 46 4 (.t 44) (.t 45)) <|
  .o (some (37, true)) (.fld 47 3 (.t 46)) <|
  .o (some (37, true)) (.ld 48 1 false (.t 47)) <|
  .o (some (37, true)) (.call (some 49) false (.c (.fn 95 [] [])) [(.t 43), (.t 48), (.c (.int .i64 0))]) <|
  .o (some (37, true)) (.bin 50 .leq false (.t 49) (.c (.int .i64 0))) <|
  .o none (.pick 51 (.t 37) (.t 50) (.c (.bool false))) .nil)) <| .cond (.t 51) (.seq (.rg (.o none (.mv 2 (.c (.bool false))) .nil)) <| .ret) (.skip))) <| .rg (.o none (.mv 8 (.t 3)) <|
  .o none (.bin 9 .add false (.t 8) (.c (.int .i64 1))) <|
  .o none (.mv 3 (.t 9)) .nil)))) <| .seq (.rg (.o none (.mv 2 (.c (.bool true))) .nil)) <| .ret⟩
theorem Qaa1 : Qe Tryz.prog Tryz.f39 = some c39 := by kernel_rfl
def c67 : SFn := ⟨35, [.t 4], .seq (.rg (.o none (.box 3 3 33 (.t 1)) <|
  .o none (.mv 4 (.c .nilS)) .nil)) <| .seq (.rg (.o none (.mv 5 (.c .nilS)) .nil)) <| .seq (.seq (.rg (.o none (.mv 6 (.c (.int .i64 0))) .nil)) <| .block 0 (.loop (.seq (.seq (.rg (.o none (.mv 7 (.t 6)) <|
  .o none (.mv 8 (.t 0)) <|
  .o none (.len 9 (.t 8)) <|
  .o none (.bin 10 .lss false (.t 7) (.t 9)) <|
  .o none (.mv 11 (.t 10)) <|
  .o (some (11, true)) (.ld 12 3 true (.t 3)) <|
  .o (some (11, true)) (.call (some 13) false (.c (.fn 93 [] [])) [(.t 12)]) <|
  .o (some (11, true)) (.bin 14 .neq false (.t 13) (.c (.int .i64 0))) <|
  .o none (.pick 15 (.t 11) (.t 14) (.c (.bool false))) .nil)) <| .cond (.t 15) (.skip) (.exit 0)) <| .seq (.block 1 (.rg (.o none (.mv 18 (.t 5)) <|
  .o none (.mv 19 (.t 0)) <|
  .o none (.mv 20 (.t 6)) <|
  .o none (.idx 21 4 (.t 19) (.t 20)) <|
  .o none (.fld 22 0 (.t 21)) <|
  .o none (.ld 23 3 true (.t 22)) <|
  .o none (.ld 24 3 true (.t 3)) <|
  .o none (.mv 26 (.t 0)) <|
  .o none (.mv 27 (.t 6)) <|
  .o none (.idx 28 4 (.t 26) (.t 27)) <|
  .o none (.fld 29 3 (.t 28)) <|
  .o none (.ld 30 1 false (.t 29)) <|
  .o none (.call (some 25) true (.c (.fn 64 [] [])) [(.t 23), (.t 24)]) <|
  .o none (.bld 31 [(.bool false), .nilS, .nilS, .nilS] [(0, 3, (.t 25)), (3, 1, (.t 30))]) <|
  .o none (.bs 32 4 61 [(.t 31)]) <|
  .o none (.app 33 4 80 61 (.t 18) (.t 32)) <|
  .o none (.mv 5 (.t 33)) .nil))) <| .rg (.o none (.mv 16 (.t 6)) <|
  .o none (.bin 17 .add false (.t 16) (.c (.int .i64 1))) <|
  .o none (.mv 6 (.t 17)) .nil)))) <| .seq (.rg (.o none (.mv 34 (.t 5)) <|
  .o none (.mv 4 (.t 34)) .nil)) <| .ret⟩
theorem Qaa2 : Qe Tryz.prog Tryz.f67 = some c67 := by kernel_rfl
def c9 : SFn := ⟨72, [.t 8], .seq (.rg (.o none (.mv 8 (.c (.bool false))) .nil)) <| .seq (.seq (.rg (.o none (.mv 11 (.t 0)) <|
  .o none (.len 12 (.t 11)) <|
  .o none (.mv 13 (.t 1)) <|
  .o none (.bin 14 .gtr false (.t 12) (.t 13)) .nil)) <| .cond (.t 14) (.seq (.rg (.o none (.mv 8 (.c (.bool false))) .nil)) <| .ret) (.skip)) <| .seq (.seq (.rg (.o none (.mv 9 (.c (.int .i64 0))) .nil)) <| .block 0 (.loop (.seq (.seq (.rg (.o none (.mv 15 (.t 9)) <|
  .o none (.mv 16 (.t 0)) <|
  .o none (.len 17 (.t 16)) <|
  .o none (.bin 18 .lss false (.t 15) (.t 17)) .nil)) <| .cond (.t 18) (.skip) (.exit 0)) <| .seq (.block 1 (.seq (.seq (.rg (.o none (.mv 21 (.t 0)) <|
  .o none (.mv 22 (.t 9)) <|
  .o none (.idx 23 4 (.t 21) (.t 22)) <|
  .o none (.fld 24 3 (.t 23)) <|
  .o none (.ld 25 1 false (.t 24)) <|
  .o none (.len 26 (.t 25)) <|
  .o none (.mv 27 (.t 2)) <|
  .o none (.bin 28 .gtr false (.t 26) (.t 27)) <|
  .o none (.mv 29 (.t 28)) <|
  .o (some (29, false)) (.mv 30 (.t 0)) <|
  .o (some (29, false)) (.mv 31 (.t 9)) <|
  .o (some (29, false)) (.idx 32 4 (.t 30) (.t 31)) <|
  .o (some (29, false)) (.fld 33 0 (.t 32)) <|
  .o (some (29, false)) (.fld 34 0 (.t 33)) <|
  .o (some (29, false)) (.fld 35 1 (.t 34)) <|
  .o (some (29, false)) (.ld 36 1 false (.t 35)) <|
  .o (some (29, false)) (.len 37 (.t 36)) <|
  .o (some (29, false)) (.bin 38 .gtr false (.t 37) (.c (.int .i64 4))) <|
  .o none (.pick 39 (.t 29) (.c (.bool true)) (.t 38)) <|
  .o none (.mv 40 (.t 39)) <|
  .o (some (40, false)) (.mv 41 (.t 0)) <|
  .o (some (40, false)) (.mv 42 (.t 9)) <|
  .o (some (40, false)) (.idx 43 4 (.t 41) (.t 42)) <|
  .o (some (40, false)) (.fld 44 0 (.t 43)) <|
  .o (some (40, false)) (.fld 45 2 (.t 44)) <|
  .o (some (40, false)) (.ld 46 1 false (.t 45)) <|
  .o (some (40, false)) (.len 47 (.t 46)) <|
  .o (some (40, false)) (.bin 48 .gtr false (.t 47) (.c (.int .i64 4))) <|
  .o none (.pick 49 (.t 40) (.c (.bool true)) (.t 48)) .nil)) <| .cond (.t 49) (.seq (.rg (.o none (.mv 8 (.c (.bool false))) .nil)) <| .ret) (.skip)) <| .seq (.rg (.o none (.mv 10 (.c (.int .i64 0))) .nil)) <| .block 2 (.loop (.seq (.seq (.rg (.o none (.mv 50 (.t 10)) <|
  .o none (.mv 51 (.t 0)) <|
  .o none (.mv 52 (.t 9)) <|
  .o none (.idx 53 4 (.t 51) (.t 52)) <|
  .o none (.fld 54 3 (.t 53)) <|
  .o none (.ld 55 1 false (.t 54)) <|
  .o none (.len 56 (.t 55)) <|
  .o none (.bin 57 .lss false (.t 50) (.t 56)) .nil)) <| .cond (.t 57) (.skip) (.exit 2)) <| .seq (.block 3 (.seq (.rg (.o none (.mv 60 (.t 0)) <|
  .o none (.mv 61 (.t 9)) <|
  .o none (.idx 62 4 (.t 60) (.t 61)) <|
  .o none (.fld 63 3 (.t 62)) <|
  .o none (.ld 64 1 false (.t 63)) <|
  .o none (.mv 65 (.t 10)) <|
  .o none (.idx 66 1 (.t 64) (.t 65)) <|
  .o none (.ld 67 1 false (.t 66)) <|
  .o none (.mv 68 (.t 3)) <|
  .o none (.bin 69 .gtr false (.t 67) (.t 68)) .nil)) <| .cond (.t 69) (.seq (.rg (.o none (.mv 8 (.c (.bool false))) .nil)) <| .ret) (.skip))) <| .rg (.o none (.mv 58 (.t 10)) <|
  .o none (.bin 59 .add false (.t 58) (.c (.int .i64 1))) <|
  .o none (.mv 10 (.t 59)) .nil))))) <| .rg (.o none (.mv 19 (.t 9)) <|
  .o none (.bin 20 .add false (.t 19) (.c (.int .i64 1))) <|
  .o none (.mv 9 (.t 20)) .nil)))) <| .seq (.rg (.o none (.mv 70 (.t 0)) <|
  .o none (.call (some 71) false (.c (.fn 39 [] [])) [(.t 70)]) <|
  .o none (.mv 8 (.t 71)) .nil)) <| .ret⟩
theorem Qacd : Qe Tryz.prog Tryz.f9 = some c9 := by kernel_rfl
def c51 : SFn := ⟨9, [.t 4], .seq (.rg (.o none (.mv 4 (.c .nilS)) .nil)) <| .seq (.rg (.o none (.mv 5 (.t 0)) <|
  .o none (.mv 6 (.t 1)) <|
  .o none (.call (some 7) false (.c (.fn 116 [] [])) [(.t 6)]) <|
  .o none (.call (some 8) false (.c (.fn 44 [] [])) [(.t 5), (.t 7)]) <|
  .o none (.mv 4 (.t 8)) .nil)) <| .ret⟩
theorem Qaa3 : Qe Tryz.prog Tryz.f51 = some c51 := by kernel_rfl
def Q4n : SFn := ⟨88, [.t 6], .seq (.rg (.o none (.box 4 3 33 (.t 1)) <|
  .o none (.mv 6 (.c .nilS)) .nil)) <| .seq (.rg (.o none (.mv 10 (.t 0)) <|
  .o none (.len 11 (.t 10)) <|
  .o none (.mv 7 (.t 11)) .nil)) <| .seq (.block 0 (.loop (.seq (.seq (.rg (.o none (.mv 12 (.t 7)) <|
  .o none (.bin 13 .gtr false (.t 12) (.c (.int .i64 0))) <|
  .o none (.mv 14 (.t 13)) <|
  .o (some (14, true)) (.mv 15 (.t 0)) <|
  .o (some (14, true)) (.mv 16 (.t 7)) <|
  .o (some (14, true)) (.bin 17 .sub false (.t 16) (.c (.int .i64 1))) <|
  .o (some (14, true)) (.idx 18 4 (.t 15) (.t 17)) <|
  .o (some (14, true)) (.fld 19 3 (.t 18)) <|
  .o (some (14, true)) (.ld 20 1 false (.t 19)) <|
  .o (some (14, true)) (.mv 21 (.t 2)) <|
  .o (some (14, true)) (.call (some 22) false (.c (.fn 95 [] [])) [(.t 20), (.t 21), (.c (.int .i64 0))]) <|
  .o (some (14, true)) (.bin 23 .lss false (.t 22) (.c (.int .i64 0))) <|
  .o none (.pick 24 (.t 14) (.t 23) (.c (.bool false))) .nil)) <| .cond (.t 24) (.skip) (.exit 0)) <| .block 1 (.rg (.o none (.mv 25 (.t 7)) <|
  .o none (.bin 26 .sub false (.t 25) (.c (.int .i64 1))) <|
  .o none (.mv 7 (.t 26)) .nil))))) <| .seq (.rg (.o none (.mv 8 (.c .nilS)) .nil)) <| .seq (.seq (.rg (.o none (.mv 27 (.t 7)) <|
  .o none (.bin 28 .gtr false (.t 27) (.c (.int .i64 0))) <|
  .o none (.mv 29 (.t 28)) <|
  .o (some (29, true)) (.mv 30 (.t 0)) <|
  .o (some (29, true)) (.mv 31 (.t 7)) <|
  .o (some (29, true)) (.bin 32 .sub false (.t 31) (.c (.int .i64 1))) <|
  .o (some (29, true)) (.idx 33 4 (.t 30) (.t 32)) <|
  .o (some (29, true)) (.fld 34 3 (.t 33)) <|
  .o (some (29, true)) (.ld 35 1 false (.t 34)) <|
  .o (some (29, true)) (.mv 36 (.t 2)) <|
  .o (some (29, true)) (.call (some 37) false (.c (.fn 95 [] [])) [(.t 35), (.t 36), (.c (.int .i64 0))]) <|
  .o (some (29, true)) (.bin 38 .eql false (.t 37) (.c (.int .i64 0))) <|
  .o none (.pick 39 (.t 29) (.t 38) (.c (.bool false))) .nil)) <| .cond (.t 39) (.seq (.rg (.o none (.mv 40 (.t 8)) <|
  .o none (.mv 41 (.t 0)) <|
  .o none (.mv 42 (.t 7)) <|
  .o none (.bin 43 .sub false (.t 42) (.c (.int .i64 1))) <|
  .o none (.sl 44 4 (.t 41) none (some (.t 43)) none) <|
  .o none (.app 45 4 80 61 (.t 40) (.t 44)) <|
  .o none (.mv 8 (.t 45)) .nil)) <| .seq (.seq (.rg (.o none (.mv 46 (.t 0)) <|
  .o none (.mv 47 (.t 7)) <|
  .o none (.bin 48 .sub false (.t 47) (.c (.int .i64 1))) <|
  .o none (.idx 49 4 (.t 46) (.t 48)) <|
  .o none (.fld 50 0 (.t 49)) <|
  .o none (.ld 51 3 true (.t 50)) <|
  .o none (.ld 52 3 true (.t 4)) <|
  .br (.o none (.call (some 53) true (.c (.fn 102 [] [])) [(.t 51), (.t 52)]) <|
  .o none (.alloc 9 3 33 (.agg [(.bool false), .nilS, .nilS])) <|
  .o none (.st 3 (.t 9) (.t 53)) .nil) (.o none (.alloc 9 3 33 (.agg [(.bool false), .nilS, .nilS])) <|
  .o none (.call (some 53) true (.c (.fn 102 [] [])) [(.t 51), (.t 52)]) <|
  .o none (.st 3 (.t 9) (.t 53)) .nil))) <| .seq (.rg (.o none (.ld 54 3 true (.t 9)) <|
  .o none (.call (some 55) false (.c (.fn 93 [] [])) [(.t 54)]) <|
  .o none (.bin 56 .neq false (.t 55) (.c (.int .i64 0))) .nil)) <| .cond (.t 56) (.rg (.o none (.mv 57 (.t 8)) <|
  .o none (.ld 58 3 true (.t 9)) <|
  .o none (.mv 59 (.t 2)) <|
  .o none (.bld 60 [(.bool false), .nilS, .nilS, .nilS] [(0, 3, (.t 58)), (3, 1, (.t 59))]) <|
  .o none (.bs 61 4 61 [(.t 60)]) <|
  .o none (.app 62 4 80 61 (.t 57) (.t 61)) <|
  .o none (.mv 8 (.t 62)) .nil)) (.skip)) <| .seq (.rg (.o none (.mv 63 (.t 8)) <|
  .o none (.mv 64 (.t 0)) <|
  .o none (.mv 65 (.t 7)) <|
  .o none (.sl 66 4 (.t 64) (some (.t 65)) none none) <|
  .o none (.app 67 4 80 61 (.t 63) (.t 66)) <|
  .o none (.mv 6 (.t 67)) .nil)) <| .ret) (.skip)) <| .seq (.rg (.o none (.mv 68 (.t 8)) <|
  .o none (.mv 69 (.t 0)) <|
  .o none (.mv 70 (.t 7)) <|
  .o none (.sl 71 4 (.t 69) none (some (.t 70)) none) <|
  .o none (.app 72 4 80 61 (.t 68) (.t 71)) <|
  .o none (.mv 8 (.t 72)) .nil)) <| .seq (.seq (.rg (.o none (.ld 73 3 true (.t 4)) <|
  .o none (.call (some 74) false (.c (.fn 93 [] [])) [(.t 73)]) <|
  .o none (.bin 75 .neq false (.t 74) (.c (.int .i64 0))) .nil)) <| .cond (.t 75) (.rg (.o none (.mv 76 (.t 8)) <|
  .o none (.ld 77 3 true (.t 4)) <|
  .o none (.call (some 78) false (.c (.fn 113 [] [])) [(.t 77)]) <|
  .o none (.mv 79 (.t 2)) <|
  .o none (.bld 80 [(.bool false), .nilS, .nilS, .nilS] [(0, 3, (.t 78)), (3, 1, (.t 79))]) <|
  .o none (.bs 81 4 61 [(.t 80)]) <|
  .o none (.app 82 4 80 61 (.t 76) (.t 81)) <|
  .o none (.mv 8 (.t 82)) .nil)) (.skip)) <| .seq (.rg (.o none (.mv 83 (.t 8)) <|
  .o none (.mv 84 (.t 0)) <|
  .o none (.mv 85 (.t 7)) <|
  .o none (.sl 86 4 (.t 84) (some (.t 85)) none none) <|
  .o none (.app 87 4 80 61 (.t 83) (.t 86)) <|
  .o none (.mv 6 (.t 87)) .nil)) <| .ret⟩
theorem Q71 : Qe Tryz.prog Tryz.f101 = some Q4n := by kernel_rfl
def Q4o : SFn := ⟨34, [.t 4], .seq (.rg (.o none (.box 3 4 61 (.t 1)) <|
  .o none (.mv 4 (.c .nilS)) .nil)) <| .seq (.rg (.o none (.mv 5 (.c .nilS)) .nil)) <| .seq (.seq (.rg (.o none (.mv 6 (.c (.int .i64 0))) .nil)) <| .block 0 (.loop (.seq (.seq (.rg (.o none (.mv 7 (.t 6)) <|
  .o none (.mv 8 (.t 0)) <|
  .o none (.len 9 (.t 8)) <|
  .o none (.bin 10 .lss false (.t 7) (.t 9)) .nil)) <| .cond (.t 10) (.skip) (.exit 0)) <| .seq (.block 1 (.rg (.o none (.mv 13 (.t 5)) <|
  .o none (.mv 14 (.t 0)) <|
  .o none (.mv 15 (.t 6)) <|
  .o none (.idx 16 4 (.t 14) (.t 15)) <|
  .o none (.fld 17 0 (.t 16)) <|
  .o none (.ld 18 3 true (.t 17)) <|
  .o none (.fld 19 0 (.t 3)) <|
  .o none (.ld 20 3 true (.t 19)) <|
  .o none (.mv 22 (.t 0)) <|
  .o none (.mv 23 (.t 6)) <|
  .o none (.idx 24 4 (.t 22) (.t 23)) <|
  .o none (.fld 25 3 (.t 24)) <|
  .o none (.ld 26 1 false (.t 25)) <|
  .o none (.fld 27 3 (.t 3)) <|
  .o none (.ld 28 1 false (.t 27)) <|
  .o none (.call (some 21) true (.c (.fn 64 [] [])) [(.t 18), (.t 20)]) <|
  .o none (.call (some 29) true (.c (.fn 160 [] [])) [(.t 26), (.t 28)]) <|
  .o none (.bld 30 [(.bool false), .nilS, .nilS, .nilS] [(0, 3, (.t 21)), (3, 1, (.t 29))]) <|
  .o none (.bs 31 4 61 [(.t 30)]) <|
  .o none (.app 32 4 80 61 (.t 13) (.t 31)) <|
  .o none (.mv 5 (.t 32)) .nil))) <| .rg (.o none (.mv 11 (.t 6)) <|
  .o none (.bin 12 .add false (.t 11) (.c (.int .i64 1))) <|
  .o none (.mv 6 (.t 12)) .nil)))) <| .seq (.rg (.o none (.mv 33 (.t 5)) <|
  .o none (.mv 4 (.t 33)) .nil)) <| .ret⟩
theorem Q72 : Qe Tryz.prog Tryz.f117 = some Q4o := by kernel_rfl
def Q4p : SFn := ⟨20, [.t 4], .seq (.rg (.o none (.mv 4 (.c (.bool false))) .nil)) <| .seq (.seq (.rg (.o none (.mv 5 (.c (.int .i64 0))) .nil)) <| .block 0 (.loop (.seq (.seq (.rg (.o none (.mv 6 (.t 5)) <|
  .o none (.mv 7 (.t 0)) <|
  .o none (.len 8 (.t 7)) <|
  .o none (.bin 9 .lss false (.t 6) (.t 8)) .nil)) <| .cond (.t 9) (.skip) (.exit 0)) <| .seq (.block 1 (.seq (.rg (.o none (.mv 12 (.t 0)) <|
  .o none (.mv 13 (.t 5)) <|
  .o none (.idx 14 1 (.t 12) (.t 13)) <|
  .o none (.ld 15 1 false (.t 14)) <|
  .o none (.mv 16 (.t 1)) <|
  .o none (.mv 17 (.t 5)) <|
  .o none (.call (some 18) true (.c (.fn 76 [] [])) [(.t 16), (.t 17)]) <|
  .o none (.bin 19 .neq false (.t 15) (.t 18)) .nil)) <| .cond (.t 19) (.seq (.rg (.o none (.mv 4 (.c (.bool false))) .nil)) <| .ret) (.skip))) <| .rg (.o none (.mv 10 (.t 5)) <|
  .o none (.bin 11 .add false (.t 10) (.c (.int .i64 1))) <|
  .o none (.mv 5 (.t 11)) .nil)))) <| .seq (.rg (.o none (.mv 4 (.c (.bool true))) .nil)) <| .ret⟩
theorem Q73 : Qe Tryz.prog Tryz.f100 = some Q4p := by kernel_rfl
end Go.Proofs.YtjkbalanglgoiaaGreat
namespace Go.Proofs.YtjkbalanglgoiaaGreat
open Go Go.FW
set_option maxRecDepth 100000
def c11 : SFn := ⟨78, [.t 4, .t 5], .seq (.rg (.o none (.mv 4 (.c .nilS)) <|
  .o none (.mv 5 (.c (.bool false))) .nil)) <| .seq (.seq (.rg (.o none (.mv 13 (.t 1)) <|
  .o none (.len 14 (.t 13)) <|
  .o none (.bin 15 .eql false (.t 14) (.c (.int .i64 0))) .nil)) <| .cond (.t 15) (.seq (.rg (.o none (.mv 4 (.c .nilS)) <|
  .o none (.mv 5 (.c (.bool false))) .nil)) <| .ret) (.skip)) <| .seq (.rg (.o none (.mv 6 (.c .nilS)) .nil)) <| .seq (.block 0 (.loop (.seq (.seq (.rg (.o none (.mv 16 (.t 0)) <|
  .o none (.len 17 (.t 16)) <|
  .o none (.bin 18 .gtr false (.t 17) (.c (.int .i64 0))) .nil)) <| .cond (.t 18) (.skip) (.exit 0)) <| .block 1 (.seq (.rg (.o none (.mv 20 (.t 0)) <|
  .o none (.idx 21 4 (.t 20) (.c (.int .i64 0))) <|
  .o none (.fld 22 3 (.t 21)) <|
  .o none (.ld 23 1 false (.t 22)) <|
  .o none (.mv 24 (.t 1)) <|
  .o none (.idx 25 4 (.t 24) (.c (.int .i64 0))) <|
  .o none (.fld 26 3 (.t 25)) <|
  .o none (.ld 27 1 false (.t 26)) <|
  .o none (.call (some 28) false (.c (.fn 46 [] [])) [(.t 23), (.t 27)]) <|
  .o none (.mv 19 (.t 28)) <|
  .o none (.ext 29 (.t 19) 0) <|
  .o none (.ext 30 (.t 19) 1) <|
  .o none (.mv 7 (.t 29)) <|
  .o none (.mv 8 (.t 30)) .nil)) <| .seq (.rg (.o none (.mv 32 (.t 0)) <|
  .o none (.idx 33 4 (.t 32) (.c (.int .i64 0))) <|
  .o none (.fld 34 0 (.t 33)) <|
  .o none (.ld 35 3 true (.t 34)) <|
  .o none (.mv 36 (.t 1)) <|
  .o none (.idx 37 4 (.t 36) (.c (.int .i64 0))) <|
  .o none (.fld 38 0 (.t 37)) <|
  .o none (.ld 39 3 true (.t 38)) <|
  .br (.o none (.call (some 40) true (.c (.fn 47 [] [])) [(.t 35), (.t 39)]) <|
  .o none (.mv 31 (.t 40)) <|
  .o none (.ext 41 (.t 31) 0) <|
  .o none (.ext 42 (.t 31) 1) <|
  .o none (.alloc 9 3 33 (.agg [(.bool false), .nilS, .nilS])) <|
  .o none (.st 3 (.t 9) (.t 41)) <|
  .o none (.mv 10 (.t 42)) .nil) (.o none (.alloc 9 3 33 (.agg [(.bool false), .nilS, .nilS])) <|
  .o none (.call (some 40) true (.c (.fn 47 [] [])) [(.t 35), (.t 39)]) <|
  .o none (.mv 31 (.t 40)) <|
  .o none (.ext 41 (.t 31) 0) <|
  .o none (.ext 42 (.t 31) 1) <|
  .o none (.st 3 (.t 9) (.t 41)) <|
  .o none (.mv 10 (.t 42)) .nil))) <| .seq (.seq (.rg (.o none (.mv 43 (.t 8)) <|
  .o none (.un 44 .not (.t 43)) <|
  .o none (.mv 45 (.t 44)) <|
  .o (some (45, false)) (.mv 46 (.t 10)) <|
  .o (some (45, false)) (.bin 47 .neq false (.t 46) (.c (.int .i64 0))) <|
  .o none (.pick 48 (.t 45) (.c (.bool true)) (.t 47)) .nil)) <| .cond (.t 48) (.seq (.rg (.o none (.mv 4 (.c .nilS)) <|
  .o none (.mv 5 (.c (.bool false))) .nil)) <| .ret) (.skip)) <| .seq (.rg (.o none (.ld 49 3 true (.t 9)) <|
  .o none (.mv 50 (.t 7)) <|
  .o none (.bld 51 [(.bool false), .nilS, .nilS, .nilS] [(0, 3, (.t 49)), (3, 1, (.t 50))]) <|
  .o none (.bs 52 4 61 [(.t 51)]) <|
  .o none (.mv 11 (.t 52)) .nil)) <| .seq (.rg (.o none (.mv 53 (.t 6)) <|
  .o none (.mv 54 (.t 11)) <|
  .o none (.app 55 4 80 61 (.t 53) (.t 54)) <|
  .o none (.mv 6 (.t 55)) .nil)) <| .seq (.rg (.o none (.mv 56 (.t 0)) <|
  .o none (.idx 57 4 (.t 56) (.c (.int .i64 0))) <|
  .o none (.fld 58 3 (.t 57)) <|
  .o none (.ld 59 1 false (.t 58)) <|
  .o none (.mv 12 (.t 59)) .nil)) <| .seq (.rg (.o none (.mv 60 (.t 0)) <|
  .o none (.mv 61 (.t 11)) <|
  .o none (.mv 62 (.t 1)) <|
  .o none (.call (some 63) false (.c (.fn 32 [] [])) [(.t 61), (.t 62)]) <|
  .o none (.call (some 64) false (.c (.fn 42 [] [])) [(.t 60), (.t 63)]) <|
  .o none (.mv 0 (.t 64)) .nil)) <| .seq (.rg (.o none (.mv 65 (.t 0)) <|
  .o none (.len 66 (.t 65)) <|
  .o none (.bin 67 .gtr false (.t 66) (.c (.int .i64 0))) <|
  .o none (.mv 68 (.t 67)) <|
  .o (some (68, true)) (.mv 69 (.t 0)) <|
  .o (some (68, true)) (.idx 70 4 (.t 69) (.c (.int .i64 0))) <|
  .o (some (68, true)) (.fld 71 3 (.t 70)) <|
  .o (some (68, true)) (.ld 72 1 false (.t 71)) <|
  .o (some (68, true)) (.mv 73 (.t 12)) <|
  .o (some (68, true)) (.call (some 74) false (.c (.fn 48 [] [])) [(.t 72), (.t 73), (.c (.int .i64 0))]) <|
  .o (some (68, true)) (.bin 75 .geq false (.t 74) (.c (.int .i64 0))) <|
  .o none (.pick 76 (.t 68) (.t 75) (.c (.bool false))) .nil)) <| .cond (.t 76) (.seq (.rg (.o none (.mv 4 (.c .nilS)) <|
  .o none (.mv 5 (.c (.bool false))) .nil)) <| .ret) (.skip))))) <| .seq (.rg (.o none (.mv 77 (.t 6)) <|
  .o none (.mv 4 (.t 77)) <|
  .o none (.mv 5 (.c (.bool true))) .nil)) <| .ret⟩
theorem Q05 : Qe Tryz.prog Tryz.f11 = some c11 := by kernel_rfl
def c13 : SFn := ⟨67, [.t 2, .cell 3 3 true], .seq (.rg (.o none (.mv 2 (.c .nilS)) <|
  .o none (.alloc 3 3 33 (.agg [(.bool false), .nilS, .nilS])) .nil)) <| .seq (.seq (.rg (.o none (.mv 14 (.t 0)) <|
  .o none (.len 15 (.t 14)) <|
  .o none (.bin 16 .eql false (.t 15) (.c (.int .i64 0))) .nil)) <| .cond (.t 16) (.seq (.rg (.o none (.call (some 17) false (.c (.fn 53 [] [])) [(.c (.int .i64 1))]) <|
  .o none (.mv 2 (.c .nilS)) <|
  .o none (.st 3 (.t 3) (.t 17)) .nil)) <| .ret) (.skip)) <| .seq (.rg (.o none (.mv 4 (.c .nilS)) .nil)) <| .seq (.rg (.o none (.call (some 18) false (.c (.fn 54 [] [])) [(.c (.int .u64 1))]) <|
  .o none (.mv 5 (.t 18)) .nil)) <| .seq (.seq (.rg (.o none (.mv 19 (.t 0)) <|
  .o none (.len 20 (.t 19)) <|
  .o none (.mv 21 (.c (.int .i64 0))) .nil)) <| .block 0 (.loop (.seq (.rg (.o none (.bin 22 .lss false (.t 21) (.t 20)) .nil)) <| .seq (.cond (.t 22) (.skip) (.exit 0)) <| .seq (.block 1 (.seq (.rg (.o none (.idx 23 4 (.t 19) (.t 21)) <|
  .o none (.ld 24 4 true (.t 23)) <|
  .o none (.alloc 7 4 61 (.agg [(.bool false), .nilS, .nilS, .nilS])) <|
  .o none (.st 4 (.t 7) (.t 24)) .nil)) <| .seq (.rg (.o none (.mv 25 (.t 4)) <|
  .o none (.fld 26 0 (.t 7)) <|
  .o none (.fld 27 0 (.t 26)) <|
  .o none (.fld 28 1 (.t 27)) <|
  .o none (.ld 29 1 false (.t 28)) <|
  .o none (.call (some 30) false (.c (.fn 55 [] [])) [(.t 25), (.t 29)]) <|
  .o none (.mv 4 (.t 30)) .nil)) <| .seq (.rg (.o none (.mv 31 (.t 5)) <|
  .o none (.fld 32 0 (.t 7)) <|
  .o none (.fld 33 2 (.t 32)) <|
  .o none (.ld 34 1 false (.t 33)) <|
  .o none (.call (some 35) false (.c (.fn 55 [] [])) [(.t 31), (.t 34)]) <|
  .o none (.mv 8 (.t 35)) .nil)) <| .seq (.rg (.o none (.fld 37 0 (.t 7)) <|
  .o none (.fld 38 2 (.t 37)) <|
  .o none (.ld 39 1 false (.t 38)) <|
  .o none (.mv 40 (.t 8)) <|
  .o none (.call (some 41) false (.c (.fn 56 [] [])) [(.t 39), (.t 40)]) <|
  .o none (.mv 36 (.t 41)) <|
  .o none (.ext 42 (.t 36) 0) <|
  .o none (.ext 43 (.t 36) 1) <|
  .o none (.ext 44 (.t 36) 2) <|
  .o none (.mv 9 (.t 42)) <|
  .o none (.mv 10 (.t 43)) <|
  .o none (.mv 11 (.t 44)) .nil)) <| .rg (.o none (.mv 45 (.t 5)) <|
  .o none (.mv 46 (.t 9)) <|
  .o none (.call (some 47) false (.c (.fn 57 [] [])) [(.t 45), (.t 46)]) <|
  .o none (.mv 5 (.t 47)) .nil))) <| .rg (.o none (.bin 48 .add false (.t 21) (.c (.int .i64 1))) <|
  .o none (.mv 21 (.t 48)) .nil)))) <| .seq (.rg (.o none (.mv 50 (.t 0)) <|
  .o none (.idx 51 4 (.t 50) (.c (.int .i64 0))) <|
  .o none (.fld 52 0 (.t 51)) <|
  .o none (.ld 53 3 true (.t 52)) <|
  .o none (.call (some 54) false (.c (.fn 59 [] [])) [(.t 53)]) <|
  .o none (.bin 55 .lss false (.t 54) (.c (.int .i64 0))) <|
  .o none (.mv 56 (.t 5)) <|
  .o none (.bld 57 [(.bool false), .nilS] [(0, 1, (.t 55)), (1, 1, (.t 56))]) <|
  .o none (.mv 58 (.t 4)) <|
  .o none (.bld 59 [(.bool false), .nilS] [(1, 1, (.t 58))]) <|
  .o none (.call (some 60) false (.c (.fn 58 [] [])) [(.t 57), (.t 59)]) <|
  .o none (.mv 49 (.t 60)) <|
  .o none (.ext 61 (.t 49) 0) <|
  .o none (.ext 62 (.t 49) 1) <|
  .o none (.alloc 12 3 33 (.agg [(.bool false), .nilS, .nilS])) <|
  .o none (.st 3 (.t 12) (.t 61)) <|
  .o none (.mv 13 (.t 62)) .nil)) <| .seq (.rg (.o none (.mv 63 (.t 0)) <|
  .o none (.ld 64 3 true (.t 12)) <|
  .o none (.ld 66 3 true (.t 12)) <|
  .o none (.call (some 65) true (.c (.fn 33 [] [])) [(.t 63), (.t 64)]) <|
  .o none (.mv 2 (.t 65)) <|
  .o none (.st 3 (.t 3) (.t 66)) .nil)) <| .ret⟩
theorem Q06 : Qe Tryz.prog Tryz.f13 = some c13 := by kernel_rfl
def c12 : SFn := ⟨58, [.t 4, .t 5], .seq (.rg (.o none (.mv 4 (.c .nilS)) <|
  .o none (.mv 5 (.c (.bool false))) .nil)) <| .seq (.seq (.rg (.o none (.mv 12 (.t 1)) <|
  .o none (.len 13 (.t 12)) <|
  .o none (.bin 14 .eql false (.t 13) (.c (.int .i64 0))) .nil)) <| .cond (.t 14) (.seq (.rg (.o none (.mv 4 (.c .nilS)) <|
  .o none (.mv 5 (.c (.bool false))) .nil)) <| .ret) (.skip)) <| .seq (.rg (.o none (.mv 6 (.c .nilS)) .nil)) <| .seq (.block 0 (.loop (.seq (.seq (.rg (.o none (.mv 15 (.t 0)) <|
  .o none (.len 16 (.t 15)) <|
  .o none (.bin 17 .gtr false (.t 16) (.c (.int .i64 0))) .nil)) <| .cond (.t 17) (.skip) (.exit 0)) <| .block 1 (.seq (.rg (.o none (.mv 19 (.t 0)) <|
  .o none (.idx 20 4 (.t 19) (.c (.int .i64 0))) <|
  .o none (.fld 21 3 (.t 20)) <|
  .o none (.ld 22 1 false (.t 21)) <|
  .o none (.mv 23 (.t 1)) <|
  .o none (.idx 24 4 (.t 23) (.c (.int .i64 0))) <|
  .o none (.fld 25 3 (.t 24)) <|
  .o none (.ld 26 1 false (.t 25)) <|
  .o none (.call (some 27) false (.c (.fn 49 [] [])) [(.t 22), (.t 26)]) <|
  .o none (.mv 18 (.t 27)) <|
  .o none (.ext 28 (.t 18) 0) <|
  .o none (.ext 29 (.t 18) 1) <|
  .o none (.mv 7 (.t 28)) <|
  .o none (.mv 8 (.t 29)) .nil)) <| .seq (.seq (.rg (.o none (.mv 30 (.t 8)) <|
  .o none (.un 31 .not (.t 30)) .nil)) <| .cond (.t 31) (.seq (.rg (.o none (.mv 4 (.c .nilS)) <|
  .o none (.mv 5 (.c (.bool false))) .nil)) <| .ret) (.skip)) <| .seq (.rg (.o none (.mv 33 (.t 0)) <|
  .o none (.idx 34 4 (.t 33) (.c (.int .i64 0))) <|
  .o none (.fld 35 0 (.t 34)) <|
  .o none (.ld 36 3 true (.t 35)) <|
  .o none (.mv 37 (.t 1)) <|
  .o none (.idx 38 4 (.t 37) (.c (.int .i64 0))) <|
  .o none (.fld 39 0 (.t 38)) <|
  .o none (.ld 40 3 true (.t 39)) <|
  .br (.o none (.call (some 41) true (.c (.fn 50 [] [])) [(.t 36), (.t 40)]) <|
  .o none (.mv 32 (.t 41)) <|
  .o none (.ext 42 (.t 32) 0) <|
  .o none (.ext 43 (.t 32) 1) <|
  .o none (.alloc 9 3 33 (.agg [(.bool false), .nilS, .nilS])) <|
  .o none (.st 3 (.t 9) (.t 42)) <|
  .o none (.mv 10 (.t 43)) .nil) (.o none (.alloc 9 3 33 (.agg [(.bool false), .nilS, .nilS])) <|
  .o none (.call (some 41) true (.c (.fn 50 [] [])) [(.t 36), (.t 40)]) <|
  .o none (.mv 32 (.t 41)) <|
  .o none (.ext 42 (.t 32) 0) <|
  .o none (.ext 43 (.t 32) 1) <|
  .o none (.st 3 (.t 9) (.t 42)) <|
  .o none (.mv 10 (.t 43)) .nil))) <| .seq (.rg (.o none (.ld 44 3 true (.t 9)) <|
  .o none (.mv 45 (.t 7)) <|
  .o none (.bld 46 [(.bool false), .nilS, .nilS, .nilS] [(0, 3, (.t 44)), (3, 1, (.t 45))]) <|
  .o none (.bs 47 4 61 [(.t 46)]) <|
  .o none (.call (some 48) false (.c (.fn 43 [] [])) [(.t 47)]) <|
  .o none (.mv 11 (.t 48)) .nil)) <| .seq (.rg (.o none (.mv 49 (.t 6)) <|
  .o none (.mv 50 (.t 11)) <|
  .o none (.call (some 51) false (.c (.fn 44 [] [])) [(.t 49), (.t 50)]) <|
  .o none (.mv 6 (.t 51)) .nil)) <| .rg (.o none (.mv 52 (.t 0)) <|
  .o none (.mv 53 (.t 11)) <|
  .o none (.mv 54 (.t 1)) <|
  .o none (.call (some 55) false (.c (.fn 52 [] [])) [(.t 53), (.t 54)]) <|
  .o none (.call (some 56) false (.c (.fn 51 [] [])) [(.t 52), (.t 55)]) <|
  .o none (.mv 0 (.t 56)) .nil))))) <| .seq (.rg (.o none (.mv 57 (.t 6)) <|
  .o none (.mv 4 (.t 57)) <|
  .o none (.mv 5 (.c (.bool true))) .nil)) <| .ret⟩
theorem Q07 : Qe Tryz.prog Tryz.f12 = some c12 := by kernel_rfl
def c14 : SFn := ⟨94, [.t 2, .cell 3 3 true], .seq (.rg (.o none (.mv 2 (.c .nilS)) <|
  .o none (.alloc 3 3 33 (.agg [(.bool false), .nilS, .nilS])) .nil)) <| .seq (.seq (.rg (.o none (.mv 15 (.t 0)) <|
  .o none (.len 16 (.t 15)) <|
  .o none (.bin 17 .eql false (.t 16) (.c (.int .i64 0))) .nil)) <| .cond (.t 17) (.seq (.rg (.o none (.call (some 18) false (.c (.fn 36 [] [])) [(.c (.int .i64 1))]) <|
  .o none (.mv 2 (.c .nilS)) <|
  .o none (.st 3 (.t 3) (.t 18)) .nil)) <| .ret) (.skip)) <| .seq (.rg (.o none (.call (some 19) false (.c (.fn 60 [] [])) [(.c (.int .u64 1))]) <|
  .o none (.call (some 20) false (.c (.fn 60 [] [])) [(.c (.int .u64 0))]) <|
  .o none (.mv 4 (.t 19)) <|
  .o none (.mv 5 (.t 20)) .nil)) <| .seq (.seq (.rg (.o none (.mv 6 (.c (.int .i64 0))) .nil)) <| .block 0 (.loop (.seq (.seq (.rg (.o none (.mv 21 (.t 6)) <|
  .o none (.mv 22 (.t 0)) <|
  .o none (.len 23 (.t 22)) <|
  .o none (.bin 24 .lss false (.t 21) (.t 23)) .nil)) <| .cond (.t 24) (.skip) (.exit 0)) <| .seq (.block 1 (.seq (.rg (.o none (.mv 27 (.t 4)) <|
  .o none (.mv 28 (.t 0)) <|
  .o none (.mv 29 (.t 6)) <|
  .o none (.idx 30 4 (.t 28) (.t 29)) <|
  .o none (.fld 31 0 (.t 30)) <|
  .o none (.fld 32 2 (.t 31)) <|
  .o none (.ld 33 1 false (.t 32)) <|
  .o none (.call (some 34) false (.c (.fn 61 [] [])) [(.t 27), (.t 33)]) <|
  .o none (.mv 7 (.t 34)) .nil)) <| .seq (.rg (.o none (.mv 36 (.t 0)) <|
  .o none (.mv 37 (.t 6)) <|
  .o none (.idx 38 4 (.t 36) (.t 37)) <|
  .o none (.fld 39 0 (.t 38)) <|
  .o none (.fld 40 2 (.t 39)) <|
  .o none (.ld 41 1 false (.t 40)) <|
  .o none (.mv 42 (.t 7)) <|
  .o none (.call (some 43) false (.c (.fn 62 [] [])) [(.t 41), (.t 42)]) <|
  .o none (.mv 35 (.t 43)) <|
  .o none (.ext 44 (.t 35) 0) <|
  .o none (.ext 45 (.t 35) 1) <|
  .o none (.ext 46 (.t 35) 2) <|
  .o none (.mv 8 (.t 44)) <|
  .o none (.mv 9 (.t 45)) <|
  .o none (.mv 10 (.t 46)) .nil)) <| .rg (.o none (.mv 47 (.t 4)) <|
  .o none (.mv 48 (.t 8)) <|
  .o none (.call (some 49) false (.c (.fn 63 [] [])) [(.t 47), (.t 48)]) <|
  .o none (.mv 4 (.t 49)) .nil))) <| .rg (.o none (.mv 25 (.t 6)) <|
  .o none (.bin 26 .add false (.t 25) (.c (.int .i64 1))) <|
  .o none (.mv 6 (.t 26)) .nil)))) <| .seq (.seq (.rg (.o none (.mv 11 (.c (.int .i64 0))) .nil)) <| .block 2 (.loop (.seq (.seq (.rg (.o none (.mv 50 (.t 11)) <|
  .o none (.mv 51 (.t 0)) <|
  .o none (.len 52 (.t 51)) <|
  .o none (.bin 53 .lss false (.t 50) (.t 52)) .nil)) <| .cond (.t 53) (.skip) (.exit 2)) <| .seq (.block 3 (.seq (.rg (.o none (.mv 56 (.t 0)) <|
  .o none (.mv 57 (.t 11)) <|
  .o none (.idx 58 4 (.t 56) (.t 57)) <|
  .o none (.fld 59 0 (.t 58)) <|
  .o none (.ld 60 3 true (.t 59)) <|
  .o none (.mv 61 (.t 4)) <|
  .o none (.bld 62 [(.bool false), .nilS] [(1, 1, (.t 61))]) <|
  .br (.o none (.call (some 63) true (.c (.fn 60 [] [])) [(.c (.int .u64 1))]) <|
  .o none (.bld 64 [(.bool false), .nilS, .nilS] [(0, 2, (.t 62)), (2, 1, (.t 63))]) <|
  .br (.o none (.call (some 65) true (.c (.fn 64 [] [])) [(.t 60), (.t 64)]) <|
  .o none (.alloc 12 3 33 (.agg [(.bool false), .nilS, .nilS])) <|
  .o none (.st 3 (.t 12) (.t 65)) .nil) (.o none (.alloc 12 3 33 (.agg [(.bool false), .nilS, .nilS])) <|
  .o none (.call (some 65) true (.c (.fn 64 [] [])) [(.t 60), (.t 64)]) <|
  .o none (.st 3 (.t 12) (.t 65)) .nil)) (.o none (.alloc 12 3 33 (.agg [(.bool false), .nilS, .nilS])) <|
  .o none (.call (some 63) true (.c (.fn 60 [] [])) [(.c (.int .u64 1))]) <|
  .o none (.bld 64 [(.bool false), .nilS, .nilS] [(0, 2, (.t 62)), (2, 1, (.t 63))]) <|
  .o none (.call (some 65) true (.c (.fn 64 [] [])) [(.t 60), (.t 64)]) <|
  .o none (.st 3 (.t 12) (.t 65)) .nil))) <| .rg (.o none (.mv 66 (.t 5)) <|
  .o none (.fld 67 0 (.t 12)) <|
  .o none (.fld 68 1 (.t 67)) <|
  .o none (.ld 69 1 false (.t 68)) <|
  .o none (.call (some 70) false (.c (.fn 61 [] [])) [(.t 66), (.t 69)]) <|
  .o none (.mv 5 (.t 70)) .nil))) <| .rg (.o none (.mv 54 (.t 11)) <|
  .o none (.bin 55 .add false (.t 54) (.c (.int .i64 1))) <|
  .o none (.mv 11 (.t 55)) .nil)))) <| .seq (.rg (.o none (.mv 72 (.t 0)) <|
  .o none (.idx 73 4 (.t 72) (.c (.int .i64 0))) <|
  .o none (.fld 74 0 (.t 73)) <|
  .o none (.fld 75 0 (.t 74)) <|
  .o none (.fld 76 0 (.t 75)) <|
  .o none (.ld 77 1 false (.t 76)) <|
  .o none (.mv 78 (.t 4)) <|
  .o none (.bld 79 [(.bool false), .nilS] [(0, 1, (.t 77)), (1, 1, (.t 78))]) <|
  .o none (.mv 80 (.t 5)) <|
  .o none (.bld 81 [(.bool false), .nilS] [(1, 1, (.t 80))]) <|
  .o none (.call (some 82) false (.c (.fn 65 [] [])) [(.t 79), (.t 81)]) <|
  .o none (.mv 71 (.t 82)) <|
  .o none (.ext 83 (.t 71) 0) <|
  .o none (.ext 84 (.t 71) 1) <|
  .o none (.alloc 13 3 33 (.agg [(.bool false), .nilS, .nilS])) <|
  .o none (.st 3 (.t 13) (.t 83)) <|
  .o none (.mv 14 (.t 84)) .nil)) <| .seq (.seq (.rg (.o none (.fld 85 0 (.t 13)) <|
  .o none (.ld 86 2 true (.t 85)) <|
  .o none (.call (some 87) false (.c (.fn 66 [] [])) [(.t 86)]) <|
  .o none (.bin 88 .eql false (.t 87) (.c (.int .i64 0))) .nil)) <| .cond (.t 88) (.seq (.rg (.o none (.call (some 89) false (.c (.fn 36 [] [])) [(.c (.int .i64 1))]) <|
  .o none (.mv 2 (.c .nilS)) <|
  .o none (.st 3 (.t 3) (.t 89)) .nil)) <| .ret) (.skip)) <| .seq (.rg (.o none (.mv 90 (.t 0)) <|
  .o none (.ld 91 3 true (.t 13)) <|
  .o none (.ld 93 3 true (.t 13)) <|
  .o none (.call (some 92) true (.c (.fn 67 [] [])) [(.t 90), (.t 91)]) <|
  .o none (.mv 2 (.t 92)) <|
  .o none (.st 3 (.t 3) (.t 93)) .nil)) <| .ret⟩
theorem Q08 : Qe Tryz.prog Tryz.f14 = some c14 := by kernel_rfl
def c49 : SFn := ⟨31, [.t 4, .t 5], .seq (.rg (.o none (.mv 4 (.c .nilS)) <|
  .o none (.mv 5 (.c (.bool false))) .nil)) <| .seq (.seq (.rg (.o none (.mv 8 (.t 1)) <|
  .o none (.mv 9 (.t 0)) <|
  .o none (.call (some 10) false (.c (.fn 111 [] [])) [(.t 8), (.t 9)]) <|
  .o none (.un 11 .not (.t 10)) .nil)) <| .cond (.t 11) (.seq (.rg (.o none (.mv 4 (.c .nilS)) <|
  .o none (.mv 5 (.c (.bool false))) .nil)) <| .ret) (.skip)) <| .seq (.rg (.o none (.mv 6 (.c .nilS)) .nil)) <| .seq (.seq (.rg (.o none (.mv 7 (.c (.int .i64 0))) .nil)) <| .block 0 (.loop (.seq (.seq (.rg (.o none (.mv 12 (.t 7)) <|
  .o none (.mv 13 (.t 0)) <|
  .o none (.len 14 (.t 13)) <|
  .o none (.bin 15 .lss false (.t 12) (.t 14)) .nil)) <| .cond (.t 15) (.skip) (.exit 0)) <| .seq (.block 1 (.rg (.o none (.mv 18 (.t 6)) <|
  .o none (.mv 19 (.t 0)) <|
  .o none (.mv 20 (.t 7)) <|
  .o none (.idx 21 1 (.t 19) (.t 20)) <|
  .o none (.ld 22 1 false (.t 21)) <|
  .o none (.mv 23 (.t 1)) <|
  .o none (.mv 24 (.t 7)) <|
  .o none (.call (some 25) true (.c (.fn 76 [] [])) [(.t 23), (.t 24)]) <|
  .o none (.bin 26 .sub false (.t 22) (.t 25)) <|
  .o none (.bs 27 1 3 [(.t 26)]) <|
  .o none (.app 28 1 8 3 (.t 18) (.t 27)) <|
  .o none (.mv 6 (.t 28)) .nil))) <| .rg (.o none (.mv 16 (.t 7)) <|
  .o none (.bin 17 .add false (.t 16) (.c (.int .i64 1))) <|
  .o none (.mv 7 (.t 17)) .nil)))) <| .seq (.rg (.o none (.mv 29 (.t 6)) <|
  .o none (.call (some 30) false (.c (.fn 112 [] [])) [(.t 29)]) <|
  .o none (.mv 4 (.t 30)) <|
  .o none (.mv 5 (.c (.bool true))) .nil)) <| .ret⟩
theorem Qaa4 : Qe Tryz.prog Tryz.f49 = some c49 := by kernel_rfl
def Q4q : SFn := ⟨20, [.t 4], .seq (.rg (.o none (.mv 4 (.c (.bool false))) .nil)) <| .seq (.seq (.rg (.o none (.mv 5 (.c (.int .i64 0))) .nil)) <| .block 0 (.loop (.seq (.seq (.rg (.o none (.mv 6 (.t 5)) <|
  .o none (.mv 7 (.t 0)) <|
  .o none (.len 8 (.t 7)) <|
  .o none (.bin 9 .lss false (.t 6) (.t 8)) .nil)) <| .cond (.t 9) (.skip) (.exit 0)) <| .seq (.block 1 (.seq (.rg (.o none (.mv 12 (.t 0)) <|
  .o none (.mv 13 (.t 5)) <|
  .o none (.idx 14 1 (.t 12) (.t 13)) <|
  .o none (.ld 15 1 false (.t 14)) <|
  .o none (.mv 16 (.t 1)) <|
  .o none (.mv 17 (.t 5)) <|
  .o none (.call (some 18) true (.c (.fn 76 [] [])) [(.t 16), (.t 17)]) <|
  .o none (.bin 19 .gtr false (.t 15) (.t 18)) .nil)) <| .cond (.t 19) (.seq (.rg (.o none (.mv 4 (.c (.bool false))) .nil)) <| .ret) (.skip))) <| .rg (.o none (.mv 10 (.t 5)) <|
  .o none (.bin 11 .add false (.t 10) (.c (.int .i64 1))) <|
  .o none (.mv 5 (.t 11)) .nil)))) <| .seq (.rg (.o none (.mv 4 (.c (.bool true))) .nil)) <| .ret⟩
theorem Q74 : Qe Tryz.prog Tryz.f111 = some Q4q := by kernel_rfl
def c34 : SFn := ⟨19, [.cell 4 3 true], .seq (.rg (.o none (.alloc 4 3 33 (.agg [(.bool false), .nilS, .nilS])) .nil)) <| .seq (.rg (.o none (.mv 8 (.t 0)) <|
  .o none (.call (some 9) false (.c (.fn 85 [] [])) [(.t 8)]) <|
  .o none (.mv 10 (.t 1)) <|
  .o none (.call (some 11) false (.c (.fn 85 [] [])) [(.t 10)]) <|
  .o none (.call (some 12) false (.c (.fn 65 [] [])) [(.t 9), (.t 11)]) <|
  .o none (.mv 7 (.t 12)) <|
  .o none (.ext 13 (.t 7) 0) <|
  .o none (.ext 14 (.t 7) 1) <|
  .o none (.alloc 5 3 33 (.agg [(.bool false), .nilS, .nilS])) <|
  .o none (.st 3 (.t 5) (.t 13)) <|
  .o none (.mv 6 (.t 14)) .nil)) <| .seq (.seq (.rg (.o none (.mv 15 (.t 6)) <|
  .o none (.bin 16 .neq false (.t 15) (.c (.int .i64 0))) .nil)) <| .cond (.t 16) (.seq (.rg (.o none (.call (some 17) false (.c (.fn 36 [] [])) [(.c (.int .i64 0))]) <|
  .o none (.st 3 (.t 4) (.t 17)) .nil)) <| .ret) (.skip)) <| .seq (.rg (.o none (.ld 18 3 true (.t 5)) <|
  .o none (.st 3 (.t 4) (.t 18)) .nil)) <| .ret⟩
theorem Qaa5 : Qe Tryz.prog Tryz.f34 = some c34 := by kernel_rfl
def c45 : SFn := ⟨19, [.t 2], .seq (.rg (.o none (.mv 2 (.c .nilS)) .nil)) <| .seq (.seq (.rg (.o none (.mv 4 (.t 0)) <|
  .o none (.bin 5 .lss false (.t 4) (.c (.int .i64 0))) <|
  .o none (.mv 6 (.t 5)) <|
  .o (some (6, false)) (.mv 7 (.t 0)) <|
  .o (some (6, false)) (.bin 8 .geq false (.t 7) (.c (.int .i64 64))) <|
  .o none (.pick 9 (.t 6) (.c (.bool true)) (.t 8)) .nil)) <| .cond (.t 9) (.seq (.rg (.o none (.mv 2 (.c .nilS)) .nil)) <| .ret) (.skip)) <| .seq (.rg (.o none (.mv 10 (.t 0)) <|
  .o none (.bin 11 .add false (.t 10) (.c (.int .i64 1))) <|
  .o none (.mk 12 1 8 3 (.int .i64 0) (.t 11) (.t 11)) <|
  .o none (.mv 3 (.t 12)) .nil)) <| .seq (.rg (.o none (.mv 13 (.t 3)) <|
  .o none (.mv 14 (.t 0)) <|
  .o none (.idx 15 1 (.t 13) (.t 14)) <|
  .o none (.st 1 (.t 15) (.c (.int .i64 1))) .nil)) <| .seq (.rg (.o none (.call (some 16) false (.c (.fn 36 [] [])) [(.c (.int .i64 1))]) <|
  .o none (.mv 17 (.t 3)) <|
  .o none (.call (some 18) false (.c (.fn 101 [] [])) [(.c .nilS), (.t 16), (.t 17)]) <|
  .o none (.mv 2 (.t 18)) .nil)) <| .ret⟩
theorem Qaa6 : Qe Tryz.prog Tryz.f45 = some c45 := by kernel_rfl
def c10 : SFn := ⟨53, [.t 0], .seq (.rg (.o none (.mv 0 (.c (.bool false))) .nil)) <| .seq (.rg (.o none (.call (some 6) false (.c (.fn 40 [] [])) [(.c (.int .i64 0))]) <|
  .o none (.call (some 7) false (.c (.fn 34 [] [])) [(.c (.int .i64 (-1))), (.c (.int .i64 2))]) <|
  .o none (.call (some 8) false (.c (.fn 33 [] [])) [(.t 6), (.t 7)]) <|
  .o none (.call (some 9) false (.c (.fn 34 [] [])) [(.c (.int .i64 1)), (.c (.int .i64 3))]) <|
  .o none (.call (some 10) false (.c (.fn 41 [] [])) [(.t 9)]) <|
  .o none (.call (some 11) false (.c (.fn 38 [] [])) [(.t 8), (.t 10)]) <|
  .o none (.call (some 12) false (.c (.fn 13 [] [])) [(.t 11)]) <|
  .o none (.mv 5 (.t 12)) <|
  .o none (.ext 13 (.t 5) 0) <|
  .o none (.ext 14 (.t 5) 1) <|
  .o none (.alloc 2 3 33 (.agg [(.bool false), .nilS, .nilS])) <|
  .o none (.mv 1 (.t 13)) <|
  .o none (.st 3 (.t 2) (.t 14)) .nil)) <| .seq (.rg (.o none (.call (some 16) false (.c (.fn 40 [] [])) [(.c (.int .i64 0))]) <|
  .o none (.call (some 17) false (.c (.fn 40 [] [])) [(.c (.int .i64 0))]) <|
  .o none (.call (some 18) false (.c (.fn 32 [] [])) [(.t 16), (.t 17)]) <|
  .o none (.call (some 19) false (.c (.fn 40 [] [])) [(.c (.int .i64 1))]) <|
  .o none (.call (some 20) false (.c (.fn 40 [] [])) [(.c (.int .i64 1))]) <|
  .o none (.call (some 21) false (.c (.fn 32 [] [])) [(.t 19), (.t 20)]) <|
  .o none (.call (some 22) false (.c (.fn 42 [] [])) [(.t 18), (.t 21)]) <|
  .o none (.call (some 23) false (.c (.fn 40 [] [])) [(.c (.int .i64 0))]) <|
  .o none (.call (some 24) false (.c (.fn 40 [] [])) [(.c (.int .i64 1))]) <|
  .o none (.call (some 25) false (.c (.fn 42 [] [])) [(.t 23), (.t 24)]) <|
  .o none (.call (some 26) false (.c (.fn 11 [] [])) [(.t 22), (.t 25)]) <|
  .o none (.mv 15 (.t 26)) <|
  .o none (.ext 27 (.t 15) 0) <|
  .o none (.ext 28 (.t 15) 1) <|
  .o none (.mv 3 (.t 27)) <|
  .o none (.mv 4 (.t 28)) .nil)) <| .seq (.rg (.o none (.mv 29 (.t 1)) <|
  .br (.o none (.call (some 30) true (.c (.fn 36 [] [])) [(.c (.int .i64 3))]) <|
  .br (.o none (.bs 31 1 3 [(.c (.int .i64 1))]) <|
  .o none (.bld 32 [(.bool false), .nilS, .nilS, .nilS] [(0, 3, (.t 30)), (3, 1, (.t 31))]) <|
  .o none (.call (some 33) true (.c (.fn 36 [] [])) [(.c (.int .i64 (-2)))]) <|
  .o none (.bld 34 [(.bool false), .nilS, .nilS, .nilS] [(0, 3, (.t 33))]) <|
  .o none (.bs 35 4 61 [(.t 32), (.t 34)]) <|
  .o none (.call (some 36) true (.c (.fn 43 [] [])) [(.t 35)]) <|
  .o none (.call (some 37) true (.c (.fn 15 [] [])) [(.t 29), (.t 36)]) <|
  .o none (.mv 38 (.t 37)) <|
  .o (some (38, true)) (.ld 39 3 true (.t 2)) <|
  .o (some (38, true)) (.call (some 40) true (.c (.fn 36 [] [])) [(.c (.int .i64 (-6)))]) <|
  .o (some (38, true)) (.call (some 41) true (.c (.fn 35 [] [])) [(.t 39), (.t 40)]) <|
  .o none (.pick 42 (.t 38) (.t 41) (.c (.bool false))) <|
  .o none (.mv 43 (.t 42)) <|
  .o (some (43, true)) (.mv 44 (.t 4)) <|
  .o none (.pick 45 (.t 43) (.t 44) (.c (.bool false))) <|
  .o none (.mv 46 (.t 45)) <|
  .o (some (46, true)) (.mv 47 (.t 3)) <|
  .o (some (46, true)) (.call (some 48) true (.c (.fn 45 [] [])) [(.c (.int .i64 0))]) <|
  .o (some (46, true)) (.call (some 49) true (.c (.fn 45 [] [])) [(.c (.int .i64 1))]) <|
  .o (some (46, true)) (.call (some 50) true (.c (.fn 44 [] [])) [(.t 48), (.t 49)]) <|
  .o (some (46, true)) (.call (some 51) true (.c (.fn 15 [] [])) [(.t 47), (.t 50)]) <|
  .o none (.pick 52 (.t 46) (.t 51) (.c (.bool false))) <|
  .o none (.mv 0 (.t 52)) .nil) (.o none (.call (some 33) true (.c (.fn 36 [] [])) [(.c (.int .i64 (-2)))]) <|
  .o none (.bld 34 [(.bool false), .nilS, .nilS, .nilS] [(0, 3, (.t 33))]) <|
  .o none (.bs 31 1 3 [(.c (.int .i64 1))]) <|
  .o none (.bld 32 [(.bool false), .nilS, .nilS, .nilS] [(0, 3, (.t 30)), (3, 1, (.t 31))]) <|
  .o none (.bs 35 4 61 [(.t 32), (.t 34)]) <|
  .o none (.call (some 36) true (.c (.fn 43 [] [])) [(.t 35)]) <|
  .o none (.call (some 37) true (.c (.fn 15 [] [])) [(.t 29), (.t 36)]) <|
  .o none (.mv 38 (.t 37)) <|
  .o (some (38, true)) (.ld 39 3 true (.t 2)) <|
  .o (some (38, true)) (.call (some 40) true (.c (.fn 36 [] [])) [(.c (.int .i64 (-6)))]) <|
  .o (some (38, true)) (.call (some 41) true (.c (.fn 35 [] [])) [(.t 39), (.t 40)]) <|
  .o none (.pick 42 (.t 38) (.t 41) (.c (.bool false))) <|
  .o none (.mv 43 (.t 42)) <|
  .o (some (43, true)) (.mv 44 (.t 4)) <|
  .o none (.pick 45 (.t 43) (.t 44) (.c (.bool false))) <|
  .o none (.mv 46 (.t 45)) <|
  .o (some (46, true)) (.mv 47 (.t 3)) <|
  .o (some (46, true)) (.call (some 48) true (.c (.fn 45 [] [])) [(.c (.int .i64 0))]) <|
  .o (some (46, true)) (.call (some 49) true (.c (.fn 45 [] [])) [(.c (.int .i64 1))]) <|
  .o (some (46, true)) (.call (some 50) true (.c (.fn 44 [] [])) [(.t 48), (.t 49)]) <|
  .o (some (46, true)) (.call (some 51) true (.c (.fn 15 [] [])) [(.t 47), (.t 50)]) <|
  .o none (.pick 52 (.t 46) (.t 51) (.c (.bool false))) <|
  .o none (.mv 0 (.t 52)) .nil)) (.o none (.bs 31 1 3 [(.c (.int .i64 1))]) <|
  .o none (.call (some 30) true (.c (.fn 36 [] [])) [(.c (.int .i64 3))]) <|
  .o none (.bld 32 [(.bool false), .nilS, .nilS, .nilS] [(0, 3, (.t 30)), (3, 1, (.t 31))]) <|
  .o none (.call (some 33) true (.c (.fn 36 [] [])) [(.c (.int .i64 (-2)))]) <|
  .o none (.bld 34 [(.bool false), .nilS, .nilS, .nilS] [(0, 3, (.t 33))]) <|
  .o none (.bs 35 4 61 [(.t 32), (.t 34)]) <|
  .o none (.call (some 36) true (.c (.fn 43 [] [])) [(.t 35)]) <|
  .o none (.call (some 37) true (.c (.fn 15 [] [])) [(.t 29), (.t 36)]) <|
  .o none (.mv 38 (.t 37)) <|
  .o (some (38, true)) (.ld 39 3 true (.t 2)) <|
  .o (some (38, true)) (.call (some 40) true (.c (.fn 36 [] [])) [(.c (.int .i64 (-6)))]) <|
  .o (some (38, true)) (.call (some 41) true (.c (.fn 35 [] [])) [(.t 39), (.t 40)]) <|
  .o none (.pick 42 (.t 38) (.t 41) (.c (.bool false))) <|
  .o none (.mv 43 (.t 42)) <|
  .o (some (43, true)) (.mv 44 (.t 4)) <|
  .o none (.pick 45 (.t 43) (.t 44) (.c (.bool false))) <|
  .o none (.mv 46 (.t 45)) <|
  .o (some (46, true)) (.mv 47 (.t 3)) <|
  .o (some (46, true)) (.call (some 48) true (.c (.fn 45 [] [])) [(.c (.int .i64 0))]) <|
  .o (some (46, true)) (.call (some 49) true (.c (.fn 45 [] [])) [(.c (.int .i64 1))]) <|
  .o (some (46, true)) (.call (some 50) true (.c (.fn 44 [] [])) [(.t 48), (.t 49)]) <|
  .o (some (46, true)) (.call (some 51) true (.c (.fn 15 [] [])) [(.t 47), (.t 50)]) <|
  .o none (.pick 52 (.t 46) (.t 51) (.c (.bool false))) <|
  .o none (.mv 0 (.t 52)) .nil))) <| .ret⟩
theorem Qaa7 : Qe Tryz.prog Tryz.f10 = some c10 := by kernel_rfl
def c5 : SFn := ⟨42, [.t 4], .seq (.rg (.o none (.mv 4 (.c (.bool false))) .nil)) <| .seq (.seq (.rg (.o none (.mv 5 (.t 0)) <|
  .o none (.call (some 6) false (.c (.fn 9 [] [])) [(.t 5), (.c (.int .i64 10)), (.c (.int .i64 64)), (.c (.int .i64 20))]) <|
  .o none (.un 7 .not (.t 6)) .nil)) <| .cond (.t 7) (.seq (.rg (.o none (.call (some 8) false (.c (.fn 10 [] [])) []) <|
  .o none (.mv 4 (.t 8)) .nil)) <| .ret) (.skip)) <| .seq (.rg (.o none (.mv 9 (.t 0)) <|
  .o none (.call (some 10) false (.c (.fn 20 [] [])) [(.t 9)]) <|
  .o none (.mv 11 (.t 0)) <|
  .o none (.call (some 12) false (.c (.fn 21 [] [])) [(.t 11)]) <|
  .o none (.bin 13 .eql false (.t 10) (.t 12)) <|
  .o none (.mv 14 (.t 13)) <|
  .o (some (14, true)) (.mv 15 (.t 0)) <|
  .o (some (14, true)) (.mv 16 (.t 1)) <|
  .o (some (14, true)) (.call (some 17) false (.c (.fn 22 [] [])) [(.t 15), (.t 16)]) <|
  .o (some (14, true)) (.mv 18 (.t 0)) <|
  .o (some (14, true)) (.mv 19 (.t 1)) <|
  .o (some (14, true)) (.call (some 20) false (.c (.fn 23 [] [])) [(.t 18), (.t 19)]) <|
  .o (some (14, true)) (.bin 21 .eql false (.t 17) (.t 20)) <|
  .o none (.pick 22 (.t 14) (.t 21) (.c (.bool false))) <|
  .o none (.mv 23 (.t 22)) <|
  .o (some (23, true)) (.mv 24 (.t 0)) <|
  .o (some (23, true)) (.mv 25 (.t 1)) <|
  .o (some (23, true)) (.call (some 26) false (.c (.fn 25 [] [])) [(.t 24), (.t 25)]) <|
  .o (some (23, true)) (.mv 27 (.t 0)) <|
  .o (some (23, true)) (.mv 28 (.t 1)) <|
  .o (some (23, true)) (.call (some 29) false (.c (.fn 26 [] [])) [(.t 27), (.t 28)]) <|
  .o (some (23, true)) (.call (some 30) false (.c (.fn 24 [] [])) [(.t 26), (.t 29)]) <|
  .o none (.pick 31 (.t 23) (.t 30) (.c (.bool false))) <|
  .o none (.mv 32 (.t 31)) <|
  .o (some (32, true)) (.mv 33 (.t 0)) <|
  .o (some (32, true)) (.call (some 34) false (.c (.fn 27 [] [])) [(.t 33)]) <|
  .o (some (32, true)) (.mv 35 (.t 0)) <|
  .o (some (32, true)) (.call (some 36) false (.c (.fn 28 [] [])) [(.t 35)]) <|
  .o (some (32, true)) (.call (some 37) false (.c (.fn 15 [] [])) [(.t 34), (.t 36)]) <|
  .o none (.pick 38 (.t 32) (.t 37) (.c (.bool false))) <|
  .o none (.mv 39 (.t 38)) <|
  .o (some (39, true)) (.call (some 40) false (.c (.fn 10 [] [])) []) <|
  .o none (.pick 41 (.t 39) (.t 40) (.c (.bool false))) <|
  .o none (.mv 4 (.t 41)) .nil)) <| .ret⟩
def c4 : SFn := ⟨32, [.t 4], .seq (.rg (.o none (.mv 4 (.c (.bool false))) .nil)) <| .seq (.seq (.rg (.o none (.mv 5 (.t 0)) <|
  .o none (.len 6 (.t 5)) <|
  .o none (.bin 7 .gtr false (.t 6) (.c (.int .i64 5))) <|
  .o none (.mv 8 (.t 7)) <|
  .o (some (8, false)) (.mv 9 (.t 0)) <|
  .o (some (8, false)) (.call (some 10) false (.c (.fn 17 [] [])) [(.t 9)]) <|
  .o (some (8, false)) (.un 11 .not (.t 10)) <|
  .o none (.pick 12 (.t 8) (.c (.bool true)) (.t 11)) <|
  .o none (.mv 13 (.t 12)) <|
  .o (some (13, false)) (.mv 14 (.t 1)) <|
  .o (some (13, false)) (.bin 15 .lss false (.t 14) (.c (.int .i64 0))) <|
  .o none (.pick 16 (.t 13) (.c (.bool true)) (.t 15)) <|
  .o none (.mv 17 (.t 16)) <|
  .o (some (17, false)) (.mv 18 (.t 1)) <|
  .o (some (17, false)) (.bin 19 .geq false (.t 18) (.c (.int .i64 64))) <|
  .o none (.pick 20 (.t 17) (.c (.bool true)) (.t 19)) .nil)) <| .cond (.t 20) (.seq (.rg (.o none (.call (some 21) false (.c (.fn 10 [] [])) []) <|
  .o none (.mv 4 (.t 21)) .nil)) <| .ret) (.skip)) <| .seq (.rg (.o none (.mv 22 (.t 0)) <|
  .o none (.mv 23 (.t 1)) <|
  .o none (.call (some 24) false (.c (.fn 18 [] [])) [(.t 22), (.t 23)]) <|
  .o none (.mv 25 (.t 0)) <|
  .o none (.mv 26 (.t 1)) <|
  .o none (.call (some 27) false (.c (.fn 19 [] [])) [(.t 25), (.t 26)]) <|
  .o none (.call (some 28) false (.c (.fn 15 [] [])) [(.t 24), (.t 27)]) <|
  .o none (.mv 29 (.t 28)) <|
  .o (some (29, true)) (.call (some 30) false (.c (.fn 10 [] [])) []) <|
  .o none (.pick 31 (.t 29) (.t 30) (.c (.bool false))) <|
  .o none (.mv 4 (.t 31)) .nil)) <| .ret⟩
def c3 : SFn := ⟨65, [.t 4], .seq (.rg (.o none (.mv 4 (.c (.bool false))) .nil)) <| .seq (.seq (.rg (.o none (.mv 13 (.t 0)) <|
  .o none (.call (some 14) false (.c (.fn 9 [] [])) [(.t 13), (.c (.int .i64 25)), (.c (.int .i64 4)), (.c (.int .i64 8))]) <|
  .o none (.un 15 .not (.t 14)) <|
  .o none (.mv 16 (.t 15)) <|
  .o (some (16, false)) (.mv 17 (.t 1)) <|
  .o (some (16, false)) (.call (some 18) false (.c (.fn 9 [] [])) [(.t 17), (.c (.int .i64 25)), (.c (.int .i64 4)), (.c (.int .i64 8))]) <|
  .o (some (16, false)) (.un 19 .not (.t 18)) <|
  .o none (.pick 20 (.t 16) (.c (.bool true)) (.t 19)) .nil)) <| .cond (.t 20) (.seq (.rg (.o none (.call (some 21) false (.c (.fn 10 [] [])) []) <|
  .o none (.mv 4 (.t 21)) .nil)) <| .ret) (.skip)) <| .seq (.rg (.o none (.mv 23 (.t 0)) <|
  .o none (.mv 24 (.t 1)) <|
  .o none (.call (some 25) false (.c (.fn 11 [] [])) [(.t 23), (.t 24)]) <|
  .o none (.mv 22 (.t 25)) <|
  .o none (.ext 26 (.t 22) 0) <|
  .o none (.ext 27 (.t 22) 1) <|
  .o none (.mv 5 (.t 26)) <|
  .o none (.mv 6 (.t 27)) .nil)) <| .seq (.rg (.o none (.mv 29 (.t 0)) <|
  .o none (.mv 30 (.t 1)) <|
  .o none (.call (some 31) false (.c (.fn 12 [] [])) [(.t 29), (.t 30)]) <|
  .o none (.mv 28 (.t 31)) <|
  .o none (.ext 32 (.t 28) 0) <|
  .o none (.ext 33 (.t 28) 1) <|
  .o none (.mv 7 (.t 32)) <|
  .o none (.mv 8 (.t 33)) .nil)) <| .seq (.rg (.o none (.mv 35 (.t 0)) <|
  .o none (.call (some 36) false (.c (.fn 13 [] [])) [(.t 35)]) <|
  .o none (.mv 34 (.t 36)) <|
  .o none (.ext 37 (.t 34) 0) <|
  .o none (.ext 38 (.t 34) 1) <|
  .o none (.alloc 10 3 33 (.agg [(.bool false), .nilS, .nilS])) <|
  .o none (.mv 9 (.t 37)) <|
  .o none (.st 3 (.t 10) (.t 38)) .nil)) <| .seq (.rg (.o none (.mv 40 (.t 0)) <|
  .o none (.call (some 41) false (.c (.fn 14 [] [])) [(.t 40)]) <|
  .o none (.mv 39 (.t 41)) <|
  .o none (.ext 42 (.t 39) 0) <|
  .o none (.ext 43 (.t 39) 1) <|
  .o none (.alloc 12 3 33 (.agg [(.bool false), .nilS, .nilS])) <|
  .o none (.mv 11 (.t 42)) <|
  .o none (.st 3 (.t 12) (.t 43)) .nil)) <| .seq (.rg (.o none (.mv 44 (.t 5)) <|
  .o none (.mv 45 (.t 7)) <|
  .o none (.call (some 46) false (.c (.fn 15 [] [])) [(.t 44), (.t 45)]) <|
  .o none (.mv 47 (.t 46)) <|
  .o (some (47, true)) (.mv 48 (.t 6)) <|
  .o (some (47, true)) (.mv 49 (.t 8)) <|
  .o (some (47, true)) (.bin 50 .eql true (.t 48) (.t 49)) <|
  .o none (.pick 51 (.t 47) (.t 50) (.c (.bool false))) <|
  .o none (.mv 52 (.t 51)) <|
  .o (some (52, true)) (.mv 53 (.t 9)) <|
  .o (some (52, true)) (.mv 54 (.t 11)) <|
  .o (some (52, true)) (.call (some 55) false (.c (.fn 15 [] [])) [(.t 53), (.t 54)]) <|
  .o none (.pick 56 (.t 52) (.t 55) (.c (.bool false))) <|
  .o none (.mv 57 (.t 56)) <|
  .o (some (57, true)) (.ld 58 3 true (.t 10)) <|
  .o (some (57, true)) (.ld 59 3 true (.t 12)) <|
  .o (some (57, true)) (.call (some 60) false (.c (.fn 16 [] [])) [(.t 58), (.t 59)]) <|
  .o none (.pick 61 (.t 57) (.t 60) (.c (.bool false))) <|
  .o none (.mv 62 (.t 61)) <|
  .o (some (62, true)) (.call (some 63) false (.c (.fn 10 [] [])) []) <|
  .o none (.pick 64 (.t 62) (.t 63) (.c (.bool false))) <|
  .o none (.mv 4 (.t 64)) .nil)) <| .ret⟩
theorem Qace : Qe Tryz.prog Tryz.f3 = some c3 := by kernel_rfl
end Go.Proofs.YtjkbalanglgoiaaGreat
namespace Go.FW
open Go
def Qib (a m : List Int) : Bool := (List.range a.length).all fun i => decide (eN a i = eN m i)
theorem Qg7 {a m : List Int} : Qib a m = true ↔ ∀ i, i < a.length → eN a i = eN m i := by
  simp [Qib, List.all_eq_true]
theorem Qu0 (a : List Int) : Qib a (if Qb2 (Qcg a) then Qcg a else []) = Qb2 (Qcg a) := by
  cases h : Qb2 (Qcg a)
  · rw [if_neg (by simp)]
    cases hz : Qib a [] with
    | false => rfl
    | true =>
      rw [Qg7] at hz
      have e : Qcg a = [] := Qfp (Qge a) (by simp) fun i => by
        rw [Qgv, Qm0]
        by_cases hi : i < a.length
        · rw [hz i hi, Qm0]
        · exact Qcf (by omega)
      rw [e] at h
      exact absurd h (by decide)
  · rw [if_pos rfl, Qg7]
    intro i _; rw [Qgv]
theorem Qqo : ∀ (ts : List Tm), (∀ t ∈ ts, t.2.getLast? ≠ some 0) → ∀ out, Nrm out → Nrm (ts.foldl (fun out t => Qc6 out t.1 t.2) out) ∧ ∀ φ, pev φ (ts.foldl (fun out t => Qc6 out t.1 t.2) out) = pev φ out + pev φ ts
  | [], _, out, ho => ⟨ho, fun φ => by rw [List.foldl_nil, Qb9]; grind⟩
  | t :: ts, h, out, ho => by
    have hl := h t (by simp)
    obtain ⟨h1, h2⟩ := Qqo ts (fun x hx => h x (by simp [hx])) (Qc6 out t.1 t.2) (Q02 ho hl)
    refine ⟨h1, fun φ => ?_⟩
    rw [List.foldl_cons, h2, Q03 ho.c hl, Qah]; grind
end Go.FW
namespace Go.FW
open Go
end Go.FW
namespace Go.FW
open Go
def Q4r (a : Rat) : Nat → Rat
  | 0 => 1
  | n + 1 => Q4r a n * a
def mevN (vs : List Rat) (m : List Int) : Nat → Rat
  | 0 => 1
  | n + 1 => mevN vs m n * Q4r (vs.getD n 0) (eN m n).toNat
def mev (vs : List Rat) (m : List Int) : Rat := mevN vs m m.length
end Go.FW
namespace Go.FW
open Go
end Go.FW
namespace Go.FW
open Go
section
variable {C : Ctx} {fr : Fr} {hp : HP} {w : World} {K R : Qh}
end
def Q5w (m : List Int) (v : Nat) : List Int := Qcg (m.set v 0)
def Q5x (p : List Tm) (v : Nat) (n : Int) : List Tm := p.filterMap fun t => if eN t.2 v = n then some (t.1, Q5w t.2 v) else none
end Go.FW
namespace Go.FW
open Go
def hor (p : List Tm) (v : Nat) (q : List Tm) (top : Nat) : Nat → List Tm
  | 0 => Q5x p v top
  | k + 1 => Qw (Qbz (hor p v q top k) q) (Q5x p v ((top : Int) - (k + 1)))
def Qki (x l : List Tm) : List Tm := l.foldl (fun out t => Qc6 out t.1 t.2) x
theorem Q09 {x l : List Tm} (hx : Nrm x) (hl : Nrm l) : Qki x l = Qw x l := by
  obtain ⟨h1, h2⟩ := Qqo l hl.c x hx
  refine Qkh h1 (Qgz hx hl) fun φ => ?_
  rw [Qki, h2, Qgy hx.c hl.c]
theorem Qv5 (x l : List Tm) (t : Tm) : Qki x (l ++ [t]) = Qc6 (Qki x l) t.1 t.2 := by rw [Qki, List.foldl_append]; rfl
end Go.FW
namespace Go.FW
open Go
def Qcq (vs : List Rat) (v : Nat) (b : Rat) (n : Int) : List Tm → Rat
  | [] => 0
  | t :: p => (if n ≤ eN t.2 v then t.1 * mev vs (Q5w t.2 v) * Q4r b (eN t.2 v - n).toNat else 0) + Qcq vs v b n p
def ML (n : Nat) (p : List Tm) : Prop := ∀ t ∈ p, t.2.length ≤ n
theorem Qu1 (a b : List Int) : (Qav a b).length ≤ max a.length b.length := by
  have := Qew (Qdq (· + ·) a b)
  rwa [Qbc] at this
theorem Qe8 {p : List Tm} {t x : Tm} (h : x ∈ Qx p t) : ∃ s ∈ p, x.2 = Qav s.2 t.2 := by
  simp only [Qx, List.mem_filterMap] at h
  obtain ⟨y, hy, h⟩ := h
  split at h
  · cases h
  · cases h; exact ⟨y, hy, rfl⟩
theorem Q4s : ∀ (n : Nat) (l : List (List Tm)), l.length ≤ n → ∀ {t : Tm}, t ∈ Qby l → ∃ p ∈ l, ∃ s ∈ p, s.2 = t.2 := by
  intro n
  induction n with
  | zero =>
    intro l hl t ht
    have : l = [] := List.length_eq_zero_iff.1 (by omega)
    subst this
    rw [Qby] at ht; cases ht
  | succ n ih =>
    intro l hl t ht
    match l, ht with
    | [], ht => rw [Qby] at ht; cases ht
    | [p], ht => rw [Qby] at ht; exact ⟨p, by simp, t, ht, rfl⟩
    | p :: q :: r, ht =>
      rw [Qhj (by simp)] at ht
      generalize hL : p :: q :: r = L at *
      have hlen : 2 ≤ L.length := by rw [← hL]; simp
      rcases Qex ht with ⟨s, h1, h2⟩ | ⟨s, h1, h2⟩
      · obtain ⟨p', hp', s', hs', e⟩ := ih _ (by rw [List.length_take]; omega) h1
        exact ⟨p', List.mem_of_mem_take hp', s', hs', e.trans h2⟩
      · obtain ⟨p', hp', s', hs', e⟩ := ih _ (by rw [List.length_drop]; omega) h1
        exact ⟨p', List.mem_of_mem_drop hp', s', hs', e.trans h2⟩
theorem Q4t {p q : List Tm} {t : Tm} (h : t ∈ Qbz p q) : ∃ a ∈ p, ∃ b ∈ q, t.2 = Qav a.2 b.2 := by
  have main : ∀ {p q : List Tm}, t ∈ Qfe p q → ∃ a ∈ p, ∃ b ∈ q, t.2 = Qav a.2 b.2 := fun {p q} h => by
    obtain ⟨x, hx, s, hs, e⟩ := Q4s _ _ (Nat.le_refl _) h
    obtain ⟨a, ha, rfl⟩ := List.mem_map.1 hx
    obtain ⟨b, hb, e2⟩ := Qe8 hs
    exact ⟨a, ha, b, hb, by rw [← e, e2, Qdw]⟩
  unfold Qbz at h
  split at h
  · obtain ⟨a, ha, b, hb, e⟩ := main h
    exact ⟨b, hb, a, ha, by rw [e, Qdw]⟩
  · exact main h
end Go.FW
namespace Go.FW
open Go
theorem Qu2 {l : List Tm} (hs : Qa1 l) {a b : Tm} (ha : a ∈ l) (hb : b ∈ l) (e : a.2 = b.2) : a = b := by
  induction l with
  | nil => cases ha
  | cons c l ih =>
    rcases List.mem_cons.1 ha with h1 | h1 <;> rcases List.mem_cons.1 hb with h2 | h2
    · rw [h1, h2]
    · subst h1; exact absurd e.symm (Qjf (hs.1 b h2))
    · subst h2; exact absurd e (Qjf (hs.1 a h1))
    · exact ih hs.2 h1 h2
theorem Qlr {φ : List Int → Rat} : ∀ {p : List Tm} {x : Tm}, Qa1 p → x ∈ p → (∀ t ∈ p, t ≠ x → φ t.2 = 0) → pev φ p = x.1 * φ x.2
  | [], x, _, hx, _ => by cases hx
  | t :: p, x, hs, hx, h => by
    have hz : ∀ {l : List Tm}, (∀ s ∈ l, φ s.2 = 0) → pev φ l = 0 := by
      intro l
      induction l with
      | nil => intro _; rfl
      | cons s l ih => intro hl; rw [Qah, hl s (by simp), ih (fun y hy => hl y (by simp [hy]))]; grind
    by_cases htx : t = x
    · subst htx
      rw [Qah, hz (fun s hs' => h s (by simp [hs']) (fun e => Qjf (hs.1 s hs') (by rw [e])))]; grind
    · have hx' : x ∈ p := by
        rcases List.mem_cons.1 hx with h1 | h1
        · exact absurd h1.symm htx
        · exact h1
      rw [Qah, h t (by simp) htx, Qlr hs.2 hx' (fun s hs' => h s (by simp [hs']))]; grind
end Go.FW
namespace Go.FW
open Go
def Qgf (v n : Nat) : List Int := List.replicate v 0 ++ [(n : Int)]
theorem Q1a {v n : Nat} (h : 0 < n) : (Qgf v n).getLast? ≠ some 0 := by
  unfold Qgf
  rw [List.getLast?_append]
  simp
  omega
theorem Q75 {v n : Nat} (hv : v < 64) : MB n (Qgf v n) := by
  refine ⟨by simp [Qgf]; omega, fun x hx => ?_, fun x hx => ?_⟩
  all_goals
    simp only [Qgf, List.mem_append, List.mem_replicate, List.mem_singleton] at hx
    omega
theorem Q4u {p q : List Tm} {t : Tm} (hq : Can q) (h : t ∈ Qfr p q) : (∃ s ∈ p, s.2 = t.2) ∨ (∃ s ∈ q, s.2 = t.2) := by
  rcases Qex h with h | ⟨s, hs, h⟩
  · exact .inl h
  · right
    rw [Qjo, Qbq, if_neg (by decide)] at hs
    obtain ⟨u, hu, e⟩ := Qe8 hs
    exact ⟨u, hu, by rw [← h, e]; exact (Qo7 (hq u hu)).symm⟩
end Go.FW
namespace Go.FW
open Go
variable {C : Ctx} {fr : Fr} {hp : HP} {R : Qh}
end Go.FW
