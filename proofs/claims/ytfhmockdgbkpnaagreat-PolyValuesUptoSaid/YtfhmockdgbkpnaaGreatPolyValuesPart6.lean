/- Part 6 of the proof of PolyValues: U1, CP, P1, P2, U2, P3, P4, U3, CL, U4, U5, FwSD, FwSE, FwSF, FwSG. Own lemmas; no conditions. -/
import Derived.Test.YtfhmockdgbkpnaaGreatPolyValuesPart5
set_option linter.unusedSimpArgs false
set_option linter.unnecessarySimpa false
set_option linter.unusedVariables false
namespace Go.Proofs.YtfhmockdgbkpnaaGreat
open Go Go.FW
set_option linter.unusedSimpArgs false
set_option linter.unusedVariables false
set_option maxRecDepth 100000
theorem r5_lex {k : Nat} {a b : List Int} (ha : MB k a) (hb : MB k b) (hk : k ≤ 1099511627776) : FnSpec Tryz.prog 74 [PV.mono a, PV.mono b, .int .i64 0] (· = .int .i64 (cmpM a b)) := by
  have := r5_Cmp_spec (o := 0) ha hb hk
  rwa [cmpO_0] at this
end Go.Proofs.YtfhmockdgbkpnaaGreat
namespace Go.Proofs.YtfhmockdgbkpnaaGreat
open Go Go.FW
set_option maxRecDepth 100000
def c84 : SFn := ⟨97, [.t 8], .seq (.rg (.o none (.mv 8 (.c .nilS)) .nil)) <| .seq (.rg (.o none (.mv 15 (.t 0)) <|
  .o none (.len 16 (.t 15)) <|
  .o none (.mv 17 (.t 1)) <|
  .o none (.len 18 (.t 17)) <|
  .o none (.bin 19 .add false (.t 16) (.t 18)) <|
  .o none (.mk 20 4 80 49 (.agg [(.bool false), .nilS, .nilS, .nilS]) (.c (.int .i64 0)) (.t 19)) <|
  .o none (.mv 9 (.t 20)) .nil)) <| .seq (.rg (.o none (.mv 10 (.c (.int .i64 0))) <|
  .o none (.mv 11 (.c (.int .i64 0))) .nil)) <| .seq (.block 0 (.loop (.seq (.seq (.rg (.o none (.mv 21 (.t 10)) <|
  .o none (.mv 22 (.t 0)) <|
  .o none (.len 23 (.t 22)) <|
  .o none (.bin 24 .lss false (.t 21) (.t 23)) <|
  .o none (.mv 25 (.t 24)) <|
  .o (some (25, true)) (.mv 26 (.t 11)) <|
  .o (some (25, true)) (.mv 27 (.t 1)) <|
  .o (some (25, true)) (.len 28 (.t 27)) <|
  .o (some (25, true)) (.bin 29 .lss false (.t 26) (.t 28)) <|
  .o none (.pick 30 (.t 25) (.t 29) (.c (.bool false))) .nil)) <| .cond (.t 30) (.skip) (.exit 0)) <| .block 1 (.seq (.rg (.o none (.mv 31 (.t 2)) <|
  .o none (.mv 32 (.t 0)) <|
  .o none (.mv 33 (.t 10)) <|
  .o none (.idx 34 4 (.t 32) (.t 33)) <|
  .o none (.ld 35 4 true (.t 34)) <|
  .o none (.mv 36 (.t 1)) <|
  .o none (.mv 37 (.t 11)) <|
  .o none (.idx 38 4 (.t 36) (.t 37)) <|
  .o none (.ld 39 4 true (.t 38)) <|
  .o none (.call (some 40) false (.t 31) [(.t 35), (.t 39)]) <|
  .o none (.mv 12 (.t 40)) .nil)) <| .block 2 (.seq (.rg (.o none (.mv 64 (.t 12)) <|
  .o none (.bin 65 .gtr false (.t 64) (.c (.int .i64 0))) <|
  .o none (.mv 63 (.t 65)) .nil)) <| .cond (.t 63) (.seq (.rg (.o none (.mv 66 (.t 9)) <|
  .o none (.mv 67 (.t 0)) <|
  .o none (.mv 68 (.t 10)) <|
  .o none (.idx 69 4 (.t 67) (.t 68)) <|
  .o none (.ld 70 4 true (.t 69)) <|
  .o none (.bs 71 4 49 [(.t 70)]) <|
  .o none (.app 72 4 80 49 (.t 66) (.t 71)) <|
  .o none (.mv 9 (.t 72)) .nil)) <| .rg (.o none (.mv 73 (.t 10)) <|
  .o none (.bin 74 .add false (.t 73) (.c (.int .i64 1))) <|
  .o none (.mv 10 (.t 74)) .nil)) (.seq (.rg (.o none (.mv 76 (.t 12)) <|
  .o none (.bin 77 .lss false (.t 76) (.c (.int .i64 0))) <|
  .o none (.mv 75 (.t 77)) .nil)) <| .cond (.t 75) (.seq (.rg (.o none (.mv 78 (.t 9)) <|
  .o none (.mv 79 (.t 1)) <|
  .o none (.mv 80 (.t 11)) <|
  .o none (.idx 81 4 (.t 79) (.t 80)) <|
  .o none (.ld 82 4 true (.t 81)) <|
  .o none (.bs 83 4 49 [(.t 82)]) <|
  .o none (.app 84 4 80 49 (.t 78) (.t 83)) <|
  .o none (.mv 9 (.t 84)) .nil)) <| .rg (.o none (.mv 85 (.t 11)) <|
  .o none (.bin 86 .add false (.t 85) (.c (.int .i64 1))) <|
  .o none (.mv 11 (.t 86)) .nil)) (.seq (.seq (.rg (.o none (.mv 42 (.t 3)) <|
  .o none (.mv 43 (.t 0)) <|
  .o none (.mv 44 (.t 10)) <|
  .o none (.idx 45 4 (.t 43) (.t 44)) <|
  .o none (.ld 46 4 true (.t 45)) <|
  .o none (.mv 47 (.t 1)) <|
  .o none (.mv 48 (.t 11)) <|
  .o none (.idx 49 4 (.t 47) (.t 48)) <|
  .o none (.ld 50 4 true (.t 49)) <|
  .br (.o none (.call (some 51) true (.t 42) [(.t 46), (.t 50)]) <|
  .o none (.mv 41 (.t 51)) <|
  .o none (.ext 52 (.t 41) 0) <|
  .o none (.ext 53 (.t 41) 1) <|
  .o none (.alloc 13 4 49 (.agg [(.bool false), .nilS, .nilS, .nilS])) <|
  .o none (.st 4 (.t 13) (.t 52)) <|
  .o none (.mv 14 (.t 53)) .nil) (.o none (.alloc 13 4 49 (.agg [(.bool false), .nilS, .nilS, .nilS])) <|
  .o none (.call (some 51) true (.t 42) [(.t 46), (.t 50)]) <|
  .o none (.mv 41 (.t 51)) <|
  .o none (.ext 52 (.t 41) 0) <|
  .o none (.ext 53 (.t 41) 1) <|
  .o none (.st 4 (.t 13) (.t 52)) <|
  .o none (.mv 14 (.t 53)) .nil))) <| .seq (.rg (.o none (.mv 54 (.t 14)) .nil)) <| .cond (.t 54) (.rg (.o none (.mv 55 (.t 9)) <|
  .o none (.ld 56 4 true (.t 13)) <|
  .o none (.bs 57 4 49 [(.t 56)]) <|
  .o none (.app 58 4 80 49 (.t 55) (.t 57)) <|
  .o none (.mv 9 (.t 58)) .nil)) (.skip)) <| .seq (.rg (.o none (.mv 59 (.t 10)) <|
  .o none (.bin 60 .add false (.t 59) (.c (.int .i64 1))) <|
  .o none (.mv 10 (.t 60)) .nil)) <| .rg (.o none (.mv 61 (.t 11)) <|
  .o none (.bin 62 .add false (.t 61) (.c (.int .i64 1))) <|
  .o none (.mv 11 (.t 62)) .nil)))))))) <| .seq (.rg (.o none (.mv 87 (.t 9)) <|
  .o none (.mv 88 (.t 0)) <|
  .o none (.mv 89 (.t 10)) <|
  .o none (.sl 90 4 (.t 88) (some (.t 89)) none none) <|
  .o none (.app 91 4 80 49 (.t 87) (.t 90)) <|
  .o none (.mv 9 (.t 91)) .nil)) <| .seq (.rg (.o none (.mv 92 (.t 9)) <|
  .o none (.mv 93 (.t 1)) <|
  .o none (.mv 94 (.t 11)) <|
  .o none (.sl 95 4 (.t 93) (some (.t 94)) none none) <|
  .o none (.app 96 4 80 49 (.t 92) (.t 95)) <|
  .o none (.mv 8 (.t 96)) .nil)) <| .ret⟩
theorem c84_ok : compileF Tryz.prog Tryz.f84 = some c84 := by kernel_rfl
def c80 : SFn := ⟨10, [.t 4], .seq (.rg (.o none (.box 2 4 49 (.t 0)) <|
  .o none (.box 3 4 49 (.t 1)) <|
  .o none (.mv 4 (.c (.int .i64 0))) .nil)) <| .seq (.rg (.o none (.fld 5 3 (.t 2)) <|
  .o none (.ld 6 1 false (.t 5)) <|
  .o none (.fld 7 3 (.t 3)) <|
  .o none (.ld 8 1 false (.t 7)) <|
  .o none (.call (some 9) false (.c (.fn 73 [] [])) [(.t 6), (.t 8), (.c (.int .i64 0))]) <|
  .o none (.mv 4 (.t 9)) .nil)) <| .ret⟩
theorem c80_ok : compileF Tryz.prog Tryz.f80 = some c80 := by kernel_rfl
def c85 : SFn := ⟨19, [.cell 4 4 true, .t 5], .seq (.rg (.o none (.box 2 4 49 (.t 0)) <|
  .o none (.box 3 4 49 (.t 1)) <|
  .o none (.alloc 4 4 49 (.agg [(.bool false), .nilS, .nilS, .nilS])) <|
  .o none (.mv 5 (.c (.bool false))) .nil)) <| .seq (.rg (.o none (.fld 7 0 (.t 2)) <|
  .o none (.ld 8 3 true (.t 7)) <|
  .o none (.fld 9 0 (.t 3)) <|
  .o none (.ld 10 3 true (.t 9)) <|
  .o none (.call (some 11) false (.c (.fn 50 [] [])) [(.t 8), (.t 10)]) <|
  .o none (.alloc 6 3 40 (.agg [(.bool false), .nilS, .nilS])) <|
  .o none (.st 3 (.t 6) (.t 11)) .nil)) <| .seq (.rg (.o none (.ld 12 3 true (.t 6)) <|
  .o none (.fld 13 3 (.t 2)) <|
  .o none (.ld 14 1 false (.t 13)) <|
  .o none (.bld 15 [(.bool false), .nilS, .nilS, .nilS] [(0, 3, (.t 12)), (3, 1, (.t 14))]) <|
  .o none (.ld 16 3 true (.t 6)) <|
  .o none (.call (some 17) true (.c (.fn 90 [] [])) [(.t 16)]) <|
  .o none (.bin 18 .neq false (.t 17) (.c (.int .i64 0))) <|
  .o none (.st 4 (.t 4) (.t 15)) <|
  .o none (.mv 5 (.t 18)) .nil)) <| .ret⟩
theorem c85_ok : compileF Tryz.prog Tryz.f85 = some c85 := by kernel_rfl
def c88 : SFn := ⟨25, [.t 2], .seq (.rg (.o none (.mv 2 (.c .nilS)) .nil)) <| .seq (.seq (.rg (.o none (.mv 4 (.t 0)) <|
  .o none (.len 5 (.t 4)) .nil)) <| .block 0 (.seq (.rg (.o none (.bin 7 .eql false (.t 5) (.c (.int .i64 0))) <|
  .o none (.mv 6 (.t 7)) .nil)) <| .cond (.t 6) (.seq (.rg (.o none (.mv 2 (.c .nilS)) .nil)) <| .ret) (.seq (.rg (.o none (.bin 9 .eql false (.t 5) (.c (.int .i64 1))) <|
  .o none (.mv 8 (.t 9)) .nil)) <| .cond (.t 8) (.seq (.rg (.o none (.mv 10 (.t 0)) <|
  .o none (.idx 11 1 (.t 10) (.c (.int .i64 0))) <|
  .o none (.ld 12 1 false (.t 11)) <|
  .o none (.mv 2 (.t 12)) .nil)) <| .ret) (.skip)))) <| .seq (.rg (.o none (.mv 13 (.t 0)) <|
  .o none (.len 14 (.t 13)) <|
  .o none (.bin 15 .quo false (.t 14) (.c (.int .i64 2))) <|
  .o none (.mv 3 (.t 15)) .nil)) <| .seq (.rg (.o none (.mv 16 (.t 0)) <|
  .o none (.mv 17 (.t 3)) <|
  .o none (.sl 18 1 (.t 16) none (some (.t 17)) none) <|
  .o none (.mv 20 (.t 0)) <|
  .o none (.mv 21 (.t 3)) <|
  .o none (.sl 22 1 (.t 20) (some (.t 21)) none none) <|
  .o none (.call (some 19) false (.c (.fn 88 [] [])) [(.t 18)]) <|
  .o none (.call (some 23) false (.c (.fn 88 [] [])) [(.t 22)]) <|
  .o none (.call (some 24) false (.c (.fn 35 [] [])) [(.t 19), (.t 23)]) <|
  .o none (.mv 2 (.t 24)) .nil)) <| .ret⟩
theorem c88_ok : compileF Tryz.prog Tryz.f88 = some c88 := by kernel_rfl
def c92 : SFn := ⟨12, [.t 4], .seq (.rg (.o none (.box 2 3 40 (.t 0)) <|
  .o none (.mv 4 (.c .nilS)) .nil)) <| .seq (.seq (.rg (.o none (.ld 5 3 true (.t 2)) <|
  .o none (.call (some 6) false (.c (.fn 90 [] [])) [(.t 5)]) <|
  .o none (.bin 7 .eql false (.t 6) (.c (.int .i64 0))) .nil)) <| .cond (.t 7) (.seq (.rg (.o none (.mv 4 (.c .nilS)) .nil)) <| .ret) (.skip)) <| .seq (.rg (.o none (.ld 8 3 true (.t 2)) <|
  .o none (.mv 9 (.t 1)) <|
  .o none (.bld 10 [(.bool false), .nilS, .nilS, .nilS] [(0, 3, (.t 8)), (3, 1, (.t 9))]) <|
  .o none (.bs 11 4 49 [(.t 10)]) <|
  .o none (.mv 4 (.t 11)) .nil)) <| .ret⟩
theorem c92_ok : compileF Tryz.prog Tryz.f92 = some c92 := by kernel_rfl
def c54 : SFn := ⟨19, [.t 2], .seq (.rg (.o none (.mv 2 (.c .nilS)) .nil)) <| .seq (.seq (.rg (.o none (.mv 4 (.t 0)) <|
  .o none (.bin 5 .lss false (.t 4) (.c (.int .i64 0))) <|
  .o none (.mv 6 (.t 5)) <|
  .o (some (6, false)) (.mv 7 (.t 0)) <|
  .o (some (6, false)) (.bin 8 .geq false (.t 7) (.c (.int .i64 64))) <|
  .o none (.pick 9 (.t 6) (.c (.bool true)) (.t 8)) .nil)) <| .cond (.t 9) (.seq (.rg (.o none (.mv 2 (.c .nilS)) .nil)) <| .ret) (.skip)) <| .seq (.rg (.o none (.mv 10 (.t 0)) <|
  .o none (.bin 11 .add false (.t 10) (.c (.int .i64 1))) <|
  .o none (.mk 12 1 8 3 (.int .i64 0) (.t 11) (.t 11)) <|
  .o none (.mv 3 (.t 12)) .nil)) <| .seq (.rg (.o none (.mv 13 (.t 3)) <|
  .o none (.mv 14 (.t 0)) <|
  .o none (.idx 15 1 (.t 13) (.t 14)) <|
  .o none (.st 1 (.t 15) (.c (.int .i64 1))) .nil)) <| .seq (.rg (.o none (.call (some 16) false (.c (.fn 58 [] [])) [(.c (.int .i64 1))]) <|
  .o none (.mv 17 (.t 3)) <|
  .o none (.call (some 18) false (.c (.fn 92 [] [])) [(.t 16), (.t 17)]) <|
  .o none (.mv 2 (.t 18)) .nil)) <| .ret⟩
theorem c54_ok : compileF Tryz.prog Tryz.f54 = some c54 := by kernel_rfl
def c33 : SFn := ⟨6, [.t 2], .seq (.rg (.o none (.mv 2 (.c .nilS)) .nil)) <| .seq (.rg (.o none (.mv 3 (.t 0)) <|
  .o none (.call (some 4) false (.c (.fn 58 [] [])) [(.c (.int .i64 (-1)))]) <|
  .o none (.call (some 5) false (.c (.fn 41 [] [])) [(.t 3), (.t 4)]) <|
  .o none (.mv 2 (.t 5)) .nil)) <| .ret⟩
theorem c33_ok : compileF Tryz.prog Tryz.f33 = some c33 := by kernel_rfl
def c35 : SFn := ⟨8, [.t 4], .seq (.rg (.o none (.mv 4 (.c .nilS)) .nil)) <| .seq (.rg (.o none (.mv 5 (.t 0)) <|
  .o none (.mv 6 (.t 1)) <|
  .o none (.call (some 7) false (.c (.fn 84 [] [])) [(.t 5), (.t 6), (.c (.fn 80 [] [])), (.c (.fn 85 [] []))]) <|
  .o none (.mv 4 (.t 7)) .nil)) <| .ret⟩
theorem c35_ok : compileF Tryz.prog Tryz.f35 = some c35 := by kernel_rfl
def c37 : SFn := ⟨9, [.t 4], .seq (.rg (.o none (.mv 4 (.c .nilS)) .nil)) <| .seq (.rg (.o none (.mv 5 (.t 0)) <|
  .o none (.mv 6 (.t 1)) <|
  .o none (.call (some 7) false (.c (.fn 33 [] [])) [(.t 6)]) <|
  .o none (.call (some 8) false (.c (.fn 35 [] [])) [(.t 5), (.t 7)]) <|
  .o none (.mv 4 (.t 8)) .nil)) <| .ret⟩
theorem c37_ok : compileF Tryz.prog Tryz.f37 = some c37 := by kernel_rfl
def c87 : SFn := ⟨38, [.t 4], .seq (.rg (.o none (.box 3 4 49 (.t 1)) <|
  .o none (.mv 4 (.c .nilS)) .nil)) <| .seq (.rg (.o none (.mv 9 (.t 0)) <|
  .o none (.len 10 (.t 9)) <|
  .o none (.mk 11 4 80 49 (.agg [(.bool false), .nilS, .nilS, .nilS]) (.c (.int .i64 0)) (.t 10)) <|
  .o none (.mv 5 (.t 11)) .nil)) <| .seq (.seq (.rg (.o none (.mv 12 (.t 0)) <|
  .o none (.len 13 (.t 12)) <|
  .o none (.mv 14 (.c (.int .i64 0))) .nil)) <| .block 0 (.loop (.seq (.rg (.o none (.bin 15 .lss false (.t 14) (.t 13)) .nil)) <| .seq (.cond (.t 15) (.skip) (.exit 0)) <| .seq (.block 1 (.seq (.rg (.o none (.idx 16 4 (.t 12) (.t 14)) <|
  .o none (.ld 17 4 true (.t 16)) <|
  .o none (.alloc 7 4 49 (.agg [(.bool false), .nilS, .nilS, .nilS])) <|
  .o none (.st 4 (.t 7) (.t 17)) .nil)) <| .seq (.rg (.o none (.fld 18 0 (.t 7)) <|
  .o none (.ld 19 3 true (.t 18)) <|
  .o none (.fld 20 0 (.t 3)) <|
  .o none (.ld 21 3 true (.t 20)) <|
  .o none (.call (some 22) false (.c (.fn 51 [] [])) [(.t 19), (.t 21)]) <|
  .o none (.alloc 8 3 40 (.agg [(.bool false), .nilS, .nilS])) <|
  .o none (.st 3 (.t 8) (.t 22)) .nil)) <| .seq (.rg (.o none (.ld 23 3 true (.t 8)) <|
  .o none (.call (some 24) false (.c (.fn 90 [] [])) [(.t 23)]) <|
  .o none (.bin 25 .neq false (.t 24) (.c (.int .i64 0))) .nil)) <| .cond (.t 25) (.rg (.o none (.mv 26 (.t 5)) <|
  .o none (.ld 27 3 true (.t 8)) <|
  .o none (.fld 28 3 (.t 7)) <|
  .o none (.ld 29 1 false (.t 28)) <|
  .o none (.fld 30 3 (.t 3)) <|
  .o none (.ld 31 1 false (.t 30)) <|
  .o none (.call (some 32) true (.c (.fn 129 [] [])) [(.t 29), (.t 31)]) <|
  .o none (.bld 33 [(.bool false), .nilS, .nilS, .nilS] [(0, 3, (.t 27)), (3, 1, (.t 32))]) <|
  .o none (.bs 34 4 49 [(.t 33)]) <|
  .o none (.app 35 4 80 49 (.t 26) (.t 34)) <|
  .o none (.mv 5 (.t 35)) .nil)) (.skip))) <| .rg (.o none (.bin 36 .add false (.t 14) (.c (.int .i64 1))) <|
  .o none (.mv 14 (.t 36)) .nil)))) <| .seq (.rg (.o none (.mv 37 (.t 5)) <|
  .o none (.mv 4 (.t 37)) .nil)) <| .ret⟩
theorem c87_ok : compileF Tryz.prog Tryz.f87 = some c87 := by kernel_rfl
def c39 : SFn := ⟨33, [.t 4], .seq (.rg (.o none (.mv 4 (.c .nilS)) .nil)) <| .seq (.seq (.rg (.o none (.mv 8 (.t 0)) <|
  .o none (.len 9 (.t 8)) <|
  .o none (.mv 10 (.t 1)) <|
  .o none (.len 11 (.t 10)) <|
  .o none (.bin 12 .gtr false (.t 9) (.t 11)) .nil)) <| .cond (.t 12) (.rg (.o none (.mv 13 (.t 1)) <|
  .o none (.mv 14 (.t 0)) <|
  .o none (.mv 0 (.t 13)) <|
  .o none (.mv 1 (.t 14)) .nil)) (.skip)) <| .seq (.rg (.o none (.mv 15 (.t 0)) <|
  .o none (.len 16 (.t 15)) <|
  .o none (.mk 17 1 24 23 .nilS (.c (.int .i64 0)) (.t 16)) <|
  .o none (.mv 5 (.t 17)) .nil)) <| .seq (.seq (.rg (.o none (.mv 18 (.t 0)) <|
  .o none (.len 19 (.t 18)) <|
  .o none (.mv 20 (.c (.int .i64 0))) .nil)) <| .block 0 (.loop (.seq (.rg (.o none (.bin 21 .lss false (.t 20) (.t 19)) .nil)) <| .seq (.cond (.t 21) (.skip) (.exit 0)) <| .seq (.block 1 (.seq (.rg (.o none (.idx 22 4 (.t 18) (.t 20)) <|
  .o none (.ld 23 4 true (.t 22)) <|
  .o none (.alloc 7 4 49 (.agg [(.bool false), .nilS, .nilS, .nilS])) <|
  .o none (.st 4 (.t 7) (.t 23)) .nil)) <| .rg (.o none (.mv 24 (.t 5)) <|
  .o none (.mv 25 (.t 1)) <|
  .o none (.ld 26 4 true (.t 7)) <|
  .o none (.call (some 27) false (.c (.fn 87 [] [])) [(.t 25), (.t 26)]) <|
  .o none (.bs 28 1 23 [(.t 27)]) <|
  .o none (.app 29 1 24 23 (.t 24) (.t 28)) <|
  .o none (.mv 5 (.t 29)) .nil))) <| .rg (.o none (.bin 30 .add false (.t 20) (.c (.int .i64 1))) <|
  .o none (.mv 20 (.t 30)) .nil)))) <| .seq (.rg (.o none (.mv 31 (.t 5)) <|
  .o none (.call (some 32) false (.c (.fn 88 [] [])) [(.t 31)]) <|
  .o none (.mv 4 (.t 32)) .nil)) <| .ret⟩
theorem c39_ok : compileF Tryz.prog Tryz.f39 = some c39 := by kernel_rfl
def c41 : SFn := ⟨12, [.t 4], .seq (.rg (.o none (.box 3 3 40 (.t 1)) <|
  .o none (.mv 4 (.c .nilS)) .nil)) <| .seq (.seq (.rg (.o none (.ld 5 3 true (.t 3)) <|
  .o none (.call (some 6) false (.c (.fn 90 [] [])) [(.t 5)]) <|
  .o none (.bin 7 .eql false (.t 6) (.c (.int .i64 0))) .nil)) <| .cond (.t 7) (.seq (.rg (.o none (.mv 4 (.c .nilS)) .nil)) <| .ret) (.skip)) <| .seq (.rg (.o none (.mv 8 (.t 0)) <|
  .o none (.ld 9 3 true (.t 3)) <|
  .o none (.bld 10 [(.bool false), .nilS, .nilS, .nilS] [(0, 3, (.t 9))]) <|
  .o none (.call (some 11) false (.c (.fn 87 [] [])) [(.t 8), (.t 10)]) <|
  .o none (.mv 4 (.t 11)) .nil)) <| .ret⟩
theorem c41_ok : compileF Tryz.prog Tryz.f41 = some c41 := by kernel_rfl
def c24 : SFn := ⟨19, [.t 2], .seq (.rg (.o none (.mv 2 (.c (.int .i64 0))) .nil)) <| .seq (.rg (.o none (.mv 3 (.c (.int .i64 (-1)))) .nil)) <| .seq (.seq (.rg (.o none (.mv 6 (.t 0)) <|
  .o none (.len 7 (.t 6)) <|
  .o none (.mv 8 (.c (.int .i64 0))) .nil)) <| .block 0 (.loop (.seq (.rg (.o none (.bin 9 .lss false (.t 8) (.t 7)) .nil)) <| .seq (.cond (.t 9) (.skip) (.exit 0)) <| .seq (.block 1 (.seq (.rg (.o none (.idx 10 4 (.t 6) (.t 8)) <|
  .o none (.ld 11 4 true (.t 10)) <|
  .o none (.alloc 5 4 49 (.agg [(.bool false), .nilS, .nilS, .nilS])) <|
  .o none (.st 4 (.t 5) (.t 11)) .nil)) <| .rg (.o none (.mv 12 (.t 3)) <|
  .o none (.fld 13 3 (.t 5)) <|
  .o none (.ld 14 1 false (.t 13)) <|
  .o none (.call (some 15) false (.c (.fn 70 [] [])) [(.t 14)]) <|
  .o none (.mx 16 (.t 12) (.t 15)) <|
  .o none (.mv 3 (.t 16)) .nil))) <| .rg (.o none (.bin 17 .add false (.t 8) (.c (.int .i64 1))) <|
  .o none (.mv 8 (.t 17)) .nil)))) <| .seq (.rg (.o none (.mv 18 (.t 3)) <|
  .o none (.mv 2 (.t 18)) .nil)) <| .ret⟩
theorem c24_ok : compileF Tryz.prog Tryz.f24 = some c24 := by kernel_rfl
def c25 : SFn := ⟨13, [.cell 4 4 true, .t 5], .seq (.rg (.o none (.box 3 1 3 (.t 1)) <|
  .o none (.alloc 4 4 49 (.agg [(.bool false), .nilS, .nilS, .nilS])) <|
  .o none (.mv 5 (.c (.bool false))) .nil)) <| .seq (.seq (.rg (.o none (.mv 6 (.t 0)) <|
  .o none (.len 7 (.t 6)) <|
  .o none (.bin 8 .eql false (.t 7) (.c (.int .i64 0))) .nil)) <| .cond (.t 8) (.seq (.rg (.o none (.bld 9 [(.bool false), .nilS, .nilS, .nilS] []) <|
  .o none (.st 4 (.t 4) (.t 9)) <|
  .o none (.mv 5 (.c (.bool false))) .nil)) <| .ret) (.skip)) <| .seq (.rg (.o none (.mv 10 (.t 0)) <|
  .o none (.fn 11 72 [] [(.t 3)]) <|
  .o none (.call (some 12) false (.c (.fn 71 [] [])) [(.t 10), (.t 11)]) <|
  .o none (.st 4 (.t 4) (.t 12)) <|
  .o none (.mv 5 (.c (.bool true))) .nil)) <| .ret⟩
theorem c25_ok : compileF Tryz.prog Tryz.f25 = some c25 := by kernel_rfl
def c72 : SFn := ⟨12, [.t 5], .seq (.rg (.o none (.box 3 4 49 (.t 0)) <|
  .o none (.box 4 4 49 (.t 1)) <|
  .o none (.mv 5 (.c (.int .i64 0))) .nil)) <| .seq (.rg (.o none (.fld 6 3 (.t 3)) <|
  .o none (.ld 7 1 false (.t 6)) <|
  .o none (.fld 8 3 (.t 4)) <|
  .o none (.ld 9 1 false (.t 8)) <|
  .o none (.ld 10 1 false (.t 2)) <|
  .o none (.call (some 11) false (.c (.fn 73 [] [])) [(.t 7), (.t 9), (.t 10)]) <|
  .o none (.mv 5 (.t 11)) .nil)) <| .ret⟩
theorem c72_ok : compileF Tryz.prog Tryz.f72 = some c72 := by kernel_rfl
def c59 : SFn := ⟨10, [.t 2], .seq (.rg (.o none (.mv 2 (.c (.bool false))) .nil)) <| .seq (.rg (.o none (.mv 3 (.t 0)) <|
  .o none (.len 4 (.t 3)) <|
  .o none (.bin 5 .gtr false (.t 4) (.c (.int .i64 4000))) <|
  .o none (.mv 6 (.t 5)) <|
  .o (some (6, false)) (.mv 7 (.t 0)) <|
  .o (some (6, false)) (.call (some 8) false (.c (.fn 112 [] [])) [(.t 7), (.c (.fn 113 [] []))]) <|
  .o none (.pick 9 (.t 6) (.c (.bool true)) (.t 8)) <|
  .o none (.mv 2 (.t 9)) .nil)) <| .ret⟩
theorem c59_ok : compileF Tryz.prog Tryz.f59 = some c59 := by kernel_rfl
def c113 : SFn := ⟨6, [.t 2], .seq (.rg (.o none (.box 1 4 49 (.t 0)) <|
  .o none (.mv 2 (.c (.bool false))) .nil)) <| .seq (.rg (.o none (.fld 3 3 (.t 1)) <|
  .o none (.ld 4 1 false (.t 3)) <|
  .o none (.call (some 5) false (.c (.fn 114 [] [])) [(.t 4), (.c (.fn 115 [] []))]) <|
  .o none (.mv 2 (.t 5)) .nil)) <| .ret⟩
theorem c113_ok : compileF Tryz.prog Tryz.f113 = some c113 := by kernel_rfl
def c115 : SFn := ⟨5, [.t 2], .seq (.rg (.o none (.mv 2 (.c (.bool false))) .nil)) <| .seq (.rg (.o none (.mv 3 (.t 0)) <|
  .o none (.bin 4 .gtr false (.t 3) (.c (.int .i64 1048576))) <|
  .o none (.mv 2 (.t 4)) .nil)) <| .ret⟩
theorem c115_ok : compileF Tryz.prog Tryz.f115 = some c115 := by kernel_rfl
def c63 : SFn := ⟨23, [.cell 4 3 true], .seq (.rg (.o none (.box 2 3 40 (.t 0)) <|
  .o none (.alloc 4 3 40 (.agg [(.bool false), .nilS, .nilS])) .nil)) <| .seq (.rg (.o none (.call (some 6) false (.c (.fn 58 [] [])) [(.c (.int .i64 1))]) <|
  .o none (.alloc 5 3 40 (.agg [(.bool false), .nilS, .nilS])) <|
  .o none (.st 3 (.t 5) (.t 6)) .nil)) <| .seq (.block 0 (.loop (.seq (.seq (.rg (.o none (.mv 7 (.t 1)) <|
  .o none (.bin 8 .gtr false (.t 7) (.c (.int .i64 0))) .nil)) <| .cond (.t 8) (.skip) (.exit 0)) <| .seq (.block 1 (.seq (.seq (.rg (.o none (.mv 11 (.t 1)) <|
  .o none (.bin 12 .rem false (.t 11) (.c (.int .i64 2))) <|
  .o none (.bin 13 .eql false (.t 12) (.c (.int .i64 1))) .nil)) <| .cond (.t 13) (.rg (.o none (.ld 14 3 true (.t 5)) <|
  .o none (.ld 15 3 true (.t 2)) <|
  .o none (.call (some 16) false (.c (.fn 51 [] [])) [(.t 14), (.t 15)]) <|
  .o none (.st 3 (.t 5) (.t 16)) .nil)) (.skip)) <| .seq (.rg (.o none (.mv 17 (.t 1)) <|
  .o none (.bin 18 .gtr false (.t 17) (.c (.int .i64 1))) .nil)) <| .cond (.t 18) (.rg (.o none (.ld 19 3 true (.t 2)) <|
  .o none (.ld 20 3 true (.t 2)) <|
  .o none (.call (some 21) false (.c (.fn 51 [] [])) [(.t 19), (.t 20)]) <|
  .o none (.st 3 (.t 2) (.t 21)) .nil)) (.skip))) <| .rg (.o none (.mv 9 (.t 1)) <|
  .o none (.bin 10 .quo false (.t 9) (.c (.int .i64 2))) <|
  .o none (.mv 1 (.t 10)) .nil)))) <| .seq (.rg (.o none (.ld 22 3 true (.t 5)) <|
  .o none (.st 3 (.t 4) (.t 22)) .nil)) <| .ret⟩
theorem c63_ok : compileF Tryz.prog Tryz.f63 = some c63 := by kernel_rfl
def c19 : SFn := ⟨61, [.cell 4 3 true, .t 5], .seq (.rg (.o none (.alloc 4 3 40 (.agg [(.bool false), .nilS, .nilS])) <|
  .o none (.mv 5 (.c (.int .i64 0))) .nil)) <| .seq (.seq (.rg (.o none (.mv 14 (.t 0)) <|
  .o none (.len 15 (.t 14)) <|
  .o none (.mv 16 (.c (.int .i64 0))) .nil)) <| .block 0 (.loop (.seq (.rg (.o none (.bin 17 .lss false (.t 16) (.t 15)) .nil)) <| .seq (.cond (.t 17) (.skip) (.exit 0)) <| .seq (.block 1 (.seq (.rg (.o none (.idx 18 4 (.t 14) (.t 16)) <|
  .o none (.ld 19 4 true (.t 18)) <|
  .o none (.alloc 7 4 49 (.agg [(.bool false), .nilS, .nilS, .nilS])) <|
  .o none (.st 4 (.t 7) (.t 19)) .nil)) <| .seq (.rg (.o none (.fld 20 3 (.t 7)) <|
  .o none (.ld 21 1 false (.t 20)) <|
  .o none (.call (some 22) false (.c (.fn 62 [] [])) [(.t 21)]) <|
  .o none (.mv 23 (.t 1)) <|
  .o none (.len 24 (.t 23)) <|
  .o none (.bin 25 .geq false (.t 22) (.t 24)) .nil)) <| .cond (.t 25) (.seq (.rg (.o none (.bld 26 [(.bool false), .nilS, .nilS] []) <|
  .o none (.st 3 (.t 4) (.t 26)) <|
  .o none (.mv 5 (.c (.int .i64 2))) .nil)) <| .ret) (.skip))) <| .rg (.o none (.bin 27 .add false (.t 16) (.c (.int .i64 1))) <|
  .o none (.mv 16 (.t 27)) .nil)))) <| .seq (.rg (.o none (.call (some 28) false (.c (.fn 58 [] [])) [(.c (.int .i64 0))]) <|
  .o none (.alloc 8 3 40 (.agg [(.bool false), .nilS, .nilS])) <|
  .o none (.st 3 (.t 8) (.t 28)) .nil)) <| .seq (.seq (.rg (.o none (.mv 29 (.t 0)) <|
  .o none (.len 30 (.t 29)) <|
  .o none (.mv 31 (.c (.int .i64 0))) .nil)) <| .block 2 (.loop (.seq (.rg (.o none (.bin 32 .lss false (.t 31) (.t 30)) .nil)) <| .seq (.cond (.t 32) (.skip) (.exit 2)) <| .seq (.block 3 (.seq (.rg (.o none (.idx 33 4 (.t 29) (.t 31)) <|
  .o none (.ld 34 4 true (.t 33)) <|
  .o none (.alloc 10 4 49 (.agg [(.bool false), .nilS, .nilS, .nilS])) <|
  .o none (.st 4 (.t 10) (.t 34)) .nil)) <| .seq (.rg (.o none (.fld 35 0 (.t 10)) <|
  .o none (.ld 36 3 true (.t 35)) <|
  .o none (.alloc 11 3 40 (.agg [(.bool false), .nilS, .nilS])) <|
  .o none (.st 3 (.t 11) (.t 36)) .nil)) <| .seq (.seq (.rg (.o none (.fld 37 3 (.t 10)) <|
  .o none (.ld 38 1 false (.t 37)) <|
  .o none (.len 39 (.t 38)) <|
  .o none (.mv 40 (.c (.int .i64 0))) .nil)) <| .block 4 (.loop (.seq (.rg (.o none (.bin 41 .lss false (.t 40) (.t 39)) .nil)) <| .seq (.cond (.t 41) (.skip) (.exit 4)) <| .seq (.block 5 (.seq (.rg (.o none (.mv 42 (.t 40)) <|
  .o none (.idx 43 1 (.t 38) (.t 40)) <|
  .o none (.ld 44 1 false (.t 43)) <|
  .o none (.mv 12 (.t 42)) <|
  .o none (.mv 13 (.t 44)) .nil)) <| .seq (.rg (.o none (.mv 45 (.t 13)) <|
  .o none (.bin 46 .gtr false (.t 45) (.c (.int .i64 0))) .nil)) <| .cond (.t 46) (.rg (.o none (.ld 47 3 true (.t 11)) <|
  .o none (.mv 48 (.t 1)) <|
  .o none (.mv 49 (.t 12)) <|
  .o none (.idx 50 3 (.t 48) (.t 49)) <|
  .o none (.ld 51 3 true (.t 50)) <|
  .o none (.mv 52 (.t 13)) <|
  .o none (.call (some 53) true (.c (.fn 63 [] [])) [(.t 51), (.t 52)]) <|
  .o none (.call (some 54) true (.c (.fn 51 [] [])) [(.t 47), (.t 53)]) <|
  .o none (.st 3 (.t 11) (.t 54)) .nil)) (.skip))) <| .rg (.o none (.bin 55 .add false (.t 40) (.c (.int .i64 1))) <|
  .o none (.mv 40 (.t 55)) .nil)))) <| .rg (.o none (.ld 56 3 true (.t 8)) <|
  .o none (.ld 57 3 true (.t 11)) <|
  .o none (.call (some 58) false (.c (.fn 50 [] [])) [(.t 56), (.t 57)]) <|
  .o none (.st 3 (.t 8) (.t 58)) .nil))) <| .rg (.o none (.bin 59 .add false (.t 31) (.c (.int .i64 1))) <|
  .o none (.mv 31 (.t 59)) .nil)))) <| .seq (.rg (.o none (.ld 60 3 true (.t 8)) <|
  .o none (.st 3 (.t 4) (.t 60)) <|
  .o none (.mv 5 (.c (.int .i64 0))) .nil)) <| .ret⟩
theorem c19_ok : compileF Tryz.prog Tryz.f19 = some c19 := by kernel_rfl
def c71 : SFn := ⟨33, [.cell 4 4 true], .seq (.rg (.o none (.alloc 4 4 49 (.agg [(.bool false), .nilS, .nilS, .nilS])) .nil)) <| .seq (.seq (.rg (.o none (.mv 7 (.t 0)) <|
  .o none (.len 8 (.t 7)) <|
  .o none (.bin 9 .lss false (.t 8) (.c (.int .i64 1))) .nil)) <| .cond (.t 9) (.rg (.o none (.bad (some 10)) <|
  .o none (.bad none) .nil)) (.skip)) <| .seq (.rg (.o none (.mv 11 (.t 0)) <|
  .o none (.idx 12 4 (.t 11) (.c (.int .i64 0))) <|
  .o none (.ld 13 4 true (.t 12)) <|
  .o none (.alloc 5 4 49 (.agg [(.bool false), .nilS, .nilS, .nilS])) <|
  .o none (.st 4 (.t 5) (.t 13)) .nil)) <| .seq (.seq (.rg (.o none (.mv 6 (.c (.int .i64 1))) .nil)) <| .block 0 (.loop (.seq (.seq (.rg (.o none (.mv 14 (.t 6)) <|
  .o none (.mv 15 (.t 0)) <|
  .o none (.len 16 (.t 15)) <|
  .o none (.bin 17 .lss false (.t 14) (.t 16)) .nil)) <| .cond (.t 17) (.skip) (.exit 0)) <| .seq (.block 1 (.seq (.rg (.o none (.mv 20 (.t 1)) <|
  .o none (.mv 21 (.t 0)) <|
  .o none (.mv 22 (.t 6)) <|
  .o none (.idx 23 4 (.t 21) (.t 22)) <|
  .o none (.ld 24 4 true (.t 23)) <|
  .o none (.ld 25 4 true (.t 5)) <|
  .o none (.call (some 26) false (.t 20) [(.t 24), (.t 25)]) <|
  .o none (.bin 27 .gtr false (.t 26) (.c (.int .i64 0))) .nil)) <| .cond (.t 27) (.rg (.o none (.mv 28 (.t 0)) <|
  .o none (.mv 29 (.t 6)) <|
  .o none (.idx 30 4 (.t 28) (.t 29)) <|
  .o none (.ld 31 4 true (.t 30)) <|
  .o none (.st 4 (.t 5) (.t 31)) .nil)) (.skip))) <| .rg (.o none (.mv 18 (.t 6)) <|
  .o none (.bin 19 .add false (.t 18) (.c (.int .i64 1))) <|
  .o none (.mv 6 (.t 19)) .nil)))) <| .seq (.rg (.o none (.ld 32 4 true (.t 5)) <|
  .o none (.st 4 (.t 4) (.t 32)) .nil)) <| .ret⟩
theorem c71_ok : compileF Tryz.prog Tryz.f71 = some c71 := by kernel_rfl
def c112 : SFn := ⟨9, [.t 4], .seq (.rg (.o none (.mv 4 (.c (.bool false))) .nil)) <| .seq (.rg (.o none (.mv 5 (.t 0)) <|
  .o none (.mv 6 (.t 1)) <|
  .o none (.call (some 7) false (.c (.fn 148 [] [])) [(.t 5), (.t 6)]) <|
  .o none (.bin 8 .geq false (.t 7) (.c (.int .i64 0))) <|
  .o none (.mv 4 (.t 8)) .nil)) <| .ret⟩
theorem c112_ok : compileF Tryz.prog Tryz.f112 = some c112 := by kernel_rfl
def c114 : SFn := ⟨9, [.t 4], .seq (.rg (.o none (.mv 4 (.c (.bool false))) .nil)) <| .seq (.rg (.o none (.mv 5 (.t 0)) <|
  .o none (.mv 6 (.t 1)) <|
  .o none (.call (some 7) false (.c (.fn 149 [] [])) [(.t 5), (.t 6)]) <|
  .o none (.bin 8 .geq false (.t 7) (.c (.int .i64 0))) <|
  .o none (.mv 4 (.t 8)) .nil)) <| .ret⟩
theorem c114_ok : compileF Tryz.prog Tryz.f114 = some c114 := by kernel_rfl
def c148 : SFn := ⟨19, [.t 4], .seq (.rg (.o none (.mv 4 (.c (.int .i64 0))) .nil)) <| .seq (.seq (.rg (.o none (.mv 6 (.t 0)) <|
  .o none (.len 7 (.t 6)) <|
  .o none (.mv 8 (.c (.int .i64 0))) .nil)) <| .block 0 (.loop (.seq (.rg (.o none (.bin 9 .lss false (.t 8) (.t 7)) .nil)) <| .seq (.cond (.t 9) (.skip) (.exit 0)) <| .seq (.block 1 (.seq (.rg (.o none (.mv 10 (.t 8)) <|
  .o none (.mv 5 (.t 10)) .nil)) <| .seq (.rg (.o none (.mv 11 (.t 1)) <|
  .o none (.mv 12 (.t 0)) <|
  .o none (.mv 13 (.t 5)) <|
  .o none (.idx 14 4 (.t 12) (.t 13)) <|
  .o none (.ld 15 4 true (.t 14)) <|
  .o none (.call (some 16) false (.t 11) [(.t 15)]) .nil)) <| .cond (.t 16) (.seq (.rg (.o none (.mv 17 (.t 5)) <|
  .o none (.mv 4 (.t 17)) .nil)) <| .ret) (.skip))) <| .rg (.o none (.bin 18 .add false (.t 8) (.c (.int .i64 1))) <|
  .o none (.mv 8 (.t 18)) .nil)))) <| .seq (.rg (.o none (.mv 4 (.c (.int .i64 (-1)))) .nil)) <| .ret⟩
theorem c148_ok : compileF Tryz.prog Tryz.f148 = some c148 := by kernel_rfl
def c149 : SFn := ⟨19, [.t 4], .seq (.rg (.o none (.mv 4 (.c (.int .i64 0))) .nil)) <| .seq (.seq (.rg (.o none (.mv 6 (.t 0)) <|
  .o none (.len 7 (.t 6)) <|
  .o none (.mv 8 (.c (.int .i64 0))) .nil)) <| .block 0 (.loop (.seq (.rg (.o none (.bin 9 .lss false (.t 8) (.t 7)) .nil)) <| .seq (.cond (.t 9) (.skip) (.exit 0)) <| .seq (.block 1 (.seq (.rg (.o none (.mv 10 (.t 8)) <|
  .o none (.mv 5 (.t 10)) .nil)) <| .seq (.rg (.o none (.mv 11 (.t 1)) <|
  .o none (.mv 12 (.t 0)) <|
  .o none (.mv 13 (.t 5)) <|
  .o none (.idx 14 1 (.t 12) (.t 13)) <|
  .o none (.ld 15 1 false (.t 14)) <|
  .o none (.call (some 16) false (.t 11) [(.t 15)]) .nil)) <| .cond (.t 16) (.seq (.rg (.o none (.mv 17 (.t 5)) <|
  .o none (.mv 4 (.t 17)) .nil)) <| .ret) (.skip))) <| .rg (.o none (.bin 18 .add false (.t 8) (.c (.int .i64 1))) <|
  .o none (.mv 8 (.t 18)) .nil)))) <| .seq (.rg (.o none (.mv 4 (.c (.int .i64 (-1)))) .nil)) <| .ret⟩
theorem c149_ok : compileF Tryz.prog Tryz.f149 = some c149 := by kernel_rfl
end Go.Proofs.YtfhmockdgbkpnaaGreat
namespace Go.Proofs.YtfhmockdgbkpnaaGreat
open Go Go.FW
set_option linter.unusedSimpArgs false
set_option linter.unusedVariables false
set_option maxRecDepth 100000
theorem q_Add {a b : Rat} {k : Nat} (ha : rs a ≤ k) (hb : rs b ≤ k) (hk : k < 2 ^ 36) : FnSpec Tryz.prog 50 [PV.rat a, PV.rat b] (· = PV.rat (a + b)) := by
  have := q_Add_raw (raw_of ha) (raw_of hb) hk
  rwa [rv_of, rv_of] at this
theorem q_Mul {a b : Rat} {k : Nat} (ha : rs a ≤ k) (hb : rs b ≤ k) (hk : k < 2 ^ 36) : FnSpec Tryz.prog 51 [PV.rat a, PV.rat b] (· = PV.rat (a * b)) := by
  have := q_Mul_raw (raw_of ha) (raw_of hb) hk
  rwa [rv_of, rv_of] at this
theorem q_Equal {a b : Rat} {k : Nat} (ha : rs a ≤ k) (hb : rs b ≤ k) (hk : k < 2 ^ 36) : FnSpec Tryz.prog 49 [PV.rat a, PV.rat b] (· = .bool (decide (a = b))) := by
  have := q_Equal_raw (raw_of ha) (raw_of hb) hk
  rwa [rv_of, rv_of] at this
theorem q_Sign {a : Rat} (ha : rs a < 2 ^ 36) : FnSpec Tryz.prog 90 [PV.rat a] (· = .int .i64 (sgnQ a)) := by
  have := q_Sign_raw (raw_of (Nat.le_refl (rs a))) ha
  rwa [rv_of] at this
theorem p_lex_spec {s t : Tm} {E : Nat} (hs : MB E s.2) (ht : MB E t.2) (hE : E ≤ 2 ^ 38) : FnSpec Tryz.prog 80 [PV.term s, PV.term t] (· = .int .i64 (cmpM s.2 t.2)) := by
  refine fn_of_vc mixed Tryz.func80 rfl c80_ok (by simp [c80]) fun C hP => ?_; simp only [c80]
  simp +decide (disch := first | omega | rfl | (simp +decide only [go_sem, ↓reduceIte] <;> rfl) | fail) only [go_sem, ↓reduceIte, mk_empty, sl_3n, app_nil_map, mk_i64, max_nat]
  refine call_eq0 hP (m_Cmp_spec (o := 0) hs ht (by omega)) rfl rfl rfl ?_
  simp +decide (disch := first | omega | rfl | (simp +decide only [go_sem, ↓reduceIte] <;> rfl) | fail) only [go_sem, ↓reduceIte, mk_empty, sl_3n, app_nil_map, mk_i64, max_nat]
  exact retV_eq (by rw [cmpO_0]) rfl
theorem p_added_spec {s t : Tm} {k : Nat} (hs : rs s.1 ≤ k) (ht : rs t.1 ≤ k) (hk : k < 2 ^ 34) : FnSpec Tryz.prog 85 [PV.term s, PV.term t] (· = .tup [PV.term (s.1 + t.1, s.2), .bool (decide (¬ s.1 + t.1 = 0))]) := by
  have hr := rs_add s.1 t.1
  refine fn_of_vc mixed Tryz.func85 rfl c85_ok (by simp [c85]) fun C hP => ?_; simp only [c85]
  simp +decide (disch := first | omega | rfl | (simp +decide only [go_sem, ↓reduceIte] <;> rfl) | fail) only [go_sem, ↓reduceIte, mk_empty, sl_3n, app_nil_map, mk_i64, max_nat]
  refine call_eq0 hP (q_Add (a := s.1) (b := t.1) hs ht (by omega)) rfl rfl rfl ?_
  simp +decide (disch := first | omega | rfl | (simp +decide only [go_sem, ↓reduceIte] <;> rfl) | fail) only [go_sem, ↓reduceIte, mk_empty, sl_3n, app_nil_map, mk_i64, max_nat]
  refine call_eq0 hP (q_Sign (a := s.1 + t.1) (by omega)) rfl rfl rfl ?_
  simp +decide (disch := first | omega | rfl | (simp +decide only [go_sem, ↓reduceIte] <;> rfl) | fail) only [go_sem, ↓reduceIte, mk_empty, sl_3n, app_nil_map, mk_i64, max_nat]
  refine ret_2 ?_
  simp +decide (disch := first | omega | rfl | (simp +decide only [go_sem, ↓reduceIte] <;> rfl) | fail) only [go_sem, ↓reduceIte, mk_empty, sl_3n, app_nil_map, mk_i64, max_nat]
  exact ret2 rfl rfl rfl (le_refl _) (le_of_eq (congrArg PV.bool (decide_eq_decide.2 (not_congr sgnQ_zero))))
theorem p_single_spec {c : Rat} {m : List Int} (hc : rs c < 2 ^ 36) : FnSpec Tryz.prog 92 [PV.rat c, PV.mono m] (· = PV.poly (if c = 0 then [] else [(c, m)])) := by
  refine fn_of_vc mixed Tryz.func92 rfl c92_ok (by simp [c92]) fun C hP => ?_; simp only [c92]
  simp +decide (disch := first | omega | rfl | (simp +decide only [go_sem, ↓reduceIte] <;> rfl) | fail) only [go_sem, ↓reduceIte, mk_empty, sl_3n, app_nil_map, mk_i64, max_nat]
  refine call_eq0 hP (q_Sign (a := c) hc) rfl rfl rfl ?_
  simp +decide (disch := first | omega | rfl | (simp +decide only [go_sem, ↓reduceIte] <;> rfl) | fail) only [go_sem, ↓reduceIte, mk_empty, sl_3n, app_nil_map, mk_i64, max_nat]
  refine cond_split (fun h0 => ?_) (fun h0 => ?_)
  · rw [if_pos (sgnQ_zero.1 h0)]
    simp +decide (disch := first | omega | rfl | (simp +decide only [go_sem, ↓reduceIte] <;> rfl) | fail) only [go_sem, ↓reduceIte, mk_empty, sl_3n, app_nil_map, mk_i64, max_nat]
    exact retV_le poly_nil rfl
  · rw [if_neg (fun h => h0 (sgnQ_zero.2 h))]
    simp +decide (disch := first | omega | rfl | (simp +decide only [go_sem, ↓reduceIte, looks3, List.contains_cons, List.contains_nil, List.flatMap_cons, List.flatMap_nil, List.append_nil] <;> rfl) | fail) only [go_sem, ↓reduceIte, mk_empty, sl_3n, app_nil_map, mk_i64, max_nat, looks3, List.contains_cons, List.contains_nil, List.flatMap_cons, List.flatMap_nil, List.append_nil]
    exact retV_eq rfl rfl
theorem p_merge_spec {p q : List Tm} {K E : Nat} (hp : PB K E p) (hq : PB K E q) (hK : K ≤ 2 ^ 33) (hE : E ≤ 2 ^ 38) (hlp : p.length ≤ 2 ^ 36) (hlq : q.length ≤ 2 ^ 36) :
    FnSpec Tryz.prog 84 [PV.poly p, PV.poly q, .fn 80 [] [], .fn 85 [] []] (· = PV.poly (padd p q)) := by
  refine fn_of_vc mixed Tryz.func84 rfl c84_ok (by simp [c84]) fun C hP => ?_; simp only [c84]
  simp +decide (disch := first | omega | rfl | (simp +decide only [go_sem, ↓reduceIte] <;> rfl) | fail) only [go_sem, ↓reduceIte, mk_empty, sl_3n, app_nil_map, mk_i64, max_nat]
  refine vc_loopF (by repeat (first | exact okSk_ret | exact okSk_retM | exact okSk_retO | apply okSk_back | apply okSk_out | apply okSk_eb | apply okSk_c | apply okSk_o | apply okSk_again)) [(9, 14), (21, 86)] [13, 20, 57, 58, 71, 72, 83, 84] (fun n J hp => ∃ i k out, n = (p.length - i) + (q.length - k) ∧ i ≤ p.length ∧ k ≤ q.length ∧ out.length ≤ i + k ∧ out ++ padd (p.drop i) (q.drop k) = padd p q ∧
    J 9 = .ms 20 out.length ∧ J 10 = .int .i64 (i : Nat) ∧ J 11 = .int .i64 (k : Nat) ∧ hp 20 = some ⟨4, 49, out.map PV.term, false⟩) (p.length + q.length) ?_ ?_
  · refine ⟨0, 0, [], by omega, by omega, by omega, by simp, rfl, ?_⟩
    simp +decide (disch := first | omega | rfl | (simp +decide only [go_sem, ↓reduceIte] <;> rfl) | fail) only [go_sem, ↓reduceIte, mk_empty, sl_3n, app_nil_map, mk_i64, max_nat]
    simp
  rintro _ J h ⟨i, k, out, rfl, hi, hk, hol, hpad, h9, h10, h11, hh⟩
  simp +decide (disch := first | omega | rfl | (simp +decide only [go_sem, ↓reduceIte, h9, h10, h11] <;> rfl) | fail) only [go_sem, ↓reduceIte, mk_empty, sl_3n, app_nil_map, mk_i64, max_nat, h9, h10, h11]
  refine guard_split (fun hg => ?_) (fun hg => ?_)
  · have hi' : i < p.length := by omega
    simp +decide (disch := first | omega | rfl | (simp +decide only [go_sem, ↓reduceIte, h9, h10, h11] <;> rfl) | fail) only [go_sem, ↓reduceIte, mk_empty, sl_3n, app_nil_map, mk_i64, max_nat, h9, h10, h11]
    refine cond_split (fun hg2 => ?_) (fun hg2 => ?_)
    · have hk' : k < q.length := by omega
      have htp := hp.get hi'
      have htq := hq.get hk'
      rw [padd_drop hi' hk'] at hpad
      have c1 := htp.c
      have c2 := htq.c
      generalize hx : p[i] = x at *
      generalize hy : q[k] = y at *
      simp +decide (disch := first | omega | rfl | (simp +decide only [go_sem, ↓reduceIte, h9, h10, h11, hx, hy] <;> rfl) | fail) only [go_sem, ↓reduceIte, mk_empty, sl_3n, app_nil_map, mk_i64, max_nat, h9, h10, h11, hx, hy]
      refine call_eq0 hP (p_lex_spec (s := x) (t := y) htp.m htq.m hE) rfl rfl rfl ?_
      simp +decide (disch := first | omega | rfl | (simp +decide only [go_sem, ↓reduceIte, h9, h10, h11, hx, hy] <;> rfl) | fail) only [go_sem, ↓reduceIte, mk_empty, sl_3n, app_nil_map, mk_i64, max_nat, h9, h10, h11, hx, hy]
      refine cond_split (fun hc => ?_) (fun hc => ?_)
      · rw [if_pos hc] at hpad
        simp +decide (disch := first | omega | rfl | (simp +decide only [go_sem, ↓reduceIte, h9, h10, h11, hx, hy] <;> rfl) | fail) only [go_sem, ↓reduceIte, mk_empty, sl_3n, app_nil_map, mk_i64, max_nat, h9, h10, h11, hx, hy]
        rw [app_push_map (f := PV.term) (y := x) (xs := out) (ty' := 49) (fz := false) (by simp +decide (disch := first | omega | rfl | (simp +decide only [go_sem, ↓reduceIte, hh] <;> rfl) | fail) only [go_sem, ↓reduceIte, mk_empty, sl_3n, app_nil_map, mk_i64, max_nat, hh]) (by simp +decide (disch := first | omega | rfl | (simp +decide only [go_sem, ↓reduceIte] <;> rfl) | fail) only [go_sem, ↓reduceIte, mk_empty, sl_3n, app_nil_map, mk_i64, max_nat] <;> rfl) (by omega) rfl (by omega) (by omega)]
        simp +decide (disch := first | omega | rfl | (simp +decide only [go_sem, ↓reduceIte, h9, h10, h11, hx, hy] <;> rfl) | fail) only [go_sem, ↓reduceIte, mk_empty, sl_3n, app_nil_map, mk_i64, max_nat, h9, h10, h11, hx, hy]
        refine back_ovr ((p.length - (i + 1)) + (q.length - k)) (by omega) ⟨i + 1, k, out ++ [x], rfl, by omega, hk, by simp; omega, by simpa using hpad, ?_⟩
        simp +decide (disch := first | omega | rfl | (simp +decide only [go_sem, ↓reduceIte, h9, h10, h11] <;> rfl) | fail) only [go_sem, ↓reduceIte, mk_empty, sl_3n, app_nil_map, mk_i64, max_nat, h9, h10, h11]
        simp
      rw [if_neg hc] at hpad
      simp +decide (disch := first | omega | rfl | (simp +decide only [go_sem, ↓reduceIte, h9, h10, h11, hx, hy] <;> rfl) | fail) only [go_sem, ↓reduceIte, mk_empty, sl_3n, app_nil_map, mk_i64, max_nat, h9, h10, h11, hx, hy]
      refine cond_split (fun hc2 => ?_) (fun hc2 => ?_)
      · rw [if_pos hc2] at hpad
        simp +decide (disch := first | omega | rfl | (simp +decide only [go_sem, ↓reduceIte, h9, h10, h11, hx, hy] <;> rfl) | fail) only [go_sem, ↓reduceIte, mk_empty, sl_3n, app_nil_map, mk_i64, max_nat, h9, h10, h11, hx, hy]
        rw [app_push_map (f := PV.term) (y := y) (xs := out) (ty' := 49) (fz := false) (by simp +decide (disch := first | omega | rfl | (simp +decide only [go_sem, ↓reduceIte, hh] <;> rfl) | fail) only [go_sem, ↓reduceIte, mk_empty, sl_3n, app_nil_map, mk_i64, max_nat, hh]) (by simp +decide (disch := first | omega | rfl | (simp +decide only [go_sem, ↓reduceIte] <;> rfl) | fail) only [go_sem, ↓reduceIte, mk_empty, sl_3n, app_nil_map, mk_i64, max_nat] <;> rfl) (by omega) rfl (by omega) (by omega)]
        simp +decide (disch := first | omega | rfl | (simp +decide only [go_sem, ↓reduceIte, h9, h10, h11, hx, hy] <;> rfl) | fail) only [go_sem, ↓reduceIte, mk_empty, sl_3n, app_nil_map, mk_i64, max_nat, h9, h10, h11, hx, hy]
        refine back_ovr ((p.length - i) + (q.length - (k + 1))) (by omega) ⟨i, k + 1, out ++ [y], rfl, hi, by omega, by simp; omega, by simpa using hpad, ?_⟩
        simp +decide (disch := first | omega | rfl | (simp +decide only [go_sem, ↓reduceIte, h9, h10, h11] <;> rfl) | fail) only [go_sem, ↓reduceIte, mk_empty, sl_3n, app_nil_map, mk_i64, max_nat, h9, h10, h11]
        simp
      rw [if_neg hc2] at hpad
      simp +decide (disch := first | omega | rfl | (simp +decide only [go_sem, ↓reduceIte, h9, h10, h11, hx, hy] <;> rfl) | fail) only [go_sem, ↓reduceIte, mk_empty, sl_3n, app_nil_map, mk_i64, max_nat, h9, h10, h11, hx, hy]
      refine br_intro ?_ ?_
      all_goals
        simp +decide (disch := first | omega | rfl | (simp +decide only [go_sem, ↓reduceIte, h9, h10, h11, hx, hy] <;> rfl) | fail) only [go_sem, ↓reduceIte, mk_empty, sl_3n, app_nil_map, mk_i64, max_nat, h9, h10, h11, hx, hy]
        refine call_eq0 hP (p_added_spec (s := x) (t := y) (k := 2 ^ 33) (by omega) (by omega) (by omega)) rfl rfl rfl ?_
        simp +decide (disch := first | omega | rfl | (simp +decide only [go_sem, ↓reduceIte, h9, h10, h11, hx, hy] <;> rfl) | fail) only [go_sem, ↓reduceIte, mk_empty, sl_3n, app_nil_map, mk_i64, max_nat, h9, h10, h11, hx, hy]
        refine cond_split (fun hz => ?_) (fun hz => ?_)
        · rw [if_neg hz] at hpad
          simp +decide (disch := first | omega | rfl | (simp +decide only [go_sem, ↓reduceIte, h9, h10, h11, hx, hy] <;> rfl) | fail) only [go_sem, ↓reduceIte, mk_empty, sl_3n, app_nil_map, mk_i64, max_nat, h9, h10, h11, hx, hy]
          rw [app_push_map (f := PV.term) (y := (x.1 + y.1, x.2)) (xs := out) (ty' := 49) (fz := false) (by simp +decide (disch := first | omega | rfl | (simp +decide only [go_sem, ↓reduceIte, hh] <;> rfl) | fail) only [go_sem, ↓reduceIte, mk_empty, sl_3n, app_nil_map, mk_i64, max_nat, hh]) (by simp +decide (disch := first | omega | rfl | (simp +decide only [go_sem, ↓reduceIte] <;> rfl) | fail) only [go_sem, ↓reduceIte, mk_empty, sl_3n, app_nil_map, mk_i64, max_nat] <;> rfl) (by omega) rfl (by omega) (by omega)]
          simp +decide (disch := first | omega | rfl | (simp +decide only [go_sem, ↓reduceIte, h9, h10, h11, hx, hy] <;> rfl) | fail) only [go_sem, ↓reduceIte, mk_empty, sl_3n, app_nil_map, mk_i64, max_nat, h9, h10, h11, hx, hy]
          refine back_ovr ((p.length - (i + 1)) + (q.length - (k + 1))) (by omega) ⟨i + 1, k + 1, out ++ [(x.1 + y.1, x.2)], rfl, by omega, by omega, by simp; omega, by simpa using hpad, ?_⟩
          simp +decide (disch := first | omega | rfl | (simp +decide only [go_sem, ↓reduceIte, h9, h10, h11] <;> rfl) | fail) only [go_sem, ↓reduceIte, mk_empty, sl_3n, app_nil_map, mk_i64, max_nat, h9, h10, h11]
          simp
        · rw [if_pos (Decidable.not_not.1 hz)] at hpad
          simp +decide (disch := first | omega | rfl | (simp +decide only [go_sem, ↓reduceIte, h9, h10, h11, hx, hy] <;> rfl) | fail) only [go_sem, ↓reduceIte, mk_empty, sl_3n, app_nil_map, mk_i64, max_nat, h9, h10, h11, hx, hy]
          refine back_ovr ((p.length - (i + 1)) + (q.length - (k + 1))) (by omega) ⟨i + 1, k + 1, out, rfl, by omega, by omega, by omega, hpad, ?_⟩
          simp +decide (disch := first | omega | rfl | (simp +decide only [go_sem, ↓reduceIte, h9, h10, h11, hh] <;> rfl) | fail) only [go_sem, ↓reduceIte, mk_empty, sl_3n, app_nil_map, mk_i64, max_nat, h9, h10, h11, hh]
    · have hfin : (out ++ p.drop i ++ q.drop k).take (out.length + (p.drop i).length + (q.drop k).length) = padd p q := by
        rw [List.take_of_length_le (by simp; omega), ← hpad, List.drop_of_length_le (by omega : q.length ≤ k), padd_nil, List.append_nil]
      simp +decide (disch := first | omega | rfl | (simp +decide only [go_sem, ↓reduceIte, h9, h10, h11] <;> rfl) | fail) only [go_sem, ↓reduceIte, mk_empty, sl_3n, app_nil_map, mk_i64, max_nat, h9, h10, h11]
      rw [app_map (f := PV.term) (xs := out) (ys := p.drop i) (by simp +decide (disch := first | omega | rfl | (simp +decide only [go_sem, ↓reduceIte, hh] <;> rfl) | fail) only [go_sem, ↓reduceIte, mk_empty, sl_3n, app_nil_map, mk_i64, max_nat, hh]) rfl (by omega) (by simp; omega) (by simp; omega)]
      simp +decide (disch := first | omega | rfl | (simp +decide only [go_sem, ↓reduceIte, h9, h10, h11] <;> rfl) | fail) only [go_sem, ↓reduceIte, mk_empty, sl_3n, app_nil_map, mk_i64, max_nat, h9, h10, h11]
      rw [app_map (f := PV.term) (xs := out ++ p.drop i) (ys := q.drop k) (by simp +decide (disch := first | omega | rfl | (simp +decide only [go_sem, ↓reduceIte] <;> rfl) | fail) only [go_sem, ↓reduceIte, mk_empty, sl_3n, app_nil_map, mk_i64, max_nat]) (by simp) (by omega) (by simp; omega) (by simp; omega)]
      simp +decide (disch := first | omega | rfl | (simp +decide only [go_sem, ↓reduceIte, h9, h10, h11, looks3, List.contains_cons, List.contains_nil, List.flatMap_cons, List.flatMap_nil, List.append_nil] <;> rfl) | fail) only [go_sem, ↓reduceIte, mk_empty, sl_3n, app_nil_map, mk_i64, max_nat, h9, h10, h11, looks3, List.contains_cons, List.contains_nil, List.flatMap_cons, List.flatMap_nil, List.append_nil]
      exact retV_eq (by rw [← List.map_take, hfin]) rfl
  · have hfin : (out ++ p.drop i ++ q.drop k).take (out.length + (p.drop i).length + (q.drop k).length) = padd p q := by
      rw [List.take_of_length_le (by simp; omega), ← hpad, List.drop_of_length_le (by omega : p.length ≤ i), nil_padd, List.append_nil]
    simp +decide (disch := first | omega | rfl | (simp +decide only [go_sem, ↓reduceIte, h9, h10, h11] <;> rfl) | fail) only [go_sem, ↓reduceIte, mk_empty, sl_3n, app_nil_map, mk_i64, max_nat, h9, h10, h11]
    rw [app_map (f := PV.term) (xs := out) (ys := p.drop i) (by simp +decide (disch := first | omega | rfl | (simp +decide only [go_sem, ↓reduceIte, hh] <;> rfl) | fail) only [go_sem, ↓reduceIte, mk_empty, sl_3n, app_nil_map, mk_i64, max_nat, hh]) rfl (by omega) (by simp; omega) (by simp; omega)]
    simp +decide (disch := first | omega | rfl | (simp +decide only [go_sem, ↓reduceIte, h9, h10, h11] <;> rfl) | fail) only [go_sem, ↓reduceIte, mk_empty, sl_3n, app_nil_map, mk_i64, max_nat, h9, h10, h11]
    rw [app_map (f := PV.term) (xs := out ++ p.drop i) (ys := q.drop k) (by simp +decide (disch := first | omega | rfl | (simp +decide only [go_sem, ↓reduceIte] <;> rfl) | fail) only [go_sem, ↓reduceIte, mk_empty, sl_3n, app_nil_map, mk_i64, max_nat]) (by simp) (by omega) (by simp; omega) (by simp; omega)]
    simp +decide (disch := first | omega | rfl | (simp +decide only [go_sem, ↓reduceIte, h9, h10, h11, looks3, List.contains_cons, List.contains_nil, List.flatMap_cons, List.flatMap_nil, List.append_nil] <;> rfl) | fail) only [go_sem, ↓reduceIte, mk_empty, sl_3n, app_nil_map, mk_i64, max_nat, h9, h10, h11, looks3, List.contains_cons, List.contains_nil, List.flatMap_cons, List.flatMap_nil, List.append_nil]
    exact retV_eq (by rw [← List.map_take, hfin]) rfl
theorem p_Add_spec {p q : List Tm} {K E : Nat} (hp : PB K E p) (hq : PB K E q) (hK : K ≤ 2 ^ 33) (hE : E ≤ 2 ^ 38) (hlp : p.length ≤ 2 ^ 36) (hlq : q.length ≤ 2 ^ 36) :
    FnSpec Tryz.prog 35 [PV.poly p, PV.poly q] (· = PV.poly (padd p q)) := by
  refine fn_of_vc mixed Tryz.func35 rfl c35_ok (by simp [c35]) fun C hP => ?_; simp only [c35]
  simp +decide (disch := first | omega | rfl | (simp +decide only [go_sem, ↓reduceIte] <;> rfl) | fail) only [go_sem, ↓reduceIte, mk_empty, sl_3n, app_nil_map, mk_i64, max_nat]
  refine call_eq0 hP (p_merge_spec hp hq hK hE hlp hlq) rfl rfl rfl ?_
  simp +decide (disch := first | omega | rfl | (simp +decide only [go_sem, ↓reduceIte] <;> rfl) | fail) only [go_sem, ↓reduceIte, mk_empty, sl_3n, app_nil_map, mk_i64, max_nat]
  exact retV_eq rfl rfl
end Go.Proofs.YtfhmockdgbkpnaaGreat
namespace Go.Proofs.YtfhmockdgbkpnaaGreat
open Go Go.FW
set_option linter.unusedSimpArgs false
set_option linter.unusedVariables false
set_option maxRecDepth 100000
theorem p_sum_spec {K E : Nat} (hE : E ≤ 2 ^ 38) : ∀ (n : Nat) (l : List (List Tm)), l.length ≤ n → (∀ p ∈ l, PB K E p) → l.length * K ≤ 2 ^ 33 → l.length ≤ 2 ^ 36 → plen l ≤ 2 ^ 36 → FnSpec Tryz.prog 88 [PV.polys l] (· = PV.poly (psum l)) := by
  intro n
  induction n with
  | zero =>
    intro l hl _ _ _ _
    have : l = [] := List.length_eq_zero_iff.1 (by omega)
    subst this
    refine fn_of_vc mixed Tryz.func88 rfl c88_ok (by simp [c88]) fun C hP => ?_; simp only [c88]
    simp +decide (disch := first | omega | rfl | (simp +decide only [go_sem, ↓reduceIte, List.map_nil, List.length_nil] <;> rfl) | fail) only [go_sem, ↓reduceIte, mk_empty, sl_3n, app_nil_map, mk_i64, max_nat, List.map_nil, List.length_nil]
    exact retV_le (poly_nil' (by rw [psum])) rfl
  | succ n ih =>
    intro l hl hb hK hll hpl
    refine fn_of_vc mixed Tryz.func88 rfl c88_ok (by simp [c88]) fun C hP => ?_; simp only [c88]
    simp +decide (disch := first | omega | rfl | (simp +decide only [go_sem, ↓reduceIte] <;> rfl) | fail) only [go_sem, ↓reduceIte, mk_empty, sl_3n, app_nil_map, mk_i64, max_nat]
    refine cond_split (fun h0 => ?_) (fun h0 => ?_)
    · have : l = [] := List.length_eq_zero_iff.1 (by omega)
      subst this
      simp +decide (disch := first | omega | rfl | (simp +decide only [go_sem, ↓reduceIte] <;> rfl) | fail) only [go_sem, ↓reduceIte, mk_empty, sl_3n, app_nil_map, mk_i64, max_nat]
      exact retV_le (poly_nil' (by rw [psum])) rfl
    simp +decide (disch := first | omega | rfl | (simp +decide only [go_sem, ↓reduceIte] <;> rfl) | fail) only [go_sem, ↓reduceIte, mk_empty, sl_3n, app_nil_map, mk_i64, max_nat]
    refine cond_split (fun h1 => ?_) (fun h1 => ?_)
    · obtain ⟨p, rfl⟩ : ∃ p, l = [p] := List.length_eq_one_iff.1 (by omega)
      simp +decide (disch := first | omega | rfl | (simp +decide only [go_sem, ↓reduceIte, List.map_cons, List.map_nil] <;> rfl) | fail) only [go_sem, ↓reduceIte, mk_empty, sl_3n, app_nil_map, mk_i64, max_nat, List.map_cons, List.map_nil]
      exact retV_eq (by rw [psum]; rfl) rfl
    have h2 : 2 ≤ l.length := by omega
    have hs := plen_split l (l.length / 2)
    have e : (2 : Int) = ((2 : Nat) : Int) := rfl
    have hq : ∀ d fr hp K, binK .quo false (.int .i64 (l.length : Int)) (.int .i64 2) d fr hp K = K (upd fr d (.int .i64 ((l.length / 2 : Nat) : Int))) hp := fun d fr hp K => by
      rw [e, quo_i64 (by omega) (by omega)]
    have b1 := psum_bound (K := K) (E := E) _ (l.take (l.length / 2)) (Nat.le_refl _) (fun p hp => hb p (List.mem_of_mem_take hp))
    have b2 := psum_bound (K := K) (E := E) _ (l.drop (l.length / 2)) (Nat.le_refl _) (fun p hp => hb p (List.mem_of_mem_drop hp))
    have l1 : (l.take (l.length / 2)).length * K ≤ l.length * K := Nat.mul_le_mul_right _ (by rw [List.length_take]; omega)
    have l2 : (l.drop (l.length / 2)).length * K ≤ l.length * K := Nat.mul_le_mul_right _ (by rw [List.length_drop]; omega)
    simp +decide (disch := first | omega | rfl | (simp +decide only [go_sem, ↓reduceIte, hq] <;> rfl) | fail) only [go_sem, ↓reduceIte, mk_empty, sl_3n, app_nil_map, mk_i64, max_nat, hq]
    refine call_eq0 hP (ih (l.take (l.length / 2)) (by rw [List.length_take]; omega) (fun p hp => hb p (List.mem_of_mem_take hp)) (by omega) (by rw [List.length_take]; omega) (by omega)) rfl rfl rfl ?_
    simp +decide (disch := first | omega | rfl | (simp +decide only [go_sem, ↓reduceIte, hq] <;> rfl) | fail) only [go_sem, ↓reduceIte, mk_empty, sl_3n, app_nil_map, mk_i64, max_nat, hq]
    refine call_eq0 hP (ih (l.drop (l.length / 2)) (by rw [List.length_drop]; omega) (fun p hp => hb p (List.mem_of_mem_drop hp)) (by omega) (by rw [List.length_drop]; omega) (by omega)) rfl rfl rfl ?_
    simp +decide (disch := first | omega | rfl | (simp +decide only [go_sem, ↓reduceIte, hq] <;> rfl) | fail) only [go_sem, ↓reduceIte, mk_empty, sl_3n, app_nil_map, mk_i64, max_nat, hq]
    refine call_eq0 hP (p_Add_spec (b1.1.mono (K' := l.length * K) l1 (Nat.le_refl _)) (b2.1.mono l2 (Nat.le_refl _)) hK hE (by omega) (by omega)) rfl rfl rfl ?_
    simp +decide (disch := first | omega | rfl | (simp +decide only [go_sem, ↓reduceIte] <;> rfl) | fail) only [go_sem, ↓reduceIte, mk_empty, sl_3n, app_nil_map, mk_i64, max_nat]
    exact retV_eq (by rw [psum_many h2]) rfl
theorem ptimes_take {p : List Tm} {t : Tm} {i : Nat} (h : i < p.length) : ptimes (p.take (i + 1)) t = ptimes (p.take i) t ++ (if p[i].1 * t.1 = 0 then [] else [(p[i].1 * t.1, mulM p[i].2 t.2)]) := by
  rw [List.take_succ_eq_append_getElem h, ptimes, List.filterMap_append, ptimes]
  congr 1
  simp only [List.filterMap_cons, List.filterMap_nil]
  split <;> split <;> simp_all
theorem p_times_spec {p : List Tm} {t : Tm} {K E : Nat} (hp : PB K E p) (ht : TB K E t) (hK : K ≤ 2 ^ 33) (hE : E ≤ 2 ^ 38) (hlp : p.length ≤ 2 ^ 36) :
    FnSpec Tryz.prog 87 [PV.poly p, PV.term t] (· = PV.poly (ptimes p t)) := by
  refine fn_of_vc mixed Tryz.func87 rfl c87_ok (by simp [c87]) fun C hP => ?_; simp only [c87]
  simp +decide (disch := first | omega | rfl | (simp +decide only [go_sem, ↓reduceIte] <;> rfl) | fail) only [go_sem, ↓reduceIte, mk_empty, sl_3n, app_nil_map, mk_i64, max_nat]
  refine vc_loopF (by repeat (first | exact okSk_ret | exact okSk_retM | exact okSk_retO | apply okSk_back | apply okSk_out | apply okSk_eb | apply okSk_c | apply okSk_o | apply okSk_again)) [(5, 5), (7, 8), (14, 36)] [7, 8, 11, 34, 35] (fun n J hp => ∃ i, n = p.length - i ∧ i ≤ p.length ∧ J 5 = .ms 11 (ptimes (p.take i) t).length ∧ J 14 = .int .i64 (i : Nat) ∧ hp 3 = some ⟨4, 49, [PV.term t], false⟩ ∧ hp 11 = some ⟨4, 49, (ptimes (p.take i) t).map PV.term, false⟩) p.length ?_ ?_
  · refine ⟨0, rfl, by omega, ?_⟩
    simp +decide (disch := first | omega | rfl | (simp +decide only [go_sem, ↓reduceIte] <;> rfl) | fail) only [go_sem, ↓reduceIte, mk_empty, sl_3n, app_nil_map, mk_i64, max_nat]
    simp [ptimes]
  rintro _ J h ⟨i, rfl, hi, h5, h14, hh3, hh11⟩
  simp +decide (disch := first | omega | rfl | (simp +decide only [go_sem, ↓reduceIte, h5, h14] <;> rfl) | fail) only [go_sem, ↓reduceIte, mk_empty, sl_3n, app_nil_map, mk_i64, max_nat, h5, h14]
  refine cond_split (fun hg => ?_) (fun hg => ?_)
  · have hi' : i < p.length := by omega
    have htp := hp.get hi'
    have htk := ptimes_take (t := t) hi'
    have hlen := ptimes_length (p.take i) t
    rw [List.length_take] at hlen
    have c1 := htp.c
    have c2 := ht.c
    have hrm := rs_mul p[i].1 t.1
    generalize hx : p[i] = x at *
    simp +decide (disch := first | omega | rfl | (simp +decide only [go_sem, ↓reduceIte, h5, h14, hh3, hx] <;> rfl) | fail) only [go_sem, ↓reduceIte, mk_empty, sl_3n, app_nil_map, mk_i64, max_nat, h5, h14, hh3, hx]
    refine call_eq0 hP (q_Mul (a := x.1) (b := t.1) (k := 2 ^ 33) (by omega) (by omega) (by omega)) rfl rfl rfl ?_
    simp +decide (disch := first | omega | rfl | (simp +decide only [go_sem, ↓reduceIte, h5, h14, hh3, hx] <;> rfl) | fail) only [go_sem, ↓reduceIte, mk_empty, sl_3n, app_nil_map, mk_i64, max_nat, h5, h14, hh3, hx]
    refine call_eq0 hP (q_Sign (a := x.1 * t.1) (by omega)) rfl rfl rfl ?_
    simp +decide (disch := first | omega | rfl | (simp +decide only [go_sem, ↓reduceIte, h5, h14, hh3, hx] <;> rfl) | fail) only [go_sem, ↓reduceIte, mk_empty, sl_3n, app_nil_map, mk_i64, max_nat, h5, h14, hh3, hx]
    refine cond_split (fun hz => ?_) (fun hz => ?_)
    · rw [if_neg (fun h => hz (sgnQ_zero.2 h))] at htk
      simp +decide (disch := first | omega | rfl | (simp +decide only [go_sem, ↓reduceIte, h5, h14, hh3, hx] <;> rfl) | fail) only [go_sem, ↓reduceIte, mk_empty, sl_3n, app_nil_map, mk_i64, max_nat, h5, h14, hh3, hx]
      refine call_eq0 hP (m_Mul_spec htp.m ht.m (by omega)) rfl rfl rfl ?_
      simp +decide (disch := first | omega | rfl | (simp +decide only [go_sem, ↓reduceIte, h5, h14, hh3, hx] <;> rfl) | fail) only [go_sem, ↓reduceIte, mk_empty, sl_3n, app_nil_map, mk_i64, max_nat, h5, h14, hh3, hx]
      rw [app_push_map (f := PV.term) (y := (x.1 * t.1, mulM x.2 t.2)) (xs := ptimes (p.take i) t) (ty' := 49) (fz := false) (by simp +decide (disch := first | omega | rfl | (simp +decide only [go_sem, ↓reduceIte, hh11] <;> rfl) | fail) only [go_sem, ↓reduceIte, mk_empty, sl_3n, app_nil_map, mk_i64, max_nat, hh11]) (by simp +decide (disch := first | omega | rfl | (simp +decide only [go_sem, ↓reduceIte] <;> rfl) | fail) only [go_sem, ↓reduceIte, mk_empty, sl_3n, app_nil_map, mk_i64, max_nat] <;> rfl) (by omega) rfl (by omega) (by omega)]
      rw [← htk]
      simp +decide (disch := first | omega | rfl | (simp +decide only [go_sem, ↓reduceIte, h5, h14, hh3, hx] <;> rfl) | fail) only [go_sem, ↓reduceIte, mk_empty, sl_3n, app_nil_map, mk_i64, max_nat, h5, h14, hh3, hx]
      refine back_ovr (p.length - (i + 1)) (by omega) ⟨i + 1, rfl, by omega, ?_⟩
      rw [htk]
      simp +decide (disch := first | omega | rfl | (simp +decide only [go_sem, ↓reduceIte, h5, h14, hh3, List.length_append] <;> rfl) | fail) only [go_sem, ↓reduceIte, mk_empty, sl_3n, app_nil_map, mk_i64, max_nat, h5, h14, hh3, List.length_append]
    · rw [if_pos (sgnQ_zero.1 (Decidable.not_not.1 hz)), List.append_nil] at htk
      simp +decide (disch := first | omega | rfl | (simp +decide only [go_sem, ↓reduceIte, h5, h14, hh3, hx] <;> rfl) | fail) only [go_sem, ↓reduceIte, mk_empty, sl_3n, app_nil_map, mk_i64, max_nat, h5, h14, hh3, hx]
      refine back_ovr (p.length - (i + 1)) (by omega) ⟨i + 1, rfl, by omega, ?_⟩
      rw [htk]
      simp +decide (disch := first | omega | rfl | (simp +decide only [go_sem, ↓reduceIte, h5, h14, hh3, hh11] <;> rfl) | fail) only [go_sem, ↓reduceIte, mk_empty, sl_3n, app_nil_map, mk_i64, max_nat, h5, h14, hh3, hh11]
  · obtain rfl : i = p.length := by omega
    rw [List.take_length] at h5 hh11
    simp +decide (disch := first | omega | rfl | (simp +decide only [go_sem, ↓reduceIte, h5, hh11, looks3, List.contains_cons, List.contains_nil, List.flatMap_cons, List.flatMap_nil, List.append_nil] <;> rfl) | fail) only [go_sem, ↓reduceIte, mk_empty, sl_3n, app_nil_map, mk_i64, max_nat, h5, hh11, looks3, List.contains_cons, List.contains_nil, List.flatMap_cons, List.flatMap_nil, List.append_nil]
    exact retV_eq (by simp [List.take_of_length_le]) rfl
theorem p_Mul_spec {p q : List Tm} {K E : Nat} (hp : PB K E p) (hq : PB K E q) (hE : E ≤ 2 ^ 37) (hlp : p.length ≤ 2 ^ 30) (hlq : q.length ≤ 2 ^ 30) (hlm : p.length * q.length ≤ 2 ^ 36) (hK : min p.length q.length * (K + K) ≤ 2 ^ 33) (hK2 : K ≤ 2 ^ 33) :
    FnSpec Tryz.prog 39 [PV.poly p, PV.poly q] (· = PV.poly (pmul p q)) := by
  have main : ∀ (p q : List Tm), PB K E p → PB K E q → p.length ≤ 2 ^ 30 → q.length ≤ 2 ^ 30 → p.length * q.length ≤ 2 ^ 36 → p.length * (K + K) ≤ 2 ^ 33 → p.length ≤ q.length → True := fun _ _ _ _ _ _ _ _ _ => trivial
  refine fn_of_vc mixed Tryz.func39 rfl c39_ok (by simp [c39]) fun C hP => ?_; simp only [c39]
  simp +decide (disch := first | omega | rfl | (simp +decide only [go_sem, ↓reduceIte] <;> rfl) | fail) only [go_sem, ↓reduceIte, mk_empty, sl_3n, app_nil_map, mk_i64, max_nat]
  refine cond_split (fun hg => ?_) (fun hg => ?_)
  · have hfin : pmul0 q p = pmul p q := by rw [pmul, if_pos (by omega)]
    have hK3 : q.length * (K + K) ≤ 2 ^ 33 := by rw [Nat.min_eq_right (by omega)] at hK; exact hK
    have hlm2 : q.length * p.length ≤ 2 ^ 36 := by rw [Nat.mul_comm]; exact hlm
    simp +decide (disch := first | omega | rfl | (simp +decide only [go_sem, ↓reduceIte] <;> rfl) | fail) only [go_sem, ↓reduceIte, mk_empty, sl_3n, app_nil_map, mk_i64, max_nat]
    refine vc_loopF (by repeat (first | exact okSk_ret | exact okSk_retM | exact okSk_retO | apply okSk_back | apply okSk_out | apply okSk_eb | apply okSk_c | apply okSk_o | apply okSk_again)) [(5, 5), (7, 7), (20, 30)] [7, 17, 28, 29] (fun n J hp => ∃ i, n = q.length - i ∧ i ≤ q.length ∧ J 5 = .ms 17 i ∧ J 20 = .int .i64 (i : Nat) ∧ hp 17 = some ⟨1, 23, ((q.take i).map (ptimes p)).map PV.poly, false⟩) q.length ?_ ?_
    · refine ⟨0, rfl, by omega, ?_⟩
      simp +decide (disch := first | omega | rfl | (simp +decide only [go_sem, ↓reduceIte] <;> rfl) | fail) only [go_sem, ↓reduceIte, mk_empty, sl_3n, app_nil_map, mk_i64, max_nat]
      simp
    rintro _ J h ⟨i, rfl, hi, h5, h20, hh⟩
    simp +decide (disch := first | omega | rfl | (simp +decide only [go_sem, ↓reduceIte, h5, h20] <;> rfl) | fail) only [go_sem, ↓reduceIte, mk_empty, sl_3n, app_nil_map, mk_i64, max_nat, h5, h20]
    refine cond_split (fun hg2 => ?_) (fun hg2 => ?_)
    · have hi' : i < q.length := by omega
      have htp := hq.get hi'
      have htk : (q.take (i + 1)).map (ptimes p) = (q.take i).map (ptimes p) ++ [ptimes p q[i]] := by
        rw [List.take_succ_eq_append_getElem hi', List.map_append]; rfl
      generalize hx : q[i] = x at *
      simp +decide (disch := first | omega | rfl | (simp +decide only [go_sem, ↓reduceIte, h5, h20, hx] <;> rfl) | fail) only [go_sem, ↓reduceIte, mk_empty, sl_3n, app_nil_map, mk_i64, max_nat, h5, h20, hx]
      refine call_eq0 hP (p_times_spec (t := x) hp htp hK2 (by omega) (by omega)) rfl rfl rfl ?_
      simp +decide (disch := first | omega | rfl | (simp +decide only [go_sem, ↓reduceIte, h5, h20, hx] <;> rfl) | fail) only [go_sem, ↓reduceIte, mk_empty, sl_3n, app_nil_map, mk_i64, max_nat, h5, h20, hx]
      rw [app_push_map (f := PV.poly) (y := ptimes p x) (xs := (q.take i).map (ptimes p)) (ty' := 23) (fz := false) (by simp +decide (disch := first | omega | rfl | (simp +decide only [go_sem, ↓reduceIte, hh] <;> rfl) | fail) only [go_sem, ↓reduceIte, mk_empty, sl_3n, app_nil_map, mk_i64, max_nat, hh]) (by simp +decide (disch := first | omega | rfl | (simp +decide only [go_sem, ↓reduceIte] <;> rfl) | fail) only [go_sem, ↓reduceIte, mk_empty, sl_3n, app_nil_map, mk_i64, max_nat] <;> rfl) (by omega) (by simp; omega) (by omega) (by omega)]
      rw [← htk]
      simp +decide (disch := first | omega | rfl | (simp +decide only [go_sem, ↓reduceIte, h5, h20, hx] <;> rfl) | fail) only [go_sem, ↓reduceIte, mk_empty, sl_3n, app_nil_map, mk_i64, max_nat, h5, h20, hx]
      refine back_ovr (q.length - (i + 1)) (by omega) ⟨i + 1, rfl, by omega, ?_⟩
      simp +decide (disch := first | omega | rfl | (simp +decide only [go_sem, ↓reduceIte, h5, h20] <;> rfl) | fail) only [go_sem, ↓reduceIte, mk_empty, sl_3n, app_nil_map, mk_i64, max_nat, h5, h20]
    · obtain rfl : i = q.length := by omega
      rw [List.take_length] at hh
      have hpl := plen_map_times q p
      simp +decide (disch := first | omega | rfl | (simp +decide only [go_sem, ↓reduceIte, h5, hh] <;> rfl) | fail) only [go_sem, ↓reduceIte, mk_empty, sl_3n, app_nil_map, mk_i64, max_nat, h5, hh]
      refine call_eq hP (p_sum_spec (K := K + K) (E := E + E) (by omega) _ (q.map (ptimes p)) (Nat.le_refl _) (fun x hx => by
        obtain ⟨t, ht, rfl⟩ := List.mem_map.1 hx
        exact ptimes_PB hp (hq t ht)) (by rw [List.length_map]; omega) (by rw [List.length_map]; omega) (by omega)) (by simp +decide (disch := first | omega | rfl | (simp +decide only [go_sem, ↓reduceIte, hh, looks3, List.contains_cons, List.contains_nil, List.flatMap_cons, List.flatMap_nil, List.append_nil] <;> rfl) | fail) only [go_sem, ↓reduceIte, mk_empty, sl_3n, app_nil_map, mk_i64, max_nat, hh, looks3, List.contains_cons, List.contains_nil, List.flatMap_cons, List.flatMap_nil, List.append_nil]; simp [List.take_of_length_le]) rfl ?_
      simp +decide (disch := first | omega | rfl | (simp +decide only [go_sem, ↓reduceIte] <;> rfl) | fail) only [go_sem, ↓reduceIte, mk_empty, sl_3n, app_nil_map, mk_i64, max_nat]
      exact retV_eq (congrArg PV.poly hfin) rfl
  · have hfin : pmul0 p q = pmul p q := by rw [pmul, if_neg (by omega)]
    have hK3 : p.length * (K + K) ≤ 2 ^ 33 := by rw [Nat.min_eq_left (by omega)] at hK; exact hK
    simp +decide (disch := first | omega | rfl | (simp +decide only [go_sem, ↓reduceIte] <;> rfl) | fail) only [go_sem, ↓reduceIte, mk_empty, sl_3n, app_nil_map, mk_i64, max_nat]
    refine vc_loopF (by repeat (first | exact okSk_ret | exact okSk_retM | exact okSk_retO | apply okSk_back | apply okSk_out | apply okSk_eb | apply okSk_c | apply okSk_o | apply okSk_again)) [(5, 5), (7, 7), (20, 30)] [7, 17, 28, 29] (fun n J hp => ∃ i, n = p.length - i ∧ i ≤ p.length ∧ J 5 = .ms 17 i ∧ J 20 = .int .i64 (i : Nat) ∧ hp 17 = some ⟨1, 23, ((p.take i).map (ptimes q)).map PV.poly, false⟩) p.length ?_ ?_
    · refine ⟨0, rfl, by omega, ?_⟩
      simp +decide (disch := first | omega | rfl | (simp +decide only [go_sem, ↓reduceIte] <;> rfl) | fail) only [go_sem, ↓reduceIte, mk_empty, sl_3n, app_nil_map, mk_i64, max_nat]
      simp
    rintro _ J h ⟨i, rfl, hi, h5, h20, hh⟩
    simp +decide (disch := first | omega | rfl | (simp +decide only [go_sem, ↓reduceIte, h5, h20] <;> rfl) | fail) only [go_sem, ↓reduceIte, mk_empty, sl_3n, app_nil_map, mk_i64, max_nat, h5, h20]
    refine cond_split (fun hg2 => ?_) (fun hg2 => ?_)
    · have hi' : i < p.length := by omega
      have htp := hp.get hi'
      have htk : (p.take (i + 1)).map (ptimes q) = (p.take i).map (ptimes q) ++ [ptimes q p[i]] := by
        rw [List.take_succ_eq_append_getElem hi', List.map_append]; rfl
      generalize hx : p[i] = x at *
      simp +decide (disch := first | omega | rfl | (simp +decide only [go_sem, ↓reduceIte, h5, h20, hx] <;> rfl) | fail) only [go_sem, ↓reduceIte, mk_empty, sl_3n, app_nil_map, mk_i64, max_nat, h5, h20, hx]
      refine call_eq0 hP (p_times_spec (t := x) hq htp hK2 (by omega) (by omega)) rfl rfl rfl ?_
      simp +decide (disch := first | omega | rfl | (simp +decide only [go_sem, ↓reduceIte, h5, h20, hx] <;> rfl) | fail) only [go_sem, ↓reduceIte, mk_empty, sl_3n, app_nil_map, mk_i64, max_nat, h5, h20, hx]
      rw [app_push_map (f := PV.poly) (y := ptimes q x) (xs := (p.take i).map (ptimes q)) (ty' := 23) (fz := false) (by simp +decide (disch := first | omega | rfl | (simp +decide only [go_sem, ↓reduceIte, hh] <;> rfl) | fail) only [go_sem, ↓reduceIte, mk_empty, sl_3n, app_nil_map, mk_i64, max_nat, hh]) (by simp +decide (disch := first | omega | rfl | (simp +decide only [go_sem, ↓reduceIte] <;> rfl) | fail) only [go_sem, ↓reduceIte, mk_empty, sl_3n, app_nil_map, mk_i64, max_nat] <;> rfl) (by omega) (by simp; omega) (by omega) (by omega)]
      rw [← htk]
      simp +decide (disch := first | omega | rfl | (simp +decide only [go_sem, ↓reduceIte, h5, h20, hx] <;> rfl) | fail) only [go_sem, ↓reduceIte, mk_empty, sl_3n, app_nil_map, mk_i64, max_nat, h5, h20, hx]
      refine back_ovr (p.length - (i + 1)) (by omega) ⟨i + 1, rfl, by omega, ?_⟩
      simp +decide (disch := first | omega | rfl | (simp +decide only [go_sem, ↓reduceIte, h5, h20] <;> rfl) | fail) only [go_sem, ↓reduceIte, mk_empty, sl_3n, app_nil_map, mk_i64, max_nat, h5, h20]
    · obtain rfl : i = p.length := by omega
      rw [List.take_length] at hh
      have hpl := plen_map_times p q
      simp +decide (disch := first | omega | rfl | (simp +decide only [go_sem, ↓reduceIte, h5, hh] <;> rfl) | fail) only [go_sem, ↓reduceIte, mk_empty, sl_3n, app_nil_map, mk_i64, max_nat, h5, hh]
      refine call_eq hP (p_sum_spec (K := K + K) (E := E + E) (by omega) _ (p.map (ptimes q)) (Nat.le_refl _) (fun x hx => by
        obtain ⟨t, ht, rfl⟩ := List.mem_map.1 hx
        exact ptimes_PB hq (hp t ht)) (by rw [List.length_map]; omega) (by rw [List.length_map]; omega) (by omega)) (by simp +decide (disch := first | omega | rfl | (simp +decide only [go_sem, ↓reduceIte, hh, looks3, List.contains_cons, List.contains_nil, List.flatMap_cons, List.flatMap_nil, List.append_nil] <;> rfl) | fail) only [go_sem, ↓reduceIte, mk_empty, sl_3n, app_nil_map, mk_i64, max_nat, hh, looks3, List.contains_cons, List.contains_nil, List.flatMap_cons, List.flatMap_nil, List.append_nil]; simp [List.take_of_length_le]) rfl ?_
      simp +decide (disch := first | omega | rfl | (simp +decide only [go_sem, ↓reduceIte] <;> rfl) | fail) only [go_sem, ↓reduceIte, mk_empty, sl_3n, app_nil_map, mk_i64, max_nat]
      exact retV_eq (congrArg PV.poly hfin) rfl
end Go.Proofs.YtfhmockdgbkpnaaGreat
namespace Go.Proofs.YtfhmockdgbkpnaaGreat
open Go Go.FW
set_option linter.unusedSimpArgs false
set_option linter.unusedVariables false
set_option maxRecDepth 100000
theorem zipI_mulM {k l : Nat} {a b : List Int} (ha : MB k a) (hb : MB l b) (h1 : a.getLast? ≠ some 0) (h2 : b.getLast? ≠ some 0) : zipI (· + ·) a b = mulM a b := by
  rw [mulM, trimI_of]
  rw [List.getLast?_eq_getElem?, zipI_length]
  intro h
  obtain ⟨hl, hv⟩ := List.getElem?_eq_some_iff.1 h
  rw [← eN_lt hl, zipI_eN (by simp)] at hv
  rw [zipI_length] at hl
  have p1 := (ha.eN (max a.length b.length - 1)).1
  have p2 := (hb.eN (max a.length b.length - 1)).1
  by_cases hc : b.length ≤ a.length
  · apply h1
    have e : max a.length b.length - 1 = a.length - 1 := by omega
    rw [e] at hv p1 p2
    rw [List.getLast?_eq_getElem?, List.getElem?_eq_getElem (by omega), ← eN_lt (by omega)]
    congr 1; omega
  · apply h2
    have e : max a.length b.length - 1 = b.length - 1 := by omega
    rw [e] at hv p1 p2
    rw [List.getLast?_eq_getElem?, List.getElem?_eq_getElem (by omega), ← eN_lt (by omega)]
    congr 1; omega
end Go.Proofs.YtfhmockdgbkpnaaGreat
namespace Go.Proofs.YtfhmockdgbkpnaaGreat
open Go Go.FW
set_option linter.unusedSimpArgs false
set_option linter.unusedVariables false
set_option maxRecDepth 100000
theorem p_Scale_spec {p : List Tm} {a : Rat} {K E : Nat} (hp : PB K E p) (ha : rs a + 1 ≤ K) (hK : K ≤ 2 ^ 33) (hE : E ≤ 2 ^ 38) (hlp : p.length ≤ 2 ^ 36) : FnSpec Tryz.prog 41 [PV.poly p, PV.rat a] (· = PV.poly (pscale p a)) := by
  refine fn_of_vc mixed Tryz.func41 rfl c41_ok (by simp [c41]) fun C hP => ?_; simp only [c41]
  simp +decide (disch := first | omega | rfl | (simp +decide only [go_sem, ↓reduceIte] <;> rfl) | fail) only [go_sem, ↓reduceIte, mk_empty, sl_3n, app_nil_map, mk_i64, max_nat]
  refine call_eq0 hP (q_Sign (a := a) (by omega)) rfl rfl rfl ?_
  simp +decide (disch := first | omega | rfl | (simp +decide only [go_sem, ↓reduceIte] <;> rfl) | fail) only [go_sem, ↓reduceIte, mk_empty, sl_3n, app_nil_map, mk_i64, max_nat]
  refine cond_split (fun h0 => ?_) (fun h0 => ?_)
  · simp +decide (disch := first | omega | rfl | (simp +decide only [go_sem, ↓reduceIte] <;> rfl) | fail) only [go_sem, ↓reduceIte, mk_empty, sl_3n, app_nil_map, mk_i64, max_nat]
    exact retV_le (poly_nil' (by rw [pscale, if_pos (sgnQ_zero.1 h0)])) rfl
  · simp +decide (disch := first | omega | rfl | (simp +decide only [go_sem, ↓reduceIte] <;> rfl) | fail) only [go_sem, ↓reduceIte, mk_empty, sl_3n, app_nil_map, mk_i64, max_nat]
    refine call_eq0 hP ((p_times_spec (t := (a, [])) hp (TB.num ha) hK hE hlp).le (args' := [PV.poly p, .agg [.bool (decide (a.num < 0)), PV.num a.num.natAbs, PV.num a.den, .nilS]]) ⟨le_refl _, ⟨rfl, le1_refl _, le1_refl _, trivial, trivial⟩, trivial⟩) rfl rfl rfl ?_
    simp +decide (disch := first | omega | rfl | (simp +decide only [go_sem, ↓reduceIte] <;> rfl) | fail) only [go_sem, ↓reduceIte, mk_empty, sl_3n, app_nil_map, mk_i64, max_nat]
    exact retV_eq (by rw [pscale, if_neg (fun h => h0 (sgnQ_zero.2 h))]) rfl
theorem p_Neg_spec {p : List Tm} {K E : Nat} (hp : PB K E p) (hK2 : 2 ≤ K) (hK : K ≤ 2 ^ 33) (hE : E ≤ 2 ^ 38) (hlp : p.length ≤ 2 ^ 36) : FnSpec Tryz.prog 33 [PV.poly p] (· = PV.poly (pneg p)) := by
  have h1 := rs_m1
  refine fn_of_vc mixed Tryz.func33 rfl c33_ok (by simp [c33]) fun C hP => ?_; simp only [c33]
  simp +decide (disch := first | omega | rfl | (simp +decide only [go_sem, ↓reduceIte] <;> rfl) | fail) only [go_sem, ↓reduceIte, mk_empty, sl_3n, app_nil_map, mk_i64, max_nat]
  refine call_eq0 hP (q_Of_spec (x := -1) (by omega) (by omega)) rfl rfl rfl ?_
  simp +decide (disch := first | omega | rfl | (simp +decide only [go_sem, ↓reduceIte] <;> rfl) | fail) only [go_sem, ↓reduceIte, mk_empty, sl_3n, app_nil_map, mk_i64, max_nat]
  refine call_eq0 hP (p_Scale_spec (a := ((-1 : Int) : Rat)) hp (by have : ((-1 : Int) : Rat) = -1 := rfl; rw [this]; omega) hK hE hlp) rfl rfl rfl ?_
  simp +decide (disch := first | omega | rfl | (simp +decide only [go_sem, ↓reduceIte] <;> rfl) | fail) only [go_sem, ↓reduceIte, mk_empty, sl_3n, app_nil_map, mk_i64, max_nat]
  exact retV_eq rfl rfl
theorem p_Sub_spec {p q : List Tm} {K E : Nat} (hp : PB K E p) (hq : PB K E q) (hK2 : 2 ≤ K) (hK : K ≤ 2 ^ 32) (hE : E ≤ 2 ^ 38) (hlp : p.length ≤ 2 ^ 36) (hlq : q.length ≤ 2 ^ 36) : FnSpec Tryz.prog 37 [PV.poly p, PV.poly q] (· = PV.poly (psub p q)) := by
  have hl := pscale_length q (-1)
  refine fn_of_vc mixed Tryz.func37 rfl c37_ok (by simp [c37]) fun C hP => ?_; simp only [c37]
  simp +decide (disch := first | omega | rfl | (simp +decide only [go_sem, ↓reduceIte] <;> rfl) | fail) only [go_sem, ↓reduceIte, mk_empty, sl_3n, app_nil_map, mk_i64, max_nat]
  refine call_eq0 hP (p_Neg_spec hq hK2 (by omega) hE hlq) rfl rfl rfl ?_
  simp +decide (disch := first | omega | rfl | (simp +decide only [go_sem, ↓reduceIte] <;> rfl) | fail) only [go_sem, ↓reduceIte, mk_empty, sl_3n, app_nil_map, mk_i64, max_nat]
  refine call_eq0 hP (p_Add_spec (hp.mono (K' := K + 2) (by omega) (Nat.le_refl _)) (pneg_PB hq) (by omega) hE hlp (by show (pscale q (-1)).length ≤ _; omega)) rfl rfl rfl ?_
  simp +decide (disch := first | omega | rfl | (simp +decide only [go_sem, ↓reduceIte] <;> rfl) | fail) only [go_sem, ↓reduceIte, mk_empty, sl_3n, app_nil_map, mk_i64, max_nat]
  exact retV_eq rfl rfl
theorem p_Var_spec {v : Int} (h1 : -9223372036854775808 ≤ v) (h2 : v < 9223372036854775807) : FnSpec Tryz.prog 54 [.int .i64 v] (· = PV.poly (pvar v)) := by
  refine fn_of_vc mixed Tryz.func54 rfl c54_ok (by simp [c54]) fun C hP => ?_; simp only [c54]
  simp +decide (disch := first | omega | rfl | (simp +decide only [go_sem, ↓reduceIte] <;> rfl) | fail) only [go_sem, ↓reduceIte, mk_empty, sl_3n, app_nil_map, mk_i64, max_nat]
  refine guard_splitF (fun h => ?_) (fun h => ?_)
  · simp +decide (disch := first | omega | rfl | (simp +decide only [go_sem, ↓reduceIte] <;> rfl) | fail) only [go_sem, ↓reduceIte, mk_empty, sl_3n, app_nil_map, mk_i64, max_nat]
    exact retV_le (poly_nil' (by rw [pvar, if_pos (.inl h)])) rfl
  obtain ⟨n, rfl⟩ : ∃ n : Nat, v = n := ⟨v.toNat, by omega⟩
  simp +decide (disch := first | omega | rfl | (simp +decide only [go_sem, ↓reduceIte] <;> rfl) | fail) only [go_sem, ↓reduceIte, mk_empty, sl_3n, app_nil_map, mk_i64, max_nat]
  refine cond_split (fun h => ?_) (fun h => ?_)
  · simp +decide (disch := first | omega | rfl | (simp +decide only [go_sem, ↓reduceIte] <;> rfl) | fail) only [go_sem, ↓reduceIte, mk_empty, sl_3n, app_nil_map, mk_i64, max_nat]
    exact retV_le (poly_nil' (by rw [pvar, if_pos (.inr h)])) rfl
  have hset : (List.replicate (n + 1) (0 : Int)).set n 1 = varM n := by
    rw [List.replicate_succ', varM, List.set_append_right _ _ (by simp)]; simp
  have hl : n < (List.replicate (n + 1) (0 : Int)).length := by simp
  have hr := rs_1
  simp +decide (disch := first | omega | rfl | (simp +decide only [go_sem, ↓reduceIte, hset] <;> rfl) | fail) only [go_sem, ↓reduceIte, mk_empty, sl_3n, app_nil_map, mk_i64, max_nat, hset]
  refine call_eq0 hP (q_Of_spec (x := 1) (by omega) (by omega)) rfl rfl rfl ?_
  simp +decide (disch := first | omega | rfl | (simp +decide only [go_sem, ↓reduceIte] <;> rfl) | fail) only [go_sem, ↓reduceIte, mk_empty, sl_3n, app_nil_map, mk_i64, max_nat]
  refine call_eq hP (p_single_spec (c := ((1 : Int) : Rat)) (m := varM n) (by have : ((1 : Int) : Rat) = 1 := rfl; rw [this]; omega)) (by simp +decide (disch := first | omega | rfl | (simp +decide only [go_sem, ↓reduceIte, looks3, List.contains_cons, List.contains_nil, List.flatMap_cons, List.flatMap_nil, List.append_nil] <;> rfl) | fail) only [go_sem, ↓reduceIte, mk_empty, sl_3n, app_nil_map, mk_i64, max_nat, looks3, List.contains_cons, List.contains_nil, List.flatMap_cons, List.flatMap_nil, List.append_nil]; simp [varM, List.take_of_length_le]) rfl ?_
  simp +decide (disch := first | omega | rfl | (simp +decide only [go_sem, ↓reduceIte] <;> rfl) | fail) only [go_sem, ↓reduceIte, mk_empty, sl_3n, app_nil_map, mk_i64, max_nat]
  refine retV_eq ?_ rfl
  rw [pvar, if_neg (show ¬ ((n : Int) < 0 ∨ 64 ≤ (n : Int)) by omega), Int.toNat_natCast]
  rfl
end Go.Proofs.YtfhmockdgbkpnaaGreat
namespace Go.Proofs.YtfhmockdgbkpnaaGreat
open Go Go.FW
set_option linter.unusedSimpArgs false
set_option linter.unusedVariables false
set_option maxRecDepth 100000
theorem RB.raw {k : Nat} {t : RTm} (h : RB k t) (hk : 1 ≤ k) : Raw k t.n t.a t.d := ⟨h.r.1, h.r.2.1, h.r.2.2.1, h.r.2.2.2, hk⟩
end Go.Proofs.YtfhmockdgbkpnaaGreat
namespace Go.Proofs.YtfhmockdgbkpnaaGreat
open Go Go.FW
set_option linter.unusedSimpArgs false
set_option linter.unusedVariables false
set_option maxRecDepth 100000
theorem r6_Right_raw {l : List RTm} {k : Nat} (hb : ∀ t ∈ l, RB k t) (hk1 : 1 ≤ k) (hk : k < 2 ^ 36) (hll : l.length < 2 ^ 40) : FnSpec Tryz.prog 45 [PV.rpoly l] (· = .bool (prOk l)) := by
  have hiff := prOk_iff l
  have bad : ∀ {b : Bool}, (b = true → False) → b = false := fun {b} h => by cases b <;> simp_all
  refine fn_of_vc mixed Tryz.func45 rfl c45_ok (by simp [c45]) fun C hP => ?_; simp only [c45]
  simp +decide (disch := first | omega | rfl | (simp +decide only [go_sem, ↓reduceIte] <;> rfl) | fail) only [go_sem, ↓reduceIte, rem64K, quo64K, remI64K, quoI64K, mulK64, mk_empty, sl_3n, app_nil_map, mk_i64, max_nat]
  refine vc_loopF (by repeat (first | exact okSk_ret | exact okSk_retM | exact okSk_retO | apply okSk_back | apply okSk_out | apply okSk_eb | apply okSk_c | apply okSk_o | apply okSk_again | apply okSk_backW)) [(2, 51)] [] (fun n J hp => ∃ i, n = l.length - i ∧ i ≤ l.length ∧ (∀ j (h : j < l.length), j < i → rOk l[j] = true) ∧ (∀ j (h : j + 1 < l.length), j + 1 < i → 0 < cmpM l[j].m l[j + 1].m) ∧ J 3 = .int .i64 (i : Nat)) l.length ?_ ?_
  · refine ⟨0, rfl, by omega, by omega, by omega, ?_⟩
    simp +decide (disch := first | omega | rfl | (simp +decide only [go_sem, ↓reduceIte] <;> rfl) | fail) only [go_sem, ↓reduceIte, rem64K, quo64K, remI64K, quoI64K, mulK64, mk_empty, sl_3n, app_nil_map, mk_i64, max_nat]
    rfl
  rintro _ J h ⟨i, rfl, hi, h1, h2, h7⟩
  simp +decide (disch := first | omega | rfl | (simp +decide only [go_sem, ↓reduceIte, h7] <;> rfl) | fail) only [go_sem, ↓reduceIte, rem64K, quo64K, remI64K, quoI64K, mulK64, mk_empty, sl_3n, app_nil_map, mk_i64, max_nat, h7]
  refine cond_split (fun hg => ?_) (fun hg => ?_)
  · have hi' : i < l.length := by omega
    have hbt := hb _ (List.getElem_mem hi')
    have hr := (RB.raw hbt hk1).rs
    have hml := hbt.l
    have hbadt : prOk l = true → rOk l[i] = true := fun h => (hiff.1 h).1 i hi'
    have hbadc : ∀ (j : Nat) (hj : j + 1 = i), prOk l = true → 0 < cmpM (l[j]'(by omega)).m l[i].m := fun j hj h => by subst hj; exact (hiff.1 h).2 j hi'
    have hadd1 : rOk l[i] = true → ∀ j (h : j < l.length), j < i + 1 → rOk l[j] = true := fun h j hj hji => by
      by_cases e : j = i
      · subst e; exact h
      · exact h1 j hj (by omega)
    have hprev : ∀ (j : Nat) (hj : j + 1 = i), MB 1048576 (l[j]'(by omega)).m := fun j hj => by
      have := h1 j (by omega) (by omega)
      simp only [rOk, Bool.and_eq_true] at this
      exact MB.ofOk this.2.2
    have hadd2 : (∀ (j : Nat) (hj : j + 1 = i), 0 < cmpM (l[j]'(by omega)).m l[i].m) → ∀ j (h : j + 1 < l.length), j + 1 < i + 1 → 0 < cmpM l[j].m l[j + 1].m := fun h j hj hji => by
      by_cases e : j + 1 = i
      · subst e; exact h j rfl
      · exact h2 j hj (by omega)
    generalize hx : l[i] = x at *
    have hr' : rs (rv x.n x.a x.d) < 2 ^ 36 := by omega
    simp +decide (disch := first | omega | rfl | (simp +decide only [go_sem, ↓reduceIte, h7, hx] <;> rfl) | fail) only [go_sem, ↓reduceIte, rem64K, quo64K, remI64K, quoI64K, mulK64, mk_empty, sl_3n, app_nil_map, mk_i64, max_nat, h7, hx]
    refine call_eq0 hP (r3_Right_spec (RB.raw hbt hk1) hk) rfl rfl rfl ?_
    simp +decide (disch := first | omega | rfl | (simp +decide only [go_sem, ↓reduceIte, h7] <;> rfl) | fail) only [go_sem, ↓reduceIte, rem64K, quo64K, remI64K, quoI64K, mulK64, mk_empty, sl_3n, app_nil_map, mk_i64, max_nat, h7]
    cases hok : ratOk x.n x.a x.d
    · have hf : prOk l = false := bad fun h => by have := hbadt h; simp [rOk, hok] at this
      simp +decide (disch := first | omega | rfl | (simp +decide only [go_sem, ↓reduceIte, h7, Bool.not_false] <;> rfl) | fail) only [go_sem, ↓reduceIte, rem64K, quo64K, remI64K, quoI64K, mulK64, mk_empty, sl_3n, app_nil_map, mk_i64, max_nat, h7, Bool.not_false]
      exact retV_eq (by rw [hf]) rfl
    simp +decide (disch := first | omega | rfl | (simp +decide only [go_sem, ↓reduceIte, h7, Bool.not_true, hx] <;> rfl) | fail) only [go_sem, ↓reduceIte, rem64K, quo64K, remI64K, quoI64K, mulK64, mk_empty, sl_3n, app_nil_map, mk_i64, max_nat, h7, Bool.not_true, hx]
    refine call_eq0 hP (r3_Sign_spec (RB.raw hbt hk1) hk) rfl rfl rfl ?_
    simp +decide (disch := first | omega | rfl | (simp +decide only [go_sem, ↓reduceIte, h7] <;> rfl) | fail) only [go_sem, ↓reduceIte, rem64K, quo64K, remI64K, quoI64K, mulK64, mk_empty, sl_3n, app_nil_map, mk_i64, max_nat, h7]
    refine guard_splitF (fun hz => ?_) (fun hz => ?_)
    · have hf : prOk l = false := bad fun h => by have := hbadt h; simp [rOk, RTm.q, sgnQ_zero.1 hz] at this
      simp +decide (disch := first | omega | rfl | (simp +decide only [go_sem, ↓reduceIte, h7] <;> rfl) | fail) only [go_sem, ↓reduceIte, rem64K, quo64K, remI64K, quoI64K, mulK64, mk_empty, sl_3n, app_nil_map, mk_i64, max_nat, h7]
      exact retV_eq (by rw [hf]) rfl
    simp +decide (disch := first | omega | rfl | (simp +decide only [go_sem, ↓reduceIte, h7, hx] <;> rfl) | fail) only [go_sem, ↓reduceIte, rem64K, quo64K, remI64K, quoI64K, mulK64, mk_empty, sl_3n, app_nil_map, mk_i64, max_nat, h7, hx]
    refine call_eq0 hP (r5_Right_spec (by omega)) rfl rfl rfl ?_
    simp +decide (disch := first | omega | rfl | (simp +decide only [go_sem, ↓reduceIte, h7] <;> rfl) | fail) only [go_sem, ↓reduceIte, rem64K, quo64K, remI64K, quoI64K, mulK64, mk_empty, sl_3n, app_nil_map, mk_i64, max_nat, h7]
    cases hmo : monoOk x.m
    · have hf : prOk l = false := bad fun h => by have := hbadt h; simp [rOk, hmo] at this
      simp +decide (disch := first | omega | rfl | (simp +decide only [go_sem, ↓reduceIte, h7, Bool.not_false] <;> rfl) | fail) only [go_sem, ↓reduceIte, rem64K, quo64K, remI64K, quoI64K, mulK64, mk_empty, sl_3n, app_nil_map, mk_i64, max_nat, h7, Bool.not_false]
      exact retV_eq (by rw [hf]) rfl
    have hrok : rOk x = true := by
      simp only [rOk, hok, hmo, Bool.true_and, Bool.and_true, decide_eq_true_eq]
      exact fun h => hz (sgnQ_zero.2 h)
    simp +decide (disch := first | omega | rfl | (simp +decide only [go_sem, ↓reduceIte, h7, Bool.not_true] <;> rfl) | fail) only [go_sem, ↓reduceIte, rem64K, quo64K, remI64K, quoI64K, mulK64, mk_empty, sl_3n, app_nil_map, mk_i64, max_nat, h7, Bool.not_true]
    refine guard_split (fun hi0 => ?_) (fun hi0 => ?_)
    · obtain ⟨j, rfl⟩ : ∃ j, i = j + 1 := ⟨i - 1, by omega⟩
      have e : ((j + 1 : Nat) : Int) - 1 = j := by omega
      have hjl : j < l.length := by omega
      have hpj := hprev j rfl
      have hbadj := hbadc j rfl
      have hadd2' : 0 < cmpM (l[j]'(by omega)).m x.m → ∀ j2 (h : j2 + 1 < l.length), j2 + 1 < j + 1 + 1 → 0 < cmpM l[j2].m l[j2 + 1].m := fun h => hadd2 (fun j' hj' => by
        obtain rfl : j' = j := by omega
        exact h)
      generalize hy : l[j]'(by omega) = y at *
      simp +decide (disch := first | omega | rfl | (simp +decide only [go_sem, ↓reduceIte, h7, e, hx, hy] <;> rfl) | fail) only [go_sem, ↓reduceIte, rem64K, quo64K, remI64K, quoI64K, mulK64, mk_empty, sl_3n, app_nil_map, mk_i64, max_nat, h7, e, hx, hy]
      refine call_eq0 hP (r5_lex hpj (MB.ofOk hmo) (by omega)) rfl rfl rfl ?_
      simp +decide (disch := first | omega | rfl | (simp +decide only [go_sem, ↓reduceIte, h7, e] <;> rfl) | fail) only [go_sem, ↓reduceIte, rem64K, quo64K, remI64K, quoI64K, mulK64, mk_empty, sl_3n, app_nil_map, mk_i64, max_nat, h7, e]
      refine cond_split (fun hc => ?_) (fun hc => ?_)
      · have hf : prOk l = false := bad fun h => by have := hbadj h; omega
        simp +decide (disch := first | omega | rfl | (simp +decide only [go_sem, ↓reduceIte, h7] <;> rfl) | fail) only [go_sem, ↓reduceIte, rem64K, quo64K, remI64K, quoI64K, mulK64, mk_empty, sl_3n, app_nil_map, mk_i64, max_nat, h7]
        exact retV_eq (by rw [hf]) rfl
      · simp +decide (disch := first | omega | rfl | (simp +decide only [go_sem, ↓reduceIte, h7] <;> rfl) | fail) only [go_sem, ↓reduceIte, rem64K, quo64K, remI64K, quoI64K, mulK64, mk_empty, sl_3n, app_nil_map, mk_i64, max_nat, h7]
        refine back_ovr (l.length - (j + 1 + 1)) (by omega) ⟨j + 1 + 1, rfl, by omega, hadd1 hrok, hadd2' (by omega), ?_⟩
        simp +decide (disch := first | omega | rfl | (simp +decide only [go_sem, ↓reduceIte] <;> rfl) | fail) only [go_sem, ↓reduceIte, rem64K, quo64K, remI64K, quoI64K, mulK64, mk_empty, sl_3n, app_nil_map, mk_i64, max_nat]
    · obtain rfl : i = 0 := by omega
      simp +decide (disch := first | omega | rfl | (simp +decide only [go_sem, ↓reduceIte, h7] <;> rfl) | fail) only [go_sem, ↓reduceIte, rem64K, quo64K, remI64K, quoI64K, mulK64, mk_empty, sl_3n, app_nil_map, mk_i64, max_nat, h7]
      refine back_ovr (l.length - 1) (by omega) ⟨1, rfl, by omega, hadd1 hrok, hadd2 (fun j hj => by omega), ?_⟩
      simp +decide (disch := first | omega | rfl | (simp +decide only [go_sem, ↓reduceIte] <;> rfl) | fail) only [go_sem, ↓reduceIte, rem64K, quo64K, remI64K, quoI64K, mulK64, mk_empty, sl_3n, app_nil_map, mk_i64, max_nat]
  · obtain rfl : i = l.length := by omega
    have hf : prOk l = true := hiff.2 ⟨fun j hj => h1 j hj hj, fun j hj => h2 j hj hj⟩
    simp +decide (disch := first | omega | rfl | (simp +decide only [go_sem, ↓reduceIte] <;> rfl) | fail) only [go_sem, ↓reduceIte, rem64K, quo64K, remI64K, quoI64K, mulK64, mk_empty, sl_3n, app_nil_map, mk_i64, max_nat]
    exact retV_eq (by rw [hf]) rfl
def smT (v : Nat) (e : Int) (t : RTm) : Bool := decide (t.m.length ≤ v) && (decide (t.a.length ≤ 4) && (decide (t.d.length ≤ 4) && t.m.all fun x => decide (x ≤ e)))
def small (n v : Nat) (e : Int) (l : List RTm) : Bool := decide (l.length ≤ n) && (l.all (smT v e) && prOk l)
theorem r6_Small_spec {l : List RTm} {k n v : Nat} {e : Int} (hb : ∀ t ∈ l, RB k t) (hk1 : 1 ≤ k) (hk : k < 2 ^ 36) (hll : l.length < 2 ^ 40) :
    FnSpec Tryz.prog 11 [PV.rpoly l, .int .i64 n, .int .i64 v, .int .i64 e] (· = .bool (small n v e l)) := by
  have bad : l.length ≤ n → ∀ i (h : i < l.length), smT v e l[i] = false → small n v e l = false := fun _ i hi h => by
    have : l.all (smT v e) = false := by
      rw [List.all_eq_false]; exact ⟨_, List.getElem_mem hi, by simp [h]⟩
    simp [small, this]
  refine fn_of_vc mixed Tryz.func11 rfl c11_ok (by simp [c11]) fun C hP => ?_; simp only [c11]
  simp +decide (disch := first | omega | rfl | (simp +decide only [go_sem, ↓reduceIte] <;> rfl) | fail) only [go_sem, ↓reduceIte, rem64K, quo64K, remI64K, quoI64K, mulK64, mk_empty, sl_3n, app_nil_map, mk_i64, max_nat]
  refine cond_split (fun hn => ?_) (fun hn => ?_)
  · simp +decide (disch := first | omega | rfl | (simp +decide only [go_sem, ↓reduceIte] <;> rfl) | fail) only [go_sem, ↓reduceIte, rem64K, quo64K, remI64K, quoI64K, mulK64, mk_empty, sl_3n, app_nil_map, mk_i64, max_nat]
    exact retV_eq (by simp [small, show ¬ l.length ≤ n by omega]) rfl
  have hn' : l.length ≤ n := by omega
  simp +decide (disch := first | omega | rfl | (simp +decide only [go_sem, ↓reduceIte] <;> rfl) | fail) only [go_sem, ↓reduceIte, rem64K, quo64K, remI64K, quoI64K, mulK64, mk_empty, sl_3n, app_nil_map, mk_i64, max_nat]
  refine vc_loopF (by repeat (first | exact okSk_ret | exact okSk_retM | exact okSk_retO | apply okSk_back | apply okSk_out | apply okSk_eb | apply okSk_c | apply okSk_o | apply okSk_again | apply okSk_backW)) [(8, 10), (15, 69)] [] (fun m J hp => ∃ i, m = l.length - i ∧ i ≤ l.length ∧ (∀ j (h : j < l.length), j < i → smT v e l[j] = true) ∧ J 9 = .int .i64 (i : Nat)) l.length ?_ ?_
  · refine ⟨0, rfl, by omega, by omega, ?_⟩
    simp +decide (disch := first | omega | rfl | (simp +decide only [go_sem, ↓reduceIte] <;> rfl) | fail) only [go_sem, ↓reduceIte, rem64K, quo64K, remI64K, quoI64K, mulK64, mk_empty, sl_3n, app_nil_map, mk_i64, max_nat]
    rfl
  rintro _ J h ⟨i, rfl, hi, h1, h9⟩
  simp +decide (disch := first | omega | rfl | (simp +decide only [go_sem, ↓reduceIte, h9] <;> rfl) | fail) only [go_sem, ↓reduceIte, rem64K, quo64K, remI64K, quoI64K, mulK64, mk_empty, sl_3n, app_nil_map, mk_i64, max_nat, h9]
  refine cond_split (fun hg => ?_) (fun hg => ?_)
  · have hi' : i < l.length := by omega
    have hbt := hb _ (List.getElem_mem hi')
    have hbad := bad hn' i hi'
    have hml := hbt.l
    have hadd : smT v e l[i] = true → ∀ j (h : j < l.length), j < i + 1 → smT v e l[j] = true := fun h j hj hji => by
      by_cases e : j = i
      · subst e; exact h
      · exact h1 j hj (by omega)
    generalize hx : l[i] = x at *
    simp +decide (disch := first | omega | rfl | (simp +decide only [go_sem, ↓reduceIte, h9, hx] <;> rfl) | fail) only [go_sem, ↓reduceIte, rem64K, quo64K, remI64K, quoI64K, mulK64, mk_empty, sl_3n, app_nil_map, mk_i64, max_nat, h9, hx]
    refine guard_splitF (fun h2 => ?_) (fun h2 => ?_)
    · simp +decide (disch := first | omega | rfl | (simp +decide only [go_sem, ↓reduceIte, h9, hx] <;> rfl) | fail) only [go_sem, ↓reduceIte, rem64K, quo64K, remI64K, quoI64K, mulK64, mk_empty, sl_3n, app_nil_map, mk_i64, max_nat, h9, hx]
      exact retV_eq (by rw [hbad (by simp [smT, show ¬ x.m.length ≤ v by omega])]) rfl
    simp +decide (disch := first | omega | rfl | (simp +decide only [go_sem, ↓reduceIte, h9, hx] <;> rfl) | fail) only [go_sem, ↓reduceIte, rem64K, quo64K, remI64K, quoI64K, mulK64, mk_empty, sl_3n, app_nil_map, mk_i64, max_nat, h9, hx]
    refine guard_splitF (fun h3 => ?_) (fun h3 => ?_)
    · simp +decide (disch := first | omega | rfl | (simp +decide only [go_sem, ↓reduceIte, h9, hx] <;> rfl) | fail) only [go_sem, ↓reduceIte, rem64K, quo64K, remI64K, quoI64K, mulK64, mk_empty, sl_3n, app_nil_map, mk_i64, max_nat, h9, hx]
      exact retV_eq (by rw [hbad (by simp [smT, show ¬ x.a.length ≤ 4 by omega])]) rfl
    simp +decide (disch := first | omega | rfl | (simp +decide only [go_sem, ↓reduceIte, h9, hx] <;> rfl) | fail) only [go_sem, ↓reduceIte, rem64K, quo64K, remI64K, quoI64K, mulK64, mk_empty, sl_3n, app_nil_map, mk_i64, max_nat, h9, hx]
    refine cond_split (fun h4 => ?_) (fun h4 => ?_)
    · simp +decide (disch := first | omega | rfl | (simp +decide only [go_sem, ↓reduceIte, h9, hx] <;> rfl) | fail) only [go_sem, ↓reduceIte, rem64K, quo64K, remI64K, quoI64K, mulK64, mk_empty, sl_3n, app_nil_map, mk_i64, max_nat, h9, hx]
      exact retV_eq (by rw [hbad (by simp [smT, show ¬ x.d.length ≤ 4 by omega])]) rfl
    simp +decide (disch := first | omega | rfl | (simp +decide only [go_sem, ↓reduceIte, h9, hx] <;> rfl) | fail) only [go_sem, ↓reduceIte, rem64K, quo64K, remI64K, quoI64K, mulK64, mk_empty, sl_3n, app_nil_map, mk_i64, max_nat, h9, hx]
    refine vc_loopF (by repeat (first | exact okSk_ret | exact okSk_retM | exact okSk_retO | apply okSk_back | apply okSk_out | apply okSk_eb | apply okSk_c | apply okSk_o | apply okSk_again | apply okSk_backW)) [(8, 8), (10, 10), (50, 69)] [] (fun m J hp => ∃ j, m = x.m.length - j ∧ j ≤ x.m.length ∧ (∀ y ∈ x.m.take j, y ≤ e) ∧ J 10 = .int .i64 (j : Nat)) x.m.length ?_ ?_
    · refine ⟨0, rfl, by omega, by simp, ?_⟩
      simp +decide (disch := first | omega | rfl | (simp +decide only [go_sem, ↓reduceIte] <;> rfl) | fail) only [go_sem, ↓reduceIte, rem64K, quo64K, remI64K, quoI64K, mulK64, mk_empty, sl_3n, app_nil_map, mk_i64, max_nat]
      rfl
    rintro _ J2 h2' ⟨j, rfl, hj, h5, h10⟩
    simp +decide (disch := first | omega | rfl | (simp +decide only [go_sem, ↓reduceIte, h9, h10, hx] <;> rfl) | fail) only [go_sem, ↓reduceIte, rem64K, quo64K, remI64K, quoI64K, mulK64, mk_empty, sl_3n, app_nil_map, mk_i64, max_nat, h9, h10, hx]
    refine cond_split (fun hg2 => ?_) (fun hg2 => ?_)
    · have hj' : j < x.m.length := by omega
      have hmem := List.getElem_mem hj'
      have htk : x.m.take (j + 1) = x.m.take j ++ [x.m[j]] := List.take_succ_eq_append_getElem hj'
      generalize hy : x.m[j] = y at *
      simp +decide (disch := first | omega | rfl | (simp +decide only [go_sem, ↓reduceIte, h9, h10, hx, hy] <;> rfl) | fail) only [go_sem, ↓reduceIte, rem64K, quo64K, remI64K, quoI64K, mulK64, mk_empty, sl_3n, app_nil_map, mk_i64, max_nat, h9, h10, hx, hy]
      refine cond_split (fun h6 => ?_) (fun h6 => ?_)
      · simp +decide (disch := first | omega | rfl | (simp +decide only [go_sem, ↓reduceIte, h9, h10, hx] <;> rfl) | fail) only [go_sem, ↓reduceIte, rem64K, quo64K, remI64K, quoI64K, mulK64, mk_empty, sl_3n, app_nil_map, mk_i64, max_nat, h9, h10, hx]
        refine retV_eq ?_ rfl
        rw [hbad]
        have : (x.m.all fun x => decide (x ≤ e)) = false := by
          rw [List.all_eq_false]; exact ⟨y, hmem, by simp; omega⟩
        simp [smT, this]
      · simp +decide (disch := first | omega | rfl | (simp +decide only [go_sem, ↓reduceIte, h9, h10, hx] <;> rfl) | fail) only [go_sem, ↓reduceIte, rem64K, quo64K, remI64K, quoI64K, mulK64, mk_empty, sl_3n, app_nil_map, mk_i64, max_nat, h9, h10, hx]
        refine back_ovr (x.m.length - (j + 1)) (by omega) ⟨j + 1, rfl, by omega, ?_, ?_⟩
        · rw [htk]
          intro z hz
          rcases List.mem_append.1 hz with hz | hz
          · exact h5 z hz
          · simp at hz; omega
        · simp +decide (disch := first | omega | rfl | (simp +decide only [go_sem, ↓reduceIte] <;> rfl) | fail) only [go_sem, ↓reduceIte, rem64K, quo64K, remI64K, quoI64K, mulK64, mk_empty, sl_3n, app_nil_map, mk_i64, max_nat]
    · rw [List.take_of_length_le (by omega)] at h5
      have hsm : smT v e x = true := by
        simp only [smT, Bool.and_eq_true, decide_eq_true_eq, List.all_eq_true]
        exact ⟨by omega, by omega, by omega, h5⟩
      simp +decide (disch := first | omega | rfl | (simp +decide only [go_sem, ↓reduceIte, h9, h10] <;> rfl) | fail) only [go_sem, ↓reduceIte, rem64K, quo64K, remI64K, quoI64K, mulK64, mk_empty, sl_3n, app_nil_map, mk_i64, max_nat, h9, h10]
      simp (disch := decide) only [killFs_nil, ovr_sub]
      refine back_ovr (l.length - (i + 1)) (by omega) ⟨i + 1, rfl, by omega, hadd hsm, ?_⟩
      simp +decide (disch := first | omega | rfl | (simp +decide only [go_sem, ↓reduceIte] <;> rfl) | fail) only [go_sem, ↓reduceIte, rem64K, quo64K, remI64K, quoI64K, mulK64, mk_empty, sl_3n, app_nil_map, mk_i64, max_nat]
  · obtain rfl : i = l.length := by omega
    have hall : l.all (smT v e) = true := by
      rw [List.all_eq_true]
      intro t ht
      obtain ⟨j, hj, rfl⟩ := List.getElem_of_mem ht
      exact h1 j hj hj
    simp +decide (disch := first | omega | rfl | (simp +decide only [go_sem, ↓reduceIte] <;> rfl) | fail) only [go_sem, ↓reduceIte, rem64K, quo64K, remI64K, quoI64K, mulK64, mk_empty, sl_3n, app_nil_map, mk_i64, max_nat]
    refine call_eq0 hP (r6_Right_raw hb hk1 hk hll) rfl rfl rfl ?_
    simp +decide (disch := first | omega | rfl | (simp +decide only [go_sem, ↓reduceIte] <;> rfl) | fail) only [go_sem, ↓reduceIte, rem64K, quo64K, remI64K, quoI64K, mulK64, mk_empty, sl_3n, app_nil_map, mk_i64, max_nat]
    exact retV_eq (by simp [small, hn', hall]) rfl
end Go.Proofs.YtfhmockdgbkpnaaGreat
namespace Go.Proofs.YtfhmockdgbkpnaaGreat
open Go Go.FW
set_option maxRecDepth 100000
def c13 : SFn := ⟨40, [.t 0], .seq (.rg (.o none (.mv 0 (.c (.bool false))) .nil)) <| .seq (.rg (.o none (.call (some 4) false (.c (.fn 54 [] [])) [(.c (.int .i64 0))]) <|
  .o none (.call (some 5) false (.c (.fn 54 [] [])) [(.c (.int .i64 1))]) <|
  .o none (.mv 1 (.t 4)) <|
  .o none (.mv 2 (.t 5)) .nil)) <| .seq (.rg (.o none (.mv 6 (.t 1)) <|
  .o none (.mv 7 (.t 2)) <|
  .o none (.call (some 8) false (.c (.fn 35 [] [])) [(.t 6), (.t 7)]) <|
  .o none (.mv 9 (.t 1)) <|
  .o none (.mv 10 (.t 2)) <|
  .o none (.call (some 11) false (.c (.fn 37 [] [])) [(.t 9), (.t 10)]) <|
  .o none (.call (some 12) false (.c (.fn 39 [] [])) [(.t 8), (.t 11)]) <|
  .o none (.mv 3 (.t 12)) .nil)) <| .seq (.rg (.o none (.mv 13 (.t 3)) <|
  .o none (.len 14 (.t 13)) <|
  .o none (.bin 15 .eql false (.t 14) (.c (.int .i64 2))) <|
  .o none (.mv 16 (.t 15)) <|
  .o (some (16, true)) (.mv 17 (.t 3)) <|
  .o (some (16, true)) (.idx 18 4 (.t 17) (.c (.int .i64 0))) <|
  .o (some (16, true)) (.fld 19 3 (.t 18)) <|
  .o (some (16, true)) (.ld 20 1 false (.t 19)) <|
  .o (some (16, true)) (.bs 21 1 3 [(.c (.int .i64 0)), (.c (.int .i64 2))]) <|
  .o (some (16, true)) (.call (some 22) true (.c (.fn 27 [] [])) [(.t 20), (.t 21)]) <|
  .o none (.pick 23 (.t 16) (.t 22) (.c (.bool false))) <|
  .o none (.mv 24 (.t 23)) <|
  .o (some (24, true)) (.mv 25 (.t 3)) <|
  .o (some (24, true)) (.idx 26 4 (.t 25) (.c (.int .i64 0))) <|
  .o (some (24, true)) (.fld 27 0 (.t 26)) <|
  .o (some (24, true)) (.ld 28 3 true (.t 27)) <|
  .o (some (24, true)) (.call (some 29) true (.c (.fn 56 [] [])) [(.c (.int .i64 (-1)))]) <|
  .o (some (24, true)) (.call (some 30) true (.c (.fn 55 [] [])) [(.t 28), (.t 29)]) <|
  .o none (.pick 31 (.t 24) (.t 30) (.c (.bool false))) <|
  .o none (.mv 32 (.t 31)) <|
  .o (some (32, true)) (.mv 33 (.t 3)) <|
  .o (some (32, true)) (.idx 34 4 (.t 33) (.c (.int .i64 1))) <|
  .o (some (32, true)) (.fld 35 3 (.t 34)) <|
  .o (some (32, true)) (.ld 36 1 false (.t 35)) <|
  .o (some (32, true)) (.bs 37 1 3 [(.c (.int .i64 2))]) <|
  .o (some (32, true)) (.call (some 38) true (.c (.fn 27 [] [])) [(.t 36), (.t 37)]) <|
  .o none (.pick 39 (.t 32) (.t 38) (.c (.bool false))) <|
  .o none (.mv 0 (.t 39)) .nil)) <| .ret⟩
theorem c13_ok : compileF Tryz.prog Tryz.f13 = some c13 := by kernel_rfl
def c18 : SFn := ⟨38, [.t 2], .seq (.rg (.o none (.mv 2 (.c (.bool false))) .nil)) <| .seq (.seq (.rg (.o none (.mv 3 (.c (.int .i64 0))) .nil)) <| .block 0 (.loop (.seq (.seq (.rg (.o none (.mv 4 (.t 3)) <|
  .o none (.mv 5 (.t 0)) <|
  .o none (.len 6 (.t 5)) <|
  .o none (.bin 7 .lss false (.t 4) (.t 6)) .nil)) <| .cond (.t 7) (.skip) (.exit 0)) <| .seq (.block 1 (.seq (.rg (.o none (.mv 10 (.t 0)) <|
  .o none (.mv 11 (.t 3)) <|
  .o none (.idx 12 3 (.t 10) (.t 11)) <|
  .o none (.fld 13 0 (.t 12)) <|
  .o none (.fld 14 1 (.t 13)) <|
  .o none (.ld 15 1 false (.t 14)) <|
  .o none (.len 16 (.t 15)) <|
  .o none (.bin 17 .gtr false (.t 16) (.c (.int .i64 2))) <|
  .o none (.mv 18 (.t 17)) <|
  .o (some (18, false)) (.mv 19 (.t 0)) <|
  .o (some (18, false)) (.mv 20 (.t 3)) <|
  .o (some (18, false)) (.idx 21 3 (.t 19) (.t 20)) <|
  .o (some (18, false)) (.fld 22 2 (.t 21)) <|
  .o (some (18, false)) (.ld 23 1 false (.t 22)) <|
  .o (some (18, false)) (.len 24 (.t 23)) <|
  .o (some (18, false)) (.bin 25 .gtr false (.t 24) (.c (.int .i64 2))) <|
  .o none (.pick 26 (.t 18) (.c (.bool true)) (.t 25)) <|
  .o none (.mv 27 (.t 26)) <|
  .o (some (27, false)) (.mv 28 (.t 0)) <|
  .o (some (27, false)) (.mv 29 (.t 3)) <|
  .o (some (27, false)) (.idx 30 3 (.t 28) (.t 29)) <|
  .o (some (27, false)) (.ld 31 3 true (.t 30)) <|
  .o (some (27, false)) (.call (some 32) false (.c (.fn 29 [] [])) [(.t 31)]) <|
  .o (some (27, false)) (.un 33 .not (.t 32)) <|
  .o none (.pick 34 (.t 27) (.c (.bool true)) (.t 33)) .nil)) <| .cond (.t 34) (.seq (.rg (.o none (.mv 2 (.c (.bool false))) .nil)) <| .ret) (.skip))) <| .rg (.o none (.mv 8 (.t 3)) <|
  .o none (.bin 9 .add false (.t 8) (.c (.int .i64 1))) <|
  .o none (.mv 3 (.t 9)) .nil)))) <| .seq (.rg (.o none (.mv 35 (.t 0)) <|
  .o none (.len 36 (.t 35)) <|
  .o none (.bin 37 .leq false (.t 36) (.c (.int .i64 6))) <|
  .o none (.mv 2 (.t 37)) .nil)) <| .ret⟩
theorem c18_ok : compileF Tryz.prog Tryz.f18 = some c18 := by kernel_rfl
def c3 : SFn := ⟨58, [.t 4], .seq (.rg (.o none (.mv 4 (.c (.bool false))) .nil)) <| .seq (.seq (.rg (.o none (.mv 9 (.t 0)) <|
  .o none (.call (some 10) false (.c (.fn 11 [] [])) [(.t 9), (.c (.int .i64 3)), (.c (.int .i64 3)), (.c (.int .i64 8))]) <|
  .o none (.un 11 .not (.t 10)) <|
  .o none (.mv 12 (.t 11)) <|
  .o (some (12, false)) (.mv 13 (.t 1)) <|
  .o (some (12, false)) (.bin 14 .gtr false (.t 13) (.c (.int .i64 6))) <|
  .o (some (12, false)) (.mv 15 (.t 14)) <|
  .o (some (15, true)) (.mv 16 (.t 1)) <|
  .o (some (15, true)) (.bin 17 .leq false (.t 16) (.c (.int .i64 4000))) <|
  .o (some (12, false)) (.pick 18 (.t 15) (.t 17) (.c (.bool false))) <|
  .o (some (12, false)) (.mv 19 (.t 18)) <|
  .o (some (19, true)) (.mv 20 (.t 1)) <|
  .o (some (19, true)) (.bin 21 .gtr false (.t 20) (.c (.int .i64 400))) <|
  .o (some (19, true)) (.mv 22 (.t 21)) <|
  .o (some (22, false)) (.mv 23 (.t 0)) <|
  .o (some (22, false)) (.len 24 (.t 23)) <|
  .o (some (22, false)) (.bin 25 .gtr false (.t 24) (.c (.int .i64 1))) <|
  .o (some (19, true)) (.pick 26 (.t 22) (.c (.bool true)) (.t 25)) <|
  .o (some (19, true)) (.mv 27 (.t 26)) <|
  .o (some (27, false)) (.mv 28 (.t 0)) <|
  .o (some (27, false)) (.call (some 29) false (.c (.fn 12 [] [])) [(.t 28)]) <|
  .o (some (27, false)) (.bin 30 .gtr false (.t 29) (.c (.int .i64 0))) <|
  .o (some (19, true)) (.pick 31 (.t 27) (.c (.bool true)) (.t 30)) <|
  .o (some (12, false)) (.pick 32 (.t 19) (.t 31) (.c (.bool false))) <|
  .o none (.pick 33 (.t 12) (.c (.bool true)) (.t 32)) .nil)) <| .cond (.t 33) (.seq (.rg (.o none (.call (some 34) false (.c (.fn 13 [] [])) []) <|
  .o none (.mv 4 (.t 34)) .nil)) <| .ret) (.skip)) <| .seq (.rg (.o none (.mv 36 (.t 0)) <|
  .o none (.mv 37 (.t 1)) <|
  .o none (.call (some 38) false (.c (.fn 14 [] [])) [(.t 36), (.t 37)]) <|
  .o none (.mv 35 (.t 38)) <|
  .o none (.ext 39 (.t 35) 0) <|
  .o none (.ext 40 (.t 35) 1) <|
  .o none (.mv 5 (.t 39)) <|
  .o none (.mv 6 (.t 40)) .nil)) <| .seq (.rg (.o none (.mv 42 (.t 0)) <|
  .o none (.mv 43 (.t 1)) <|
  .o none (.call (some 44) false (.c (.fn 15 [] [])) [(.t 42), (.t 43)]) <|
  .o none (.mv 41 (.t 44)) <|
  .o none (.ext 45 (.t 41) 0) <|
  .o none (.ext 46 (.t 41) 1) <|
  .o none (.mv 7 (.t 45)) <|
  .o none (.mv 8 (.t 46)) .nil)) <| .seq (.rg (.o none (.mv 47 (.t 5)) <|
  .o none (.mv 48 (.t 7)) <|
  .o none (.call (some 49) false (.c (.fn 16 [] [])) [(.t 47), (.t 48)]) <|
  .o none (.mv 50 (.t 49)) <|
  .o (some (50, true)) (.mv 51 (.t 6)) <|
  .o (some (50, true)) (.mv 52 (.t 8)) <|
  .o (some (50, true)) (.bin 53 .eql false (.t 51) (.t 52)) <|
  .o none (.pick 54 (.t 50) (.t 53) (.c (.bool false))) <|
  .o none (.mv 55 (.t 54)) <|
  .o (some (55, true)) (.call (some 56) false (.c (.fn 13 [] [])) []) <|
  .o none (.pick 57 (.t 55) (.t 56) (.c (.bool false))) <|
  .o none (.mv 4 (.t 57)) .nil)) <| .ret⟩
def c5 : SFn := ⟨79, [.t 4], .seq (.rg (.o none (.mv 4 (.c (.bool false))) .nil)) <| .seq (.seq (.rg (.o none (.mv 12 (.t 0)) <|
  .o none (.call (some 13) false (.c (.fn 11 [] [])) [(.t 12), (.c (.int .i64 8)), (.c (.int .i64 64)), (.c (.int .i64 1048576))]) <|
  .o none (.un 14 .not (.t 13)) .nil)) <| .cond (.t 14) (.seq (.rg (.o none (.call (some 15) false (.c (.fn 13 [] [])) []) <|
  .o none (.mv 4 (.t 15)) .nil)) <| .ret) (.skip)) <| .seq (.rg (.o none (.mv 16 (.t 0)) <|
  .o none (.call (some 17) false (.c (.fn 22 [] [])) [(.t 16)]) <|
  .o none (.mv 18 (.t 0)) <|
  .o none (.call (some 19) false (.c (.fn 23 [] [])) [(.t 18)]) <|
  .o none (.mv 5 (.t 17)) <|
  .o none (.mv 6 (.t 19)) .nil)) <| .seq (.seq (.rg (.o none (.mv 20 (.t 0)) <|
  .o none (.call (some 21) false (.c (.fn 24 [] [])) [(.t 20)]) <|
  .o none (.mv 22 (.t 0)) <|
  .o none (.call (some 23) false (.c (.fn 12 [] [])) [(.t 22)]) <|
  .o none (.bin 24 .neq false (.t 21) (.t 23)) <|
  .o none (.mv 25 (.t 24)) <|
  .o (some (25, false)) (.mv 26 (.t 5)) <|
  .o (some (25, false)) (.len 27 (.t 26)) <|
  .o (some (25, false)) (.mv 28 (.t 6)) <|
  .o (some (25, false)) (.len 29 (.t 28)) <|
  .o (some (25, false)) (.bin 30 .neq false (.t 27) (.t 29)) <|
  .o none (.pick 31 (.t 25) (.c (.bool true)) (.t 30)) .nil)) <| .cond (.t 31) (.seq (.rg (.o none (.mv 4 (.c (.bool false))) .nil)) <| .ret) (.skip)) <| .seq (.seq (.rg (.o none (.mv 7 (.c (.int .i64 0))) .nil)) <| .block 0 (.loop (.seq (.seq (.rg (.o none (.mv 32 (.t 7)) <|
  .o none (.mv 33 (.t 5)) <|
  .o none (.len 34 (.t 33)) <|
  .o none (.bin 35 .lss false (.t 32) (.t 34)) .nil)) <| .cond (.t 35) (.skip) (.exit 0)) <| .seq (.block 1 (.seq (.rg (.o none (.mv 38 (.t 5)) <|
  .o none (.mv 39 (.t 7)) <|
  .o none (.idx 40 1 (.t 38) (.t 39)) <|
  .o none (.ld 41 1 false (.t 40)) <|
  .o none (.mv 42 (.t 6)) <|
  .o none (.mv 43 (.t 7)) <|
  .o none (.idx 44 1 (.t 42) (.t 43)) <|
  .o none (.ld 45 1 false (.t 44)) <|
  .o none (.bin 46 .neq false (.t 41) (.t 45)) .nil)) <| .cond (.t 46) (.seq (.rg (.o none (.mv 4 (.c (.bool false))) .nil)) <| .ret) (.skip))) <| .rg (.o none (.mv 36 (.t 7)) <|
  .o none (.bin 37 .add false (.t 36) (.c (.int .i64 1))) <|
  .o none (.mv 7 (.t 37)) .nil)))) <| .seq (.rg (.o none (.mv 48 (.t 0)) <|
  .o none (.mv 49 (.t 1)) <|
  .o none (.call (some 50) false (.c (.fn 25 [] [])) [(.t 48), (.t 49)]) <|
  .o none (.mv 47 (.t 50)) <|
  .o none (.ext 51 (.t 47) 0) <|
  .o none (.ext 52 (.t 47) 1) <|
  .o none (.alloc 8 4 49 (.agg [(.bool false), .nilS, .nilS, .nilS])) <|
  .o none (.st 4 (.t 8) (.t 51)) <|
  .o none (.mv 9 (.t 52)) .nil)) <| .seq (.rg (.o none (.mv 54 (.t 0)) <|
  .o none (.mv 55 (.t 1)) <|
  .o none (.call (some 56) false (.c (.fn 26 [] [])) [(.t 54), (.t 55)]) <|
  .o none (.mv 53 (.t 56)) <|
  .o none (.ext 57 (.t 53) 0) <|
  .o none (.ext 58 (.t 53) 1) <|
  .o none (.alloc 10 4 49 (.agg [(.bool false), .nilS, .nilS, .nilS])) <|
  .o none (.st 4 (.t 10) (.t 57)) <|
  .o none (.mv 11 (.t 58)) .nil)) <| .seq (.rg (.o none (.mv 59 (.t 9)) <|
  .o none (.mv 60 (.t 11)) <|
  .o none (.bin 61 .eql true (.t 59) (.t 60)) <|
  .o none (.mv 62 (.t 61)) <|
  .o (some (62, true)) (.fld 63 3 (.t 8)) <|
  .o (some (62, true)) (.ld 64 1 false (.t 63)) <|
  .o (some (62, true)) (.fld 65 3 (.t 10)) <|
  .o (some (62, true)) (.ld 66 1 false (.t 65)) <|
  .o (some (62, true)) (.call (some 67) false (.c (.fn 27 [] [])) [(.t 64), (.t 66)]) <|
  .o none (.pick 68 (.t 62) (.t 67) (.c (.bool false))) <|
  .o none (.mv 69 (.t 68)) <|
  .o (some (69, true)) (.fld 70 0 (.t 8)) <|
  .o (some (69, true)) (.ld 71 3 true (.t 70)) <|
  .o (some (69, true)) (.fld 72 0 (.t 10)) <|
  .o (some (69, true)) (.ld 73 3 true (.t 72)) <|
  .o (some (69, true)) (.call (some 74) false (.c (.fn 21 [] [])) [(.t 71), (.t 73)]) <|
  .o none (.pick 75 (.t 69) (.t 74) (.c (.bool false))) <|
  .o none (.mv 76 (.t 75)) <|
  .o (some (76, true)) (.call (some 77) false (.c (.fn 13 [] [])) []) <|
  .o none (.pick 78 (.t 76) (.t 77) (.c (.bool false))) <|
  .o none (.mv 4 (.t 78)) .nil)) <| .ret⟩
def c4 : SFn := ⟨42, [.t 4], .seq (.rg (.o none (.mv 4 (.c (.bool false))) .nil)) <| .seq (.seq (.rg (.o none (.mv 9 (.t 0)) <|
  .o none (.bs 10 1 23 [(.t 9)]) <|
  .o none (.call (some 11) false (.c (.fn 17 [] [])) [(.t 10)]) <|
  .o none (.un 12 .not (.t 11)) <|
  .o none (.mv 13 (.t 12)) <|
  .o (some (13, false)) (.mv 14 (.t 1)) <|
  .o (some (13, false)) (.call (some 15) false (.c (.fn 18 [] [])) [(.t 14)]) <|
  .o (some (13, false)) (.un 16 .not (.t 15)) <|
  .o none (.pick 17 (.t 13) (.c (.bool true)) (.t 16)) .nil)) <| .cond (.t 17) (.seq (.rg (.o none (.call (some 18) false (.c (.fn 13 [] [])) []) <|
  .o none (.mv 4 (.t 18)) .nil)) <| .ret) (.skip)) <| .seq (.rg (.o none (.mv 20 (.t 0)) <|
  .o none (.mv 21 (.t 1)) <|
  .o none (.call (some 22) false (.c (.fn 19 [] [])) [(.t 20), (.t 21)]) <|
  .o none (.mv 19 (.t 22)) <|
  .o none (.ext 23 (.t 19) 0) <|
  .o none (.ext 24 (.t 19) 1) <|
  .o none (.alloc 5 3 40 (.agg [(.bool false), .nilS, .nilS])) <|
  .o none (.st 3 (.t 5) (.t 23)) <|
  .o none (.mv 6 (.t 24)) .nil)) <| .seq (.rg (.o none (.mv 26 (.t 0)) <|
  .o none (.mv 27 (.t 1)) <|
  .o none (.call (some 28) false (.c (.fn 20 [] [])) [(.t 26), (.t 27)]) <|
  .o none (.mv 25 (.t 28)) <|
  .o none (.ext 29 (.t 25) 0) <|
  .o none (.ext 30 (.t 25) 1) <|
  .o none (.alloc 7 3 40 (.agg [(.bool false), .nilS, .nilS])) <|
  .o none (.st 3 (.t 7) (.t 29)) <|
  .o none (.mv 8 (.t 30)) .nil)) <| .seq (.rg (.o none (.ld 31 3 true (.t 5)) <|
  .o none (.ld 32 3 true (.t 7)) <|
  .o none (.call (some 33) false (.c (.fn 21 [] [])) [(.t 31), (.t 32)]) <|
  .o none (.mv 34 (.t 33)) <|
  .o (some (34, true)) (.mv 35 (.t 6)) <|
  .o (some (34, true)) (.mv 36 (.t 8)) <|
  .o (some (34, true)) (.bin 37 .eql false (.t 35) (.t 36)) <|
  .o none (.pick 38 (.t 34) (.t 37) (.c (.bool false))) <|
  .o none (.mv 39 (.t 38)) <|
  .o (some (39, true)) (.call (some 40) false (.c (.fn 13 [] [])) []) <|
  .o none (.pick 41 (.t 39) (.t 40) (.c (.bool false))) <|
  .o none (.mv 4 (.t 41)) .nil)) <| .ret⟩
def c10 : SFn := ⟨218, [.t 6], .seq (.rg (.o none (.mv 6 (.c (.bool false))) .nil)) <| .seq (.seq (.rg (.o none (.mv 26 (.t 0)) <|
  .o none (.call (some 27) false (.c (.fn 11 [] [])) [(.t 26), (.c (.int .i64 5)), (.c (.int .i64 4)), (.c (.int .i64 4))]) <|
  .o none (.un 28 .not (.t 27)) <|
  .o none (.mv 29 (.t 28)) <|
  .o (some (29, false)) (.mv 30 (.t 1)) <|
  .o (some (29, false)) (.call (some 31) false (.c (.fn 11 [] [])) [(.t 30), (.c (.int .i64 5)), (.c (.int .i64 4)), (.c (.int .i64 4))]) <|
  .o (some (29, false)) (.un 32 .not (.t 31)) <|
  .o none (.pick 33 (.t 29) (.c (.bool true)) (.t 32)) <|
  .o none (.mv 34 (.t 33)) <|
  .o (some (34, false)) (.mv 35 (.t 2)) <|
  .o (some (34, false)) (.call (some 36) false (.c (.fn 18 [] [])) [(.t 35)]) <|
  .o (some (34, false)) (.un 37 .not (.t 36)) <|
  .o none (.pick 38 (.t 34) (.c (.bool true)) (.t 37)) <|
  .o none (.mv 39 (.t 38)) <|
  .o (some (39, false)) (.mv 40 (.t 2)) <|
  .o (some (39, false)) (.len 41 (.t 40)) <|
  .o (some (39, false)) (.bin 42 .lss false (.t 41) (.c (.int .i64 4))) <|
  .o none (.pick 43 (.t 39) (.c (.bool true)) (.t 42)) .nil)) <| .cond (.t 43) (.seq (.rg (.o none (.call (some 44) false (.c (.fn 13 [] [])) []) <|
  .o none (.mv 6 (.t 44)) .nil)) <| .ret) (.skip)) <| .seq (.rg (.o none (.mv 46 (.t 0)) <|
  .o none (.mv 47 (.t 2)) <|
  .o none (.call (some 48) false (.c (.fn 19 [] [])) [(.t 46), (.t 47)]) <|
  .o none (.mv 45 (.t 48)) <|
  .o none (.ext 49 (.t 45) 0) <|
  .o none (.ext 50 (.t 45) 1) <|
  .o none (.alloc 7 3 40 (.agg [(.bool false), .nilS, .nilS])) <|
  .o none (.st 3 (.t 7) (.t 49)) <|
  .o none (.mv 8 (.t 50)) .nil)) <| .seq (.rg (.o none (.mv 52 (.t 1)) <|
  .o none (.mv 53 (.t 2)) <|
  .o none (.call (some 54) false (.c (.fn 19 [] [])) [(.t 52), (.t 53)]) <|
  .o none (.mv 51 (.t 54)) <|
  .o none (.ext 55 (.t 51) 0) <|
  .o none (.ext 56 (.t 51) 1) <|
  .o none (.alloc 9 3 40 (.agg [(.bool false), .nilS, .nilS])) <|
  .o none (.st 3 (.t 9) (.t 55)) <|
  .o none (.mv 10 (.t 56)) .nil)) <| .seq (.rg (.o none (.mv 58 (.t 0)) <|
  .o none (.mv 59 (.t 1)) <|
  .o none (.call (some 60) false (.c (.fn 35 [] [])) [(.t 58), (.t 59)]) <|
  .o none (.mv 61 (.t 2)) <|
  .o none (.call (some 62) false (.c (.fn 19 [] [])) [(.t 60), (.t 61)]) <|
  .o none (.mv 57 (.t 62)) <|
  .o none (.ext 63 (.t 57) 0) <|
  .o none (.ext 64 (.t 57) 1) <|
  .o none (.alloc 11 3 40 (.agg [(.bool false), .nilS, .nilS])) <|
  .o none (.st 3 (.t 11) (.t 63)) <|
  .o none (.mv 12 (.t 64)) .nil)) <| .seq (.rg (.o none (.mv 66 (.t 0)) <|
  .o none (.mv 67 (.t 1)) <|
  .o none (.call (some 68) false (.c (.fn 39 [] [])) [(.t 66), (.t 67)]) <|
  .o none (.mv 69 (.t 2)) <|
  .o none (.call (some 70) false (.c (.fn 19 [] [])) [(.t 68), (.t 69)]) <|
  .o none (.mv 65 (.t 70)) <|
  .o none (.ext 71 (.t 65) 0) <|
  .o none (.ext 72 (.t 65) 1) <|
  .o none (.alloc 13 3 40 (.agg [(.bool false), .nilS, .nilS])) <|
  .o none (.st 3 (.t 13) (.t 71)) <|
  .o none (.mv 14 (.t 72)) .nil)) <| .seq (.seq (.rg (.o none (.mv 73 (.t 8)) <|
  .o none (.bin 74 .neq false (.t 73) (.c (.int .i64 0))) <|
  .o none (.mv 75 (.t 74)) <|
  .o (some (75, false)) (.mv 76 (.t 10)) <|
  .o (some (75, false)) (.bin 77 .neq false (.t 76) (.c (.int .i64 0))) <|
  .o none (.pick 78 (.t 75) (.c (.bool true)) (.t 77)) <|
  .o none (.mv 79 (.t 78)) <|
  .o (some (79, false)) (.mv 80 (.t 12)) <|
  .o (some (79, false)) (.bin 81 .neq false (.t 80) (.c (.int .i64 0))) <|
  .o none (.pick 82 (.t 79) (.c (.bool true)) (.t 81)) <|
  .o none (.mv 83 (.t 82)) <|
  .o (some (83, false)) (.mv 84 (.t 14)) <|
  .o (some (83, false)) (.bin 85 .neq false (.t 84) (.c (.int .i64 0))) <|
  .o none (.pick 86 (.t 83) (.c (.bool true)) (.t 85)) <|
  .o none (.mv 87 (.t 86)) <|
  .o (some (87, false)) (.ld 88 3 true (.t 11)) <|
  .o (some (87, false)) (.ld 89 3 true (.t 7)) <|
  .o (some (87, false)) (.ld 90 3 true (.t 9)) <|
  .o (some (87, false)) (.call (some 91) true (.c (.fn 50 [] [])) [(.t 89), (.t 90)]) <|
  .o (some (87, false)) (.call (some 92) true (.c (.fn 49 [] [])) [(.t 88), (.t 91)]) <|
  .o (some (87, false)) (.un 93 .not (.t 92)) <|
  .o none (.pick 94 (.t 87) (.c (.bool true)) (.t 93)) <|
  .o none (.mv 95 (.t 94)) <|
  .o (some (95, false)) (.ld 96 3 true (.t 13)) <|
  .o (some (95, false)) (.ld 97 3 true (.t 7)) <|
  .o (some (95, false)) (.ld 98 3 true (.t 9)) <|
  .o (some (95, false)) (.call (some 99) true (.c (.fn 51 [] [])) [(.t 97), (.t 98)]) <|
  .o (some (95, false)) (.call (some 100) true (.c (.fn 49 [] [])) [(.t 96), (.t 99)]) <|
  .o (some (95, false)) (.un 101 .not (.t 100)) <|
  .o none (.pick 102 (.t 95) (.c (.bool true)) (.t 101)) .nil)) <| .cond (.t 102) (.seq (.rg (.o none (.mv 6 (.c (.bool false))) .nil)) <| .ret) (.skip)) <| .seq (.rg (.o none (.mv 104 (.t 0)) <|
  .o none (.mv 105 (.t 1)) <|
  .o none (.call (some 106) false (.c (.fn 47 [] [])) [(.t 104), (.c (.int .i64 1)), (.t 105)]) <|
  .o none (.mv 103 (.t 106)) <|
  .o none (.ext 107 (.t 103) 0) <|
  .o none (.ext 108 (.t 103) 1) <|
  .o none (.mv 15 (.t 107)) <|
  .o none (.mv 8 (.t 108)) .nil)) <| .seq (.seq (.rg (.o none (.mv 109 (.t 8)) <|
  .o none (.bin 110 .neq false (.t 109) (.c (.int .i64 0))) .nil)) <| .cond (.t 110) (.seq (.rg (.o none (.mv 6 (.c (.bool false))) .nil)) <| .ret) (.skip)) <| .seq (.rg (.o none (.bs 111 3 40 []) <|
  .o none (.mv 112 (.t 2)) <|
  .o none (.app 113 3 56 40 (.t 111) (.t 112)) <|
  .o none (.mv 16 (.t 113)) .nil)) <| .seq (.rg (.o none (.mv 114 (.t 16)) <|
  .o none (.ld 115 3 true (.t 9)) <|
  .o none (.idx 116 3 (.t 114) (.c (.int .i64 1))) <|
  .o none (.st 3 (.t 116) (.t 115)) .nil)) <| .seq (.rg (.o none (.mv 118 (.t 15)) <|
  .o none (.mv 119 (.t 2)) <|
  .o none (.call (some 120) false (.c (.fn 19 [] [])) [(.t 118), (.t 119)]) <|
  .o none (.mv 117 (.t 120)) <|
  .o none (.ext 121 (.t 117) 0) <|
  .o none (.ext 122 (.t 117) 1) <|
  .o none (.alloc 17 3 40 (.agg [(.bool false), .nilS, .nilS])) <|
  .o none (.st 3 (.t 17) (.t 121)) <|
  .o none (.mv 8 (.t 122)) .nil)) <| .seq (.rg (.o none (.mv 124 (.t 0)) <|
  .o none (.mv 125 (.t 16)) <|
  .o none (.call (some 126) false (.c (.fn 19 [] [])) [(.t 124), (.t 125)]) <|
  .o none (.mv 123 (.t 126)) <|
  .o none (.ext 127 (.t 123) 0) <|
  .o none (.ext 128 (.t 123) 1) <|
  .o none (.alloc 18 3 40 (.agg [(.bool false), .nilS, .nilS])) <|
  .o none (.st 3 (.t 18) (.t 127)) <|
  .o none (.mv 10 (.t 128)) .nil)) <| .seq (.seq (.rg (.o none (.mv 129 (.t 8)) <|
  .o none (.bin 130 .neq false (.t 129) (.c (.int .i64 0))) <|
  .o none (.mv 131 (.t 130)) <|
  .o (some (131, false)) (.mv 132 (.t 10)) <|
  .o (some (131, false)) (.bin 133 .neq false (.t 132) (.c (.int .i64 0))) <|
  .o none (.pick 134 (.t 131) (.c (.bool true)) (.t 133)) <|
  .o none (.mv 135 (.t 134)) <|
  .o (some (135, false)) (.ld 136 3 true (.t 17)) <|
  .o (some (135, false)) (.ld 137 3 true (.t 18)) <|
  .o (some (135, false)) (.call (some 138) false (.c (.fn 49 [] [])) [(.t 136), (.t 137)]) <|
  .o (some (135, false)) (.un 139 .not (.t 138)) <|
  .o none (.pick 140 (.t 135) (.c (.bool true)) (.t 139)) .nil)) <| .cond (.t 140) (.seq (.rg (.o none (.mv 6 (.c (.bool false))) .nil)) <| .ret) (.skip)) <| .seq (.seq (.rg (.o none (.mv 141 (.t 0)) <|
  .o none (.len 142 (.t 141)) <|
  .o none (.bin 143 .eql false (.t 142) (.c (.int .i64 0))) <|
  .o none (.mv 144 (.t 143)) <|
  .o (some (144, false)) (.mv 145 (.t 1)) <|
  .o (some (144, false)) (.len 146 (.t 145)) <|
  .o (some (144, false)) (.bin 147 .eql false (.t 146) (.c (.int .i64 0))) <|
  .o none (.pick 148 (.t 144) (.c (.bool true)) (.t 147)) .nil)) <| .cond (.t 148) (.seq (.rg (.o none (.mv 149 (.t 0)) <|
  .o none (.mv 150 (.t 1)) <|
  .o none (.call (some 151) false (.c (.fn 39 [] [])) [(.t 149), (.t 150)]) <|
  .o none (.call (some 152) false (.c (.fn 24 [] [])) [(.t 151)]) <|
  .o none (.bin 153 .eql false (.t 152) (.c (.int .i64 (-1)))) <|
  .o none (.mv 154 (.t 153)) <|
  .o (some (154, true)) (.call (some 155) false (.c (.fn 13 [] [])) []) <|
  .o none (.pick 156 (.t 154) (.t 155) (.c (.bool false))) <|
  .o none (.mv 6 (.t 156)) .nil)) <| .ret) (.skip)) <| .seq (.seq (.rg (.o none (.mv 19 (.c (.int .i64 0))) .nil)) <| .block 0 (.loop (.seq (.seq (.rg (.o none (.mv 157 (.t 19)) <|
  .o none (.bin 158 .lss false (.t 157) (.c (.int .i64 2))) .nil)) <| .cond (.t 158) (.skip) (.exit 0)) <| .seq (.block 1 (.seq (.rg (.o none (.mv 162 (.t 0)) <|
  .o none (.mv 163 (.t 19)) <|
  .o none (.call (some 164) false (.c (.fn 25 [] [])) [(.t 162), (.t 163)]) <|
  .o none (.mv 161 (.t 164)) <|
  .o none (.ext 165 (.t 161) 0) <|
  .o none (.ext 166 (.t 161) 1) <|
  .o none (.alloc 20 4 49 (.agg [(.bool false), .nilS, .nilS, .nilS])) <|
  .o none (.st 4 (.t 20) (.t 165)) <|
  .o none (.mv 21 (.t 166)) .nil)) <| .seq (.rg (.o none (.mv 168 (.t 1)) <|
  .o none (.mv 169 (.t 19)) <|
  .o none (.call (some 170) false (.c (.fn 25 [] [])) [(.t 168), (.t 169)]) <|
  .o none (.mv 167 (.t 170)) <|
  .o none (.ext 171 (.t 167) 0) <|
  .o none (.ext 172 (.t 167) 1) <|
  .o none (.alloc 22 4 49 (.agg [(.bool false), .nilS, .nilS, .nilS])) <|
  .o none (.st 4 (.t 22) (.t 171)) <|
  .o none (.mv 23 (.t 172)) .nil)) <| .seq (.rg (.o none (.mv 174 (.t 0)) <|
  .o none (.mv 175 (.t 1)) <|
  .o none (.call (some 176) false (.c (.fn 39 [] [])) [(.t 174), (.t 175)]) <|
  .o none (.mv 177 (.t 19)) <|
  .o none (.call (some 178) false (.c (.fn 25 [] [])) [(.t 176), (.t 177)]) <|
  .o none (.mv 173 (.t 178)) <|
  .o none (.ext 179 (.t 173) 0) <|
  .o none (.ext 180 (.t 173) 1) <|
  .o none (.alloc 24 4 49 (.agg [(.bool false), .nilS, .nilS, .nilS])) <|
  .o none (.st 4 (.t 24) (.t 179)) <|
  .o none (.mv 25 (.t 180)) .nil)) <| .seq (.rg (.o none (.mv 181 (.t 25)) <|
  .o none (.un 182 .not (.t 181)) <|
  .o none (.mv 183 (.t 182)) <|
  .o (some (183, false)) (.fld 184 0 (.t 24)) <|
  .o (some (183, false)) (.ld 185 3 true (.t 184)) <|
  .o (some (183, false)) (.fld 186 0 (.t 20)) <|
  .o (some (183, false)) (.ld 187 3 true (.t 186)) <|
  .o (some (183, false)) (.fld 188 0 (.t 22)) <|
  .o (some (183, false)) (.ld 189 3 true (.t 188)) <|
  .o (some (183, false)) (.call (some 190) true (.c (.fn 51 [] [])) [(.t 187), (.t 189)]) <|
  .o (some (183, false)) (.call (some 191) true (.c (.fn 49 [] [])) [(.t 185), (.t 190)]) <|
  .o (some (183, false)) (.un 192 .not (.t 191)) <|
  .o none (.pick 193 (.t 183) (.c (.bool true)) (.t 192)) <|
  .o none (.mv 194 (.t 193)) <|
  .o (some (194, false)) (.fld 195 3 (.t 24)) <|
  .o (some (194, false)) (.ld 196 1 false (.t 195)) <|
  .o (some (194, false)) (.fld 197 3 (.t 20)) <|
  .o (some (194, false)) (.ld 198 1 false (.t 197)) <|
  .o (some (194, false)) (.fld 199 3 (.t 22)) <|
  .o (some (194, false)) (.ld 200 1 false (.t 199)) <|
  .o (some (194, false)) (.call (some 201) true (.c (.fn 52 [] [])) [(.t 198), (.t 200)]) <|
  .o (some (194, false)) (.call (some 202) true (.c (.fn 27 [] [])) [(.t 196), (.t 201)]) <|
  .o (some (194, false)) (.un 203 .not (.t 202)) <|
  .o none (.pick 204 (.t 194) (.c (.bool true)) (.t 203)) .nil)) <| .cond (.t 204) (.seq (.rg (.o none (.mv 6 (.c (.bool false))) .nil)) <| .ret) (.skip))) <| .rg (.o none (.mv 159 (.t 19)) <|
  .o none (.bin 160 .add false (.t 159) (.c (.int .i64 1))) <|
  .o none (.mv 19 (.t 160)) .nil)))) <| .seq (.rg (.o none (.mv 205 (.t 0)) <|
  .o none (.mv 206 (.t 1)) <|
  .o none (.call (some 207) false (.c (.fn 39 [] [])) [(.t 205), (.t 206)]) <|
  .o none (.call (some 208) false (.c (.fn 24 [] [])) [(.t 207)]) <|
  .o none (.mv 209 (.t 0)) <|
  .o none (.call (some 210) false (.c (.fn 24 [] [])) [(.t 209)]) <|
  .o none (.mv 211 (.t 1)) <|
  .o none (.call (some 212) false (.c (.fn 24 [] [])) [(.t 211)]) <|
  .o none (.bin 213 .add false (.t 210) (.t 212)) <|
  .o none (.bin 214 .eql false (.t 208) (.t 213)) <|
  .o none (.mv 215 (.t 214)) <|
  .o (some (215, true)) (.call (some 216) false (.c (.fn 13 [] [])) []) <|
  .o none (.pick 217 (.t 215) (.t 216) (.c (.bool false))) <|
  .o none (.mv 6 (.t 217)) .nil)) <| .ret⟩
theorem c10_ok : compileF Tryz.prog Tryz.f10 = some c10 := by kernel_rfl
end Go.Proofs.YtfhmockdgbkpnaaGreat
namespace Go.Proofs.YtfhmockdgbkpnaaGreat
open Go Go.FW
set_option linter.unusedSimpArgs false
set_option linter.unusedVariables false
set_option maxRecDepth 100000
theorem alive_poly : pmul (padd (pvar 0) (pvar 1)) (psub (pvar 0) (pvar 1)) = [(((-1 : Int) : Rat), [0, 2]), (1, [2])] := by
  have hx : Nrm (pvar 0) := Nrm.one (t := (1, [1])) (by decide) (by decide)
  have hy : Nrm (pvar 1) := Nrm.one (t := (1, [0, 1])) (by decide) (by decide)
  refine pev_inj (pmul_nrm (padd_sorted hx.s hy.s) (psub_nrm hx hy).s) ⟨by simp [FW.Can], by simp [NZ]; decide, by simp [PSorted]; decide⟩ fun φ => ?_
  rw [pmul_pev, pev_padd hx.c hy.c]
  have ex : ∀ ψ : List Int → Rat, pev ψ (pvar 0) = ψ [1] := fun ψ => by show (1 : Rat) * ψ [1] + 0 = ψ [1]; grind
  have ey : ∀ ψ : List Int → Rat, pev ψ (pvar 1) = ψ [0, 1] := fun ψ => by show (1 : Rat) * ψ [0, 1] + 0 = ψ [0, 1]; grind
  rw [ex, ey, psub_pev _ hx.c hy, psub_pev _ hx.c hy, ex, ey, ex, ey]
  have e1 : mulM [1] [1] = [2] := rfl
  have e2 : mulM [1] [0, 1] = [1, 1] := rfl
  have e3 : mulM [0, 1] [1] = [1, 1] := rfl
  have e4 : mulM [0, 1] [0, 1] = [0, 2] := rfl
  rw [e1, e2, e3, e4, pev_cons, pev_cons, pev_nil]
  have e5 : ((-1 : Int) : Rat) = -1 := rfl
  simp only [e5]
  grind
theorem pvar_PB (v : Int) : PB 4 1 (pvar v) := by
  unfold pvar
  split
  · exact PB.nil _ _
  · rename_i h
    intro t ht
    simp only [List.mem_singleton] at ht
    subst ht
    refine ⟨by have := rs_1; show rs 1 + 1 ≤ 4; omega, ⟨?_, ?_, ?_⟩, ?_⟩
    · simp [varM]; omega
    · intro x hx; simp [varM] at hx; omega
    · intro x hx; simp [varM] at hx; omega
    · simp [varM]
theorem pvar_len (v : Int) : (pvar v).length ≤ 1 := by unfold pvar; split <;> simp
theorem r3_Equal_q {a b : Rat} {k : Nat} (ha : rs a ≤ k) (hb : rs b ≤ k) (hk : k < 2 ^ 34) : FnSpec Tryz.prog 55 [PV.rat a, PV.rat b] (· = .bool (decide (a = b))) := by
  have := r3_Equal_spec (raw_of ha) (raw_of hb) hk
  rwa [rv_of, rv_of] at this
theorem alive_spec : FnSpec Tryz.prog 13 [] (· = .bool true) := by
  have b0 := pvar_PB 0
  have b1 := pvar_PB 1
  have l0 := pvar_len 0
  have l1 := pvar_len 1
  have ls : (psub (pvar 0) (pvar 1)).length ≤ 2 := Nat.le_trans (padd_length _ _) (by have := pscale_length (pvar 1) (-1); have e : pneg (pvar 1) = pscale (pvar 1) (-1) := rfl; rw [e]; omega)
  have la : (padd (pvar 0) (pvar 1)).length ≤ 2 := Nat.le_trans (padd_length _ _) (by omega)
  have bs : PB 20 1 (psub (pvar 0) (pvar 1)) := (padd_PB _ _ b0 (pneg_PB b1)).mono (by omega) (by omega)
  have ba : PB 20 1 (padd (pvar 0) (pvar 1)) := (padd_PB _ _ b0 b1).mono (by omega) (by omega)
  have lm : (padd (pvar 0) (pvar 1)).length * (psub (pvar 0) (pvar 1)).length ≤ 2 * 2 := Nat.mul_le_mul la ls
  have ep := alive_poly
  generalize hA : padd (pvar 0) (pvar 1) = A at *
  generalize hB : psub (pvar 0) (pvar 1) = B at *
  have hm1 := rs_m1
  have em1 : ((-1 : Int) : Rat) = -1 := rfl
  refine fn_of_vc mixed Tryz.func13 rfl c13_ok (by simp [c13]) fun C hP => ?_; simp only [c13]
  simp +decide (disch := first | omega | rfl | (simp +decide only [go_sem, ↓reduceIte] <;> rfl) | fail) only [go_sem, ↓reduceIte, rem64K, quo64K, remI64K, quoI64K, mulK64, mk_empty, sl_3n, app_nil_map, mk_i64, max_nat]
  refine call_eq0 hP (p_Var_spec (v := 0) (by omega) (by omega)) rfl rfl rfl ?_
  simp +decide (disch := first | omega | rfl | (simp +decide only [go_sem, ↓reduceIte] <;> rfl) | fail) only [go_sem, ↓reduceIte, rem64K, quo64K, remI64K, quoI64K, mulK64, mk_empty, sl_3n, app_nil_map, mk_i64, max_nat]
  refine call_eq0 hP (p_Var_spec (v := 1) (by omega) (by omega)) rfl rfl rfl ?_
  simp +decide (disch := first | omega | rfl | (simp +decide only [go_sem, ↓reduceIte] <;> rfl) | fail) only [go_sem, ↓reduceIte, rem64K, quo64K, remI64K, quoI64K, mulK64, mk_empty, sl_3n, app_nil_map, mk_i64, max_nat]
  refine call_eq0 hP (p_Add_spec (K := 4) (E := 1) b0 b1 (by omega) (by omega) (by omega) (by omega)) rfl rfl rfl ?_
  rw [hA]
  simp +decide (disch := first | omega | rfl | (simp +decide only [go_sem, ↓reduceIte] <;> rfl) | fail) only [go_sem, ↓reduceIte, rem64K, quo64K, remI64K, quoI64K, mulK64, mk_empty, sl_3n, app_nil_map, mk_i64, max_nat]
  refine call_eq0 hP (p_Sub_spec (K := 4) (E := 1) b0 b1 (by omega) (by omega) (by omega) (by omega) (by omega)) rfl rfl rfl ?_
  rw [hB]
  simp +decide (disch := first | omega | rfl | (simp +decide only [go_sem, ↓reduceIte] <;> rfl) | fail) only [go_sem, ↓reduceIte, rem64K, quo64K, remI64K, quoI64K, mulK64, mk_empty, sl_3n, app_nil_map, mk_i64, max_nat]
  refine call_eq0 hP (p_Mul_spec (K := 20) (E := 1) ba bs (by omega) (by omega) (by omega) (by omega) (by
    have : min A.length B.length * (20 + 20) ≤ 2 * 40 := Nat.mul_le_mul_right _ (by omega)
    omega) (by omega)) rfl rfl rfl ?_
  rw [ep]
  obtain ⟨M, hM⟩ : ∃ M : List Tm, M = [(((-1 : Int) : Rat), [0, 2]), (1, [2])] := ⟨_, rfl⟩
  have hl : M.length = 2 := by rw [hM]; rfl
  have g0 : M[0]'(by omega) = (((-1 : Int) : Rat), [0, 2]) := by simp [hM]
  have g1 : M[1]'(by omega) = (1, [2]) := by simp [hM]
  rw [← hM]
  simp +decide (disch := first | omega | rfl | (simp +decide only [go_sem, ↓reduceIte] <;> rfl) | fail) only [go_sem, ↓reduceIte, rem64K, quo64K, remI64K, quoI64K, mulK64, mk_empty, sl_3n, app_nil_map, mk_i64, max_nat]
  refine guard_split (fun _ => ?_) (fun h => by omega)
  simp +decide (disch := first | omega | rfl | (simp +decide only [go_sem, ↓reduceIte, g0] <;> rfl) | fail) only [go_sem, ↓reduceIte, rem64K, quo64K, remI64K, quoI64K, mulK64, mk_empty, sl_3n, app_nil_map, mk_i64, max_nat, g0]
  refine call_eq hP (r5_Same_spec (a := [0, 2]) (b := [0, 2]) (by simp) (by simp)) (by simp +decide (disch := first | omega | rfl | (simp +decide only [go_sem, ↓reduceIte, looks3, List.contains_cons, List.contains_nil, List.flatMap_cons, List.flatMap_nil, List.append_nil] <;> rfl) | fail) only [go_sem, ↓reduceIte, rem64K, quo64K, remI64K, quoI64K, mulK64, mk_empty, sl_3n, app_nil_map, mk_i64, max_nat, looks3, List.contains_cons, List.contains_nil, List.flatMap_cons, List.flatMap_nil, List.append_nil] <;> rfl) rfl ?_
  rw [decide_eq_true (p := ([0, 2] : List Int) = [0, 2]) rfl]
  simp +decide (disch := first | omega | rfl | (simp +decide only [go_sem, ↓reduceIte, g0] <;> rfl) | fail) only [go_sem, ↓reduceIte, rem64K, quo64K, remI64K, quoI64K, mulK64, mk_empty, sl_3n, app_nil_map, mk_i64, max_nat, g0]
  refine call_eq0 hP (r3_Of_spec (x := -1) (by omega) (by omega)) rfl rfl rfl ?_
  simp +decide (disch := first | omega | rfl | (simp +decide only [go_sem, ↓reduceIte, g0] <;> rfl) | fail) only [go_sem, ↓reduceIte, rem64K, quo64K, remI64K, quoI64K, mulK64, mk_empty, sl_3n, app_nil_map, mk_i64, max_nat, g0]
  refine call_eq0 hP (r3_Equal_q (a := ((-1 : Int) : Rat)) (b := ((-1 : Int) : Rat)) (k := 4) (by rw [em1]; omega) (by rw [em1]; omega) (by omega)) rfl rfl rfl ?_
  rw [decide_eq_true (p := ((-1 : Int) : Rat) = ((-1 : Int) : Rat)) rfl]
  simp +decide (disch := first | omega | rfl | (simp +decide only [go_sem, ↓reduceIte, g1] <;> rfl) | fail) only [go_sem, ↓reduceIte, rem64K, quo64K, remI64K, quoI64K, mulK64, mk_empty, sl_3n, app_nil_map, mk_i64, max_nat, g1]
  refine call_eq hP (r5_Same_spec (a := [2]) (b := [2]) (by simp) (by simp)) (by simp +decide (disch := first | omega | rfl | (simp +decide only [go_sem, ↓reduceIte, looks3, List.contains_cons, List.contains_nil, List.flatMap_cons, List.flatMap_nil, List.append_nil] <;> rfl) | fail) only [go_sem, ↓reduceIte, rem64K, quo64K, remI64K, quoI64K, mulK64, mk_empty, sl_3n, app_nil_map, mk_i64, max_nat, looks3, List.contains_cons, List.contains_nil, List.flatMap_cons, List.flatMap_nil, List.append_nil] <;> rfl) rfl ?_
  rw [decide_eq_true (p := ([2] : List Int) = [2]) rfl]
  simp +decide (disch := first | omega | rfl | (simp +decide only [go_sem, ↓reduceIte] <;> rfl) | fail) only [go_sem, ↓reduceIte, rem64K, quo64K, remI64K, quoI64K, mulK64, mk_empty, sl_3n, app_nil_map, mk_i64, max_nat]
  exact retV_eq rfl rfl
end Go.Proofs.YtfhmockdgbkpnaaGreat
namespace Go.Proofs.YtfhmockdgbkpnaaGreat
open Go Go.FW
set_option linter.unusedSimpArgs false
set_option linter.unusedVariables false
set_option maxRecDepth 100000
structure Smd (n v : Nat) (e : Nat) (l : List RTm) (p : List Tm) : Prop where
  q : p = l.map RTm.tm
  eq : PV.rpoly l = PV.poly p
  ml : ∀ t ∈ p, t.2.length ≤ v
  va : PVd p
  b : PB 5 e p
  ln : p.length ≤ n
theorem small_spec {l : List RTm} {k n v e : Nat} (hb : ∀ t ∈ l, RB k t) (h : small n v e l = true) : Smd n v e l (l.map RTm.tm) := by
  simp only [small, Bool.and_eq_true, decide_eq_true_eq, List.all_eq_true] at h
  obtain ⟨h1, h2, h3⟩ := h
  obtain ⟨e1, e2⟩ := prOk_spec hb h3
  refine ⟨rfl, e1, fun t ht => ?_, e2, fun t ht => ?_, by simpa using h1⟩
  rotate_left
  · obtain ⟨x, hx, rfl⟩ := List.mem_map.1 ht
    have hs := h2 x hx
    simp only [smT, Bool.and_eq_true, decide_eq_true_eq, List.all_eq_true] at hs
    have hv := e2.t _ ht
    have hr := (show Raw 4 x.n x.a x.d from ⟨(hb x hx).r.1, (hb x hx).r.2.1, hs.2.1, hs.2.2.1, by omega⟩).rs
    have hm := MB.ofOk hv.m
    refine ⟨?_, ⟨hm.len, hm.lo, fun y hy => hs.2.2.2 y hy⟩, monoOk_last hv.m⟩
    show rs (rv x.n x.a x.d) + 1 ≤ 5
    omega
  · obtain ⟨x, hx, rfl⟩ := List.mem_map.1 ht
    have hs := h2 x hx
    simp only [smT, Bool.and_eq_true, decide_eq_true_eq, List.all_eq_true] at hs
    exact hs.1
end Go.Proofs.YtfhmockdgbkpnaaGreat
namespace Go.FW
open Go
variable {C : Ctx} {fr : Fr} {hp : HP} {w : World} {K R : Kont}
def plarge (p : List Tm) : Bool := decide (4000 < p.length) || p.any fun t => t.2.any fun x => decide (1048576 < x)
end Go.FW
namespace Go.FW
open Go
def findI {α : Type} (g : α → Bool) (l : List α) : Int := match l.findIdx? g with
  | some i => i
  | none => -1
theorem findI_any {α : Type} (g : α → Bool) (l : List α) : decide (0 ≤ findI g l) = l.any g := by
  unfold findI
  cases h : l.findIdx? g with
  | none =>
    rw [List.findIdx?_eq_none_iff] at h
    symm
    show l.any g = decide ((0 : Int) ≤ -1)
    rw [show decide ((0 : Int) ≤ -1) = false from rfl, List.any_eq_false]
    intro x hx; simp [h x hx]
  | some i =>
    obtain ⟨hi, h1, _⟩ := List.findIdx?_eq_some_iff_getElem.1 h
    symm
    show l.any g = decide ((0 : Int) ≤ (i : Int))
    rw [decide_eq_true (by omega), List.any_eq_true]
    exact ⟨_, List.getElem_mem hi, h1⟩
theorem findI_at {α : Type} {g : α → Bool} {l : List α} {i : Nat} (hi : i < l.length) (h1 : g l[i] = true) (h2 : ∀ j (h : j < l.length), j < i → g l[j] = false) : findI g l = i := by
  unfold findI
  rw [List.findIdx?_eq_some_iff_getElem.2 ⟨hi, h1, fun j hj => by simp [h2 j (by omega) hj]⟩]
theorem findI_none {α : Type} {g : α → Bool} {l : List α} (h2 : ∀ j (h : j < l.length), g l[j] = false) : findI g l = -1 := by
  unfold findI
  rw [List.findIdx?_eq_none_iff.2 (fun x hx => by
    obtain ⟨j, hj, rfl⟩ := List.getElem_of_mem hx
    exact h2 j hj)]
end Go.FW
namespace Go.FW
open Go
end Go.FW
namespace Go.FW
open Go
end Go.FW
namespace Go.FW
open Go
def qpow (a : Rat) : Nat → Rat
  | 0 => 1
  | n + 1 => qpow a n * a
theorem qpow_zero (a : Rat) : qpow a 0 = 1 := rfl
theorem qpow_one (a : Rat) : qpow a 1 = a := by show 1 * a = a; grind
theorem qpow_add (a : Rat) (m : Nat) : ∀ n, qpow a (m + n) = qpow a m * qpow a n
  | 0 => by rw [Nat.add_zero, qpow_zero]; grind
  | n + 1 => by
    rw [← Nat.add_assoc]
    show qpow a (m + n) * a = qpow a m * (qpow a n * a)
    rw [qpow_add a m n]; grind
theorem qpow_sq (a : Rat) : ∀ k, qpow (a * a) k = qpow a (2 * k)
  | 0 => rfl
  | k + 1 => by
    show qpow (a * a) k * (a * a) = _
    rw [qpow_sq a k, show 2 * (k + 1) = 2 * k + 1 + 1 by omega]
    show _ = qpow a (2 * k) * a * a
    grind
theorem qpow_mul (a b : Rat) : ∀ n, qpow (a * b) n = qpow a n * qpow b n
  | 0 => by rw [qpow_zero, qpow_zero, qpow_zero]; grind
  | n + 1 => by
    show qpow (a * b) n * (a * b) = (qpow a n * a) * (qpow b n * b)
    rw [qpow_mul a b n]; grind
theorem qpow_half_even {a : Rat} {n : Nat} (h : n % 2 = 0) : qpow (a * a) (n / 2) = qpow a n := by rw [qpow_sq]; congr 1; omega
theorem qpow_half_odd {a : Rat} {n : Nat} (h : n % 2 = 1) : qpow (a * a) (n / 2) * a = qpow a n := by
  rw [qpow_sq, show n = 2 * (n / 2) + 1 by omega, show 2 * ((2 * (n / 2) + 1) / 2) = 2 * (n / 2) by omega]; rfl
theorem rs_qpow (a : Rat) : ∀ n, rs (qpow a n) ≤ 1 + rs a * n
  | 0 => by have := rs_1; show rs 1 ≤ _; omega
  | n + 1 => by
    have := rs_qpow a n
    have := rs_mul (qpow a n) a
    rw [Nat.mul_add]
    show rs (qpow a n * a) ≤ _
    omega
def mevN (vs : List Rat) (m : List Int) : Nat → Rat
  | 0 => 1
  | n + 1 => mevN vs m n * qpow (vs.getD n 0) (eN m n).toNat
def mev (vs : List Rat) (m : List Int) : Rat := mevN vs m m.length
theorem mevN_ge (vs : List Rat) (m : List Int) (k : Nat) : mevN vs m (m.length + k) = mev vs m := by
  induction k with
  | zero => rfl
  | succ k ih =>
    rw [← Nat.add_assoc]
    show mevN vs m (m.length + k) * qpow _ (eN m (m.length + k)).toNat = _
    rw [ih, eN_ge (by omega)]
    show mev vs m * 1 = _
    grind
theorem mevN_le {vs : List Rat} {m : List Int} {n : Nat} (h : m.length ≤ n) : mevN vs m n = mev vs m := by
  obtain ⟨k, rfl⟩ : ∃ k, n = m.length + k := ⟨n - m.length, by omega⟩
  exact mevN_ge vs m k
theorem mev_mul {vs : List Rat} {a b : List Int} {k l : Nat} (ha : MB k a) (hb : MB l b) : mev vs (mulM a b) = mev vs a * mev vs b := by
  have hlen : (mulM a b).length ≤ max a.length b.length := by
    have := trimI_length (zipI (· + ·) a b)
    rw [zipI_length] at this
    exact this
  rw [← mevN_le (n := max a.length b.length) hlen, ← mevN_le (m := a) (n := max a.length b.length) (by omega), ← mevN_le (m := b) (n := max a.length b.length) (by omega)]
  generalize max a.length b.length = N
  induction N with
  | zero => show (1 : Rat) = 1 * 1; grind
  | succ N ih =>
    have h1 := (ha.eN N).1
    have h2 := (hb.eN N).1
    show mevN vs (mulM a b) N * qpow _ (eN (mulM a b) N).toNat = (mevN vs a N * qpow _ (eN a N).toNat) * (mevN vs b N * qpow _ (eN b N).toNat)
    rw [ih, mulM_eN, show (eN a N + eN b N).toNat = (eN a N).toNat + (eN b N).toNat by omega, qpow_add]; grind
def peval (vs : List Rat) (p : List Tm) : Rat := pev (mev vs) p
def pout (vs : List Rat) (p : List Tm) : Bool := p.any fun t => decide (vs.length < t.2.length)
abbrev PV.rats (vs : List Rat) : PV := .sl 3 (vs.map PV.rat)
def evR (vs : List Rat) (p : List Tm) : PV := if pout vs p = true then .tup [PV.rr false [] [], .int .i64 2] else .tup [PV.rat (peval vs p), .int .i64 0]
theorem peval_take {vs : List Rat} {p : List Tm} {i : Nat} (h : i < p.length) : peval vs (p.take (i + 1)) = peval vs (p.take i) + p[i].1 * mev vs p[i].2 := by
  rw [List.take_succ_eq_append_getElem h, peval, pev_append, pev_cons, pev_nil, peval]; grind
theorem rs_mevN {vs : List Rat} {m : List Int} {E W : Nat} (hm : MB E m) (hv : ∀ v ∈ vs, rs v ≤ W) (hW : 1 ≤ W) (c : Rat) : ∀ n, rs (c * mevN vs m n) ≤ rs c + n * (1 + W * E)
  | 0 => by
    have : c * mevN vs m 0 = c := by show c * 1 = c; grind
    rw [this]; omega
  | n + 1 => by
    have h1 := rs_mevN hm hv hW c n
    have h2 := rs_qpow (vs.getD n 0) (eN m n).toNat
    have h3 : rs (vs.getD n 0) ≤ W := by
      by_cases h : n < vs.length
      · rw [List.getD_eq_getElem?_getD, List.getElem?_eq_getElem h]; exact hv _ (List.getElem_mem h)
      · rw [List.getD_eq_getElem?_getD, List.getElem?_eq_none (by omega)]
        have := rs_0
        show rs 0 ≤ W; omega
    have h4 : (eN m n).toNat ≤ E := by have := (hm.eN n).2; omega
    have h5 : rs (vs.getD n 0) * (eN m n).toNat ≤ W * E := Nat.mul_le_mul h3 h4
    have h6 := rs_mul (c * mevN vs m n) (qpow (vs.getD n 0) (eN m n).toNat)
    have e : c * mevN vs m (n + 1) = (c * mevN vs m n) * qpow (vs.getD n 0) (eN m n).toNat := by
      show c * (mevN vs m n * _) = _; grind
    rw [e, Nat.add_mul]
    omega
theorem rs_peval {vs : List Rat} {p : List Tm} {K E W : Nat} (hp : PB K E p) (hv : ∀ v ∈ vs, rs v ≤ W) (hW : 1 ≤ W) : ∀ i, i ≤ p.length → rs (peval vs (p.take i)) ≤ 1 + i * (K + 64 * (1 + W * E))
  | 0, _ => by have := rs_0; show rs 0 ≤ _; omega
  | i + 1, h => by
    have h1 := rs_peval hp hv hW i (by omega)
    have ht := hp.get (i := i) (by omega)
    have h2 := rs_mevN (vs := vs) ht.m hv hW p[i].1 p[i].2.length
    have h3 := rs_add (peval vs (p.take i)) (p[i].1 * mev vs p[i].2)
    have h4 : p[i].2.length * (1 + W * E) ≤ 64 * (1 + W * E) := Nat.mul_le_mul_right _ ht.m.len
    have h5 := ht.c
    rw [peval_take (by omega), Nat.add_mul]
    have h6 : rs (p[i].1 * mev vs p[i].2) ≤ rs p[i].1 + p[i].2.length * (1 + W * E) := h2
    omega
end Go.FW
