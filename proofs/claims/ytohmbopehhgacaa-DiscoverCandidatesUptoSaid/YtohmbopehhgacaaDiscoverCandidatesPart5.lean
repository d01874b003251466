/- Part 5 of the proof of DiscoverCandidates: CL, X0, X2, FwRE. Own lemmas; no conditions. -/
import Derived.Test.YtohmbopehhgacaaDiscoverCandidatesPart4
set_option maxHeartbeats 1000000
set_option linter.unusedSimpArgs false
set_option linter.unusedVariables false
set_option linter.unnecessarySimpa false
set_option maxRecDepth 100000
namespace Go.Proofs.Ytohmbopehhgacaa
open Go Go.FW
def c48 : SFn := ⟨17, [.t 2], .seq (.rg (.o none (.mv 2 (.c (.int .i64 0))) .nil)) <| .seq (.seq (.rg (.o none (.mv 3 (.t 0)) .nil)) <| .block 0 (.seq (.seq (.rg (.o none (.bin 5 .eql false (.t 3) (.c (.int .i64 1))) <|
 .o none (.mv 4 (.t 5)) .nil)) <| .cond (.t 4) (.skip) (.rg (.o none (.bin 6 .eql false (.t 3) (.c (.int .i64 5))) <|
 .o none (.mv 4 (.t 6)) .nil))) <| .cond (.t 4) (.seq (.rg (.o none (.mv 2 (.c (.int .i64 3))) .nil)) <| .ret) (.seq (.seq (.rg (.o none (.bin 8 .eql false (.t 3) (.c (.int .i64 2))) <|
 .o none (.mv 7 (.t 8)) .nil)) <| .cond (.t 7) (.skip) (.seq (.rg (.o none (.bin 9 .eql false (.t 3) (.c (.int .i64 3))) <|
 .o none (.mv 7 (.t 9)) .nil)) <| .cond (.t 7) (.skip) (.seq (.rg (.o none (.bin 10 .eql false (.t 3) (.c (.int .i64 4))) <|
 .o none (.mv 7 (.t 10)) .nil)) <| .cond (.t 7) (.skip) (.seq (.rg (.o none (.bin 11 .eql false (.t 3) (.c (.int .i64 6))) <|
 .o none (.mv 7 (.t 11)) .nil)) <| .cond (.t 7) (.skip) (.rg (.o none (.bin 12 .eql false (.t 3) (.c (.int .i64 9))) <|
 .o none (.mv 7 (.t 12)) .nil)))))) <| .cond (.t 7) (.seq (.rg (.o none (.mv 2 (.c (.int .i64 4))) .nil)) <| .ret) (.seq (.rg (.o none (.bin 14 .eql false (.t 3) (.c (.int .i64 7))) <|
 .o none (.mv 13 (.t 14)) .nil)) <| .cond (.t 13) (.seq (.rg (.o none (.mv 2 (.c (.int .i64 8))) .nil)) <| .ret) (.seq (.rg (.o none (.bin 16 .eql false (.t 3) (.c (.int .i64 8))) <|
 .o none (.mv 15 (.t 16)) .nil)) <| .cond (.t 15) (.seq (.rg (.o none (.mv 2 (.c (.int .i64 2))) .nil)) <| .ret) (.skip)))))) <| .seq (.rg (.o none (.mv 2 (.c (.int .i64 0))) .nil)) <| .ret⟩
theorem Qv9 : Q4 Try.prog Try.f48 = some c48 := by kernel_rfl
def c50 : SFn := ⟨20, [.t 2], .seq (.rg (.o none (.box 1 3 36 (.t 0)) <|
 .o none (.mv 2 (.c (.bool false))) .nil)) <| .seq (.rg (.o none (.fld 3 0 (.t 1)) <|
 .o none (.fld 4 0 (.t 3)) <|
 .o none (.ld 5 1 false (.t 4)) <|
 .o none (.un 6 .not (.t 5)) <|
 .o none (.mv 7 (.t 6)) <|
 .o (some (7, true)) (.fld 8 0 (.t 1)) <|
 .o (some (7, true)) (.fld 9 1 (.t 8)) <|
 .o (some (7, true)) (.ld 10 1 false (.t 9)) <|
 .o (some (7, true)) (.len 11 (.t 10)) <|
 .o (some (7, true)) (.bin 12 .eql false (.t 11) (.c (.int .i64 0))) <|
 .o none (.pick 13 (.t 7) (.t 12) (.c (.bool false))) <|
 .o none (.mv 14 (.t 13)) <|
 .o (some (14, true)) (.fld 15 2 (.t 1)) <|
 .o (some (14, true)) (.ld 16 1 false (.t 15)) <|
 .o (some (14, true)) (.len 17 (.t 16)) <|
 .o (some (14, true)) (.bin 18 .eql false (.t 17) (.c (.int .i64 0))) <|
 .o none (.pick 19 (.t 14) (.t 18) (.c (.bool false))) <|
 .o none (.mv 2 (.t 19)) .nil)) <| .ret⟩
theorem Qwa : Q4 Try.prog Try.f50 = some c50 := by kernel_rfl
def c34 : SFn := ⟨51, [.t 4], .seq (.rg (.o none (.box 2 5 38 (.t 0)) <|
 .o none (.mv 4 (.c (.int .i64 0))) .nil)) <| .seq (.seq (.rg (.o none (.fld 7 0 (.t 2)) <|
 .o none (.ld 8 1 false (.t 7)) <|
 .o none (.call (some 9) false (.c (.fn 48 [] [])) [(.t 8)]) <|
 .o none (.bin 10 .eql false (.t 9) (.c (.int .i64 0))) .nil)) <| .cond (.t 10) (.seq (.rg (.o none (.mv 4 (.c (.int .i64 8))) .nil)) <| .ret) (.skip)) <| .seq (.seq (.rg (.o none (.fld 11 1 (.t 2)) <|
 .o none (.ld 12 1 false (.t 11)) <|
 .o none (.len 13 (.t 12)) <|
 .o none (.fld 14 0 (.t 2)) <|
 .o none (.ld 15 1 false (.t 14)) <|
 .o none (.call (some 16) true (.c (.fn 48 [] [])) [(.t 15)]) <|
 .o none (.bin 17 .neq false (.t 13) (.t 16)) .nil)) <| .cond (.t 17) (.seq (.rg (.o none (.mv 4 (.c (.int .i64 1))) .nil)) <| .ret) (.skip)) <| .seq (.seq (.rg (.o none (.fld 18 1 (.t 2)) <|
 .o none (.ld 19 1 false (.t 18)) <|
 .o none (.len 20 (.t 19)) <|
 .o none (.mv 21 (.c (.int .i64 0))) .nil)) <| .block 0 (.loop (.seq (.rg (.o none (.bin 22 .lss false (.t 21) (.t 20)) .nil)) <| .seq (.cond (.t 22) (.skip) (.exit 0)) <| .seq (.block 1 (.seq (.rg (.o none (.idx 23 1 (.t 19) (.t 21)) <|
 .o none (.ld 24 1 false (.t 23)) <|
 .o none (.mv 6 (.t 24)) .nil)) <| .seq (.rg (.o none (.mv 25 (.t 6)) <|
 .o none (.bin 26 .lss false (.t 25) (.c (.int .i64 0))) <|
 .o none (.mv 27 (.t 26)) <|
 .o (some (27, false)) (.mv 28 (.t 6)) <|
 .o (some (27, false)) (.mv 29 (.t 1)) <|
 .o (some (27, false)) (.bin 30 .geq false (.t 28) (.t 29)) <|
 .o none (.pick 31 (.t 27) (.c (.bool true)) (.t 30)) .nil)) <| .cond (.t 31) (.seq (.rg (.o none (.mv 4 (.c (.int .i64 2))) .nil)) <| .ret) (.skip))) <| .rg (.o none (.bin 32 .add false (.t 21) (.c (.int .i64 1))) <|
 .o none (.mv 21 (.t 32)) .nil)))) <| .seq (.seq (.rg (.o none (.fld 33 0 (.t 2)) <|
 .o none (.ld 34 1 false (.t 33)) <|
 .o none (.bin 35 .eql false (.t 34) (.c (.int .i64 9))) <|
 .o none (.mv 36 (.t 35)) <|
 .o (some (36, true)) (.fld 37 2 (.t 2)) <|
 .o (some (36, true)) (.ld 38 3 true (.t 37)) <|
 .o (some (36, true)) (.call (some 39) false (.c (.fn 49 [] [])) [(.t 38)]) <|
 .o (some (36, true)) (.un 40 .not (.t 39)) <|
 .o none (.pick 41 (.t 36) (.t 40) (.c (.bool false))) .nil)) <| .cond (.t 41) (.seq (.rg (.o none (.mv 4 (.c (.int .i64 1))) .nil)) <| .ret) (.skip)) <| .seq (.seq (.rg (.o none (.fld 42 0 (.t 2)) <|
 .o none (.ld 43 1 false (.t 42)) <|
 .o none (.bin 44 .neq false (.t 43) (.c (.int .i64 9))) <|
 .o none (.mv 45 (.t 44)) <|
 .o (some (45, true)) (.fld 46 2 (.t 2)) <|
 .o (some (45, true)) (.ld 47 3 true (.t 46)) <|
 .o (some (45, true)) (.call (some 48) false (.c (.fn 50 [] [])) [(.t 47)]) <|
 .o (some (45, true)) (.un 49 .not (.t 48)) <|
 .o none (.pick 50 (.t 45) (.t 49) (.c (.bool false))) .nil)) <| .cond (.t 50) (.seq (.rg (.o none (.mv 4 (.c (.int .i64 1))) .nil)) <| .ret) (.skip)) <| .seq (.rg (.o none (.mv 4 (.c (.int .i64 0))) .nil)) <| .ret⟩
theorem Qwb : Q4 Try.prog Try.f34 = some c34 := by kernel_rfl
def c20 : SFn := ⟨25, [.t 2], .seq (.rg (.o none (.mv 2 (.c .nilS)) .nil)) <| .seq (.rg (.o none (.mv 3 (.c .nilS)) .nil)) <| .seq (.seq (.rg (.o none (.mv 6 (.t 0)) <|
 .o none (.mv 7 (.c (.int .i64 0))) .nil)) <| .block 0 (.loop (.seq (.rg (.o none (.bin 8 .lss false (.t 7) (.t 6)) .nil)) <| .seq (.cond (.t 8) (.skip) (.exit 0)) <| .seq (.block 1 (.seq (.rg (.o none (.mv 9 (.t 7)) <|
 .o none (.mv 4 (.t 9)) .nil)) <| .seq (.rg (.o none (.mv 10 (.t 4)) <|
 .o none (.bin 11 .add false (.t 10) (.c (.int .i64 1))) <|
 .o none (.mv 5 (.t 11)) .nil)) <| .block 2 (.loop (.seq (.seq (.rg (.o none (.mv 12 (.t 5)) <|
 .o none (.mv 13 (.t 0)) <|
 .o none (.bin 14 .lss false (.t 12) (.t 13)) .nil)) <| .cond (.t 14) (.skip) (.exit 2)) <| .seq (.block 3 (.rg (.o none (.mv 17 (.t 3)) <|
 .o none (.mv 18 (.t 4)) <|
 .o none (.mv 19 (.t 5)) <|
 .o none (.bld 20 [(.int .i64 0), (.int .i64 0)] [(0, 1, (.t 18)), (1, 1, (.t 19))]) <|
 .o none (.bs 21 2 47 [(.t 20)]) <|
 .o none (.app 22 2 16 47 (.t 17) (.t 21)) <|
 .o none (.mv 3 (.t 22)) .nil))) <| .rg (.o none (.mv 15 (.t 5)) <|
 .o none (.bin 16 .add false (.t 15) (.c (.int .i64 1))) <|
 .o none (.mv 5 (.t 16)) .nil))))) <| .rg (.o none (.bin 23 .add false (.t 7) (.c (.int .i64 1))) <|
 .o none (.mv 7 (.t 23)) .nil)))) <| .seq (.rg (.o none (.mv 24 (.t 3)) <|
 .o none (.mv 2 (.t 24)) .nil)) <| .ret⟩
theorem Qwc : Q4 Try.prog Try.f20 = some c20 := by kernel_rfl
def c11 : SFn := ⟨31, [.t 4], .seq (.rg (.o none (.box 2 2 47 (.t 0)) <|
 .o none (.box 3 2 47 (.t 1)) <|
 .o none (.mv 4 (.c (.bool false))) .nil)) <| .seq (.rg (.o none (.fld 5 0 (.t 2)) <|
 .o none (.ld 6 1 false (.t 5)) <|
 .o none (.fld 7 0 (.t 3)) <|
 .o none (.ld 8 1 false (.t 7)) <|
 .o none (.bin 9 .neq false (.t 6) (.t 8)) <|
 .o none (.mv 10 (.t 9)) <|
 .o (some (10, true)) (.fld 11 0 (.t 2)) <|
 .o (some (10, true)) (.ld 12 1 false (.t 11)) <|
 .o (some (10, true)) (.fld 13 1 (.t 3)) <|
 .o (some (10, true)) (.ld 14 1 false (.t 13)) <|
 .o (some (10, true)) (.bin 15 .neq false (.t 12) (.t 14)) <|
 .o none (.pick 16 (.t 10) (.t 15) (.c (.bool false))) <|
 .o none (.mv 17 (.t 16)) <|
 .o (some (17, true)) (.fld 18 1 (.t 2)) <|
 .o (some (17, true)) (.ld 19 1 false (.t 18)) <|
 .o (some (17, true)) (.fld 20 0 (.t 3)) <|
 .o (some (17, true)) (.ld 21 1 false (.t 20)) <|
 .o (some (17, true)) (.bin 22 .neq false (.t 19) (.t 21)) <|
 .o none (.pick 23 (.t 17) (.t 22) (.c (.bool false))) <|
 .o none (.mv 24 (.t 23)) <|
 .o (some (24, true)) (.fld 25 1 (.t 2)) <|
 .o (some (24, true)) (.ld 26 1 false (.t 25)) <|
 .o (some (24, true)) (.fld 27 1 (.t 3)) <|
 .o (some (24, true)) (.ld 28 1 false (.t 27)) <|
 .o (some (24, true)) (.bin 29 .neq false (.t 26) (.t 28)) <|
 .o none (.pick 30 (.t 24) (.t 29) (.c (.bool false))) <|
 .o none (.mv 4 (.t 30)) .nil)) <| .ret⟩
theorem Qwd : Q4 Try.prog Try.f11 = some c11 := by kernel_rfl
def c12 : SFn := ⟨17, [.t 4], .seq (.rg (.o none (.box 2 2 47 (.t 0)) <|
 .o none (.box 3 2 47 (.t 1)) <|
 .o none (.mv 4 (.c (.bool false))) .nil)) <| .seq (.rg (.o none (.fld 5 0 (.t 2)) <|
 .o none (.ld 6 1 false (.t 5)) <|
 .o none (.fld 7 0 (.t 3)) <|
 .o none (.ld 8 1 false (.t 7)) <|
 .o none (.bin 9 .neq false (.t 6) (.t 8)) <|
 .o none (.mv 10 (.t 9)) <|
 .o (some (10, false)) (.fld 11 1 (.t 2)) <|
 .o (some (10, false)) (.ld 12 1 false (.t 11)) <|
 .o (some (10, false)) (.fld 13 1 (.t 3)) <|
 .o (some (10, false)) (.ld 14 1 false (.t 13)) <|
 .o (some (10, false)) (.bin 15 .neq false (.t 12) (.t 14)) <|
 .o none (.pick 16 (.t 10) (.c (.bool true)) (.t 15)) <|
 .o none (.mv 4 (.t 16)) .nil)) <| .ret⟩
theorem Qwe : Q4 Try.prog Try.f12 = some c12 := by kernel_rfl
def c14 : SFn := ⟨10, [.cell 4 5 true], .seq (.rg (.o none (.alloc 4 5 38 (.agg [(.int .i64 0), .nilS, (.bool false), .nilS, .nilS])) .nil)) <| .seq (.rg (.o none (.mv 5 (.t 0)) <|
 .o none (.bs 6 1 3 []) <|
 .o none (.mv 7 (.t 1)) <|
 .o none (.app 8 1 8 3 (.t 6) (.t 7)) <|
 .o none (.bld 9 [(.int .i64 0), .nilS, (.bool false), .nilS, .nilS] [(0, 1, (.t 5)), (1, 1, (.t 8))]) <|
 .o none (.st 5 (.t 4) (.t 9)) .nil)) <| .ret⟩
theorem Qwf : Q4 Try.prog Try.f14 = some c14 := by kernel_rfl
def c16 : SFn := ⟨25, [.t 2], .seq (.rg (.o none (.mv 2 (.c .nilS)) .nil)) <| .seq (.rg (.o none (.mv 3 (.c .nilS)) .nil)) <| .seq (.seq (.rg (.o none (.mv 4 (.c (.int .i64 0))) .nil)) <| .block 0 (.loop (.seq (.seq (.rg (.o none (.mv 6 (.t 4)) <|
 .o none (.mv 7 (.t 0)) <|
 .o none (.bin 8 .lss false (.t 6) (.t 7)) .nil)) <| .cond (.t 8) (.skip) (.exit 0)) <| .seq (.block 1 (.seq (.rg (.o none (.mv 11 (.t 4)) <|
 .o none (.bin 12 .add false (.t 11) (.c (.int .i64 1))) <|
 .o none (.mv 5 (.t 12)) .nil)) <| .block 2 (.loop (.seq (.seq (.rg (.o none (.mv 13 (.t 5)) <|
 .o none (.mv 14 (.t 0)) <|
 .o none (.bin 15 .lss false (.t 13) (.t 14)) .nil)) <| .cond (.t 15) (.skip) (.exit 2)) <| .seq (.block 3 (.rg (.o none (.mv 18 (.t 3)) <|
 .o none (.mv 19 (.t 4)) <|
 .o none (.mv 20 (.t 5)) <|
 .o none (.bld 21 [(.int .i64 0), (.int .i64 0)] [(0, 1, (.t 19)), (1, 1, (.t 20))]) <|
 .o none (.bs 22 2 54 [(.t 21)]) <|
 .o none (.app 23 2 16 54 (.t 18) (.t 22)) <|
 .o none (.mv 3 (.t 23)) .nil))) <| .rg (.o none (.mv 16 (.t 5)) <|
 .o none (.bin 17 .add false (.t 16) (.c (.int .i64 1))) <|
 .o none (.mv 5 (.t 17)) .nil))))) <| .rg (.o none (.mv 9 (.t 4)) <|
 .o none (.bin 10 .add false (.t 9) (.c (.int .i64 1))) <|
 .o none (.mv 4 (.t 10)) .nil)))) <| .seq (.rg (.o none (.mv 24 (.t 3)) <|
 .o none (.mv 2 (.t 24)) .nil)) <| .ret⟩
theorem Qwg : Q4 Try.prog Try.f16 = some c16 := by kernel_rfl
def c15 : SFn := ⟨59, [.t 4], .seq (.rg (.o none (.mv 4 (.c .nilS)) .nil)) <| .seq (.rg (.o none (.mv 5 (.c .nilS)) .nil)) <| .seq (.rg (.o none (.mv 10 (.t 1)) <|
 .o none (.call (some 11) false (.c (.fn 16 [] [])) [(.t 10)]) <|
 .o none (.mv 6 (.t 11)) .nil)) <| .seq (.seq (.rg (.o none (.mv 7 (.c (.int .i64 0))) .nil)) <| .block 0 (.loop (.seq (.seq (.rg (.o none (.mv 12 (.t 7)) <|
 .o none (.mv 13 (.t 6)) <|
 .o none (.len 14 (.t 13)) <|
 .o none (.bin 15 .lss false (.t 12) (.t 14)) .nil)) <| .cond (.t 15) (.skip) (.exit 0)) <| .seq (.block 1 (.seq (.rg (.o none (.mv 18 (.t 7)) <|
 .o none (.bin 19 .add false (.t 18) (.c (.int .i64 1))) <|
 .o none (.mv 8 (.t 19)) .nil)) <| .block 2 (.loop (.seq (.seq (.rg (.o none (.mv 20 (.t 8)) <|
 .o none (.mv 21 (.t 6)) <|
 .o none (.len 22 (.t 21)) <|
 .o none (.bin 23 .lss false (.t 20) (.t 22)) .nil)) <| .cond (.t 23) (.skip) (.exit 2)) <| .seq (.block 3 (.seq (.rg (.o none (.mv 26 (.t 0)) <|
 .o none (.mv 27 (.t 6)) <|
 .o none (.mv 28 (.t 7)) <|
 .o none (.idx 29 2 (.t 27) (.t 28)) <|
 .o none (.idxA 30 2 1 (.t 29) (.c (.int .i64 0))) <|
 .o none (.ld 31 1 false (.t 30)) <|
 .o none (.mv 32 (.t 6)) <|
 .o none (.mv 33 (.t 7)) <|
 .o none (.idx 34 2 (.t 32) (.t 33)) <|
 .o none (.idxA 35 2 1 (.t 34) (.c (.int .i64 1))) <|
 .o none (.ld 36 1 false (.t 35)) <|
 .o none (.mv 37 (.t 6)) <|
 .o none (.mv 38 (.t 8)) <|
 .o none (.idx 39 2 (.t 37) (.t 38)) <|
 .o none (.idxA 40 2 1 (.t 39) (.c (.int .i64 0))) <|
 .o none (.ld 41 1 false (.t 40)) <|
 .o none (.mv 42 (.t 6)) <|
 .o none (.mv 43 (.t 8)) <|
 .o none (.idx 44 2 (.t 42) (.t 43)) <|
 .o none (.idxA 45 2 1 (.t 44) (.c (.int .i64 1))) <|
 .o none (.ld 46 1 false (.t 45)) <|
 .br (.o none (.bs 47 1 3 [(.t 31), (.t 36), (.t 41), (.t 46)]) <|
 .br (.o none (.call (some 48) true (.c (.fn 14 [] [])) [(.t 26), (.t 47)]) <|
 .br (.o none (.call (some 49) true (.c (.fn 22 [] [])) [(.t 48)]) <|
 .o none (.alloc 9 5 38 (.agg [(.int .i64 0), .nilS, (.bool false), .nilS, .nilS])) <|
 .o none (.st 5 (.t 9) (.t 49)) .nil) (.o none (.alloc 9 5 38 (.agg [(.int .i64 0), .nilS, (.bool false), .nilS, .nilS])) <|
 .o none (.call (some 49) true (.c (.fn 22 [] [])) [(.t 48)]) <|
 .o none (.st 5 (.t 9) (.t 49)) .nil)) (.o none (.alloc 9 5 38 (.agg [(.int .i64 0), .nilS, (.bool false), .nilS, .nilS])) <|
 .o none (.call (some 48) true (.c (.fn 14 [] [])) [(.t 26), (.t 47)]) <|
 .o none (.call (some 49) true (.c (.fn 22 [] [])) [(.t 48)]) <|
 .o none (.st 5 (.t 9) (.t 49)) .nil)) (.o none (.alloc 9 5 38 (.agg [(.int .i64 0), .nilS, (.bool false), .nilS, .nilS])) <|
 .o none (.bs 47 1 3 [(.t 31), (.t 36), (.t 41), (.t 46)]) <|
 .o none (.call (some 48) true (.c (.fn 14 [] [])) [(.t 26), (.t 47)]) <|
 .o none (.call (some 49) true (.c (.fn 22 [] [])) [(.t 48)]) <|
 .o none (.st 5 (.t 9) (.t 49)) .nil))) <| .seq (.rg (.o none (.fld 50 0 (.t 9)) <|
 .o none (.ld 51 1 false (.t 50)) <|
 .o none (.mv 52 (.t 0)) <|
 .o none (.bin 53 .eql false (.t 51) (.t 52)) .nil)) <| .cond (.t 53) (.rg (.o none (.mv 54 (.t 5)) <|
 .o none (.ld 55 5 true (.t 9)) <|
 .o none (.bs 56 5 38 [(.t 55)]) <|
 .o none (.app 57 5 88 38 (.t 54) (.t 56)) <|
 .o none (.mv 5 (.t 57)) .nil)) (.skip))) <| .rg (.o none (.mv 24 (.t 8)) <|
 .o none (.bin 25 .add false (.t 24) (.c (.int .i64 1))) <|
 .o none (.mv 8 (.t 25)) .nil))))) <| .rg (.o none (.mv 16 (.t 7)) <|
 .o none (.bin 17 .add false (.t 16) (.c (.int .i64 1))) <|
 .o none (.mv 7 (.t 17)) .nil)))) <| .seq (.rg (.o none (.mv 58 (.t 5)) <|
 .o none (.mv 4 (.t 58)) .nil)) <| .ret⟩
theorem Qwh : Q4 Try.prog Try.f15 = some c15 := by kernel_rfl
def c6 : SFn := ⟨170, [.t 2, .t 3], .seq (.rg (.o none (.mv 2 (.c .nilS)) <|
 .o none (.mv 3 (.c (.int .i64 0))) .nil)) <| .seq (.seq (.rg (.o none (.mv 15 (.t 0)) <|
 .o none (.bin 16 .lss false (.t 15) (.c (.int .i64 0))) <|
 .o none (.mv 17 (.t 16)) <|
 .o (some (17, false)) (.mv 18 (.t 0)) <|
 .o (some (17, false)) (.bin 19 .gtr false (.t 18) (.c (.int .i64 40))) <|
 .o none (.pick 20 (.t 17) (.c (.bool true)) (.t 19)) .nil)) <| .cond (.t 20) (.seq (.rg (.o none (.mv 2 (.c .nilS)) <|
 .o none (.mv 3 (.c (.int .i64 2))) .nil)) <| .ret) (.skip)) <| .seq (.seq (.rg (.o none (.mv 21 (.t 0)) <|
 .o none (.bin 22 .gtr false (.t 21) (.c (.int .i64 10))) .nil)) <| .cond (.t 22) (.seq (.rg (.o none (.mv 2 (.c .nilS)) <|
 .o none (.mv 3 (.c (.int .i64 4))) .nil)) <| .ret) (.skip)) <| .seq (.rg (.o none (.mv 4 (.c .nilS)) .nil)) <| .seq (.seq (.rg (.o none (.mv 5 (.c (.int .i64 0))) .nil)) <| .block 0 (.loop (.seq (.seq (.rg (.o none (.mv 23 (.t 5)) <|
 .o none (.mv 24 (.t 0)) <|
 .o none (.bin 25 .lss false (.t 23) (.t 24)) .nil)) <| .cond (.t 25) (.skip) (.exit 0)) <| .seq (.block 1 (.seq (.rg (.o none (.mv 28 (.t 5)) <|
 .o none (.bin 29 .add false (.t 28) (.c (.int .i64 1))) <|
 .o none (.mv 6 (.t 29)) .nil)) <| .block 2 (.loop (.seq (.seq (.rg (.o none (.mv 30 (.t 6)) <|
 .o none (.mv 31 (.t 0)) <|
 .o none (.bin 32 .lss false (.t 30) (.t 31)) .nil)) <| .cond (.t 32) (.skip) (.exit 2)) <| .seq (.block 3 (.seq (.rg (.o none (.mv 35 (.t 6)) <|
 .o none (.bin 36 .add false (.t 35) (.c (.int .i64 1))) <|
 .o none (.mv 7 (.t 36)) .nil)) <| .block 4 (.loop (.seq (.seq (.rg (.o none (.mv 37 (.t 7)) <|
 .o none (.mv 38 (.t 0)) <|
 .o none (.bin 39 .lss false (.t 37) (.t 38)) .nil)) <| .cond (.t 39) (.skip) (.exit 4)) <| .seq (.block 5 (.rg (.o none (.mv 42 (.t 4)) <|
 .o none (.mv 43 (.t 5)) <|
 .o none (.mv 44 (.t 6)) <|
 .o none (.mv 45 (.t 7)) <|
 .o none (.bs 46 1 3 [(.t 43), (.t 44), (.t 45)]) <|
 .o none (.call (some 47) false (.c (.fn 14 [] [])) [(.c (.int .i64 1)), (.t 46)]) <|
 .o none (.bs 48 5 38 [(.t 47)]) <|
 .o none (.app 49 5 88 38 (.t 42) (.t 48)) <|
 .o none (.mv 4 (.t 49)) .nil))) <| .rg (.o none (.mv 40 (.t 7)) <|
 .o none (.bin 41 .add false (.t 40) (.c (.int .i64 1))) <|
 .o none (.mv 7 (.t 41)) .nil))))) <| .rg (.o none (.mv 33 (.t 6)) <|
 .o none (.bin 34 .add false (.t 33) (.c (.int .i64 1))) <|
 .o none (.mv 6 (.t 34)) .nil))))) <| .rg (.o none (.mv 26 (.t 5)) <|
 .o none (.bin 27 .add false (.t 26) (.c (.int .i64 1))) <|
 .o none (.mv 5 (.t 27)) .nil)))) <| .seq (.rg (.o none (.mv 50 (.t 4)) <|
 .o none (.mv 51 (.t 0)) <|
 .o none (.call (some 52) false (.c (.fn 15 [] [])) [(.c (.int .i64 2)), (.t 51)]) <|
 .o none (.app 53 5 88 38 (.t 50) (.t 52)) <|
 .o none (.mv 4 (.t 53)) .nil)) <| .seq (.rg (.o none (.mv 54 (.t 4)) <|
 .o none (.mv 55 (.t 0)) <|
 .o none (.call (some 56) false (.c (.fn 15 [] [])) [(.c (.int .i64 3)), (.t 55)]) <|
 .o none (.app 57 5 88 38 (.t 54) (.t 56)) <|
 .o none (.mv 4 (.t 57)) .nil)) <| .seq (.rg (.o none (.mv 58 (.t 4)) <|
 .o none (.mv 59 (.t 0)) <|
 .o none (.call (some 60) false (.c (.fn 15 [] [])) [(.c (.int .i64 4)), (.t 59)]) <|
 .o none (.app 61 5 88 38 (.t 58) (.t 60)) <|
 .o none (.mv 4 (.t 61)) .nil)) <| .seq (.rg (.o none (.mv 62 (.t 0)) <|
 .o none (.call (some 63) false (.c (.fn 16 [] [])) [(.t 62)]) <|
 .o none (.mv 8 (.t 63)) .nil)) <| .seq (.seq (.rg (.o none (.mv 9 (.c (.int .i64 0))) .nil)) <| .block 6 (.loop (.seq (.seq (.rg (.o none (.mv 64 (.t 9)) <|
 .o none (.mv 65 (.t 0)) <|
 .o none (.bin 66 .lss false (.t 64) (.t 65)) .nil)) <| .cond (.t 66) (.skip) (.exit 6)) <| .seq (.block 7 (.seq (.rg (.o none (.mv 10 (.c (.int .i64 0))) .nil)) <| .block 8 (.loop (.seq (.seq (.rg (.o none (.mv 69 (.t 10)) <|
 .o none (.mv 70 (.t 8)) <|
 .o none (.len 71 (.t 70)) <|
 .o none (.bin 72 .lss false (.t 69) (.t 71)) .nil)) <| .cond (.t 72) (.skip) (.exit 8)) <| .seq (.block 9 (.seq (.rg (.o none (.mv 75 (.t 9)) <|
 .o none (.mv 76 (.t 8)) <|
 .o none (.mv 77 (.t 10)) <|
 .o none (.idx 78 2 (.t 76) (.t 77)) <|
 .o none (.idxA 79 2 1 (.t 78) (.c (.int .i64 0))) <|
 .o none (.ld 80 1 false (.t 79)) <|
 .o none (.bin 81 .neq false (.t 75) (.t 80)) <|
 .o none (.mv 82 (.t 81)) <|
 .o (some (82, true)) (.mv 83 (.t 9)) <|
 .o (some (82, true)) (.mv 84 (.t 8)) <|
 .o (some (82, true)) (.mv 85 (.t 10)) <|
 .o (some (82, true)) (.idx 86 2 (.t 84) (.t 85)) <|
 .o (some (82, true)) (.idxA 87 2 1 (.t 86) (.c (.int .i64 1))) <|
 .o (some (82, true)) (.ld 88 1 false (.t 87)) <|
 .o (some (82, true)) (.bin 89 .neq false (.t 83) (.t 88)) <|
 .o none (.pick 90 (.t 82) (.t 89) (.c (.bool false))) .nil)) <| .cond (.t 90) (.rg (.o none (.mv 91 (.t 4)) <|
 .o none (.mv 92 (.t 9)) <|
 .o none (.mv 93 (.t 8)) <|
 .o none (.mv 94 (.t 10)) <|
 .o none (.idx 95 2 (.t 93) (.t 94)) <|
 .o none (.idxA 96 2 1 (.t 95) (.c (.int .i64 0))) <|
 .o none (.ld 97 1 false (.t 96)) <|
 .o none (.mv 98 (.t 8)) <|
 .o none (.mv 99 (.t 10)) <|
 .o none (.idx 100 2 (.t 98) (.t 99)) <|
 .o none (.idxA 101 2 1 (.t 100) (.c (.int .i64 1))) <|
 .o none (.ld 102 1 false (.t 101)) <|
 .o none (.bs 103 1 3 [(.t 92), (.t 97), (.t 102)]) <|
 .o none (.call (some 104) false (.c (.fn 14 [] [])) [(.c (.int .i64 5)), (.t 103)]) <|
 .o none (.bs 105 5 38 [(.t 104)]) <|
 .o none (.app 106 5 88 38 (.t 91) (.t 105)) <|
 .o none (.mv 4 (.t 106)) .nil)) (.skip))) <| .rg (.o none (.mv 73 (.t 10)) <|
 .o none (.bin 74 .add false (.t 73) (.c (.int .i64 1))) <|
 .o none (.mv 10 (.t 74)) .nil))))) <| .rg (.o none (.mv 67 (.t 9)) <|
 .o none (.bin 68 .add false (.t 67) (.c (.int .i64 1))) <|
 .o none (.mv 9 (.t 68)) .nil)))) <| .seq (.seq (.rg (.o none (.mv 11 (.c (.int .i64 0))) .nil)) <| .block 10 (.loop (.seq (.seq (.rg (.o none (.mv 107 (.t 11)) <|
 .o none (.mv 108 (.t 8)) <|
 .o none (.len 109 (.t 108)) <|
 .o none (.bin 110 .lss false (.t 107) (.t 109)) .nil)) <| .cond (.t 110) (.skip) (.exit 10)) <| .seq (.block 11 (.seq (.rg (.o none (.mv 113 (.t 8)) <|
 .o none (.mv 114 (.t 11)) <|
 .o none (.idx 115 2 (.t 113) (.t 114)) <|
 .o none (.idxA 116 2 1 (.t 115) (.c (.int .i64 1))) <|
 .o none (.ld 117 1 false (.t 116)) <|
 .o none (.bin 118 .add false (.t 117) (.c (.int .i64 1))) <|
 .o none (.mv 12 (.t 118)) .nil)) <| .block 12 (.loop (.seq (.seq (.rg (.o none (.mv 119 (.t 12)) <|
 .o none (.mv 120 (.t 0)) <|
 .o none (.bin 121 .lss false (.t 119) (.t 120)) .nil)) <| .cond (.t 121) (.skip) (.exit 12)) <| .seq (.block 13 (.seq (.rg (.o none (.mv 124 (.t 12)) <|
 .o none (.bin 125 .add false (.t 124) (.c (.int .i64 1))) <|
 .o none (.mv 13 (.t 125)) .nil)) <| .block 14 (.loop (.seq (.seq (.rg (.o none (.mv 126 (.t 13)) <|
 .o none (.mv 127 (.t 0)) <|
 .o none (.bin 128 .lss false (.t 126) (.t 127)) .nil)) <| .cond (.t 128) (.skip) (.exit 14)) <| .seq (.block 15 (.rg (.o none (.mv 131 (.t 4)) <|
 .o none (.mv 132 (.t 8)) <|
 .o none (.mv 133 (.t 11)) <|
 .o none (.idx 134 2 (.t 132) (.t 133)) <|
 .o none (.idxA 135 2 1 (.t 134) (.c (.int .i64 0))) <|
 .o none (.ld 136 1 false (.t 135)) <|
 .o none (.mv 137 (.t 8)) <|
 .o none (.mv 138 (.t 11)) <|
 .o none (.idx 139 2 (.t 137) (.t 138)) <|
 .o none (.idxA 140 2 1 (.t 139) (.c (.int .i64 1))) <|
 .o none (.ld 141 1 false (.t 140)) <|
 .o none (.mv 142 (.t 12)) <|
 .o none (.mv 143 (.t 13)) <|
 .o none (.bs 144 1 3 [(.t 136), (.t 141), (.t 142), (.t 143)]) <|
 .o none (.call (some 145) false (.c (.fn 14 [] [])) [(.c (.int .i64 6)), (.t 144)]) <|
 .o none (.bs 146 5 38 [(.t 145)]) <|
 .o none (.app 147 5 88 38 (.t 131) (.t 146)) <|
 .o none (.mv 4 (.t 147)) .nil))) <| .rg (.o none (.mv 129 (.t 13)) <|
 .o none (.bin 130 .add false (.t 129) (.c (.int .i64 1))) <|
 .o none (.mv 13 (.t 130)) .nil))))) <| .rg (.o none (.mv 122 (.t 12)) <|
 .o none (.bin 123 .add false (.t 122) (.c (.int .i64 1))) <|
 .o none (.mv 12 (.t 123)) .nil))))) <| .rg (.o none (.mv 111 (.t 11)) <|
 .o none (.bin 112 .add false (.t 111) (.c (.int .i64 1))) <|
 .o none (.mv 11 (.t 112)) .nil)))) <| .seq (.seq (.rg (.o none (.mv 14 (.c (.int .i64 0))) .nil)) <| .block 16 (.loop (.seq (.seq (.rg (.o none (.mv 148 (.t 14)) <|
 .o none (.mv 149 (.t 8)) <|
 .o none (.len 150 (.t 149)) <|
 .o none (.bin 151 .lss false (.t 148) (.t 150)) .nil)) <| .cond (.t 151) (.skip) (.exit 16)) <| .seq (.block 17 (.rg (.o none (.mv 154 (.t 4)) <|
 .o none (.mv 155 (.t 8)) <|
 .o none (.mv 156 (.t 14)) <|
 .o none (.idx 157 2 (.t 155) (.t 156)) <|
 .o none (.idxA 158 2 1 (.t 157) (.c (.int .i64 0))) <|
 .o none (.ld 159 1 false (.t 158)) <|
 .o none (.mv 160 (.t 8)) <|
 .o none (.mv 161 (.t 14)) <|
 .o none (.idx 162 2 (.t 160) (.t 161)) <|
 .o none (.idxA 163 2 1 (.t 162) (.c (.int .i64 1))) <|
 .o none (.ld 164 1 false (.t 163)) <|
 .o none (.bs 165 1 3 [(.t 159), (.t 164)]) <|
 .o none (.call (some 166) false (.c (.fn 14 [] [])) [(.c (.int .i64 8)), (.t 165)]) <|
 .o none (.bs 167 5 38 [(.t 166)]) <|
 .o none (.app 168 5 88 38 (.t 154) (.t 167)) <|
 .o none (.mv 4 (.t 168)) .nil))) <| .rg (.o none (.mv 152 (.t 14)) <|
 .o none (.bin 153 .add false (.t 152) (.c (.int .i64 1))) <|
 .o none (.mv 14 (.t 153)) .nil)))) <| .seq (.rg (.o none (.mv 169 (.t 4)) <|
 .o none (.mv 2 (.t 169)) <|
 .o none (.mv 3 (.c (.int .i64 0))) .nil)) <| .ret⟩
theorem Qm7 : Q4 Try.prog Try.f6 = some c6 := by kernel_rfl
def c27 : SFn := ⟨12, [.cell 4 2 true], .seq (.rg (.o none (.alloc 4 2 65 (.agg [(.int .i64 0), (.int .i64 0)])) .nil)) <| .seq (.rg (.o none (.mv 5 (.t 0)) <|
 .o none (.mv 6 (.t 1)) <|
 .o none (.mn 7 (.t 5) (.t 6)) <|
 .o none (.mv 8 (.t 0)) <|
 .o none (.mv 9 (.t 1)) <|
 .o none (.mx 10 (.t 8) (.t 9)) <|
 .o none (.bld 11 [(.int .i64 0), (.int .i64 0)] [(0, 1, (.t 7)), (1, 1, (.t 10))]) <|
 .o none (.st 2 (.t 4) (.t 11)) .nil)) <| .ret⟩
theorem Qwi : Q4 Try.prog Try.f27 = some c27 := by kernel_rfl
def c35 : SFn := ⟨24, [.t 4], .seq (.rg (.o none (.box 2 2 65 (.t 0)) <|
 .o none (.box 3 2 65 (.t 1)) <|
 .o none (.mv 4 (.c (.bool false))) .nil)) <| .seq (.rg (.o none (.fld 5 0 (.t 2)) <|
 .o none (.ld 6 1 false (.t 5)) <|
 .o none (.fld 7 0 (.t 3)) <|
 .o none (.ld 8 1 false (.t 7)) <|
 .o none (.bin 9 .lss false (.t 6) (.t 8)) <|
 .o none (.mv 10 (.t 9)) <|
 .o (some (10, false)) (.fld 11 0 (.t 2)) <|
 .o (some (10, false)) (.ld 12 1 false (.t 11)) <|
 .o (some (10, false)) (.fld 13 0 (.t 3)) <|
 .o (some (10, false)) (.ld 14 1 false (.t 13)) <|
 .o (some (10, false)) (.bin 15 .eql false (.t 12) (.t 14)) <|
 .o (some (10, false)) (.mv 16 (.t 15)) <|
 .o (some (16, true)) (.fld 17 1 (.t 2)) <|
 .o (some (16, true)) (.ld 18 1 false (.t 17)) <|
 .o (some (16, true)) (.fld 19 1 (.t 3)) <|
 .o (some (16, true)) (.ld 20 1 false (.t 19)) <|
 .o (some (16, true)) (.bin 21 .lss false (.t 18) (.t 20)) <|
 .o (some (10, false)) (.pick 22 (.t 16) (.t 21) (.c (.bool false))) <|
 .o none (.pick 23 (.t 10) (.c (.bool true)) (.t 22)) <|
 .o none (.mv 4 (.t 23)) .nil)) <| .ret⟩
theorem Qwj : Q4 Try.prog Try.f35 = some c35 := by kernel_rfl
def c36 : SFn := ⟨25, [.t 2], .seq (.rg (.o none (.mv 2 (.c .nilS)) .nil)) <| .seq (.rg (.o none (.mv 3 (.c .nilS)) .nil)) <| .seq (.seq (.rg (.o none (.mv 4 (.c (.int .i64 0))) .nil)) <| .block 0 (.loop (.seq (.seq (.rg (.o none (.mv 5 (.t 4)) <|
 .o none (.mv 6 (.t 0)) <|
 .o none (.len 7 (.t 6)) <|
 .o none (.bin 8 .lss false (.t 5) (.t 7)) .nil)) <| .cond (.t 8) (.skip) (.exit 0)) <| .seq (.block 1 (.rg (.o none (.mv 11 (.t 3)) <|
 .o none (.mv 12 (.t 0)) <|
 .o none (.mv 13 (.t 4)) <|
 .o none (.idx 14 2 (.t 12) (.t 13)) <|
 .o none (.fld 15 0 (.t 14)) <|
 .o none (.ld 16 1 false (.t 15)) <|
 .o none (.mv 17 (.t 0)) <|
 .o none (.mv 18 (.t 4)) <|
 .o none (.idx 19 2 (.t 17) (.t 18)) <|
 .o none (.fld 20 1 (.t 19)) <|
 .o none (.ld 21 1 false (.t 20)) <|
 .o none (.bs 22 1 3 [(.t 16), (.t 21)]) <|
 .o none (.app 23 1 8 3 (.t 11) (.t 22)) <|
 .o none (.mv 3 (.t 23)) .nil))) <| .rg (.o none (.mv 9 (.t 4)) <|
 .o none (.bin 10 .add false (.t 9) (.c (.int .i64 1))) <|
 .o none (.mv 4 (.t 10)) .nil)))) <| .seq (.rg (.o none (.mv 24 (.t 3)) <|
 .o none (.mv 2 (.t 24)) .nil)) <| .ret⟩
theorem Qwk : Q4 Try.prog Try.f36 = some c36 := by kernel_rfl
def c37 : SFn := ⟨34, [.t 4, .t 5], .seq (.rg (.o none (.box 2 2 65 (.t 0)) <|
 .o none (.box 3 2 65 (.t 1)) <|
 .o none (.mv 4 (.c (.int .i64 0))) <|
 .o none (.mv 5 (.c (.bool false))) .nil)) <| .seq (.seq (.rg (.o none (.fld 6 0 (.t 2)) <|
 .o none (.ld 7 1 false (.t 6)) <|
 .o none (.fld 8 0 (.t 3)) <|
 .o none (.ld 9 1 false (.t 8)) <|
 .o none (.bin 10 .eql false (.t 7) (.t 9)) <|
 .o none (.mv 11 (.t 10)) <|
 .o (some (11, false)) (.fld 12 0 (.t 2)) <|
 .o (some (11, false)) (.ld 13 1 false (.t 12)) <|
 .o (some (11, false)) (.fld 14 1 (.t 3)) <|
 .o (some (11, false)) (.ld 15 1 false (.t 14)) <|
 .o (some (11, false)) (.bin 16 .eql false (.t 13) (.t 15)) <|
 .o none (.pick 17 (.t 11) (.c (.bool true)) (.t 16)) .nil)) <| .cond (.t 17) (.seq (.rg (.o none (.fld 18 0 (.t 2)) <|
 .o none (.ld 19 1 false (.t 18)) <|
 .o none (.mv 4 (.t 19)) <|
 .o none (.mv 5 (.c (.bool true))) .nil)) <| .ret) (.skip)) <| .seq (.seq (.rg (.o none (.fld 20 1 (.t 2)) <|
 .o none (.ld 21 1 false (.t 20)) <|
 .o none (.fld 22 0 (.t 3)) <|
 .o none (.ld 23 1 false (.t 22)) <|
 .o none (.bin 24 .eql false (.t 21) (.t 23)) <|
 .o none (.mv 25 (.t 24)) <|
 .o (some (25, false)) (.fld 26 1 (.t 2)) <|
 .o (some (25, false)) (.ld 27 1 false (.t 26)) <|
 .o (some (25, false)) (.fld 28 1 (.t 3)) <|
 .o (some (25, false)) (.ld 29 1 false (.t 28)) <|
 .o (some (25, false)) (.bin 30 .eql false (.t 27) (.t 29)) <|
 .o none (.pick 31 (.t 25) (.c (.bool true)) (.t 30)) .nil)) <| .cond (.t 31) (.seq (.rg (.o none (.fld 32 1 (.t 2)) <|
 .o none (.ld 33 1 false (.t 32)) <|
 .o none (.mv 4 (.t 33)) <|
 .o none (.mv 5 (.c (.bool true))) .nil)) <| .ret) (.skip)) <| .seq (.rg (.o none (.mv 4 (.c (.int .i64 0))) <|
 .o none (.mv 5 (.c (.bool false))) .nil)) <| .ret⟩
theorem Qwl : Q4 Try.prog Try.f37 = some c37 := by kernel_rfl
def c29 : SFn := ⟨104, [.cell 6 5 true], .seq (.rg (.o none (.box 3 5 38 (.t 0)) <|
 .o none (.box 4 2 65 (.t 1)) <|
 .o none (.box 5 2 65 (.t 2)) <|
 .o none (.alloc 6 5 38 (.agg [(.int .i64 0), .nilS, (.bool false), .nilS, .nilS])) .nil)) <| .seq (.seq (.rg (.o none (.fld 11 0 (.t 3)) <|
 .o none (.ld 12 1 false (.t 11)) .nil)) <| .block 0 (.seq (.rg (.o none (.bin 14 .eql false (.t 12) (.c (.int .i64 2))) <|
 .o none (.mv 13 (.t 14)) .nil)) <| .cond (.t 13) (.seq (.rg (.o none (.ld 16 2 true (.t 4)) <|
 .o none (.ld 17 2 true (.t 5)) <|
 .o none (.call (some 18) false (.c (.fn 37 [] [])) [(.t 16), (.t 17)]) <|
 .o none (.mv 15 (.t 18)) <|
 .o none (.ext 19 (.t 15) 0) <|
 .o none (.ext 20 (.t 15) 1) <|
 .o none (.mv 7 (.t 19)) <|
 .o none (.mv 8 (.t 20)) .nil)) <| .seq (.rg (.o none (.mv 21 (.t 8)) .nil)) <| .cond (.t 21) (.seq (.rg (.o none (.mv 22 (.t 7)) <|
 .o none (.fld 23 0 (.t 4)) <|
 .o none (.ld 24 1 false (.t 23)) <|
 .o none (.fld 25 1 (.t 4)) <|
 .o none (.ld 26 1 false (.t 25)) <|
 .o none (.bin 27 .add false (.t 24) (.t 26)) <|
 .o none (.mv 28 (.t 7)) <|
 .o none (.bin 29 .sub false (.t 27) (.t 28)) <|
 .o none (.fld 30 0 (.t 5)) <|
 .o none (.ld 31 1 false (.t 30)) <|
 .o none (.fld 32 1 (.t 5)) <|
 .o none (.ld 33 1 false (.t 32)) <|
 .o none (.bin 34 .add false (.t 31) (.t 33)) <|
 .o none (.mv 35 (.t 7)) <|
 .o none (.bin 36 .sub false (.t 34) (.t 35)) <|
 .o none (.bs 37 1 3 [(.t 22), (.t 29), (.t 36)]) <|
 .o none (.call (some 38) false (.c (.fn 26 [] [])) [(.t 37)]) <|
 .o none (.bld 39 [(.int .i64 0), .nilS, (.bool false), .nilS, .nilS] [(0, 1, (.c (.int .i64 1))), (1, 1, (.t 38))]) <|
 .o none (.st 5 (.t 6) (.t 39)) .nil)) <| .ret) (.skip)) (.seq (.rg (.o none (.bin 41 .eql false (.t 12) (.c (.int .i64 9))) <|
 .o none (.mv 40 (.t 41)) .nil)) <| .cond (.t 40) (.seq (.seq (.rg (.o none (.fld 42 2 (.t 3)) <|
 .o none (.ld 43 3 true (.t 42)) <|
 .o none (.call (some 44) true (.c (.fn 39 [] [])) [(.c (.int .i64 1))]) <|
 .o none (.call (some 45) true (.c (.fn 38 [] [])) [(.t 43), (.t 44)]) .nil)) <| .cond (.t 45) (.seq (.rg (.o none (.bld 46 [(.int .i64 0), .nilS, (.bool false), .nilS, .nilS] [(0, 1, (.c (.int .i64 4)))]) <|
 .o none (.ld 47 2 true (.t 4)) <|
 .o none (.ld 48 2 true (.t 5)) <|
 .o none (.call (some 49) false (.c (.fn 29 [] [])) [(.t 46), (.t 47), (.t 48)]) <|
 .o none (.st 5 (.t 6) (.t 49)) .nil)) <| .ret) (.skip)) <| .seq (.seq (.rg (.o none (.ld 50 2 true (.t 5)) <|
 .o none (.ld 51 2 true (.t 4)) <|
 .o none (.call (some 52) false (.c (.fn 35 [] [])) [(.t 50), (.t 51)]) <|
 .o none (.mv 53 (.t 52)) <|
 .o (some (53, true)) (.fld 54 2 (.t 3)) <|
 .o (some (53, true)) (.ld 55 3 true (.t 54)) <|
 .o (some (53, true)) (.call (some 56) false (.c (.fn 40 [] [])) [(.t 55)]) <|
 .o (some (53, true)) (.bin 57 .neq false (.t 56) (.c (.int .i64 0))) <|
 .o none (.pick 58 (.t 53) (.t 57) (.c (.bool false))) .nil)) <| .cond (.t 58) (.seq (.rg (.o none (.fld 61 2 (.t 3)) <|
 .o none (.ld 62 3 true (.t 61)) <|
 .br (.o none (.call (some 60) true (.c (.fn 39 [] [])) [(.c (.int .i64 1))]) <|
 .br (.o none (.call (some 63) true (.c (.fn 41 [] [])) [(.t 60), (.t 62)]) <|
 .o none (.mv 59 (.t 63)) <|
 .o none (.ext 64 (.t 59) 0) <|
 .o none (.ext 65 (.t 59) 1) <|
 .o none (.alloc 9 3 36 (.agg [(.bool false), .nilS, .nilS])) <|
 .o none (.st 3 (.t 9) (.t 64)) <|
 .o none (.mv 10 (.t 65)) .nil) (.o none (.alloc 9 3 36 (.agg [(.bool false), .nilS, .nilS])) <|
 .o none (.call (some 63) true (.c (.fn 41 [] [])) [(.t 60), (.t 62)]) <|
 .o none (.mv 59 (.t 63)) <|
 .o none (.ext 64 (.t 59) 0) <|
 .o none (.ext 65 (.t 59) 1) <|
 .o none (.st 3 (.t 9) (.t 64)) <|
 .o none (.mv 10 (.t 65)) .nil)) (.o none (.alloc 9 3 36 (.agg [(.bool false), .nilS, .nilS])) <|
 .o none (.call (some 60) true (.c (.fn 39 [] [])) [(.c (.int .i64 1))]) <|
 .o none (.call (some 63) true (.c (.fn 41 [] [])) [(.t 60), (.t 62)]) <|
 .o none (.mv 59 (.t 63)) <|
 .o none (.ext 64 (.t 59) 0) <|
 .o none (.ext 65 (.t 59) 1) <|
 .o none (.st 3 (.t 9) (.t 64)) <|
 .o none (.mv 10 (.t 65)) .nil))) <| .seq (.rg (.o none (.fld 66 0 (.t 3)) <|
 .o none (.ld 67 1 false (.t 66)) <|
 .o none (.ld 68 2 true (.t 5)) <|
 .o none (.ld 69 2 true (.t 4)) <|
 .o none (.ld 72 3 true (.t 9)) <|
 .o none (.bs 70 2 65 [(.t 68), (.t 69)]) <|
 .o none (.call (some 71) true (.c (.fn 36 [] [])) [(.t 70)]) <|
 .o none (.bld 73 [(.int .i64 0), .nilS, (.bool false), .nilS, .nilS] [(0, 1, (.t 67)), (1, 1, (.t 71)), (2, 3, (.t 72))]) <|
 .o none (.st 5 (.t 6) (.t 73)) .nil)) <| .ret) (.skip)) <| .seq (.rg (.o none (.fld 74 0 (.t 3)) <|
 .o none (.ld 75 1 false (.t 74)) <|
 .o none (.ld 76 2 true (.t 4)) <|
 .o none (.ld 77 2 true (.t 5)) <|
 .o none (.fld 80 2 (.t 3)) <|
 .o none (.ld 81 3 true (.t 80)) <|
 .o none (.ld 82 2 true (.t 4)) <|
 .o none (.ld 83 2 true (.t 5)) <|
 .o none (.eqs 84 false (.t 82) (.t 83)) <|
 .o none (.bs 78 2 65 [(.t 76), (.t 77)]) <|
 .o none (.call (some 79) true (.c (.fn 36 [] [])) [(.t 78)]) <|
 .o none (.call (some 85) true (.c (.fn 42 [] [])) [(.t 81), (.t 84)]) <|
 .o none (.bld 86 [(.int .i64 0), .nilS, (.bool false), .nilS, .nilS] [(0, 1, (.t 75)), (1, 1, (.t 79)), (2, 3, (.t 85))]) <|
 .o none (.st 5 (.t 6) (.t 86)) .nil)) <| .ret) (.skip)))) <| .seq (.seq (.rg (.o none (.ld 87 2 true (.t 5)) <|
 .o none (.ld 88 2 true (.t 4)) <|
 .o none (.call (some 89) false (.c (.fn 35 [] [])) [(.t 87), (.t 88)]) .nil)) <| .cond (.t 89) (.seq (.rg (.o none (.fld 90 0 (.t 3)) <|
 .o none (.ld 91 1 false (.t 90)) <|
 .o none (.ld 92 2 true (.t 5)) <|
 .o none (.ld 93 2 true (.t 4)) <|
 .o none (.bs 94 2 65 [(.t 92), (.t 93)]) <|
 .o none (.call (some 95) true (.c (.fn 36 [] [])) [(.t 94)]) <|
 .o none (.bld 96 [(.int .i64 0), .nilS, (.bool false), .nilS, .nilS] [(0, 1, (.t 91)), (1, 1, (.t 95))]) <|
 .o none (.st 5 (.t 6) (.t 96)) .nil)) <| .ret) (.skip)) <| .seq (.rg (.o none (.fld 97 0 (.t 3)) <|
 .o none (.ld 98 1 false (.t 97)) <|
 .o none (.ld 99 2 true (.t 4)) <|
 .o none (.ld 100 2 true (.t 5)) <|
 .o none (.bs 101 2 65 [(.t 99), (.t 100)]) <|
 .o none (.call (some 102) true (.c (.fn 36 [] [])) [(.t 101)]) <|
 .o none (.bld 103 [(.int .i64 0), .nilS, (.bool false), .nilS, .nilS] [(0, 1, (.t 98)), (1, 1, (.t 102))]) <|
 .o none (.st 5 (.t 6) (.t 103)) .nil)) <| .ret⟩
theorem Qwm : Q4 Try.prog Try.f29 = some c29 := by kernel_rfl
def c26 : SFn := ⟨46, [.t 2], .seq (.rg (.o none (.mv 2 (.c .nilS)) .nil)) <| .seq (.rg (.o none (.mv 3 (.c .nilS)) .nil)) <| .seq (.seq (.rg (.o none (.mv 4 (.c (.int .i64 0))) .nil)) <| .block 0 (.loop (.seq (.seq (.rg (.o none (.mv 6 (.t 4)) <|
 .o none (.mv 7 (.t 0)) <|
 .o none (.len 8 (.t 7)) <|
 .o none (.bin 9 .lss false (.t 6) (.t 8)) .nil)) <| .cond (.t 9) (.skip) (.exit 0)) <| .seq (.block 1 (.seq (.rg (.o none (.mv 12 (.t 3)) <|
 .o none (.len 13 (.t 12)) <|
 .o none (.mv 5 (.t 13)) .nil)) <| .seq (.block 2 (.loop (.seq (.seq (.rg (.o none (.mv 14 (.t 5)) <|
 .o none (.bin 15 .gtr false (.t 14) (.c (.int .i64 0))) <|
 .o none (.mv 16 (.t 15)) <|
 .o (some (16, true)) (.mv 17 (.t 3)) <|
 .o (some (16, true)) (.mv 18 (.t 5)) <|
 .o (some (16, true)) (.bin 19 .sub false (.t 18) (.c (.int .i64 1))) <|
 .o (some (16, true)) (.idx 20 1 (.t 17) (.t 19)) <|
 .o (some (16, true)) (.ld 21 1 false (.t 20)) <|
 .o (some (16, true)) (.mv 22 (.t 0)) <|
 .o (some (16, true)) (.mv 23 (.t 4)) <|
 .o (some (16, true)) (.idx 24 1 (.t 22) (.t 23)) <|
 .o (some (16, true)) (.ld 25 1 false (.t 24)) <|
 .o (some (16, true)) (.bin 26 .gtr false (.t 21) (.t 25)) <|
 .o none (.pick 27 (.t 16) (.t 26) (.c (.bool false))) .nil)) <| .cond (.t 27) (.skip) (.exit 2)) <| .block 3 (.rg (.o none (.mv 28 (.t 5)) <|
 .o none (.bin 29 .sub false (.t 28) (.c (.int .i64 1))) <|
 .o none (.mv 5 (.t 29)) .nil))))) <| .rg (.o none (.mv 31 (.t 3)) <|
 .o none (.mv 32 (.t 5)) <|
 .o none (.sl 33 1 (.t 31) none (some (.t 32)) none) <|
 .o none (.mv 35 (.t 0)) <|
 .o none (.mv 36 (.t 4)) <|
 .o none (.idx 37 1 (.t 35) (.t 36)) <|
 .o none (.mv 41 (.t 3)) <|
 .o none (.mv 42 (.t 5)) <|
 .o none (.sl 43 1 (.t 41) (some (.t 42)) none none) <|
 .br (.o none (.bs 30 1 3 []) <|
 .br (.o none (.app 34 1 8 3 (.t 30) (.t 33)) <|
 .o none (.ld 38 1 false (.t 37)) <|
 .o none (.bs 39 1 3 [(.t 38)]) <|
 .o none (.app 40 1 8 3 (.t 34) (.t 39)) <|
 .o none (.app 44 1 8 3 (.t 40) (.t 43)) <|
 .o none (.mv 3 (.t 44)) .nil) (.o none (.ld 38 1 false (.t 37)) <|
 .br (.o none (.app 34 1 8 3 (.t 30) (.t 33)) <|
 .o none (.bs 39 1 3 [(.t 38)]) <|
 .o none (.app 40 1 8 3 (.t 34) (.t 39)) <|
 .o none (.app 44 1 8 3 (.t 40) (.t 43)) <|
 .o none (.mv 3 (.t 44)) .nil) (.o none (.bs 39 1 3 [(.t 38)]) <|
 .o none (.app 34 1 8 3 (.t 30) (.t 33)) <|
 .o none (.app 40 1 8 3 (.t 34) (.t 39)) <|
 .o none (.app 44 1 8 3 (.t 40) (.t 43)) <|
 .o none (.mv 3 (.t 44)) .nil))) (.o none (.ld 38 1 false (.t 37)) <|
 .br (.o none (.bs 30 1 3 []) <|
 .br (.o none (.app 34 1 8 3 (.t 30) (.t 33)) <|
 .o none (.bs 39 1 3 [(.t 38)]) <|
 .o none (.app 40 1 8 3 (.t 34) (.t 39)) <|
 .o none (.app 44 1 8 3 (.t 40) (.t 43)) <|
 .o none (.mv 3 (.t 44)) .nil) (.o none (.bs 39 1 3 [(.t 38)]) <|
 .o none (.app 34 1 8 3 (.t 30) (.t 33)) <|
 .o none (.app 40 1 8 3 (.t 34) (.t 39)) <|
 .o none (.app 44 1 8 3 (.t 40) (.t 43)) <|
 .o none (.mv 3 (.t 44)) .nil)) (.o none (.bs 39 1 3 [(.t 38)]) <|
 .o none (.bs 30 1 3 []) <|
 .o none (.app 34 1 8 3 (.t 30) (.t 33)) <|
 .o none (.app 40 1 8 3 (.t 34) (.t 39)) <|
 .o none (.app 44 1 8 3 (.t 40) (.t 43)) <|
 .o none (.mv 3 (.t 44)) .nil))))) <| .rg (.o none (.mv 10 (.t 4)) <|
 .o none (.bin 11 .add false (.t 10) (.c (.int .i64 1))) <|
 .o none (.mv 4 (.t 11)) .nil)))) <| .seq (.rg (.o none (.mv 45 (.t 3)) <|
 .o none (.mv 2 (.t 45)) .nil)) <| .ret⟩
theorem Qwn : Q4 Try.prog Try.f26 = some c26 := by kernel_rfl
def c25 : SFn := ⟨6, [.t 2], .seq (.rg (.o none (.box 1 5 38 (.t 0)) <|
 .o none (.mv 2 (.c (.bool false))) .nil)) <| .seq (.rg (.o none (.ld 3 5 true (.t 1)) <|
 .o none (.call (some 4) false (.c (.fn 34 [] [])) [(.t 3), (.c (.int .i64 40))]) <|
 .o none (.bin 5 .eql false (.t 4) (.c (.int .i64 0))) <|
 .o none (.mv 2 (.t 5)) .nil)) <| .ret⟩
theorem Qwo : Q4 Try.prog Try.f25 = some c25 := by kernel_rfl
def c22 : SFn := ⟨89, [.cell 2 5 true], .seq (.rg (.o none (.box 1 5 38 (.t 0)) <|
 .o none (.alloc 2 5 38 (.agg [(.int .i64 0), .nilS, (.bool false), .nilS, .nilS])) .nil)) <| .seq (.seq (.rg (.o none (.ld 5 5 true (.t 1)) <|
 .o none (.call (some 6) false (.c (.fn 25 [] [])) [(.t 5)]) <|
 .o none (.un 7 .not (.t 6)) .nil)) <| .cond (.t 7) (.seq (.rg (.o none (.bld 8 [(.int .i64 0), .nilS, (.bool false), .nilS, .nilS] []) <|
 .o none (.st 5 (.t 2) (.t 8)) .nil)) <| .ret) (.skip)) <| .seq (.rg (.o none (.fld 9 1 (.t 1)) <|
 .o none (.ld 10 1 false (.t 9)) <|
 .o none (.mv 3 (.t 10)) .nil)) <| .seq (.seq (.rg (.o none (.fld 11 0 (.t 1)) <|
 .o none (.ld 12 1 false (.t 11)) .nil)) <| .block 0 (.seq (.seq (.rg (.o none (.bin 14 .eql false (.t 12) (.c (.int .i64 1))) <|
 .o none (.mv 13 (.t 14)) .nil)) <| .cond (.t 13) (.skip) (.seq (.rg (.o none (.bin 15 .eql false (.t 12) (.c (.int .i64 6))) <|
 .o none (.mv 13 (.t 15)) .nil)) <| .cond (.t 13) (.skip) (.rg (.o none (.bin 16 .eql false (.t 12) (.c (.int .i64 8))) <|
 .o none (.mv 13 (.t 16)) .nil)))) <| .cond (.t 13) (.seq (.rg (.o none (.fld 17 0 (.t 1)) <|
 .o none (.ld 18 1 false (.t 17)) <|
 .o none (.mv 19 (.t 3)) <|
 .o none (.call (some 20) true (.c (.fn 26 [] [])) [(.t 19)]) <|
 .o none (.bld 21 [(.int .i64 0), .nilS, (.bool false), .nilS, .nilS] [(0, 1, (.t 18)), (1, 1, (.t 20))]) <|
 .o none (.st 5 (.t 2) (.t 21)) .nil)) <| .ret) (.seq (.rg (.o none (.bin 23 .eql false (.t 12) (.c (.int .i64 5))) <|
 .o none (.mv 22 (.t 23)) .nil)) <| .cond (.t 22) (.seq (.rg (.o none (.mv 24 (.t 3)) <|
 .o none (.idx 25 1 (.t 24) (.c (.int .i64 1))) <|
 .o none (.ld 26 1 false (.t 25)) <|
 .o none (.mv 27 (.t 3)) <|
 .o none (.idx 28 1 (.t 27) (.c (.int .i64 2))) <|
 .o none (.ld 29 1 false (.t 28)) <|
 .br (.o none (.call (some 30) true (.c (.fn 27 [] [])) [(.t 26), (.t 29)]) <|
 .o none (.alloc 4 2 65 (.agg [(.int .i64 0), (.int .i64 0)])) <|
 .o none (.st 2 (.t 4) (.t 30)) .nil) (.o none (.alloc 4 2 65 (.agg [(.int .i64 0), (.int .i64 0)])) <|
 .o none (.call (some 30) true (.c (.fn 27 [] [])) [(.t 26), (.t 29)]) <|
 .o none (.st 2 (.t 4) (.t 30)) .nil))) <| .seq (.rg (.o none (.fld 31 0 (.t 1)) <|
 .o none (.ld 32 1 false (.t 31)) <|
 .o none (.mv 33 (.t 3)) <|
 .o none (.idx 34 1 (.t 33) (.c (.int .i64 0))) <|
 .o none (.ld 35 1 false (.t 34)) <|
 .o none (.fld 36 0 (.t 4)) <|
 .o none (.ld 37 1 false (.t 36)) <|
 .o none (.fld 38 1 (.t 4)) <|
 .o none (.ld 39 1 false (.t 38)) <|
 .o none (.bs 40 1 3 [(.t 35), (.t 37), (.t 39)]) <|
 .o none (.bld 41 [(.int .i64 0), .nilS, (.bool false), .nilS, .nilS] [(0, 1, (.t 32)), (1, 1, (.t 40))]) <|
 .o none (.st 5 (.t 2) (.t 41)) .nil)) <| .ret) (.seq (.rg (.o none (.bin 43 .eql false (.t 12) (.c (.int .i64 7))) <|
 .o none (.mv 42 (.t 43)) .nil)) <| .cond (.t 42) (.seq (.rg (.o none (.mv 44 (.t 3)) <|
 .o none (.idx 45 1 (.t 44) (.c (.int .i64 0))) <|
 .o none (.ld 46 1 false (.t 45)) <|
 .o none (.mv 47 (.t 3)) <|
 .o none (.idx 48 1 (.t 47) (.c (.int .i64 1))) <|
 .o none (.ld 49 1 false (.t 48)) <|
 .o none (.mv 51 (.t 3)) <|
 .o none (.idx 52 1 (.t 51) (.c (.int .i64 2))) <|
 .o none (.ld 53 1 false (.t 52)) <|
 .o none (.mv 54 (.t 3)) <|
 .o none (.idx 55 1 (.t 54) (.c (.int .i64 3))) <|
 .o none (.ld 56 1 false (.t 55)) <|
 .o none (.mv 58 (.t 3)) <|
 .o none (.idx 59 1 (.t 58) (.c (.int .i64 4))) <|
 .o none (.ld 60 1 false (.t 59)) <|
 .o none (.mv 61 (.t 3)) <|
 .o none (.idx 62 1 (.t 61) (.c (.int .i64 5))) <|
 .o none (.ld 63 1 false (.t 62)) <|
 .o none (.mv 65 (.t 3)) <|
 .o none (.idx 66 1 (.t 65) (.c (.int .i64 6))) <|
 .o none (.ld 67 1 false (.t 66)) <|
 .o none (.mv 68 (.t 3)) <|
 .o none (.idx 69 1 (.t 68) (.c (.int .i64 7))) <|
 .o none (.ld 70 1 false (.t 69)) <|
 .o none (.call (some 50) true (.c (.fn 27 [] [])) [(.t 46), (.t 49)]) <|
 .o none (.call (some 57) true (.c (.fn 27 [] [])) [(.t 53), (.t 56)]) <|
 .o none (.call (some 64) true (.c (.fn 27 [] [])) [(.t 60), (.t 63)]) <|
 .o none (.call (some 71) true (.c (.fn 27 [] [])) [(.t 67), (.t 70)]) <|
 .o none (.call (some 72) true (.c (.fn 28 [] [])) [(.t 50), (.t 57), (.t 64), (.t 71)]) <|
 .o none (.st 5 (.t 2) (.t 72)) .nil)) <| .ret) (.skip))))) <| .seq (.rg (.o none (.ld 73 5 true (.t 1)) <|
 .o none (.mv 74 (.t 3)) <|
 .o none (.idx 75 1 (.t 74) (.c (.int .i64 0))) <|
 .o none (.ld 76 1 false (.t 75)) <|
 .o none (.mv 77 (.t 3)) <|
 .o none (.idx 78 1 (.t 77) (.c (.int .i64 1))) <|
 .o none (.ld 79 1 false (.t 78)) <|
 .o none (.mv 81 (.t 3)) <|
 .o none (.idx 82 1 (.t 81) (.c (.int .i64 2))) <|
 .o none (.ld 83 1 false (.t 82)) <|
 .o none (.mv 84 (.t 3)) <|
 .o none (.idx 85 1 (.t 84) (.c (.int .i64 3))) <|
 .o none (.ld 86 1 false (.t 85)) <|
 .o none (.call (some 80) true (.c (.fn 27 [] [])) [(.t 76), (.t 79)]) <|
 .o none (.call (some 87) true (.c (.fn 27 [] [])) [(.t 83), (.t 86)]) <|
 .o none (.call (some 88) true (.c (.fn 29 [] [])) [(.t 73), (.t 80), (.t 87)]) <|
 .o none (.st 5 (.t 2) (.t 88)) .nil)) <| .ret⟩
theorem Qwp : Q4 Try.prog Try.f22 = some c22 := by kernel_rfl
def c23 : SFn := ⟨11, [.t 4], .seq (.rg (.o none (.mv 4 (.c (.int .i64 0))) .nil)) <| .seq (.seq (.rg (.o none (.mv 5 (.t 0)) <|
 .o none (.mv 6 (.t 1)) <|
 .o none (.bin 7 .lss false (.t 5) (.t 6)) .nil)) <| .cond (.t 7) (.seq (.rg (.o none (.mv 4 (.c (.int .i64 (-1)))) .nil)) <| .ret) (.skip)) <| .seq (.seq (.rg (.o none (.mv 8 (.t 0)) <|
 .o none (.mv 9 (.t 1)) <|
 .o none (.bin 10 .gtr false (.t 8) (.t 9)) .nil)) <| .cond (.t 10) (.seq (.rg (.o none (.mv 4 (.c (.int .i64 1))) .nil)) <| .ret) (.skip)) <| .seq (.rg (.o none (.mv 4 (.c (.int .i64 0))) .nil)) <| .ret⟩
theorem Qwq : Q4 Try.prog Try.f23 = some c23 := by kernel_rfl
def c17 : SFn := ⟨74, [.t 4], .seq (.rg (.o none (.box 2 5 38 (.t 0)) <|
 .o none (.box 3 5 38 (.t 1)) <|
 .o none (.mv 4 (.c (.int .i64 0))) .nil)) <| .seq (.seq (.rg (.o none (.fld 6 0 (.t 2)) <|
 .o none (.ld 7 1 false (.t 6)) <|
 .o none (.fld 8 0 (.t 3)) <|
 .o none (.ld 9 1 false (.t 8)) <|
 .o none (.bin 10 .neq false (.t 7) (.t 9)) .nil)) <| .cond (.t 10) (.seq (.rg (.o none (.fld 11 0 (.t 2)) <|
 .o none (.ld 12 1 false (.t 11)) <|
 .o none (.fld 13 0 (.t 3)) <|
 .o none (.ld 14 1 false (.t 13)) <|
 .o none (.call (some 15) false (.c (.fn 23 [] [])) [(.t 12), (.t 14)]) <|
 .o none (.mv 4 (.t 15)) .nil)) <| .ret) (.skip)) <| .seq (.seq (.rg (.o none (.mv 5 (.c (.int .i64 0))) .nil)) <| .block 0 (.loop (.seq (.seq (.rg (.o none (.mv 16 (.t 5)) <|
 .o none (.fld 17 1 (.t 2)) <|
 .o none (.ld 18 1 false (.t 17)) <|
 .o none (.len 19 (.t 18)) <|
 .o none (.bin 20 .lss false (.t 16) (.t 19)) <|
 .o none (.mv 21 (.t 20)) <|
 .o (some (21, true)) (.mv 22 (.t 5)) <|
 .o (some (21, true)) (.fld 23 1 (.t 3)) <|
 .o (some (21, true)) (.ld 24 1 false (.t 23)) <|
 .o (some (21, true)) (.len 25 (.t 24)) <|
 .o (some (21, true)) (.bin 26 .lss false (.t 22) (.t 25)) <|
 .o none (.pick 27 (.t 21) (.t 26) (.c (.bool false))) .nil)) <| .cond (.t 27) (.skip) (.exit 0)) <| .seq (.block 1 (.seq (.rg (.o none (.fld 30 1 (.t 2)) <|
 .o none (.ld 31 1 false (.t 30)) <|
 .o none (.mv 32 (.t 5)) <|
 .o none (.idx 33 1 (.t 31) (.t 32)) <|
 .o none (.ld 34 1 false (.t 33)) <|
 .o none (.fld 35 1 (.t 3)) <|
 .o none (.ld 36 1 false (.t 35)) <|
 .o none (.mv 37 (.t 5)) <|
 .o none (.idx 38 1 (.t 36) (.t 37)) <|
 .o none (.ld 39 1 false (.t 38)) <|
 .o none (.bin 40 .neq false (.t 34) (.t 39)) .nil)) <| .cond (.t 40) (.seq (.rg (.o none (.fld 41 1 (.t 2)) <|
 .o none (.ld 42 1 false (.t 41)) <|
 .o none (.mv 43 (.t 5)) <|
 .o none (.idx 44 1 (.t 42) (.t 43)) <|
 .o none (.ld 45 1 false (.t 44)) <|
 .o none (.fld 46 1 (.t 3)) <|
 .o none (.ld 47 1 false (.t 46)) <|
 .o none (.mv 48 (.t 5)) <|
 .o none (.idx 49 1 (.t 47) (.t 48)) <|
 .o none (.ld 50 1 false (.t 49)) <|
 .o none (.call (some 51) false (.c (.fn 23 [] [])) [(.t 45), (.t 50)]) <|
 .o none (.mv 4 (.t 51)) .nil)) <| .ret) (.skip))) <| .rg (.o none (.mv 28 (.t 5)) <|
 .o none (.bin 29 .add false (.t 28) (.c (.int .i64 1))) <|
 .o none (.mv 5 (.t 29)) .nil)))) <| .seq (.seq (.rg (.o none (.fld 52 1 (.t 2)) <|
 .o none (.ld 53 1 false (.t 52)) <|
 .o none (.len 54 (.t 53)) <|
 .o none (.fld 55 1 (.t 3)) <|
 .o none (.ld 56 1 false (.t 55)) <|
 .o none (.len 57 (.t 56)) <|
 .o none (.bin 58 .neq false (.t 54) (.t 57)) .nil)) <| .cond (.t 58) (.seq (.rg (.o none (.fld 59 1 (.t 2)) <|
 .o none (.ld 60 1 false (.t 59)) <|
 .o none (.len 61 (.t 60)) <|
 .o none (.fld 62 1 (.t 3)) <|
 .o none (.ld 63 1 false (.t 62)) <|
 .o none (.len 64 (.t 63)) <|
 .o none (.call (some 65) false (.c (.fn 23 [] [])) [(.t 61), (.t 64)]) <|
 .o none (.mv 4 (.t 65)) .nil)) <| .ret) (.skip)) <| .seq (.seq (.rg (.o none (.fld 66 0 (.t 2)) <|
 .o none (.ld 67 1 false (.t 66)) <|
 .o none (.bin 68 .neq false (.t 67) (.c (.int .i64 9))) .nil)) <| .cond (.t 68) (.seq (.rg (.o none (.mv 4 (.c (.int .i64 0))) .nil)) <| .ret) (.skip)) <| .seq (.rg (.o none (.fld 69 2 (.t 2)) <|
 .o none (.ld 70 3 true (.t 69)) <|
 .o none (.fld 71 2 (.t 3)) <|
 .o none (.ld 72 3 true (.t 71)) <|
 .o none (.call (some 73) false (.c (.fn 24 [] [])) [(.t 70), (.t 72)]) <|
 .o none (.mv 4 (.t 73)) .nil)) <| .ret⟩
theorem Qwr : Q4 Try.prog Try.f17 = some c17 := by kernel_rfl
def c8 : SFn := ⟨9, [.t 4], .seq (.rg (.o none (.box 2 5 38 (.t 0)) <|
 .o none (.box 3 5 38 (.t 1)) <|
 .o none (.mv 4 (.c (.bool false))) .nil)) <| .seq (.rg (.o none (.ld 5 5 true (.t 2)) <|
 .o none (.ld 6 5 true (.t 3)) <|
 .o none (.call (some 7) false (.c (.fn 17 [] [])) [(.t 5), (.t 6)]) <|
 .o none (.bin 8 .eql false (.t 7) (.c (.int .i64 0))) <|
 .o none (.mv 4 (.t 8)) .nil)) <| .ret⟩
theorem Qx3 : Q4 Try.prog Try.f8 = some c8 := by kernel_rfl
def c7 : SFn := ⟨27, [.t 4], .seq (.rg (.o none (.mv 4 (.c (.bool false))) .nil)) <| .seq (.seq (.rg (.o none (.mv 6 (.t 0)) <|
 .o none (.len 7 (.t 6)) <|
 .o none (.mv 8 (.t 1)) <|
 .o none (.len 9 (.t 8)) <|
 .o none (.bin 10 .neq false (.t 7) (.t 9)) .nil)) <| .cond (.t 10) (.seq (.rg (.o none (.mv 4 (.c (.bool false))) .nil)) <| .ret) (.skip)) <| .seq (.seq (.rg (.o none (.mv 5 (.c (.int .i64 0))) .nil)) <| .block 0 (.loop (.seq (.seq (.rg (.o none (.mv 11 (.t 5)) <|
 .o none (.mv 12 (.t 0)) <|
 .o none (.len 13 (.t 12)) <|
 .o none (.bin 14 .lss false (.t 11) (.t 13)) .nil)) <| .cond (.t 14) (.skip) (.exit 0)) <| .seq (.block 1 (.seq (.rg (.o none (.mv 17 (.t 0)) <|
 .o none (.mv 18 (.t 5)) <|
 .o none (.idx 19 5 (.t 17) (.t 18)) <|
 .o none (.ld 20 5 true (.t 19)) <|
 .o none (.mv 21 (.t 1)) <|
 .o none (.mv 22 (.t 5)) <|
 .o none (.idx 23 5 (.t 21) (.t 22)) <|
 .o none (.ld 24 5 true (.t 23)) <|
 .o none (.call (some 25) false (.c (.fn 8 [] [])) [(.t 20), (.t 24)]) <|
 .o none (.un 26 .not (.t 25)) .nil)) <| .cond (.t 26) (.seq (.rg (.o none (.mv 4 (.c (.bool false))) .nil)) <| .ret) (.skip))) <| .rg (.o none (.mv 15 (.t 5)) <|
 .o none (.bin 16 .add false (.t 15) (.c (.int .i64 1))) <|
 .o none (.mv 5 (.t 16)) .nil)))) <| .seq (.rg (.o none (.mv 4 (.c (.bool true))) .nil)) <| .ret⟩
theorem Qx4 : Q4 Try.prog Try.f7 = some c7 := by kernel_rfl
def c4 : SFn := ⟨37, [.t 0], .seq (.rg (.o none (.mv 0 (.c (.bool false))) .nil)) <| .seq (.rg (.o none (.call (some 6) false (.c (.fn 5 [] [])) [(.c (.int .i64 3))]) <|
 .o none (.mv 5 (.t 6)) <|
 .o none (.ext 7 (.t 5) 0) <|
 .o none (.ext 8 (.t 5) 1) <|
 .o none (.mv 1 (.t 7)) <|
 .o none (.mv 2 (.t 8)) .nil)) <| .seq (.rg (.o none (.call (some 10) false (.c (.fn 5 [] [])) [(.c (.int .i64 4))]) <|
 .o none (.mv 9 (.t 10)) <|
 .o none (.ext 11 (.t 9) 0) <|
 .o none (.ext 12 (.t 9) 1) <|
 .o none (.mv 3 (.t 11)) <|
 .o none (.mv 4 (.t 12)) .nil)) <| .seq (.rg (.o none (.mv 13 (.t 2)) <|
 .o none (.bin 14 .eql false (.t 13) (.c (.int .i64 0))) <|
 .o none (.mv 15 (.t 14)) <|
 .o (some (15, true)) (.mv 16 (.t 4)) <|
 .o (some (15, true)) (.bin 17 .eql false (.t 16) (.c (.int .i64 0))) <|
 .o none (.pick 18 (.t 15) (.t 17) (.c (.bool false))) <|
 .o none (.mv 19 (.t 18)) <|
 .o (some (19, true)) (.mv 20 (.t 1)) <|
 .o (some (19, true)) (.len 21 (.t 20)) <|
 .o (some (19, true)) (.bin 22 .eql false (.t 21) (.c (.int .i64 13))) <|
 .o none (.pick 23 (.t 19) (.t 22) (.c (.bool false))) <|
 .o none (.mv 24 (.t 23)) <|
 .o (some (24, true)) (.mv 25 (.t 3)) <|
 .o (some (24, true)) (.len 26 (.t 25)) <|
 .o (some (24, true)) (.bin 27 .eql false (.t 26) (.c (.int .i64 56))) <|
 .o none (.pick 28 (.t 24) (.t 27) (.c (.bool false))) <|
 .o none (.mv 29 (.t 28)) <|
 .o (some (29, true)) (.mv 30 (.t 1)) <|
 .o (some (29, true)) (.idx 31 5 (.t 30) (.c (.int .i64 0))) <|
 .o (some (29, true)) (.ld 32 5 true (.t 31)) <|
 .o (some (29, true)) (.bs 33 1 3 [(.c (.int .i64 0)), (.c (.int .i64 1)), (.c (.int .i64 2))]) <|
 .o (some (29, true)) (.bld 34 [(.int .i64 0), .nilS, (.bool false), .nilS, .nilS] [(0, 1, (.c (.int .i64 1))), (1, 1, (.t 33))]) <|
 .o (some (29, true)) (.call (some 35) false (.c (.fn 8 [] [])) [(.t 32), (.t 34)]) <|
 .o none (.pick 36 (.t 29) (.t 35) (.c (.bool false))) <|
 .o none (.mv 0 (.t 36)) .nil)) <| .ret⟩
theorem Qx5 : Q4 Try.prog Try.f4 = some c4 := by kernel_rfl
def c3 : SFn := ⟨35, [.t 2], .seq (.rg (.o none (.mv 2 (.c (.bool false))) .nil)) <| .seq (.seq (.rg (.o none (.mv 7 (.t 0)) <|
 .o none (.bin 8 .gtr false (.t 7) (.c (.int .i64 7))) <|
 .o none (.mv 9 (.t 8)) <|
 .o (some (9, true)) (.mv 10 (.t 0)) <|
 .o (some (9, true)) (.bin 11 .leq false (.t 10) (.c (.int .i64 10))) <|
 .o none (.pick 12 (.t 9) (.t 11) (.c (.bool false))) .nil)) <| .cond (.t 12) (.seq (.rg (.o none (.call (some 13) false (.c (.fn 4 [] [])) []) <|
 .o none (.mv 2 (.t 13)) .nil)) <| .ret) (.skip)) <| .seq (.rg (.o none (.mv 15 (.t 0)) <|
 .o none (.call (some 16) false (.c (.fn 5 [] [])) [(.t 15)]) <|
 .o none (.mv 14 (.t 16)) <|
 .o none (.ext 17 (.t 14) 0) <|
 .o none (.ext 18 (.t 14) 1) <|
 .o none (.mv 3 (.t 17)) <|
 .o none (.mv 4 (.t 18)) .nil)) <| .seq (.rg (.o none (.mv 20 (.t 0)) <|
 .o none (.call (some 21) false (.c (.fn 6 [] [])) [(.t 20)]) <|
 .o none (.mv 19 (.t 21)) <|
 .o none (.ext 22 (.t 19) 0) <|
 .o none (.ext 23 (.t 19) 1) <|
 .o none (.mv 5 (.t 22)) <|
 .o none (.mv 6 (.t 23)) .nil)) <| .seq (.rg (.o none (.mv 24 (.t 4)) <|
 .o none (.mv 25 (.t 6)) <|
 .o none (.bin 26 .eql false (.t 24) (.t 25)) <|
 .o none (.mv 27 (.t 26)) <|
 .o (some (27, true)) (.mv 28 (.t 3)) <|
 .o (some (27, true)) (.mv 29 (.t 5)) <|
 .o (some (27, true)) (.call (some 30) false (.c (.fn 7 [] [])) [(.t 28), (.t 29)]) <|
 .o none (.pick 31 (.t 27) (.t 30) (.c (.bool false))) <|
 .o none (.mv 32 (.t 31)) <|
 .o (some (32, true)) (.call (some 33) false (.c (.fn 4 [] [])) []) <|
 .o none (.pick 34 (.t 32) (.t 33) (.c (.bool false))) <|
 .o none (.mv 2 (.t 34)) .nil)) <| .ret⟩
theorem Qm8 : Q4 Try.prog Try.f3 = some c3 := by kernel_rfl
abbrev PV.fct (f : Int × List Int) : PV :=.agg [.int .i64 f.1, PV.mono f.2, .bool false, .sl 1 [], .sl 1 []]
def Qip (a b : Int) : Int := if a < b then -1 else if a > b then 1 else 0
theorem Qpi {a b : Int} : Qo Try.prog 23 [.int .i64 a, .int .i64 b] (· = .int .i64 (Qip a b)) := by
 refine Qz Qat Try.func23 rfl Qwq (by simp [c23]) fun C hP =>?_; simp only [c23];refine Sz0 ?_;refine Qr (fun h =>?_) (fun h =>?_)
 ·refine Sz0 ?_;exact Q6 (by simp [Qip, h]) rfl
 refine Sz0 ?_;refine Qr (fun h2 =>?_) (fun h2 =>?_)
 ·refine Sz0 ?_;exact Q6 (by simp [Qip, h, h2]) rfl
 refine Sz0 ?_;exact Q6 (by simp [Qip, h, h2]) rfl
theorem Qlt {a b : Int} : Qo Try.prog 27 [.int .i64 a, .int .i64 b] (· = .agg [.int .i64 (min a b), .int .i64 (max a b)]) := by refine Qz Qat Try.func27 rfl Qwi (by simp [c27]) fun C hP =>?_; simp only [c27];refine Sz0 ?_;refine Qe2 ?_;refine Sz0 ?_;exact Q6 rfl rfl
abbrev PV.pr (p : Int × Int) : PV :=.agg [.int .i64 p.1, .int .i64 p.2]
def Qfj (p q : Int × Int) : Bool := decide (p.1 < q.1) || decide (p.1 = q.1) && decide (p.2 < q.2)
theorem Qpj {p q : Int × Int} : Qo Try.prog 35 [PV.pr p, PV.pr q] (· = .bool (Qfj p q)) := by
 obtain ⟨a, b⟩ := p;obtain ⟨c, d⟩ := q;have hv : Qfj (a, b) (c, d) = (decide (a < c) || decide (a = c) && decide (b < d)) := rfl;rw [hv];refine Qz Qat Try.func35 rfl Qwj (by simp [c35]) fun C hP =>?_; simp only [c35];refine Sz0 ?_;cases h1 : decide (a < c)
 ·refine Sz1 h1 ?_;cases h2 : decide (a = c)
  ·refine Sz2 h1 h2 ?_;exact Q6 rfl rfl
  ·refine Sz2 h1 h2 ?_;exact Q6 (by simp) rfl
 ·refine Sz1 h1 ?_;exact Q6 rfl rfl
def Qdl (p q : Int × Int) : Int × Bool := if p.1 = q.1 ∨ p.1 = q.2 then (p.1, true) else if p.2 = q.1 ∨ p.2 = q.2 then (p.2, true) else (0, false)
theorem Qm9 {p q : Int × Int} : Qo Try.prog 37 [PV.pr p, PV.pr q] (· = .tup [.int .i64 (Qdl p q).1, .bool (Qdl p q).2]) := by
 obtain ⟨a, b⟩ := p;obtain ⟨c, d⟩ := q;have hv : Qdl (a, b) (c, d) = if a = c ∨ a = d then (a, true) else if b = c ∨ b = d then (b, true) else (0, false) := rfl
 rw [hv];refine Qz Qat Try.func37 rfl Qwl (by simp [c37]) fun C hP =>?_; simp only [c37];refine Sz0 ?_;cases h1 : decide (a = c)
 ·have e1 := of_decide_eq_false h1;refine Sz1 h1 ?_;cases h2 : decide (a = d)
  ·have e2 := of_decide_eq_false h2;refine Sz2 h1 h2 ?_;cases h3 : decide (b = c)
   ·have e3 := of_decide_eq_false h3;refine Sz1 h3 ?_;cases h4 : decide (b = d)
    ·have e4 := of_decide_eq_false h4;refine Sz2 h3 h4 ?_;exact Qfv (by simp [e1, e2, e3, e4]) rfl rfl (Qag _) (Qag _)
    ·have e4 := of_decide_eq_true h4;refine Sz2 h3 h4 ?_;exact Qfv (by simp [e1, e2, e4]) rfl rfl (Qag _) (Qag _)
   ·have e3 := of_decide_eq_true h3;refine Sz1 h3 ?_;exact Qfv (by simp [e1, e2, e3]) rfl rfl (Qag _) (Qag _)
  ·have e2 := of_decide_eq_true h2;refine Sz2 h1 h2 ?_;exact Qfv (by simp [e2]) rfl rfl (Qag _) (Qag _)
 ·have e1 := of_decide_eq_true h1;refine Sz1 h1 ?_;exact Qfv (by simp [e1]) rfl rfl (Qag _) (Qag _)
theorem Qpk : Qo Try.prog 50 [.agg [.bool false, .sl 1 [], .sl 1 []]] (· = .bool true) := by refine Qz Qat Try.func50 rfl Qwa (by simp [c50]) fun C hP =>?_; simp only [c50];refine Sz0 ?_;exact Q6 rfl rfl
theorem Qna {k : Int} (h : k = 2 ∨ k = 3 ∨ k = 4) : Qo Try.prog 48 [.int .i64 k] (· = .int .i64 4) := by
 rcases h with rfl | rfl | rfl
 all_goals
  refine Qz Qat Try.func48 rfl Qv9 (by simp [c48]) fun C hP =>?_; simp only [c48];refine Sz0 ?_;exact Q6 rfl rfl
theorem Qnb {k n : Int} {l : List Int} (h : k = 2 ∨ k = 3 ∨ k = 4) (hl : l.length = 4) (hl2 : ∀ j (h : j < l.length), 0 <= l[j] /\ l[j] < n) :
  Qo Try.prog 34 [PV.fct (k, l), .int .i64 n] (· = .int .i64 0) := by
 have hA := Qna h;have hz := Qpk;have h9 : decide (k = 9) = false := decide_eq_false (by omega);have h9' : decide (¬ k = 9) = true := decide_eq_true (by omega);refine Qz Qat Try.func34 rfl Qwb (by simp [c34]) fun C hP =>?_; simp only [c34];refine Sz0 ?_;refine Qp hP hA rfl rfl rfl ?_;refine Sz0 ?_;refine Qp hP hA rfl rfl rfl ?_;refine Sz1 hl ?_;refine Qaj (by repeat (first | exact Qaf | exact Q9 | exact Qaa | exact Qab | exact Qac | apply Q8 | apply Qae | apply Qaq | apply Qa1 | apply Qa2 | apply Q2 | apply Q3)) [(4, 4), (6, 6), (21, 32)] [] (fun m J hp => ∃ i, m = 4 - i /\ i <= 4 /\ J 21 = .int .i64 (i : Nat) /\ hp 2 = some ⟨5, 38, [PV.fct (k, l)], false⟩) 4 ?_ ?_
 ·refine ⟨0, rfl, by omega, ?_⟩;refine Sz0 ?_;rfl
 rintro _ J h ⟨i, rfl, hi, j21, hb2⟩;refine Sz1 j21 ?_;refine Qr (fun hg =>?_) (fun hg =>?_)
 ·have hi' : i < l.length := by omega
  obtain ⟨g1, g2⟩ := hl2 i hi';generalize hx : l[i] = x at *
  have d1 : decide (x < 0) = false := decide_eq_false (by omega);have d2 : decide (x ≥ n) = false := decide_eq_false (by omega);have d3 : decide (n <= x) = false := decide_eq_false (by omega);refine Sz5 j21 hx d1 d2 d3 ?_;refine Qao (4 - (i + 1)) (by omega) ⟨i + 1, rfl, by omega, ?_⟩;exact Tz1 hb2
 refine Sz3 hb2 h9 h9' ?_;refine Qp hP hz rfl rfl rfl ?_;refine Sz1 hb2 ?_;exact Q6 rfl rfl
theorem Qnc {k : Int} {l : List Int} (h : k = 2 ∨ k = 3 ∨ k = 4) (hl : l.length = 4) (hl2 : ∀ j (h : j < l.length), 0 <= l[j] /\ l[j] < 40) :
  Qo Try.prog 25 [PV.fct (k, l)] (· = .bool true) := by
 have hr := Qnb (n := 40) h hl hl2;refine Qz Qat Try.func25 rfl Qwo (by simp [c25]) fun C hP =>?_; simp only [c25];refine Sz0 ?_;refine Qp hP hr rfl rfl rfl ?_;refine Sz0 ?_;exact Q6 rfl rfl
end Go.Proofs.Ytohmbopehhgacaa
namespace Go.FW
open Go
variable {C : Ctx} {fr : Fr} {hp : HP} {K : Qa}
theorem Qfk {e by_ ty d β n : Nat} {ys xs : List PV} (hb : hp β = some ⟨e, ty, xs, false⟩) (hn : n = xs.length) (h0 : 0 < e) (h1 : (n + ys.length) * by_ <= 140737488355328) (h2 : n + ys.length <= 9223372036854775807) (hB : isB β = false := by decide) :
  Qcl e by_ ty (.ms β n) (.sl e ys) d fr hp K = K (upd (Qy β fr) d (.ms β (n + ys.length))) (Qe hp β ⟨e, ty, xs ++ ys, false⟩) := by
 rw [Qef (ys := ys) (xs := xs) rfl hb h0 (Nat.le_of_eq hn) h1 h2 hB, List.take_of_length_le (Nat.le_of_eq hn.symm)]
theorem Qdp {len e d : Nat} {k : IntKind} {cs : List PV} (h : 0 < len) : Qds len e (.pt cs) (.int k 0) d fr hp K = K (upd fr d (.pt cs)) hp := by simp [Qds, h]
theorem Qdq {len d : Nat} {k : IntKind} {x : PV} {cs : List PV} (h : 1 < len) : Qds len 1 (.pt (x :: cs)) (.int k 1) d fr hp K = K (upd fr d (.pt cs)) hp := by simp [Qds]; omega
theorem Qry {e d : Nat} {k : IntKind} {x y z : PV} {xs : List PV} : Qbg e (.sl e (x :: y :: z :: xs)) (.int k 2) d fr hp K = K (upd fr d (.pt z.cells)) hp := by rw [Qgf (by omega) (by simp only [List.length_cons]; omega)]; rfl
theorem Qrz {e d : Nat} {k : IntKind} {x y z u : PV} {xs : List PV} : Qbg e (.sl e (x :: y :: z :: u :: xs)) (.int k 3) d fr hp K = K (upd fr d (.pt u.cells)) hp := by rw [Qgf (by omega) (by simp only [List.length_cons]; omega)]; rfl
theorem Qpl {d : Nat} {k : IntKind} {x y z : Int} {xs : List Int} : Qbg 1 (PV.mono (x :: y :: z :: xs)) (.int k 2) d fr hp K = K (upd fr d (.pt [.int .i64 z])) hp := Qry
theorem Qpm {d : Nat} {k : IntKind} {x y z u : Int} {xs : List Int} : Qbg 1 (PV.mono (x :: y :: z :: u :: xs)) (.int k 3) d fr hp K = K (upd fr d (.pt [.int .i64 u])) hp := Qrz
theorem Qd5 {V W : List (Nat × Nat)} {B B' : List Nat} {X Z F' : Fr} {I : Nat -> Fr -> HP -> Prop} {n : Nat} (m : Nat) (hV : Qkp V W = true) (hB : (B'.all B.contains) = true) (hl : m < n) (h : I m (ovr V X (Qv B' Z)) hp) :
  Qgq W (Qv B F') I n (ovr V X (Qv B' (ovr W Z (Qv B F')))) hp := by
 rw [Qcj hV hB];exact Qao m hl h
end Go.FW
