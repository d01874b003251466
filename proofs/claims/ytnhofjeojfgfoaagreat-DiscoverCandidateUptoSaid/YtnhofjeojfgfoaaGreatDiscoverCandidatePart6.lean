/- Part 6 of the proof of DiscoverCandidate: CL, X0, CT, E0, FwRE. Own lemmas; no conditions. -/
import Derived.Test.YtnhofjeojfgfoaaGreatDiscoverCandidatePart5
set_option maxHeartbeats 1000000
set_option linter.unusedSimpArgs false
set_option linter.unusedVariables false
set_option linter.unnecessarySimpa false
set_option maxRecDepth 100000
namespace Go.Proofs.YtnhofjeojfgfoaaGreat
open Go Go.FW
def c55 : SFn := ⟨17, [.t 2], .seq (.rg (.o none (.mv 2 (.c (.int .i64 0))) .nil)) <| .seq (.seq (.rg (.o none (.mv 3 (.t 0)) .nil)) <| .block 0 (.seq (.rg (.o none (.bin 5 .eql false (.t 3) (.c (.int .i64 8))) <|
 .o none (.mv 4 (.t 5)) .nil)) <| .cond (.t 4) (.seq (.rg (.o none (.mv 2 (.c (.int .i64 2))) .nil)) <| .ret) (.seq (.seq (.rg (.o none (.bin 7 .eql false (.t 3) (.c (.int .i64 1))) <|
 .o none (.mv 6 (.t 7)) .nil)) <| .cond (.t 6) (.skip) (.rg (.o none (.bin 8 .eql false (.t 3) (.c (.int .i64 5))) <|
 .o none (.mv 6 (.t 8)) .nil))) <| .cond (.t 6) (.seq (.rg (.o none (.mv 2 (.c (.int .i64 3))) .nil)) <| .ret) (.seq (.seq (.rg (.o none (.bin 10 .eql false (.t 3) (.c (.int .i64 2))) <|
 .o none (.mv 9 (.t 10)) .nil)) <| .cond (.t 9) (.skip) (.seq (.rg (.o none (.bin 11 .eql false (.t 3) (.c (.int .i64 3))) <|
 .o none (.mv 9 (.t 11)) .nil)) <| .cond (.t 9) (.skip) (.seq (.rg (.o none (.bin 12 .eql false (.t 3) (.c (.int .i64 4))) <|
 .o none (.mv 9 (.t 12)) .nil)) <| .cond (.t 9) (.skip) (.seq (.rg (.o none (.bin 13 .eql false (.t 3) (.c (.int .i64 6))) <|
 .o none (.mv 9 (.t 13)) .nil)) <| .cond (.t 9) (.skip) (.rg (.o none (.bin 14 .eql false (.t 3) (.c (.int .i64 9))) <|
 .o none (.mv 9 (.t 14)) .nil)))))) <| .cond (.t 9) (.seq (.rg (.o none (.mv 2 (.c (.int .i64 4))) .nil)) <| .ret) (.seq (.rg (.o none (.bin 16 .eql false (.t 3) (.c (.int .i64 7))) <|
 .o none (.mv 15 (.t 16)) .nil)) <| .cond (.t 15) (.seq (.rg (.o none (.mv 2 (.c (.int .i64 8))) .nil)) <| .ret) (.skip)))))) <| .seq (.rg (.o none (.mv 2 (.c (.int .i64 0))) .nil)) <| .ret⟩
theorem Qw5 : Qp Tryz.prog Tryz.f55 = some c55 := by kernel_rfl
def c57 : SFn := ⟨20, [.t 2], .seq (.rg (.o none (.box 1 3 33 (.t 0)) <|
 .o none (.mv 2 (.c (.bool false))) .nil)) <| .seq (.rg (.o none (.fld 3 0 (.t 1)) <|
 .o none (.fld 4 0 (.t 3)) <|
 .o none (.ld 5 1 false (.t 4)) <|
 .o none (.un 6 .not (.t 5)) <|
 .o none (.mv 7 (.t 6)) <|
 .o (some (7, true)) (.fld 8 0 (.t 1)) <|
 .o (some (7, true)) (.fld 9 1 (.t 8)) <|
 .o (some (7, true)) (.ld 10 1 false (.t 9)) <|
 .o (some (7, true)) (.len 11 (.t 10)) <|
 .o (some (7, true)) (.bin 12 .eql false (.t 11) (.c (.int .i64 0))) <|
 .o none (.pick 13 (.t 7) (.t 12) (.c (.bool false))) <|
 .o none (.mv 14 (.t 13)) <|
 .o (some (14, true)) (.fld 15 2 (.t 1)) <|
 .o (some (14, true)) (.ld 16 1 false (.t 15)) <|
 .o (some (14, true)) (.len 17 (.t 16)) <|
 .o (some (14, true)) (.bin 18 .eql false (.t 17) (.c (.int .i64 0))) <|
 .o none (.pick 19 (.t 14) (.t 18) (.c (.bool false))) <|
 .o none (.mv 2 (.t 19)) .nil)) <| .ret⟩
theorem Qw6 : Qp Tryz.prog Tryz.f57 = some c57 := by kernel_rfl
def c36 : SFn := ⟨53, [.t 4], .seq (.rg (.o none (.box 2 5 35 (.t 0)) <|
 .o none (.mv 4 (.c (.int .i64 0))) .nil)) <| .seq (.rg (.o none (.fld 8 0 (.t 2)) <|
 .o none (.ld 9 1 false (.t 8)) <|
 .o none (.call (some 10) false (.c (.fn 55 [] [])) [(.t 9)]) <|
 .o none (.mv 5 (.t 10)) .nil)) <| .seq (.seq (.rg (.o none (.mv 11 (.t 5)) <|
 .o none (.bin 12 .eql false (.t 11) (.c (.int .i64 0))) .nil)) <| .cond (.t 12) (.seq (.rg (.o none (.mv 4 (.c (.int .i64 8))) .nil)) <| .ret) (.skip)) <| .seq (.seq (.rg (.o none (.fld 13 1 (.t 2)) <|
 .o none (.ld 14 1 false (.t 13)) <|
 .o none (.len 15 (.t 14)) <|
 .o none (.mv 16 (.t 5)) <|
 .o none (.bin 17 .neq false (.t 15) (.t 16)) .nil)) <| .cond (.t 17) (.seq (.rg (.o none (.mv 4 (.c (.int .i64 1))) .nil)) <| .ret) (.skip)) <| .seq (.seq (.rg (.o none (.fld 18 1 (.t 2)) <|
 .o none (.ld 19 1 false (.t 18)) <|
 .o none (.len 20 (.t 19)) <|
 .o none (.mv 21 (.c (.int .i64 0))) .nil)) <| .block 0 (.loop (.seq (.rg (.o none (.bin 22 .lss false (.t 21) (.t 20)) .nil)) <| .seq (.cond (.t 22) (.skip) (.exit 0)) <| .seq (.block 1 (.seq (.rg (.o none (.idx 23 1 (.t 19) (.t 21)) <|
 .o none (.ld 24 1 false (.t 23)) <|
 .o none (.mv 7 (.t 24)) .nil)) <| .seq (.rg (.o none (.mv 25 (.t 7)) <|
 .o none (.bin 26 .lss false (.t 25) (.c (.int .i64 0))) <|
 .o none (.mv 27 (.t 26)) <|
 .o (some (27, false)) (.mv 28 (.t 7)) <|
 .o (some (27, false)) (.mv 29 (.t 1)) <|
 .o (some (27, false)) (.bin 30 .geq false (.t 28) (.t 29)) <|
 .o none (.pick 31 (.t 27) (.c (.bool true)) (.t 30)) .nil)) <| .cond (.t 31) (.seq (.rg (.o none (.mv 4 (.c (.int .i64 2))) .nil)) <| .ret) (.skip))) <| .rg (.o none (.bin 32 .add false (.t 21) (.c (.int .i64 1))) <|
 .o none (.mv 21 (.t 32)) .nil)))) <| .seq (.seq (.rg (.o none (.fld 33 0 (.t 2)) <|
 .o none (.ld 34 1 false (.t 33)) <|
 .o none (.bin 35 .eql false (.t 34) (.c (.int .i64 9))) <|
 .o none (.mv 36 (.t 35)) <|
 .o (some (36, true)) (.fld 37 2 (.t 2)) <|
 .o (some (36, true)) (.ld 38 3 true (.t 37)) <|
 .o (some (36, true)) (.call (some 39) false (.c (.fn 56 [] [])) [(.t 38)]) <|
 .o (some (36, true)) (.un 40 .not (.t 39)) <|
 .o none (.pick 41 (.t 36) (.t 40) (.c (.bool false))) <|
 .o none (.mv 42 (.t 41)) <|
 .o (some (42, false)) (.fld 43 0 (.t 2)) <|
 .o (some (42, false)) (.ld 44 1 false (.t 43)) <|
 .o (some (42, false)) (.bin 45 .neq false (.t 44) (.c (.int .i64 9))) <|
 .o (some (42, false)) (.mv 46 (.t 45)) <|
 .o (some (46, true)) (.fld 47 2 (.t 2)) <|
 .o (some (46, true)) (.ld 48 3 true (.t 47)) <|
 .o (some (46, true)) (.call (some 49) false (.c (.fn 57 [] [])) [(.t 48)]) <|
 .o (some (46, true)) (.un 50 .not (.t 49)) <|
 .o (some (42, false)) (.pick 51 (.t 46) (.t 50) (.c (.bool false))) <|
 .o none (.pick 52 (.t 42) (.c (.bool true)) (.t 51)) .nil)) <| .cond (.t 52) (.seq (.rg (.o none (.mv 4 (.c (.int .i64 1))) .nil)) <| .ret) (.skip)) <| .seq (.rg (.o none (.mv 4 (.c (.int .i64 0))) .nil)) <| .ret⟩
theorem Qw7 : Qp Tryz.prog Tryz.f36 = some c36 := by kernel_rfl
def c28 : SFn := ⟨25, [.t 2], .seq (.rg (.o none (.mv 2 (.c .nilS)) .nil)) <| .seq (.rg (.o none (.mv 3 (.c .nilS)) .nil)) <| .seq (.seq (.rg (.o none (.mv 6 (.t 0)) <|
 .o none (.mv 7 (.c (.int .i64 0))) .nil)) <| .block 0 (.loop (.seq (.rg (.o none (.bin 8 .lss false (.t 7) (.t 6)) .nil)) <| .seq (.cond (.t 8) (.skip) (.exit 0)) <| .seq (.block 1 (.seq (.rg (.o none (.mv 9 (.t 7)) <|
 .o none (.mv 4 (.t 9)) .nil)) <| .seq (.rg (.o none (.mv 10 (.t 4)) <|
 .o none (.bin 11 .add false (.t 10) (.c (.int .i64 1))) <|
 .o none (.mv 5 (.t 11)) .nil)) <| .block 2 (.loop (.seq (.seq (.rg (.o none (.mv 12 (.t 5)) <|
 .o none (.mv 13 (.t 0)) <|
 .o none (.bin 14 .lss false (.t 12) (.t 13)) .nil)) <| .cond (.t 14) (.skip) (.exit 2)) <| .seq (.block 3 (.rg (.o none (.mv 17 (.t 3)) <|
 .o none (.mv 18 (.t 4)) <|
 .o none (.mv 19 (.t 5)) <|
 .o none (.bld 20 [(.int .i64 0), (.int .i64 0)] [(0, 1, (.t 18)), (1, 1, (.t 19))]) <|
 .o none (.bs 21 2 48 [(.t 20)]) <|
 .o none (.app 22 2 16 48 (.t 17) (.t 21)) <|
 .o none (.mv 3 (.t 22)) .nil))) <| .rg (.o none (.mv 15 (.t 5)) <|
 .o none (.bin 16 .add false (.t 15) (.c (.int .i64 1))) <|
 .o none (.mv 5 (.t 16)) .nil))))) <| .rg (.o none (.bin 23 .add false (.t 7) (.c (.int .i64 1))) <|
 .o none (.mv 7 (.t 23)) .nil)))) <| .seq (.rg (.o none (.mv 24 (.t 3)) <|
 .o none (.mv 2 (.t 24)) .nil)) <| .ret⟩
theorem Qw8 : Qp Tryz.prog Tryz.f28 = some c28 := by kernel_rfl
def c11 : SFn := ⟨31, [.t 4], .seq (.rg (.o none (.box 2 2 48 (.t 0)) <|
 .o none (.box 3 2 48 (.t 1)) <|
 .o none (.mv 4 (.c (.bool false))) .nil)) <| .seq (.rg (.o none (.fld 5 0 (.t 2)) <|
 .o none (.ld 6 1 false (.t 5)) <|
 .o none (.fld 7 0 (.t 3)) <|
 .o none (.ld 8 1 false (.t 7)) <|
 .o none (.bin 9 .neq false (.t 6) (.t 8)) <|
 .o none (.mv 10 (.t 9)) <|
 .o (some (10, true)) (.fld 11 0 (.t 2)) <|
 .o (some (10, true)) (.ld 12 1 false (.t 11)) <|
 .o (some (10, true)) (.fld 13 1 (.t 3)) <|
 .o (some (10, true)) (.ld 14 1 false (.t 13)) <|
 .o (some (10, true)) (.bin 15 .neq false (.t 12) (.t 14)) <|
 .o none (.pick 16 (.t 10) (.t 15) (.c (.bool false))) <|
 .o none (.mv 17 (.t 16)) <|
 .o (some (17, true)) (.fld 18 1 (.t 2)) <|
 .o (some (17, true)) (.ld 19 1 false (.t 18)) <|
 .o (some (17, true)) (.fld 20 0 (.t 3)) <|
 .o (some (17, true)) (.ld 21 1 false (.t 20)) <|
 .o (some (17, true)) (.bin 22 .neq false (.t 19) (.t 21)) <|
 .o none (.pick 23 (.t 17) (.t 22) (.c (.bool false))) <|
 .o none (.mv 24 (.t 23)) <|
 .o (some (24, true)) (.fld 25 1 (.t 2)) <|
 .o (some (24, true)) (.ld 26 1 false (.t 25)) <|
 .o (some (24, true)) (.fld 27 1 (.t 3)) <|
 .o (some (24, true)) (.ld 28 1 false (.t 27)) <|
 .o (some (24, true)) (.bin 29 .neq false (.t 26) (.t 28)) <|
 .o none (.pick 30 (.t 24) (.t 29) (.c (.bool false))) <|
 .o none (.mv 4 (.t 30)) .nil)) <| .ret⟩
theorem Qw9 : Qp Tryz.prog Tryz.f11 = some c11 := by kernel_rfl
def c12 : SFn := ⟨17, [.t 4], .seq (.rg (.o none (.box 2 2 48 (.t 0)) <|
 .o none (.box 3 2 48 (.t 1)) <|
 .o none (.mv 4 (.c (.bool false))) .nil)) <| .seq (.rg (.o none (.fld 5 0 (.t 2)) <|
 .o none (.ld 6 1 false (.t 5)) <|
 .o none (.fld 7 0 (.t 3)) <|
 .o none (.ld 8 1 false (.t 7)) <|
 .o none (.bin 9 .neq false (.t 6) (.t 8)) <|
 .o none (.mv 10 (.t 9)) <|
 .o (some (10, false)) (.fld 11 1 (.t 2)) <|
 .o (some (10, false)) (.ld 12 1 false (.t 11)) <|
 .o (some (10, false)) (.fld 13 1 (.t 3)) <|
 .o (some (10, false)) (.ld 14 1 false (.t 13)) <|
 .o (some (10, false)) (.bin 15 .neq false (.t 12) (.t 14)) <|
 .o none (.pick 16 (.t 10) (.c (.bool true)) (.t 15)) <|
 .o none (.mv 4 (.t 16)) .nil)) <| .ret⟩
theorem Qxa : Qp Tryz.prog Tryz.f12 = some c12 := by kernel_rfl
def c67 : SFn := ⟨11, [.t 4], .seq (.rg (.o none (.mv 4 (.c (.int .i64 0))) .nil)) <| .seq (.seq (.rg (.o none (.mv 5 (.t 0)) <|
 .o none (.mv 6 (.t 1)) <|
 .o none (.bin 7 .lss false (.t 5) (.t 6)) .nil)) <| .cond (.t 7) (.seq (.rg (.o none (.mv 4 (.c (.int .i64 (-1)))) .nil)) <| .ret) (.skip)) <| .seq (.seq (.rg (.o none (.mv 8 (.t 0)) <|
 .o none (.mv 9 (.t 1)) <|
 .o none (.bin 10 .gtr false (.t 8) (.t 9)) .nil)) <| .cond (.t 10) (.seq (.rg (.o none (.mv 4 (.c (.int .i64 1))) .nil)) <| .ret) (.skip)) <| .seq (.rg (.o none (.mv 4 (.c (.int .i64 0))) .nil)) <| .ret⟩
theorem Qxb : Qp Tryz.prog Tryz.f67 = some c67 := by kernel_rfl
def c47 : SFn := ⟨74, [.t 4], .seq (.rg (.o none (.box 2 5 35 (.t 0)) <|
 .o none (.box 3 5 35 (.t 1)) <|
 .o none (.mv 4 (.c (.int .i64 0))) .nil)) <| .seq (.seq (.rg (.o none (.fld 6 0 (.t 2)) <|
 .o none (.ld 7 1 false (.t 6)) <|
 .o none (.fld 8 0 (.t 3)) <|
 .o none (.ld 9 1 false (.t 8)) <|
 .o none (.bin 10 .neq false (.t 7) (.t 9)) .nil)) <| .cond (.t 10) (.seq (.rg (.o none (.fld 11 0 (.t 2)) <|
 .o none (.ld 12 1 false (.t 11)) <|
 .o none (.fld 13 0 (.t 3)) <|
 .o none (.ld 14 1 false (.t 13)) <|
 .o none (.call (some 15) false (.c (.fn 67 [] [])) [(.t 12), (.t 14)]) <|
 .o none (.mv 4 (.t 15)) .nil)) <| .ret) (.skip)) <| .seq (.seq (.rg (.o none (.mv 5 (.c (.int .i64 0))) .nil)) <| .block 0 (.loop (.seq (.seq (.rg (.o none (.mv 16 (.t 5)) <|
 .o none (.fld 17 1 (.t 2)) <|
 .o none (.ld 18 1 false (.t 17)) <|
 .o none (.len 19 (.t 18)) <|
 .o none (.bin 20 .lss false (.t 16) (.t 19)) <|
 .o none (.mv 21 (.t 20)) <|
 .o (some (21, true)) (.mv 22 (.t 5)) <|
 .o (some (21, true)) (.fld 23 1 (.t 3)) <|
 .o (some (21, true)) (.ld 24 1 false (.t 23)) <|
 .o (some (21, true)) (.len 25 (.t 24)) <|
 .o (some (21, true)) (.bin 26 .lss false (.t 22) (.t 25)) <|
 .o none (.pick 27 (.t 21) (.t 26) (.c (.bool false))) .nil)) <| .cond (.t 27) (.skip) (.exit 0)) <| .seq (.block 1 (.seq (.rg (.o none (.fld 30 1 (.t 2)) <|
 .o none (.ld 31 1 false (.t 30)) <|
 .o none (.mv 32 (.t 5)) <|
 .o none (.idx 33 1 (.t 31) (.t 32)) <|
 .o none (.ld 34 1 false (.t 33)) <|
 .o none (.fld 35 1 (.t 3)) <|
 .o none (.ld 36 1 false (.t 35)) <|
 .o none (.mv 37 (.t 5)) <|
 .o none (.idx 38 1 (.t 36) (.t 37)) <|
 .o none (.ld 39 1 false (.t 38)) <|
 .o none (.bin 40 .neq false (.t 34) (.t 39)) .nil)) <| .cond (.t 40) (.seq (.rg (.o none (.fld 41 1 (.t 2)) <|
 .o none (.ld 42 1 false (.t 41)) <|
 .o none (.mv 43 (.t 5)) <|
 .o none (.idx 44 1 (.t 42) (.t 43)) <|
 .o none (.ld 45 1 false (.t 44)) <|
 .o none (.fld 46 1 (.t 3)) <|
 .o none (.ld 47 1 false (.t 46)) <|
 .o none (.mv 48 (.t 5)) <|
 .o none (.idx 49 1 (.t 47) (.t 48)) <|
 .o none (.ld 50 1 false (.t 49)) <|
 .o none (.call (some 51) false (.c (.fn 67 [] [])) [(.t 45), (.t 50)]) <|
 .o none (.mv 4 (.t 51)) .nil)) <| .ret) (.skip))) <| .rg (.o none (.mv 28 (.t 5)) <|
 .o none (.bin 29 .add false (.t 28) (.c (.int .i64 1))) <|
 .o none (.mv 5 (.t 29)) .nil)))) <| .seq (.seq (.rg (.o none (.fld 52 1 (.t 2)) <|
 .o none (.ld 53 1 false (.t 52)) <|
 .o none (.len 54 (.t 53)) <|
 .o none (.fld 55 1 (.t 3)) <|
 .o none (.ld 56 1 false (.t 55)) <|
 .o none (.len 57 (.t 56)) <|
 .o none (.bin 58 .neq false (.t 54) (.t 57)) .nil)) <| .cond (.t 58) (.seq (.rg (.o none (.fld 59 1 (.t 2)) <|
 .o none (.ld 60 1 false (.t 59)) <|
 .o none (.len 61 (.t 60)) <|
 .o none (.fld 62 1 (.t 3)) <|
 .o none (.ld 63 1 false (.t 62)) <|
 .o none (.len 64 (.t 63)) <|
 .o none (.call (some 65) false (.c (.fn 67 [] [])) [(.t 61), (.t 64)]) <|
 .o none (.mv 4 (.t 65)) .nil)) <| .ret) (.skip)) <| .seq (.seq (.rg (.o none (.fld 66 0 (.t 2)) <|
 .o none (.ld 67 1 false (.t 66)) <|
 .o none (.bin 68 .neq false (.t 67) (.c (.int .i64 9))) .nil)) <| .cond (.t 68) (.seq (.rg (.o none (.mv 4 (.c (.int .i64 0))) .nil)) <| .ret) (.skip)) <| .seq (.rg (.o none (.fld 69 2 (.t 2)) <|
 .o none (.ld 70 3 true (.t 69)) <|
 .o none (.fld 71 2 (.t 3)) <|
 .o none (.ld 72 3 true (.t 71)) <|
 .o none (.call (some 73) false (.c (.fn 68 [] [])) [(.t 70), (.t 72)]) <|
 .o none (.mv 4 (.t 73)) .nil)) <| .ret⟩
theorem Qxc : Qp Tryz.prog Tryz.f47 = some c47 := by kernel_rfl
def c25 : SFn := ⟨9, [.t 4], .seq (.rg (.o none (.box 2 5 35 (.t 0)) <|
 .o none (.box 3 5 35 (.t 1)) <|
 .o none (.mv 4 (.c (.bool false))) .nil)) <| .seq (.rg (.o none (.ld 5 5 true (.t 2)) <|
 .o none (.ld 6 5 true (.t 3)) <|
 .o none (.call (some 7) false (.c (.fn 47 [] [])) [(.t 5), (.t 6)]) <|
 .o none (.bin 8 .eql false (.t 7) (.c (.int .i64 0))) <|
 .o none (.mv 4 (.t 8)) .nil)) <| .ret⟩
theorem Qxd : Qp Tryz.prog Tryz.f25 = some c25 := by kernel_rfl
def c8 : SFn := ⟨37, [.t 0], .seq (.rg (.o none (.mv 0 (.c (.bool false))) .nil)) <| .seq (.rg (.o none (.call (some 6) false (.c (.fn 4 [] [])) [(.c (.int .i64 3))]) <|
 .o none (.mv 5 (.t 6)) <|
 .o none (.ext 7 (.t 5) 0) <|
 .o none (.ext 8 (.t 5) 1) <|
 .o none (.mv 1 (.t 7)) <|
 .o none (.mv 2 (.t 8)) .nil)) <| .seq (.rg (.o none (.call (some 10) false (.c (.fn 4 [] [])) [(.c (.int .i64 4))]) <|
 .o none (.mv 9 (.t 10)) <|
 .o none (.ext 11 (.t 9) 0) <|
 .o none (.ext 12 (.t 9) 1) <|
 .o none (.mv 3 (.t 11)) <|
 .o none (.mv 4 (.t 12)) .nil)) <| .seq (.rg (.o none (.mv 13 (.t 2)) <|
 .o none (.bin 14 .eql false (.t 13) (.c (.int .i64 0))) <|
 .o none (.mv 15 (.t 14)) <|
 .o (some (15, true)) (.mv 16 (.t 4)) <|
 .o (some (15, true)) (.bin 17 .eql false (.t 16) (.c (.int .i64 0))) <|
 .o none (.pick 18 (.t 15) (.t 17) (.c (.bool false))) <|
 .o none (.mv 19 (.t 18)) <|
 .o (some (19, true)) (.mv 20 (.t 1)) <|
 .o (some (19, true)) (.len 21 (.t 20)) <|
 .o (some (19, true)) (.bin 22 .eql false (.t 21) (.c (.int .i64 13))) <|
 .o none (.pick 23 (.t 19) (.t 22) (.c (.bool false))) <|
 .o none (.mv 24 (.t 23)) <|
 .o (some (24, true)) (.mv 25 (.t 3)) <|
 .o (some (24, true)) (.len 26 (.t 25)) <|
 .o (some (24, true)) (.bin 27 .eql false (.t 26) (.c (.int .i64 56))) <|
 .o none (.pick 28 (.t 24) (.t 27) (.c (.bool false))) <|
 .o none (.mv 29 (.t 28)) <|
 .o (some (29, true)) (.mv 30 (.t 1)) <|
 .o (some (29, true)) (.idx 31 5 (.t 30) (.c (.int .i64 0))) <|
 .o (some (29, true)) (.ld 32 5 true (.t 31)) <|
 .o (some (29, true)) (.bs 33 1 3 [(.c (.int .i64 0)), (.c (.int .i64 1)), (.c (.int .i64 2))]) <|
 .o (some (29, true)) (.bld 34 [(.int .i64 0), .nilS, (.bool false), .nilS, .nilS] [(0, 1, (.c (.int .i64 1))), (1, 1, (.t 33))]) <|
 .o (some (29, true)) (.call (some 35) false (.c (.fn 25 [] [])) [(.t 32), (.t 34)]) <|
 .o none (.pick 36 (.t 29) (.t 35) (.c (.bool false))) <|
 .o none (.mv 0 (.t 36)) .nil)) <| .ret⟩
theorem Qzb : Qp Tryz.prog Tryz.f8 = some c8 := by kernel_rfl
def c43 : SFn := ⟨9, [.t 4], .seq (.rg (.o none (.mv 4 (.c (.bool false))) .nil)) <| .seq (.rg (.o none (.mv 5 (.t 0)) <|
 .o none (.mv 6 (.t 1)) <|
 .o none (.call (some 7) false (.c (.fn 65 [] [])) [(.t 5), (.t 6)]) <|
 .o none (.bin 8 .geq false (.t 7) (.c (.int .i64 0))) <|
 .o none (.mv 4 (.t 8)) .nil)) <| .ret⟩
theorem Qxe : Qp Tryz.prog Tryz.f43 = some c43 := by kernel_rfl
def c65 : SFn := ⟨19, [.t 4], .seq (.rg (.o none (.mv 4 (.c (.int .i64 0))) .nil)) <| .seq (.seq (.rg (.o none (.mv 6 (.t 0)) <|
 .o none (.len 7 (.t 6)) <|
 .o none (.mv 8 (.c (.int .i64 0))) .nil)) <| .block 0 (.loop (.seq (.rg (.o none (.bin 9 .lss false (.t 8) (.t 7)) .nil)) <| .seq (.cond (.t 9) (.skip) (.exit 0)) <| .seq (.block 1 (.seq (.rg (.o none (.mv 10 (.t 8)) <|
 .o none (.mv 5 (.t 10)) .nil)) <| .seq (.rg (.o none (.mv 11 (.t 1)) <|
 .o none (.mv 12 (.t 0)) <|
 .o none (.mv 13 (.t 5)) <|
 .o none (.idx 14 1 (.t 12) (.t 13)) <|
 .o none (.ld 15 1 false (.t 14)) <|
 .o none (.bin 16 .eql false (.t 11) (.t 15)) .nil)) <| .cond (.t 16) (.seq (.rg (.o none (.mv 17 (.t 5)) <|
 .o none (.mv 4 (.t 17)) .nil)) <| .ret) (.skip))) <| .rg (.o none (.bin 18 .add false (.t 8) (.c (.int .i64 1))) <|
 .o none (.mv 8 (.t 18)) .nil)))) <| .seq (.rg (.o none (.mv 4 (.c (.int .i64 (-1)))) .nil)) <| .ret⟩
theorem Qxf : Qp Tryz.prog Tryz.f65 = some c65 := by kernel_rfl
def c64 : SFn := ⟨11, [], .seq (.rg (.o none (.mv 3 (.t 0)) <|
 .o none (.len 4 (.t 3)) <|
 .o none (.mv 2 (.t 4)) .nil)) <| .rg (.o none (.mv 5 (.t 0)) <|
 .o none (.mv 6 (.t 2)) <|
 .o none (.mv 7 (.t 2)) <|
 .o none (.conv 8 .u64 (.t 7)) <|
 .o none (.call (some 9) false (.c (.fn 76 [] [])) [(.t 8)]) <|
 .o none (.call (some 10) false (.c (.fn 75 [] [])) [(.t 5), (.c (.int .i64 0)), (.t 6), (.t 9)]) .nil)⟩
theorem Qxg : Qp Tryz.prog Tryz.f64 = some c64 := by kernel_rfl
def c75 : SFn := ⟨134, [], .seq (.rg (.o none (.mv 8 (.c (.bool true))) .nil)) <| .seq (.rg (.o none (.mv 9 (.c (.bool true))) .nil)) <| .block 0 (.loop (.block 1 (.seq (.rg (.o none (.mv 19 (.t 2)) <|
 .o none (.mv 20 (.t 1)) <|
 .o none (.bin 21 .sub false (.t 19) (.t 20)) <|
 .o none (.mv 10 (.t 21)) .nil)) <| .seq (.seq (.rg (.o none (.mv 22 (.t 10)) <|
 .o none (.bin 23 .leq false (.t 22) (.c (.int .i64 12))) .nil)) <| .cond (.t 23) (.seq (.rg (.o none (.mv 24 (.t 0)) <|
 .o none (.mv 25 (.t 1)) <|
 .o none (.mv 26 (.t 2)) <|
 .o none (.call (some 27) false (.c (.fn 86 [] [])) [(.t 24), (.t 25), (.t 26)]) .nil)) <| .ret) (.skip)) <| .seq (.seq (.rg (.o none (.mv 28 (.t 3)) <|
 .o none (.bin 29 .eql false (.t 28) (.c (.int .i64 0))) .nil)) <| .cond (.t 29) (.seq (.rg (.o none (.mv 30 (.t 0)) <|
 .o none (.mv 31 (.t 1)) <|
 .o none (.mv 32 (.t 2)) <|
 .o none (.call (some 33) false (.c (.fn 87 [] [])) [(.t 30), (.t 31), (.t 32)]) .nil)) <| .ret) (.skip)) <| .seq (.seq (.rg (.o none (.mv 34 (.t 8)) <|
 .o none (.un 35 .not (.t 34)) .nil)) <| .cond (.t 35) (.seq (.rg (.o none (.mv 36 (.t 0)) <|
 .o none (.mv 37 (.t 1)) <|
 .o none (.mv 38 (.t 2)) <|
 .o none (.call (some 39) false (.c (.fn 88 [] [])) [(.t 36), (.t 37), (.t 38)]) .nil)) <| .rg (.o none (.mv 40 (.t 3)) <|
 .o none (.bin 41 .sub false (.t 40) (.c (.int .i64 1))) <|
 .o none (.mv 3 (.t 41)) .nil)) (.skip)) <| .seq (.rg (.o none (.mv 43 (.t 0)) <|
 .o none (.mv 44 (.t 1)) <|
 .o none (.mv 45 (.t 2)) <|
 .o none (.call (some 46) false (.c (.fn 89 [] [])) [(.t 43), (.t 44), (.t 45)]) <|
 .o none (.mv 42 (.t 46)) <|
 .o none (.ext 47 (.t 42) 0) <|
 .o none (.ext 48 (.t 42) 1) <|
 .o none (.mv 11 (.t 47)) <|
 .o none (.mv 12 (.t 48)) .nil)) <| .seq (.seq (.rg (.o none (.mv 49 (.t 12)) <|
 .o none (.bin 50 .eql false (.t 49) (.c (.int .i64 2))) .nil)) <| .cond (.t 50) (.seq (.rg (.o none (.mv 51 (.t 0)) <|
 .o none (.mv 52 (.t 1)) <|
 .o none (.mv 53 (.t 2)) <|
 .o none (.call (some 54) false (.c (.fn 90 [] [])) [(.t 51), (.t 52), (.t 53)]) .nil)) <| .seq (.rg (.o none (.mv 55 (.t 2)) <|
 .o none (.bin 56 .sub false (.t 55) (.c (.int .i64 1))) <|
 .o none (.mv 57 (.t 11)) <|
 .o none (.mv 58 (.t 1)) <|
 .o none (.bin 59 .sub false (.t 57) (.t 58)) <|
 .o none (.bin 60 .sub false (.t 56) (.t 59)) <|
 .o none (.mv 11 (.t 60)) .nil)) <| .rg (.o none (.mv 12 (.c (.int .i64 1))) .nil)) (.skip)) <| .seq (.seq (.rg (.o none (.mv 61 (.t 8)) <|
 .o none (.mv 62 (.t 61)) <|
 .o (some (62, true)) (.mv 63 (.t 9)) <|
 .o none (.pick 64 (.t 62) (.t 63) (.c (.bool false))) <|
 .o none (.mv 65 (.t 64)) <|
 .o (some (65, true)) (.mv 66 (.t 12)) <|
 .o (some (65, true)) (.bin 67 .eql false (.t 66) (.c (.int .i64 1))) <|
 .o none (.pick 68 (.t 65) (.t 67) (.c (.bool false))) .nil)) <| .cond (.t 68) (.seq (.rg (.o none (.mv 69 (.t 0)) <|
 .o none (.mv 70 (.t 1)) <|
 .o none (.mv 71 (.t 2)) <|
 .o none (.call (some 72) false (.c (.fn 91 [] [])) [(.t 69), (.t 70), (.t 71)]) .nil)) <| .cond (.t 72) (.ret) (.skip)) (.skip)) <| .seq (.seq (.rg (.o none (.mv 73 (.t 1)) <|
 .o none (.bin 74 .gtr false (.t 73) (.c (.int .i64 0))) <|
 .o none (.mv 75 (.t 74)) <|
 .o (some (75, true)) (.mv 76 (.t 0)) <|
 .o (some (75, true)) (.mv 77 (.t 1)) <|
 .o (some (75, true)) (.bin 78 .sub false (.t 77) (.c (.int .i64 1))) <|
 .o (some (75, true)) (.idx 79 1 (.t 76) (.t 78)) <|
 .o (some (75, true)) (.ld 80 1 false (.t 79)) <|
 .o (some (75, true)) (.mv 81 (.t 0)) <|
 .o (some (75, true)) (.mv 82 (.t 11)) <|
 .o (some (75, true)) (.idx 83 1 (.t 81) (.t 82)) <|
 .o (some (75, true)) (.ld 84 1 false (.t 83)) <|
 .o (some (75, true)) (.call (some 85) false (.c (.fn 92 [] [])) [(.t 80), (.t 84)]) <|
 .o (some (75, true)) (.un 86 .not (.t 85)) <|
 .o none (.pick 87 (.t 75) (.t 86) (.c (.bool false))) .nil)) <| .cond (.t 87) (.seq (.rg (.o none (.mv 88 (.t 0)) <|
 .o none (.mv 89 (.t 1)) <|
 .o none (.mv 90 (.t 2)) <|
 .o none (.mv 91 (.t 11)) <|
 .o none (.call (some 92) false (.c (.fn 93 [] [])) [(.t 88), (.t 89), (.t 90), (.t 91)]) <|
 .o none (.mv 13 (.t 92)) .nil)) <| .seq (.rg (.o none (.mv 93 (.t 13)) <|
 .o none (.mv 1 (.t 93)) .nil)) <| .exit 1) (.skip)) <| .seq (.rg (.o none (.mv 95 (.t 0)) <|
 .o none (.mv 96 (.t 1)) <|
 .o none (.mv 97 (.t 2)) <|
 .o none (.mv 98 (.t 11)) <|
 .o none (.call (some 99) false (.c (.fn 94 [] [])) [(.t 95), (.t 96), (.t 97), (.t 98)]) <|
 .o none (.mv 94 (.t 99)) <|
 .o none (.ext 100 (.t 94) 0) <|
 .o none (.ext 101 (.t 94) 1) <|
 .o none (.mv 14 (.t 100)) <|
 .o none (.mv 15 (.t 101)) .nil)) <| .seq (.rg (.o none (.mv 102 (.t 15)) <|
 .o none (.mv 9 (.t 102)) .nil)) <| .seq (.rg (.o none (.mv 103 (.t 14)) <|
 .o none (.mv 104 (.t 1)) <|
 .o none (.bin 105 .sub false (.t 103) (.t 104)) <|
 .o none (.mv 106 (.t 2)) <|
 .o none (.mv 107 (.t 14)) <|
 .o none (.bin 108 .sub false (.t 106) (.t 107)) <|
 .o none (.mv 16 (.t 105)) <|
 .o none (.mv 17 (.t 108)) .nil)) <| .seq (.rg (.o none (.mv 109 (.t 10)) <|
 .o none (.bin 110 .quo false (.t 109) (.c (.int .i64 8))) <|
 .o none (.mv 18 (.t 110)) .nil)) <| .seq (.rg (.o none (.mv 111 (.t 16)) <|
 .o none (.mv 112 (.t 17)) <|
 .o none (.bin 113 .lss false (.t 111) (.t 112)) .nil)) <| .cond (.t 113) (.seq (.rg (.o none (.mv 114 (.t 16)) <|
 .o none (.mv 115 (.t 18)) <|
 .o none (.bin 116 .geq false (.t 114) (.t 115)) <|
 .o none (.mv 8 (.t 116)) .nil)) <| .seq (.rg (.o none (.mv 117 (.t 0)) <|
 .o none (.mv 118 (.t 1)) <|
 .o none (.mv 119 (.t 14)) <|
 .o none (.mv 120 (.t 3)) <|
 .o none (.call (some 121) false (.c (.fn 75 [] [])) [(.t 117), (.t 118), (.t 119), (.t 120)]) .nil)) <| .rg (.o none (.mv 122 (.t 14)) <|
 .o none (.bin 123 .add false (.t 122) (.c (.int .i64 1))) <|
 .o none (.mv 1 (.t 123)) .nil)) (.seq (.rg (.o none (.mv 124 (.t 17)) <|
 .o none (.mv 125 (.t 18)) <|
 .o none (.bin 126 .geq false (.t 124) (.t 125)) <|
 .o none (.mv 8 (.t 126)) .nil)) <| .seq (.rg (.o none (.mv 127 (.t 0)) <|
 .o none (.mv 128 (.t 14)) <|
 .o none (.bin 129 .add false (.t 128) (.c (.int .i64 1))) <|
 .o none (.mv 130 (.t 2)) <|
 .o none (.mv 131 (.t 3)) <|
 .o none (.call (some 132) false (.c (.fn 75 [] [])) [(.t 127), (.t 129), (.t 130), (.t 131)]) .nil)) <| .rg (.o none (.mv 133 (.t 14)) <|
 .o none (.mv 2 (.t 133)) .nil)))))⟩
theorem Qxh : Qp Tryz.prog Tryz.f75 = some c75 := by kernel_rfl
def c86 : SFn := ⟨49, [], .seq (.rg (.o none (.mv 8 (.t 1)) <|
 .o none (.bin 9 .add false (.t 8) (.c (.int .i64 1))) <|
 .o none (.mv 6 (.t 9)) .nil)) <| .block 0 (.loop (.seq (.seq (.rg (.o none (.mv 10 (.t 6)) <|
 .o none (.mv 11 (.t 2)) <|
 .o none (.bin 12 .lss false (.t 10) (.t 11)) .nil)) <| .cond (.t 12) (.skip) (.exit 0)) <| .seq (.block 1 (.seq (.rg (.o none (.mv 15 (.t 6)) <|
 .o none (.mv 7 (.t 15)) .nil)) <| .block 2 (.loop (.seq (.seq (.rg (.o none (.mv 16 (.t 7)) <|
 .o none (.mv 17 (.t 1)) <|
 .o none (.bin 18 .gtr false (.t 16) (.t 17)) <|
 .o none (.mv 19 (.t 18)) <|
 .o (some (19, true)) (.mv 20 (.t 0)) <|
 .o (some (19, true)) (.mv 21 (.t 7)) <|
 .o (some (19, true)) (.idx 22 1 (.t 20) (.t 21)) <|
 .o (some (19, true)) (.ld 23 1 false (.t 22)) <|
 .o (some (19, true)) (.mv 24 (.t 0)) <|
 .o (some (19, true)) (.mv 25 (.t 7)) <|
 .o (some (19, true)) (.bin 26 .sub false (.t 25) (.c (.int .i64 1))) <|
 .o (some (19, true)) (.idx 27 1 (.t 24) (.t 26)) <|
 .o (some (19, true)) (.ld 28 1 false (.t 27)) <|
 .o (some (19, true)) (.call (some 29) false (.c (.fn 92 [] [])) [(.t 23), (.t 28)]) <|
 .o none (.pick 30 (.t 19) (.t 29) (.c (.bool false))) .nil)) <| .cond (.t 30) (.skip) (.exit 2)) <| .seq (.block 3 (.rg (.o none (.mv 33 (.t 0)) <|
 .o none (.mv 34 (.t 7)) <|
 .o none (.mv 35 (.t 0)) <|
 .o none (.mv 36 (.t 7)) <|
 .o none (.bin 37 .sub false (.t 36) (.c (.int .i64 1))) <|
 .o none (.mv 38 (.t 0)) <|
 .o none (.mv 39 (.t 7)) <|
 .o none (.bin 40 .sub false (.t 39) (.c (.int .i64 1))) <|
 .o none (.idx 41 1 (.t 38) (.t 40)) <|
 .o none (.ld 42 1 false (.t 41)) <|
 .o none (.mv 43 (.t 0)) <|
 .o none (.mv 44 (.t 7)) <|
 .o none (.idx 45 1 (.t 43) (.t 44)) <|
 .o none (.ld 46 1 false (.t 45)) <|
 .o none (.idx 47 1 (.t 33) (.t 34)) <|
 .o none (.st 1 (.t 47) (.t 42)) <|
 .o none (.idx 48 1 (.t 35) (.t 37)) <|
 .o none (.st 1 (.t 48) (.t 46)) .nil))) <| .rg (.o none (.mv 31 (.t 7)) <|
 .o none (.bin 32 .sub false (.t 31) (.c (.int .i64 1))) <|
 .o none (.mv 7 (.t 32)) .nil))))) <| .rg (.o none (.mv 13 (.t 6)) <|
 .o none (.bin 14 .add false (.t 13) (.c (.int .i64 1))) <|
 .o none (.mv 6 (.t 14)) .nil)))⟩
theorem Qxi : Qp Tryz.prog Tryz.f86 = some c86 := by kernel_rfl
def c92 : SFn := ⟨17, [.t 4], .seq (.rg (.o none (.mv 4 (.c (.bool false))) .nil)) <| .seq (.rg (.o none (.mv 5 (.t 0)) <|
 .o none (.call (some 6) false (.c (.fn 30 [] [])) [(.t 5)]) <|
 .o none (.mv 7 (.t 6)) <|
 .o (some (7, true)) (.mv 8 (.t 1)) <|
 .o (some (7, true)) (.call (some 9) false (.c (.fn 30 [] [])) [(.t 8)]) <|
 .o (some (7, true)) (.un 10 .not (.t 9)) <|
 .o none (.pick 11 (.t 7) (.t 10) (.c (.bool false))) <|
 .o none (.mv 12 (.t 11)) <|
 .o (some (12, false)) (.mv 13 (.t 0)) <|
 .o (some (12, false)) (.mv 14 (.t 1)) <|
 .o (some (12, false)) (.bin 15 .lss false (.t 13) (.t 14)) <|
 .o none (.pick 16 (.t 12) (.c (.bool true)) (.t 15)) <|
 .o none (.mv 4 (.t 16)) .nil)) <| .ret⟩
theorem Qxj : Qp Tryz.prog Tryz.f92 = some c92 := by kernel_rfl
def c30 : SFn := ⟨6, [.t 2], .seq (.rg (.o none (.mv 2 (.c (.bool false))) .nil)) <| .seq (.rg (.o none (.mv 3 (.t 0)) <|
 .o none (.mv 4 (.t 0)) <|
 .o none (.bin 5 .neq false (.t 3) (.t 4)) <|
 .o none (.mv 2 (.t 5)) .nil)) <| .ret⟩
theorem Qxk : Qp Tryz.prog Tryz.f30 = some c30 := by kernel_rfl
def c76 : SFn := ⟨8, [.t 2], .seq (.rg (.o none (.mv 2 (.c (.int .i64 0))) .nil)) <| .seq (.cond (.c (.bool false)) (.seq (.rg (.o none (.mv 3 (.t 0)) <|
 .o none (.conv 4 .u32 (.t 3)) <|
 .o none (.call (some 5) false (.c (.fn 95 [] [])) [(.t 4)]) <|
 .o none (.mv 2 (.t 5)) .nil)) <| .ret) (.skip)) <| .seq (.rg (.o none (.mv 6 (.t 0)) <|
 .o none (.call (some 7) false (.c (.fn 96 [] [])) [(.t 6)]) <|
 .o none (.mv 2 (.t 7)) .nil)) <| .ret⟩
theorem Qxl : Qp Tryz.prog Tryz.f76 = some c76 := by kernel_rfl
def c14 : SFn := ⟨18, [.t 2], .seq (.rg (.o none (.mv 2 (.c (.int .i64 0))) .nil)) <| .seq (.rg (.o none (.mv 3 (.c (.int .i64 0))) .nil)) <| .seq (.seq (.rg (.o none (.mv 6 (.t 0)) <|
 .o none (.len 7 (.t 6)) <|
 .o none (.mv 8 (.c (.int .i64 0))) .nil)) <| .block 0 (.loop (.seq (.rg (.o none (.bin 9 .lss false (.t 8) (.t 7)) .nil)) <| .seq (.cond (.t 9) (.skip) (.exit 0)) <| .seq (.block 1 (.seq (.rg (.o none (.idx 10 1 (.t 6) (.t 8)) <|
 .o none (.ld 11 1 false (.t 10)) <|
 .o none (.mv 5 (.t 11)) .nil)) <| .seq (.rg (.o none (.mv 12 (.t 5)) <|
 .o none (.mv 13 (.t 3)) <|
 .o none (.bin 14 .neq false (.t 12) (.t 13)) .nil)) <| .cond (.t 14) (.seq (.rg (.o none (.mv 15 (.t 5)) <|
 .o none (.mv 2 (.t 15)) .nil)) <| .ret) (.skip))) <| .rg (.o none (.bin 16 .add false (.t 8) (.c (.int .i64 1))) <|
 .o none (.mv 8 (.t 16)) .nil)))) <| .seq (.rg (.o none (.mv 17 (.t 3)) <|
 .o none (.mv 2 (.t 17)) .nil)) <| .ret⟩
theorem Qlc : Qp Tryz.prog Tryz.f14 = some c14 := by kernel_rfl
def c15 : SFn := ⟨20, [.t 4], .seq (.rg (.o none (.mv 4 (.c (.int .i64 0))) .nil)) <| .seq (.rg (.o none (.mv 7 (.t 0)) <|
 .o none (.call (some 8) false (.c (.fn 30 [] [])) [(.t 7)]) <|
 .o none (.mv 5 (.t 8)) .nil)) <| .seq (.rg (.o none (.mv 9 (.t 1)) <|
 .o none (.call (some 10) false (.c (.fn 30 [] [])) [(.t 9)]) <|
 .o none (.mv 6 (.t 10)) .nil)) <| .seq (.seq (.rg (.o none (.mv 11 (.t 5)) .nil)) <| .cond (.t 11) (.seq (.seq (.rg (.o none (.mv 12 (.t 6)) .nil)) <| .cond (.t 12) (.seq (.rg (.o none (.mv 4 (.c (.int .i64 0))) .nil)) <| .ret) (.skip)) <| .seq (.rg (.o none (.mv 4 (.c (.int .i64 (-1)))) .nil)) <| .ret) (.skip)) <| .seq (.seq (.rg (.o none (.mv 13 (.t 6)) .nil)) <| .cond (.t 13) (.seq (.rg (.o none (.mv 4 (.c (.int .i64 1))) .nil)) <| .ret) (.skip)) <| .seq (.seq (.rg (.o none (.mv 14 (.t 0)) <|
 .o none (.mv 15 (.t 1)) <|
 .o none (.bin 16 .lss false (.t 14) (.t 15)) .nil)) <| .cond (.t 16) (.seq (.rg (.o none (.mv 4 (.c (.int .i64 (-1)))) .nil)) <| .ret) (.skip)) <| .seq (.seq (.rg (.o none (.mv 17 (.t 0)) <|
 .o none (.mv 18 (.t 1)) <|
 .o none (.bin 19 .gtr false (.t 17) (.t 18)) .nil)) <| .cond (.t 19) (.seq (.rg (.o none (.mv 4 (.c (.int .i64 1))) .nil)) <| .ret) (.skip)) <| .seq (.rg (.o none (.mv 4 (.c (.int .i64 0))) .nil)) <| .ret⟩
theorem Qxm : Qp Tryz.prog Tryz.f15 = some c15 := by kernel_rfl
def c16 : SFn := ⟨36, [.t 4], .seq (.rg (.o none (.mv 4 (.c (.int .i64 0))) .nil)) <| .seq (.seq (.rg (.o none (.mv 9 (.t 0)) <|
 .o none (.len 10 (.t 9)) <|
 .o none (.mv 11 (.c (.int .i64 0))) .nil)) <| .block 0 (.loop (.seq (.rg (.o none (.bin 12 .lss false (.t 11) (.t 10)) .nil)) <| .seq (.cond (.t 12) (.skip) (.exit 0)) <| .seq (.block 1 (.seq (.rg (.o none (.mv 13 (.t 11)) <|
 .o none (.idx 14 1 (.t 9) (.t 11)) <|
 .o none (.ld 15 1 false (.t 14)) <|
 .o none (.mv 5 (.t 13)) <|
 .o none (.mv 6 (.t 15)) .nil)) <| .seq (.seq (.rg (.o none (.mv 16 (.t 5)) <|
 .o none (.mv 17 (.t 1)) <|
 .o none (.len 18 (.t 17)) <|
 .o none (.bin 19 .geq false (.t 16) (.t 18)) .nil)) <| .cond (.t 19) (.seq (.rg (.o none (.mv 4 (.c (.int .i64 1))) .nil)) <| .ret) (.skip)) <| .seq (.rg (.o none (.mv 20 (.t 1)) <|
 .o none (.mv 21 (.t 5)) <|
 .o none (.idx 22 1 (.t 20) (.t 21)) <|
 .o none (.ld 23 1 false (.t 22)) <|
 .o none (.mv 7 (.t 23)) .nil)) <| .seq (.rg (.o none (.mv 24 (.t 6)) <|
 .o none (.mv 25 (.t 7)) <|
 .o none (.call (some 26) false (.c (.fn 15 [] [])) [(.t 24), (.t 25)]) <|
 .o none (.mv 8 (.t 26)) .nil)) <| .seq (.rg (.o none (.mv 27 (.t 8)) <|
 .o none (.bin 28 .neq false (.t 27) (.c (.int .i64 0))) .nil)) <| .cond (.t 28) (.seq (.rg (.o none (.mv 29 (.t 8)) <|
 .o none (.mv 4 (.t 29)) .nil)) <| .ret) (.skip))) <| .rg (.o none (.bin 30 .add false (.t 11) (.c (.int .i64 1))) <|
 .o none (.mv 11 (.t 30)) .nil)))) <| .seq (.seq (.rg (.o none (.mv 31 (.t 0)) <|
 .o none (.len 32 (.t 31)) <|
 .o none (.mv 33 (.t 1)) <|
 .o none (.len 34 (.t 33)) <|
 .o none (.bin 35 .lss false (.t 32) (.t 34)) .nil)) <| .cond (.t 35) (.seq (.rg (.o none (.mv 4 (.c (.int .i64 (-1)))) .nil)) <| .ret) (.skip)) <| .seq (.rg (.o none (.mv 4 (.c (.int .i64 0))) .nil)) <| .ret⟩
theorem Qxn : Qp Tryz.prog Tryz.f16 = some c16 := by kernel_rfl
def c46 : SFn := ⟨12, [.cell 4 2 true], .seq (.rg (.o none (.alloc 4 2 62 (.agg [(.int .i64 0), (.int .i64 0)])) .nil)) <| .seq (.rg (.o none (.mv 5 (.t 0)) <|
 .o none (.mv 6 (.t 1)) <|
 .o none (.mn 7 (.t 5) (.t 6)) <|
 .o none (.mv 8 (.t 0)) <|
 .o none (.mv 9 (.t 1)) <|
 .o none (.mx 10 (.t 8) (.t 9)) <|
 .o none (.bld 11 [(.int .i64 0), (.int .i64 0)] [(0, 1, (.t 7)), (1, 1, (.t 10))]) <|
 .o none (.st 2 (.t 4) (.t 11)) .nil)) <| .ret⟩
theorem Qxo : Qp Tryz.prog Tryz.f46 = some c46 := by kernel_rfl
def c24 : SFn := ⟨8, [.t 2], .seq (.rg (.o none (.box 1 2 62 (.t 0)) <|
 .o none (.mv 2 (.c (.bool false))) .nil)) <| .seq (.rg (.o none (.idxA 3 2 1 (.t 1) (.c (.int .i64 0))) <|
 .o none (.ld 4 1 false (.t 3)) <|
 .o none (.idxA 5 2 1 (.t 1) (.c (.int .i64 1))) <|
 .o none (.ld 6 1 false (.t 5)) <|
 .o none (.bin 7 .eql false (.t 4) (.t 6)) <|
 .o none (.mv 2 (.t 7)) .nil)) <| .ret⟩
theorem Qxp : Qp Tryz.prog Tryz.f24 = some c24 := by kernel_rfl
def c58 : SFn := ⟨15, [.t 4], .seq (.rg (.o none (.box 2 2 62 (.t 0)) <|
 .o none (.mv 4 (.c (.bool false))) .nil)) <| .seq (.rg (.o none (.idxA 5 2 1 (.t 2) (.c (.int .i64 0))) <|
 .o none (.ld 6 1 false (.t 5)) <|
 .o none (.mv 7 (.t 1)) <|
 .o none (.bin 8 .eql false (.t 6) (.t 7)) <|
 .o none (.mv 9 (.t 8)) <|
 .o (some (9, false)) (.idxA 10 2 1 (.t 2) (.c (.int .i64 1))) <|
 .o (some (9, false)) (.ld 11 1 false (.t 10)) <|
 .o (some (9, false)) (.mv 12 (.t 1)) <|
 .o (some (9, false)) (.bin 13 .eql false (.t 11) (.t 12)) <|
 .o none (.pick 14 (.t 9) (.c (.bool true)) (.t 13)) <|
 .o none (.mv 4 (.t 14)) .nil)) <| .ret⟩
theorem Qpv : Qp Tryz.prog Tryz.f58 = some c58 := by kernel_rfl
def c60 : SFn := ⟨17, [.t 4], .seq (.rg (.o none (.box 2 2 62 (.t 0)) <|
 .o none (.box 3 2 62 (.t 1)) <|
 .o none (.mv 4 (.c (.int .i64 0))) .nil)) <| .seq (.rg (.o none (.idxA 5 2 1 (.t 2) (.c (.int .i64 0))) <|
 .o none (.ld 6 1 false (.t 5)) <|
 .o none (.idxA 7 2 1 (.t 3) (.c (.int .i64 0))) <|
 .o none (.ld 8 1 false (.t 7)) <|
 .o none (.idxA 10 2 1 (.t 2) (.c (.int .i64 1))) <|
 .o none (.ld 11 1 false (.t 10)) <|
 .o none (.idxA 12 2 1 (.t 3) (.c (.int .i64 1))) <|
 .o none (.ld 13 1 false (.t 12)) <|
 .o none (.call (some 9) true (.c (.fn 15 [] [])) [(.t 6), (.t 8)]) <|
 .o none (.call (some 14) true (.c (.fn 15 [] [])) [(.t 11), (.t 13)]) <|
 .o none (.bs 15 1 3 [(.t 9), (.t 14)]) <|
 .o none (.call (some 16) true (.c (.fn 14 [] [])) [(.t 15)]) <|
 .o none (.mv 4 (.t 16)) .nil)) <| .ret⟩
theorem Qxq : Qp Tryz.prog Tryz.f60 = some c60 := by kernel_rfl
def c23 : SFn := ⟨29, [.t 2], .seq (.rg (.o none (.box 1 5 35 (.t 0)) <|
 .o none (.mv 2 (.c .nilS)) .nil)) <| .seq (.rg (.o none (.mv 3 (.c .nilS)) .nil)) <| .seq (.seq (.rg (.o none (.mv 4 (.c (.int .i64 0))) .nil)) <| .block 0 (.loop (.seq (.seq (.rg (.o none (.mv 5 (.t 4)) <|
 .o none (.bin 6 .add false (.t 5) (.c (.int .i64 1))) <|
 .o none (.fld 7 1 (.t 1)) <|
 .o none (.ld 8 1 false (.t 7)) <|
 .o none (.len 9 (.t 8)) <|
 .o none (.bin 10 .lss false (.t 6) (.t 9)) .nil)) <| .cond (.t 10) (.skip) (.exit 0)) <| .seq (.block 1 (.rg (.o none (.mv 13 (.t 3)) <|
 .o none (.fld 14 1 (.t 1)) <|
 .o none (.ld 15 1 false (.t 14)) <|
 .o none (.mv 16 (.t 4)) <|
 .o none (.idx 17 1 (.t 15) (.t 16)) <|
 .o none (.ld 18 1 false (.t 17)) <|
 .o none (.fld 19 1 (.t 1)) <|
 .o none (.ld 20 1 false (.t 19)) <|
 .o none (.mv 21 (.t 4)) <|
 .o none (.bin 22 .add false (.t 21) (.c (.int .i64 1))) <|
 .o none (.idx 23 1 (.t 20) (.t 22)) <|
 .o none (.ld 24 1 false (.t 23)) <|
 .o none (.call (some 25) false (.c (.fn 46 [] [])) [(.t 18), (.t 24)]) <|
 .o none (.bs 26 2 62 [(.t 25)]) <|
 .o none (.app 27 2 16 62 (.t 13) (.t 26)) <|
 .o none (.mv 3 (.t 27)) .nil))) <| .rg (.o none (.mv 11 (.t 4)) <|
 .o none (.bin 12 .add false (.t 11) (.c (.int .i64 2))) <|
 .o none (.mv 4 (.t 12)) .nil)))) <| .seq (.rg (.o none (.mv 28 (.t 3)) <|
 .o none (.mv 2 (.t 28)) .nil)) <| .ret⟩
theorem Qxr : Qp Tryz.prog Tryz.f23 = some c23 := by kernel_rfl
def c18 : SFn := ⟨6, [.t 2], .seq (.rg (.o none (.box 1 5 35 (.t 0)) <|
 .o none (.mv 2 (.c (.bool false))) .nil)) <| .seq (.rg (.o none (.ld 3 5 true (.t 1)) <|
 .o none (.call (some 4) false (.c (.fn 36 [] [])) [(.t 3), (.c (.int .i64 40))]) <|
 .o none (.bin 5 .eql false (.t 4) (.c (.int .i64 0))) <|
 .o none (.mv 2 (.t 5)) .nil)) <| .ret⟩
theorem Qxs : Qp Tryz.prog Tryz.f18 = some c18 := by kernel_rfl
def c20 : SFn := ⟨18, [.t 2], .seq (.rg (.o none (.mv 2 (.c (.bool false))) .nil)) <| .seq (.seq (.rg (.o none (.mv 4 (.t 0)) <|
 .o none (.len 5 (.t 4)) <|
 .o none (.mv 6 (.c (.int .i64 0))) .nil)) <| .block 0 (.loop (.seq (.rg (.o none (.bin 7 .lss false (.t 6) (.t 5)) .nil)) <| .seq (.cond (.t 7) (.skip) (.exit 0)) <| .seq (.block 1 (.seq (.rg (.o none (.mv 8 (.t 6)) <|
 .o none (.mv 3 (.t 8)) .nil)) <| .seq (.rg (.o none (.mv 9 (.t 0)) <|
 .o none (.mv 10 (.t 3)) <|
 .o none (.sl 11 1 (.t 9) none (some (.t 10)) none) <|
 .o none (.mv 12 (.t 0)) <|
 .o none (.mv 13 (.t 3)) <|
 .o none (.idx 14 1 (.t 12) (.t 13)) <|
 .o none (.ld 15 1 false (.t 14)) <|
 .o none (.call (some 16) false (.c (.fn 43 [] [])) [(.t 11), (.t 15)]) .nil)) <| .cond (.t 16) (.seq (.rg (.o none (.mv 2 (.c (.bool true))) .nil)) <| .ret) (.skip))) <| .rg (.o none (.bin 17 .add false (.t 6) (.c (.int .i64 1))) <|
 .o none (.mv 6 (.t 17)) .nil)))) <| .seq (.rg (.o none (.mv 2 (.c (.bool false))) .nil)) <| .ret⟩
theorem Qxt : Qp Tryz.prog Tryz.f20 = some c20 := by kernel_rfl
def c42 : SFn := ⟨13, [.cell 2 5 true], .seq (.rg (.o none (.box 1 5 35 (.t 0)) <|
 .o none (.alloc 2 5 35 (.agg [(.int .i64 0), .nilS, (.bool false), .nilS, .nilS])) .nil)) <| .seq (.rg (.o none (.fld 4 1 (.t 1)) <|
 .o none (.ld 5 1 false (.t 4)) <|
 .o none (.call (some 6) false (.c (.fn 63 [] [])) [(.t 5)]) <|
 .o none (.mv 3 (.t 6)) .nil)) <| .seq (.rg (.o none (.mv 7 (.t 3)) <|
 .o none (.call (some 8) false (.c (.fn 64 [] [])) [(.t 7)]) .nil)) <| .seq (.rg (.o none (.fld 9 0 (.t 1)) <|
 .o none (.ld 10 1 false (.t 9)) <|
 .o none (.mv 11 (.t 3)) <|
 .o none (.bld 12 [(.int .i64 0), .nilS, (.bool false), .nilS, .nilS] [(0, 1, (.t 10)), (1, 1, (.t 11))]) <|
 .o none (.st 5 (.t 2) (.t 12)) .nil)) <| .ret⟩
theorem Qxu : Qp Tryz.prog Tryz.f42 = some c42 := by kernel_rfl
def c37 : SFn := ⟨25, [.cell 2 5 true], .seq (.rg (.o none (.box 1 5 35 (.t 0)) <|
 .o none (.alloc 2 5 35 (.agg [(.int .i64 0), .nilS, (.bool false), .nilS, .nilS])) .nil)) <| .seq (.rg (.o none (.fld 4 1 (.t 1)) <|
 .o none (.ld 5 1 false (.t 4)) <|
 .o none (.idx 6 1 (.t 5) (.c (.int .i64 1))) <|
 .o none (.ld 7 1 false (.t 6)) <|
 .o none (.fld 8 1 (.t 1)) <|
 .o none (.ld 9 1 false (.t 8)) <|
 .o none (.idx 10 1 (.t 9) (.c (.int .i64 2))) <|
 .o none (.ld 11 1 false (.t 10)) <|
 .br (.o none (.call (some 12) true (.c (.fn 46 [] [])) [(.t 7), (.t 11)]) <|
 .o none (.alloc 3 2 62 (.agg [(.int .i64 0), (.int .i64 0)])) <|
 .o none (.st 2 (.t 3) (.t 12)) .nil) (.o none (.alloc 3 2 62 (.agg [(.int .i64 0), (.int .i64 0)])) <|
 .o none (.call (some 12) true (.c (.fn 46 [] [])) [(.t 7), (.t 11)]) <|
 .o none (.st 2 (.t 3) (.t 12)) .nil))) <| .seq (.rg (.o none (.fld 13 0 (.t 1)) <|
 .o none (.ld 14 1 false (.t 13)) <|
 .o none (.fld 15 1 (.t 1)) <|
 .o none (.ld 16 1 false (.t 15)) <|
 .o none (.idx 17 1 (.t 16) (.c (.int .i64 0))) <|
 .o none (.ld 18 1 false (.t 17)) <|
 .o none (.idxA 19 2 1 (.t 3) (.c (.int .i64 0))) <|
 .o none (.ld 20 1 false (.t 19)) <|
 .o none (.idxA 21 2 1 (.t 3) (.c (.int .i64 1))) <|
 .o none (.ld 22 1 false (.t 21)) <|
 .o none (.bs 23 1 3 [(.t 18), (.t 20), (.t 22)]) <|
 .o none (.bld 24 [(.int .i64 0), .nilS, (.bool false), .nilS, .nilS] [(0, 1, (.t 14)), (1, 1, (.t 23))]) <|
 .o none (.st 5 (.t 2) (.t 24)) .nil)) <| .ret⟩
theorem Qxv : Qp Tryz.prog Tryz.f37 = some c37 := by kernel_rfl
def c39 : SFn := ⟨29, [.cell 2 5 true], .seq (.rg (.o none (.box 1 5 35 (.t 0)) <|
 .o none (.alloc 2 5 35 (.agg [(.int .i64 0), .nilS, (.bool false), .nilS, .nilS])) .nil)) <| .seq (.rg (.o none (.ld 4 5 true (.t 1)) <|
 .o none (.call (some 5) false (.c (.fn 23 [] [])) [(.t 4)]) <|
 .o none (.mv 3 (.t 5)) .nil)) <| .seq (.seq (.rg (.o none (.mv 6 (.t 3)) <|
 .o none (.idx 7 2 (.t 6) (.c (.int .i64 1))) <|
 .o none (.ld 8 2 true (.t 7)) <|
 .o none (.mv 9 (.t 3)) <|
 .o none (.idx 10 2 (.t 9) (.c (.int .i64 0))) <|
 .o none (.ld 11 2 true (.t 10)) <|
 .o none (.call (some 12) false (.c (.fn 60 [] [])) [(.t 8), (.t 11)]) <|
 .o none (.bin 13 .lss false (.t 12) (.c (.int .i64 0))) .nil)) <| .cond (.t 13) (.rg (.o none (.mv 14 (.t 3)) <|
 .o none (.mv 15 (.t 3)) <|
 .o none (.mv 16 (.t 3)) <|
 .o none (.idx 17 2 (.t 16) (.c (.int .i64 1))) <|
 .o none (.ld 18 2 true (.t 17)) <|
 .o none (.mv 19 (.t 3)) <|
 .o none (.idx 20 2 (.t 19) (.c (.int .i64 0))) <|
 .o none (.ld 21 2 true (.t 20)) <|
 .o none (.idx 22 2 (.t 14) (.c (.int .i64 0))) <|
 .o none (.st 2 (.t 22) (.t 18)) <|
 .o none (.idx 23 2 (.t 15) (.c (.int .i64 1))) <|
 .o none (.st 2 (.t 23) (.t 21)) .nil)) (.skip)) <| .seq (.rg (.o none (.fld 24 0 (.t 1)) <|
 .o none (.ld 25 1 false (.t 24)) <|
 .o none (.bld 26 [(.bool false), .nilS, .nilS] []) <|
 .o none (.mv 27 (.t 3)) <|
 .o none (.call (some 28) false (.c (.fn 61 [] [])) [(.t 25), (.t 26), (.t 27)]) <|
 .o none (.st 5 (.t 2) (.t 28)) .nil)) <| .ret⟩
theorem Qxw : Qp Tryz.prog Tryz.f39 = some c39 := by kernel_rfl
def c38 : SFn := ⟨36, [.cell 2 5 true], .seq (.rg (.o none (.box 1 5 35 (.t 0)) <|
 .o none (.alloc 2 5 35 (.agg [(.int .i64 0), .nilS, (.bool false), .nilS, .nilS])) .nil)) <| .seq (.rg (.o none (.ld 6 5 true (.t 1)) <|
 .o none (.call (some 7) false (.c (.fn 23 [] [])) [(.t 6)]) <|
 .o none (.mv 3 (.t 7)) .nil)) <| .seq (.seq (.rg (.o none (.mv 8 (.t 3)) <|
 .o none (.idx 9 2 (.t 8) (.c (.int .i64 0))) <|
 .o none (.ld 10 2 true (.t 9)) <|
 .o none (.mv 11 (.c (.int .i64 0))) .nil)) <| .block 0 (.loop (.seq (.rg (.o none (.bin 12 .lss false (.t 11) (.c (.int .i64 2))) .nil)) <| .seq (.cond (.t 12) (.skip) (.exit 0)) <| .seq (.block 1 (.seq (.rg (.o none (.ixv 13 2 1 false (.t 10) (.t 11)) <|
 .o none (.mv 5 (.t 13)) .nil)) <| .seq (.rg (.o none (.mv 14 (.t 3)) <|
 .o none (.idx 15 2 (.t 14) (.c (.int .i64 1))) <|
 .o none (.ld 16 2 true (.t 15)) <|
 .o none (.mv 17 (.t 5)) <|
 .o none (.call (some 18) false (.c (.fn 58 [] [])) [(.t 16), (.t 17)]) .nil)) <| .cond (.t 18) (.seq (.rg (.o none (.mv 19 (.t 5)) <|
 .o none (.mv 20 (.t 3)) <|
 .o none (.idx 21 2 (.t 20) (.c (.int .i64 0))) <|
 .o none (.ld 22 2 true (.t 21)) <|
 .o none (.mv 23 (.t 5)) <|
 .o none (.mv 25 (.t 3)) <|
 .o none (.idx 26 2 (.t 25) (.c (.int .i64 1))) <|
 .o none (.ld 27 2 true (.t 26)) <|
 .o none (.mv 28 (.t 5)) <|
 .o none (.call (some 24) true (.c (.fn 59 [] [])) [(.t 22), (.t 23)]) <|
 .o none (.call (some 29) true (.c (.fn 59 [] [])) [(.t 27), (.t 28)]) <|
 .o none (.bs 30 1 3 [(.t 19), (.t 24), (.t 29)]) <|
 .o none (.bld 31 [(.int .i64 0), .nilS, (.bool false), .nilS, .nilS] [(0, 1, (.c (.int .i64 1))), (1, 1, (.t 30))]) <|
 .o none (.call (some 32) true (.c (.fn 42 [] [])) [(.t 31)]) <|
 .o none (.st 5 (.t 2) (.t 32)) .nil)) <| .ret) (.skip))) <| .rg (.o none (.bin 33 .add false (.t 11) (.c (.int .i64 1))) <|
 .o none (.mv 11 (.t 33)) .nil)))) <| .seq (.rg (.o none (.ld 34 5 true (.t 1)) <|
 .o none (.call (some 35) false (.c (.fn 39 [] [])) [(.t 34)]) <|
 .o none (.st 5 (.t 2) (.t 35)) .nil)) <| .ret⟩
theorem Qxx : Qp Tryz.prog Tryz.f38 = some c38 := by kernel_rfl
def c6 : SFn := ⟨13, [.cell 2 5 true], .seq (.rg (.o none (.box 1 5 35 (.t 0)) <|
 .o none (.alloc 2 5 35 (.agg [(.int .i64 0), .nilS, (.bool false), .nilS, .nilS])) .nil)) <| .seq (.seq (.rg (.o none (.ld 3 5 true (.t 1)) <|
 .o none (.call (some 4) false (.c (.fn 18 [] [])) [(.t 3)]) <|
 .o none (.un 5 .not (.t 4)) .nil)) <| .cond (.t 5) (.seq (.rg (.o none (.bld 6 [(.int .i64 0), .nilS, (.bool false), .nilS, .nilS] []) <|
 .o none (.st 5 (.t 2) (.t 6)) .nil)) <| .ret) (.skip)) <| .seq (.rg (.o none (.fld 7 0 (.t 1)) <|
 .o none (.ld 8 1 false (.t 7)) <|
 .o none (.ld 11 5 true (.t 1)) <|
 .o none (.call (some 9) true (.c (.fn 19 [] [])) [(.t 8)]) <|
 .o none (.fldv 10 0 1 false (.t 9)) <|
 .o none (.call (some 12) true (.t 10) [(.t 11)]) <|
 .o none (.st 5 (.t 2) (.t 12)) .nil)) <| .ret⟩
theorem Qzc : Qp Tryz.prog Tryz.f6 = some c6 := by kernel_rfl
def c5 : SFn := ⟨31, [.t 4], .seq (.rg (.o none (.box 2 5 35 (.t 0)) <|
 .o none (.box 3 5 35 (.t 1)) <|
 .o none (.mv 4 (.c (.int .i64 0))) .nil)) <| .seq (.seq (.rg (.o none (.fld 6 0 (.t 2)) <|
 .o none (.ld 7 1 false (.t 6)) <|
 .o none (.fld 8 0 (.t 3)) <|
 .o none (.ld 9 1 false (.t 8)) <|
 .o none (.fld 11 1 (.t 2)) <|
 .o none (.ld 12 1 false (.t 11)) <|
 .o none (.fld 13 1 (.t 3)) <|
 .o none (.ld 14 1 false (.t 13)) <|
 .o none (.call (some 10) true (.c (.fn 15 [] [])) [(.t 7), (.t 9)]) <|
 .o none (.call (some 15) true (.c (.fn 16 [] [])) [(.t 12), (.t 14)]) <|
 .o none (.bs 16 1 3 [(.t 10), (.t 15)]) <|
 .o none (.call (some 17) true (.c (.fn 14 [] [])) [(.t 16)]) <|
 .o none (.mv 5 (.t 17)) .nil)) <| .seq (.rg (.o none (.mv 18 (.t 5)) <|
 .o none (.bin 19 .neq false (.t 18) (.c (.int .i64 0))) <|
 .o none (.mv 20 (.t 19)) <|
 .o (some (20, false)) (.fld 21 0 (.t 2)) <|
 .o (some (20, false)) (.ld 22 1 false (.t 21)) <|
 .o (some (20, false)) (.bin 23 .neq false (.t 22) (.c (.int .i64 9))) <|
 .o none (.pick 24 (.t 20) (.c (.bool true)) (.t 23)) .nil)) <| .cond (.t 24) (.seq (.rg (.o none (.mv 25 (.t 5)) <|
 .o none (.mv 4 (.t 25)) .nil)) <| .ret) (.skip)) <| .seq (.rg (.o none (.fld 26 2 (.t 2)) <|
 .o none (.ld 27 3 true (.t 26)) <|
 .o none (.fld 28 2 (.t 3)) <|
 .o none (.ld 29 3 true (.t 28)) <|
 .o none (.call (some 30) false (.c (.fn 17 [] [])) [(.t 27), (.t 29)]) <|
 .o none (.mv 4 (.t 30)) .nil)) <| .ret⟩
theorem Qzd : Qp Tryz.prog Tryz.f5 = some c5 := by kernel_rfl
def c7 : SFn := ⟨102, [.t 2], .seq (.rg (.o none (.box 1 5 35 (.t 0)) <|
 .o none (.mv 2 (.c (.bool false))) .nil)) <| .seq (.seq (.rg (.o none (.ld 4 5 true (.t 1)) <|
 .o none (.call (some 5) false (.c (.fn 18 [] [])) [(.t 4)]) <|
 .o none (.un 6 .not (.t 5)) .nil)) <| .cond (.t 6) (.seq (.rg (.o none (.mv 2 (.c (.bool false))) .nil)) <| .ret) (.skip)) <| .seq (.seq (.rg (.o none (.fld 7 0 (.t 1)) <|
 .o none (.ld 8 1 false (.t 7)) .nil)) <| .block 0 (.seq (.seq (.rg (.o none (.bin 10 .eql false (.t 8) (.c (.int .i64 1))) <|
 .o none (.mv 9 (.t 10)) .nil)) <| .cond (.t 9) (.skip) (.seq (.rg (.o none (.bin 11 .eql false (.t 8) (.c (.int .i64 6))) <|
 .o none (.mv 9 (.t 11)) .nil)) <| .cond (.t 9) (.skip) (.rg (.o none (.bin 12 .eql false (.t 8) (.c (.int .i64 8))) <|
 .o none (.mv 9 (.t 12)) .nil)))) <| .cond (.t 9) (.seq (.rg (.o none (.fld 13 1 (.t 1)) <|
 .o none (.ld 14 1 false (.t 13)) <|
 .o none (.call (some 15) false (.c (.fn 20 [] [])) [(.t 14)]) <|
 .o none (.mv 2 (.t 15)) .nil)) <| .ret) (.seq (.rg (.o none (.bin 17 .eql false (.t 8) (.c (.int .i64 5))) <|
 .o none (.mv 16 (.t 17)) .nil)) <| .cond (.t 16) (.seq (.rg (.o none (.fld 18 1 (.t 1)) <|
 .o none (.ld 19 1 false (.t 18)) <|
 .o none (.idx 20 1 (.t 19) (.c (.int .i64 0))) <|
 .o none (.ld 21 1 false (.t 20)) <|
 .o none (.fld 22 1 (.t 1)) <|
 .o none (.ld 23 1 false (.t 22)) <|
 .o none (.idx 24 1 (.t 23) (.c (.int .i64 1))) <|
 .o none (.ld 25 1 false (.t 24)) <|
 .o none (.bin 26 .eql false (.t 21) (.t 25)) <|
 .o none (.mv 27 (.t 26)) <|
 .o (some (27, true)) (.fld 28 1 (.t 1)) <|
 .o (some (27, true)) (.ld 29 1 false (.t 28)) <|
 .o (some (27, true)) (.idx 30 1 (.t 29) (.c (.int .i64 1))) <|
 .o (some (27, true)) (.ld 31 1 false (.t 30)) <|
 .o (some (27, true)) (.fld 32 1 (.t 1)) <|
 .o (some (27, true)) (.ld 33 1 false (.t 32)) <|
 .o (some (27, true)) (.idx 34 1 (.t 33) (.c (.int .i64 2))) <|
 .o (some (27, true)) (.ld 35 1 false (.t 34)) <|
 .o (some (27, true)) (.bin 36 .eql false (.t 31) (.t 35)) <|
 .o none (.pick 37 (.t 27) (.t 36) (.c (.bool false))) <|
 .o none (.mv 2 (.t 37)) .nil)) <| .ret) (.seq (.rg (.o none (.bin 39 .eql false (.t 8) (.c (.int .i64 9))) <|
 .o none (.mv 38 (.t 39)) .nil)) <| .cond (.t 38) (.seq (.rg (.o none (.ld 40 5 true (.t 1)) <|
 .o none (.call (some 41) false (.c (.fn 21 [] [])) [(.t 40)]) <|
 .o none (.mv 2 (.t 41)) .nil)) <| .ret) (.seq (.rg (.o none (.bin 43 .eql false (.t 8) (.c (.int .i64 7))) <|
 .o none (.mv 42 (.t 43)) .nil)) <| .cond (.t 42) (.seq (.rg (.o none (.ld 44 5 true (.t 1)) <|
 .o none (.call (some 45) false (.c (.fn 22 [] [])) [(.t 44)]) <|
 .o none (.mv 2 (.t 45)) .nil)) <| .ret) (.skip)))))) <| .seq (.rg (.o none (.ld 46 5 true (.t 1)) <|
 .o none (.call (some 47) false (.c (.fn 23 [] [])) [(.t 46)]) <|
 .o none (.mv 3 (.t 47)) .nil)) <| .seq (.seq (.rg (.o none (.fld 48 0 (.t 1)) <|
 .o none (.ld 49 1 false (.t 48)) .nil)) <| .block 1 (.seq (.rg (.o none (.bin 51 .eql false (.t 49) (.c (.int .i64 2))) <|
 .o none (.mv 50 (.t 51)) .nil)) <| .cond (.t 50) (.seq (.rg (.o none (.mv 52 (.t 3)) <|
 .o none (.idx 53 2 (.t 52) (.c (.int .i64 0))) <|
 .o none (.ld 54 2 true (.t 53)) <|
 .o none (.call (some 55) true (.c (.fn 24 [] [])) [(.t 54)]) <|
 .o none (.mv 56 (.t 55)) <|
 .o (some (56, false)) (.mv 57 (.t 3)) <|
 .o (some (56, false)) (.idx 58 2 (.t 57) (.c (.int .i64 1))) <|
 .o (some (56, false)) (.ld 59 2 true (.t 58)) <|
 .o (some (56, false)) (.call (some 60) true (.c (.fn 24 [] [])) [(.t 59)]) <|
 .o none (.pick 61 (.t 56) (.c (.bool true)) (.t 60)) <|
 .o none (.mv 62 (.t 61)) <|
 .o (some (62, false)) (.mv 63 (.t 3)) <|
 .o (some (62, false)) (.idx 64 2 (.t 63) (.c (.int .i64 0))) <|
 .o (some (62, false)) (.ld 65 2 true (.t 64)) <|
 .o (some (62, false)) (.mv 66 (.t 3)) <|
 .o (some (62, false)) (.idx 67 2 (.t 66) (.c (.int .i64 1))) <|
 .o (some (62, false)) (.ld 68 2 true (.t 67)) <|
 .o (some (62, false)) (.bin 69 .eql false (.t 65) (.t 68)) <|
 .o none (.pick 70 (.t 62) (.c (.bool true)) (.t 69)) <|
 .o none (.mv 2 (.t 70)) .nil)) <| .ret) (.seq (.rg (.o none (.bin 72 .eql false (.t 49) (.c (.int .i64 3))) <|
 .o none (.mv 71 (.t 72)) .nil)) <| .cond (.t 71) (.seq (.rg (.o none (.mv 73 (.t 3)) <|
 .o none (.idx 74 2 (.t 73) (.c (.int .i64 0))) <|
 .o none (.ld 75 2 true (.t 74)) <|
 .o none (.call (some 76) false (.c (.fn 24 [] [])) [(.t 75)]) <|
 .o none (.mv 77 (.t 76)) <|
 .o (some (77, false)) (.mv 78 (.t 3)) <|
 .o (some (77, false)) (.idx 79 2 (.t 78) (.c (.int .i64 1))) <|
 .o (some (77, false)) (.ld 80 2 true (.t 79)) <|
 .o (some (77, false)) (.call (some 81) false (.c (.fn 24 [] [])) [(.t 80)]) <|
 .o none (.pick 82 (.t 77) (.c (.bool true)) (.t 81)) <|
 .o none (.mv 2 (.t 82)) .nil)) <| .ret) (.skip)))) <| .seq (.rg (.o none (.mv 83 (.t 3)) <|
 .o none (.idx 84 2 (.t 83) (.c (.int .i64 0))) <|
 .o none (.ld 85 2 true (.t 84)) <|
 .o none (.call (some 86) true (.c (.fn 24 [] [])) [(.t 85)]) <|
 .o none (.mv 87 (.t 86)) <|
 .o (some (87, true)) (.mv 88 (.t 3)) <|
 .o (some (87, true)) (.idx 89 2 (.t 88) (.c (.int .i64 1))) <|
 .o (some (87, true)) (.ld 90 2 true (.t 89)) <|
 .o (some (87, true)) (.call (some 91) true (.c (.fn 24 [] [])) [(.t 90)]) <|
 .o none (.pick 92 (.t 87) (.t 91) (.c (.bool false))) <|
 .o none (.mv 93 (.t 92)) <|
 .o (some (93, false)) (.mv 94 (.t 3)) <|
 .o (some (93, false)) (.idx 95 2 (.t 94) (.c (.int .i64 0))) <|
 .o (some (93, false)) (.ld 96 2 true (.t 95)) <|
 .o (some (93, false)) (.mv 97 (.t 3)) <|
 .o (some (93, false)) (.idx 98 2 (.t 97) (.c (.int .i64 1))) <|
 .o (some (93, false)) (.ld 99 2 true (.t 98)) <|
 .o (some (93, false)) (.bin 100 .eql false (.t 96) (.t 99)) <|
 .o none (.pick 101 (.t 93) (.c (.bool true)) (.t 100)) <|
 .o none (.mv 2 (.t 101)) .nil)) <| .ret⟩
theorem Qgw : Qp Tryz.prog Tryz.f7 = some c7 := by kernel_rfl
def c3 : SFn := ⟨141, [.t 2], .seq (.rg (.o none (.mv 2 (.c (.bool false))) .nil)) <| .seq (.rg (.o none (.mv 11 (.t 0)) <|
 .o none (.conv 12 .i64 (.t 11)) <|
 .o none (.bin 13 .rem false (.t 12) (.c (.int .i64 8))) <|
 .o none (.mv 3 (.t 13)) .nil)) <| .seq (.rg (.o none (.mv 15 (.t 3)) <|
 .o none (.call (some 16) false (.c (.fn 4 [] [])) [(.t 15)]) <|
 .o none (.mv 14 (.t 16)) <|
 .o none (.ext 17 (.t 14) 0) <|
 .o none (.ext 18 (.t 14) 1) <|
 .o none (.mv 4 (.t 17)) <|
 .o none (.mv 5 (.t 18)) .nil)) <| .seq (.seq (.rg (.o none (.mv 19 (.t 5)) <|
 .o none (.bin 20 .neq false (.t 19) (.c (.int .i64 0))) .nil)) <| .cond (.t 20) (.seq (.rg (.o none (.mv 2 (.c (.bool false))) .nil)) <| .ret) (.skip)) <| .seq (.seq (.rg (.o none (.mv 6 (.c (.int .i64 0))) .nil)) <| .block 0 (.loop (.seq (.seq (.rg (.o none (.mv 21 (.t 6)) <|
 .o none (.mv 22 (.t 4)) <|
 .o none (.len 23 (.t 22)) <|
 .o none (.bin 24 .lss false (.t 21) (.t 23)) .nil)) <| .cond (.t 24) (.skip) (.exit 0)) <| .seq (.block 1 (.seq (.rg (.o none (.mv 27 (.t 4)) <|
 .o none (.mv 28 (.t 6)) <|
 .o none (.idx 29 5 (.t 27) (.t 28)) <|
 .o none (.ld 30 5 true (.t 29)) <|
 .o none (.mv 32 (.t 4)) <|
 .o none (.mv 33 (.t 6)) <|
 .o none (.idx 34 5 (.t 32) (.t 33)) <|
 .o none (.ld 35 5 true (.t 34)) <|
 .o none (.call (some 31) true (.c (.fn 6 [] [])) [(.t 30)]) <|
 .o none (.call (some 36) true (.c (.fn 5 [] [])) [(.t 31), (.t 35)]) <|
 .o none (.bin 37 .neq false (.t 36) (.c (.int .i64 0))) <|
 .o none (.mv 38 (.t 37)) <|
 .o (some (38, false)) (.mv 39 (.t 4)) <|
 .o (some (38, false)) (.mv 40 (.t 6)) <|
 .o (some (38, false)) (.idx 41 5 (.t 39) (.t 40)) <|
 .o (some (38, false)) (.ld 42 5 true (.t 41)) <|
 .o (some (38, false)) (.call (some 43) true (.c (.fn 7 [] [])) [(.t 42)]) <|
 .o none (.pick 44 (.t 38) (.c (.bool true)) (.t 43)) <|
 .o none (.mv 45 (.t 44)) <|
 .o (some (45, false)) (.mv 46 (.t 6)) <|
 .o (some (45, false)) (.bin 47 .gtr false (.t 46) (.c (.int .i64 0))) <|
 .o (some (45, false)) (.mv 48 (.t 47)) <|
 .o (some (48, true)) (.mv 49 (.t 4)) <|
 .o (some (48, true)) (.mv 50 (.t 6)) <|
 .o (some (48, true)) (.bin 51 .sub false (.t 50) (.c (.int .i64 1))) <|
 .o (some (48, true)) (.idx 52 5 (.t 49) (.t 51)) <|
 .o (some (48, true)) (.fld 53 0 (.t 52)) <|
 .o (some (48, true)) (.ld 54 1 false (.t 53)) <|
 .o (some (48, true)) (.mv 55 (.t 4)) <|
 .o (some (48, true)) (.mv 56 (.t 6)) <|
 .o (some (48, true)) (.idx 57 5 (.t 55) (.t 56)) <|
 .o (some (48, true)) (.fld 58 0 (.t 57)) <|
 .o (some (48, true)) (.ld 59 1 false (.t 58)) <|
 .o (some (48, true)) (.bin 60 .eql false (.t 54) (.t 59)) <|
 .o (some (45, false)) (.pick 61 (.t 48) (.t 60) (.c (.bool false))) <|
 .o (some (45, false)) (.mv 62 (.t 61)) <|
 .o (some (62, true)) (.mv 63 (.t 4)) <|
 .o (some (62, true)) (.mv 64 (.t 6)) <|
 .o (some (62, true)) (.bin 65 .sub false (.t 64) (.c (.int .i64 1))) <|
 .o (some (62, true)) (.idx 66 5 (.t 63) (.t 65)) <|
 .o (some (62, true)) (.ld 67 5 true (.t 66)) <|
 .o (some (62, true)) (.mv 68 (.t 4)) <|
 .o (some (62, true)) (.mv 69 (.t 6)) <|
 .o (some (62, true)) (.idx 70 5 (.t 68) (.t 69)) <|
 .o (some (62, true)) (.ld 71 5 true (.t 70)) <|
 .o (some (62, true)) (.call (some 72) true (.c (.fn 5 [] [])) [(.t 67), (.t 71)]) <|
 .o (some (62, true)) (.bin 73 .geq false (.t 72) (.c (.int .i64 0))) <|
 .o (some (45, false)) (.pick 74 (.t 62) (.t 73) (.c (.bool false))) <|
 .o none (.pick 75 (.t 45) (.c (.bool true)) (.t 74)) <|
 .o none (.mv 76 (.t 75)) <|
 .o (some (76, false)) (.mv 77 (.t 6)) <|
 .o (some (76, false)) (.bin 78 .gtr false (.t 77) (.c (.int .i64 0))) <|
 .o (some (76, false)) (.mv 79 (.t 78)) <|
 .o (some (79, true)) (.mv 80 (.t 4)) <|
 .o (some (79, true)) (.mv 81 (.t 6)) <|
 .o (some (79, true)) (.bin 82 .sub false (.t 81) (.c (.int .i64 1))) <|
 .o (some (79, true)) (.idx 83 5 (.t 80) (.t 82)) <|
 .o (some (79, true)) (.fld 84 0 (.t 83)) <|
 .o (some (79, true)) (.ld 85 1 false (.t 84)) <|
 .o (some (79, true)) (.mv 86 (.t 4)) <|
 .o (some (79, true)) (.mv 87 (.t 6)) <|
 .o (some (79, true)) (.idx 88 5 (.t 86) (.t 87)) <|
 .o (some (79, true)) (.fld 89 0 (.t 88)) <|
 .o (some (79, true)) (.ld 90 1 false (.t 89)) <|
 .o (some (79, true)) (.bin 91 .gtr false (.t 85) (.t 90)) <|
 .o (some (76, false)) (.pick 92 (.t 79) (.t 91) (.c (.bool false))) <|
 .o none (.pick 93 (.t 76) (.c (.bool true)) (.t 92)) .nil)) <| .cond (.t 93) (.seq (.rg (.o none (.mv 2 (.c (.bool false))) .nil)) <| .ret) (.skip))) <| .rg (.o none (.mv 25 (.t 6)) <|
 .o none (.bin 26 .add false (.t 25) (.c (.int .i64 1))) <|
 .o none (.mv 6 (.t 26)) .nil)))) <| .seq (.rg (.o none (.mv 95 (.t 3)) <|
 .o none (.bin 96 .sub false (.t 95) (.c (.int .i64 1))) <|
 .o none (.mx 97 (.t 96) (.c (.int .i64 0))) <|
 .o none (.call (some 98) false (.c (.fn 4 [] [])) [(.t 97)]) <|
 .o none (.mv 94 (.t 98)) <|
 .o none (.ext 99 (.t 94) 0) <|
 .o none (.ext 100 (.t 94) 1) <|
 .o none (.mv 7 (.t 99)) <|
 .o none (.mv 8 (.t 100)) .nil)) <| .seq (.seq (.rg (.o none (.mv 101 (.t 8)) <|
 .o none (.bin 102 .neq false (.t 101) (.c (.int .i64 0))) <|
 .o none (.mv 103 (.t 102)) <|
 .o (some (103, false)) (.mv 104 (.t 7)) <|
 .o (some (103, false)) (.len 105 (.t 104)) <|
 .o (some (103, false)) (.mv 106 (.t 4)) <|
 .o (some (103, false)) (.len 107 (.t 106)) <|
 .o (some (103, false)) (.bin 108 .gtr false (.t 105) (.t 107)) <|
 .o none (.pick 109 (.t 103) (.c (.bool true)) (.t 108)) .nil)) <| .cond (.t 109) (.seq (.rg (.o none (.mv 2 (.c (.bool false))) .nil)) <| .ret) (.skip)) <| .seq (.rg (.o none (.mv 9 (.c (.int .i64 0))) .nil)) <| .seq (.seq (.rg (.o none (.mv 10 (.c (.int .i64 0))) .nil)) <| .block 2 (.loop (.seq (.seq (.rg (.o none (.mv 110 (.t 10)) <|
 .o none (.mv 111 (.t 4)) <|
 .o none (.len 112 (.t 111)) <|
 .o none (.bin 113 .lss false (.t 110) (.t 112)) <|
 .o none (.mv 114 (.t 113)) <|
 .o (some (114, true)) (.mv 115 (.t 9)) <|
 .o (some (114, true)) (.mv 116 (.t 7)) <|
 .o (some (114, true)) (.len 117 (.t 116)) <|
 .o (some (114, true)) (.bin 118 .lss false (.t 115) (.t 117)) <|
 .o none (.pick 119 (.t 114) (.t 118) (.c (.bool false))) .nil)) <| .cond (.t 119) (.skip) (.exit 2)) <| .seq (.block 3 (.seq (.rg (.o none (.mv 122 (.t 4)) <|
 .o none (.mv 123 (.t 10)) <|
 .o none (.idx 124 5 (.t 122) (.t 123)) <|
 .o none (.ld 125 5 true (.t 124)) <|
 .o none (.mv 126 (.t 7)) <|
 .o none (.mv 127 (.t 9)) <|
 .o none (.idx 128 5 (.t 126) (.t 127)) <|
 .o none (.ld 129 5 true (.t 128)) <|
 .o none (.call (some 130) false (.c (.fn 5 [] [])) [(.t 125), (.t 129)]) <|
 .o none (.bin 131 .eql false (.t 130) (.c (.int .i64 0))) .nil)) <| .cond (.t 131) (.rg (.o none (.mv 132 (.t 9)) <|
 .o none (.bin 133 .add false (.t 132) (.c (.int .i64 1))) <|
 .o none (.mv 9 (.t 133)) .nil)) (.skip))) <| .rg (.o none (.mv 120 (.t 10)) <|
 .o none (.bin 121 .add false (.t 120) (.c (.int .i64 1))) <|
 .o none (.mv 10 (.t 121)) .nil)))) <| .seq (.rg (.o none (.mv 134 (.t 9)) <|
 .o none (.mv 135 (.t 7)) <|
 .o none (.len 136 (.t 135)) <|
 .o none (.bin 137 .eql false (.t 134) (.t 136)) <|
 .o none (.mv 138 (.t 137)) <|
 .o (some (138, true)) (.call (some 139) false (.c (.fn 8 [] [])) []) <|
 .o none (.pick 140 (.t 138) (.t 139) (.c (.bool false))) <|
 .o none (.mv 2 (.t 140)) .nil)) <| .ret⟩
theorem Qze : Qp Tryz.prog Tryz.f3 = some c3 := by kernel_rfl
end Go.Proofs.YtnhofjeojfgfoaaGreat
namespace Go.FW
open Go
variable {C : Ctx} {fr : Fr} {hp : HP} {K : Qa}
theorem Qsl {e d : Nat} {k : IntKind} {x y z : PV} {xs : List PV} : Qbl e (.sl e (x :: y :: z :: xs)) (.int k 2) d fr hp K = K (upd fr d (.pt z.cells)) hp := by rw [Qh3 (by omega) (by simp only [List.length_cons]; omega)]; rfl
theorem Qjj {d : Nat} {k : IntKind} {x y z : Int} {xs : List Int} : Qbl 1 (PV.mono (x :: y :: z :: xs)) (.int k 2) d fr hp K = K (upd fr d (.pt [.int .i64 z])) hp := Qsl
end Go.FW
