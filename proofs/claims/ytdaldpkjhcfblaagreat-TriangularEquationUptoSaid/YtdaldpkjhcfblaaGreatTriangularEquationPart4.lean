/- Part 4 of the proof of TriangularEquation: C1, CM, CP, CI, C1b, N1, N2, N3, N4, N5, N6, N7, N8, N9, N10, N11, N12, N13, N14, N15, I1, R1, R2, R3, R4, M1, M2, P1, P2, P3, FwQA, FwSD. Own lemmas; no conditions. -/
import Derived.Test.YtdaldpkjhcfblaaGreatTriangularEquationPart3
import Derived.Test.YtdaldpkjhcfblaaGreatProg
set_option maxHeartbeats 1000000
set_option linter.unusedSimpArgs false
set_option linter.unusedVariables false
set_option linter.unnecessarySimpa false
set_option maxRecDepth 100000
namespace Go.Proofs.YtdaldpkjhcfblaaGreat
open Go Go.FW
theorem Qj:Tryz.prog.follows .mixedOrders=true:=by kernel_rfl
def Q04:SFn:=⟨21,[.t 2],.seq (.rg (.o none (.mv 2 (.c .nilS)) .nil))<| .seq (.rg (.o none (.mv 4 (.t 0))<|
 .o none (.len 5 (.t 4))<|
 .o none (.mv 3 (.t 5)) .nil))<| .seq (.block 0 (.loop (.seq (.seq (.rg (.o none (.mv 6 (.t 3))<|
 .o none (.bin 7 .gtr false (.t 6) (.c (.int .i64 0)))<|
 .o none (.mv 8 (.t 7))<|
 .o (some (8,true)) (.mv 9 (.t 0))<|
 .o (some (8,true)) (.mv 10 (.t 3))<|
 .o (some (8,true)) (.bin 11 .sub false (.t 10) (.c (.int .i64 1)))<|
 .o (some (8,true)) (.idx 12 1 (.t 9) (.t 11))<|
 .o (some (8,true)) (.ld 13 1 false (.t 12))<|
 .o (some (8,true)) (.bin 14 .eql false (.t 13) (.c (.int .u16 0)))<|
 .o none (.pick 15 (.t 8) (.t 14) (.c (.bool false))) .nil))<| .cond (.t 15) (.skip) (.exit 0))<| .block 1 (.rg (.o none (.mv 16 (.t 3))<|
 .o none (.bin 17 .sub false (.t 16) (.c (.int .i64 1)))<|
 .o none (.mv 3 (.t 17)) .nil)))))<| .seq (.rg (.o none (.mv 18 (.t 0))<|
 .o none (.mv 19 (.t 3))<|
 .o none (.sl 20 1 (.t 18) none (some (.t 19)) none)<|
 .o none (.mv 2 (.t 20)) .nil))<| .ret⟩
theorem Q35:Qe Tryz.prog Tryz.f153=some Q04:=by kernel_rfl
def c148:SFn:=⟨16,[.t 2],.seq (.rg (.o none (.mv 2 (.c .nilS)) .nil))<| .seq (.rg (.o none (.mv 4 (.t 0))<|
 .o none (.call (some 5) false (.c (.fn 153 [] [])) [(.t 4)])<|
 .o none (.mv 0 (.t 5)) .nil))<| .seq (.seq (.rg (.o none (.mv 6 (.t 0))<|
 .o none (.len 7 (.t 6))<|
 .o none (.bin 8 .eql false (.t 7) (.c (.int .i64 0))) .nil))<| .cond (.t 8) (.seq (.rg (.o none (.mv 2 (.c .nilS)) .nil))<| .ret) (.skip))<| .seq (.rg (.o none (.mv 9 (.t 0))<|
 .o none (.len 10 (.t 9))<|
 .o none (.mk 11 1 2 115 (.int .u16 0) (.t 10) (.t 10))<|
 .o none (.mv 3 (.t 11)) .nil))<| .seq (.rg (.o none (.mv 12 (.t 3))<|
 .o none (.mv 13 (.t 0))<|
 .o none (.cpy 14 1 (.t 12) (.t 13)) .nil))<| .seq (.rg (.o none (.mv 15 (.t 3))<|
 .o none (.mv 2 (.t 15)) .nil))<| .ret⟩
theorem Qah9:Qe Tryz.prog Tryz.f148=some c148:=by kernel_rfl
def c113:SFn:=⟨14,[.t 2],.seq (.rg (.o none (.mv 2 (.c .nilS)) .nil))<| .seq (.rg (.o none (.mv 3 (.c .nilS)) .nil))<| .seq (.block 0 (.loop (.seq (.seq (.rg (.o none (.mv 4 (.t 0))<|
 .o none (.bin 5 .gtr false (.t 4) (.c (.int .u64 0))) .nil))<| .cond (.t 5) (.skip) (.exit 0))<| .seq (.block 1 (.rg (.o none (.mv 8 (.t 3))<|
 .o none (.mv 9 (.t 0))<|
 .o none (.conv 10 .u16 (.t 9))<|
 .o none (.bs 11 1 115 [(.t 10)])<|
 .o none (.app 12 1 2 115 (.t 8) (.t 11))<|
 .o none (.mv 3 (.t 12)) .nil)))<| .rg (.o none (.mv 6 (.t 0))<|
 .o none (.bin 7 .shr false (.t 6) (.c (.int .u64 16)))<|
 .o none (.mv 0 (.t 7)) .nil))))<| .seq (.rg (.o none (.mv 13 (.t 3))<|
 .o none (.mv 2 (.t 13)) .nil))<| .ret⟩
theorem Qaia:Qe Tryz.prog Tryz.f113=some c113:=by kernel_rfl
def c149:SFn:=⟨28,[.t 2,.t 3],.seq (.rg (.o none (.mv 2 (.c (.int .u64 0)))<|
 .o none (.mv 3 (.c (.bool false))) .nil))<| .seq (.rg (.o none (.mv 7 (.t 0))<|
 .o none (.call (some 8) false (.c (.fn 153 [] [])) [(.t 7)])<|
 .o none (.mv 0 (.t 8)) .nil))<| .seq (.seq (.rg (.o none (.mv 9 (.t 0))<|
 .o none (.len 10 (.t 9))<|
 .o none (.bin 11 .gtr false (.t 10) (.c (.int .i64 4))) .nil))<| .cond (.t 11) (.seq (.rg (.o none (.mv 2 (.c (.int .u64 0)))<|
 .o none (.mv 3 (.c (.bool false))) .nil))<| .ret) (.skip))<| .seq (.rg (.o none (.mv 4 (.c (.int .u64 0))) .nil))<| .seq (.seq (.rg (.o none (.mv 12 (.t 0))<|
 .o none (.len 13 (.t 12))<|
 .o none (.mv 14 (.c (.int .i64 0))) .nil))<| .block 0 (.loop (.seq (.rg (.o none (.bin 15 .lss false (.t 14) (.t 13)) .nil))<| .seq (.cond (.t 15) (.skip) (.exit 0))<| .seq (.block 1 (.seq (.rg (.o none (.mv 16 (.t 14))<|
 .o none (.idx 17 1 (.t 12) (.t 14))<|
 .o none (.ld 18 1 false (.t 17))<|
 .o none (.mv 5 (.t 16))<|
 .o none (.mv 6 (.t 18)) .nil))<| .rg (.o none (.mv 19 (.t 4))<|
 .o none (.mv 20 (.t 6))<|
 .o none (.conv 21 .u64 (.t 20))<|
 .o none (.mv 22 (.t 5))<|
 .o none (.bin 23 .mul false (.c (.int .i64 16)) (.t 22))<|
 .o none (.bin 24 .shl false (.t 21) (.t 23))<|
 .o none (.bin 25 .or false (.t 19) (.t 24))<|
 .o none (.mv 4 (.t 25)) .nil)))<| .rg (.o none (.bin 26 .add false (.t 14) (.c (.int .i64 1)))<|
 .o none (.mv 14 (.t 26)) .nil))))<| .seq (.rg (.o none (.mv 27 (.t 4))<|
 .o none (.mv 2 (.t 27))<|
 .o none (.mv 3 (.c (.bool true))) .nil))<| .ret⟩
theorem Qaib:Qe Tryz.prog Tryz.f149=some c149:=by kernel_rfl
def c151:SFn:=⟨20,[.t 2],.seq (.rg (.o none (.mv 2 (.c (.int .i64 0))) .nil))<| .seq (.rg (.o none (.mv 3 (.t 0))<|
 .o none (.call (some 4) false (.c (.fn 153 [] [])) [(.t 3)])<|
 .o none (.mv 0 (.t 4)) .nil))<| .seq (.seq (.rg (.o none (.mv 5 (.t 0))<|
 .o none (.len 6 (.t 5))<|
 .o none (.bin 7 .eql false (.t 6) (.c (.int .i64 0))) .nil))<| .cond (.t 7) (.seq (.rg (.o none (.mv 2 (.c (.int .i64 0))) .nil))<| .ret) (.skip))<| .seq (.rg (.o none (.mv 8 (.t 0))<|
 .o none (.len 9 (.t 8))<|
 .o none (.bin 10 .sub false (.t 9) (.c (.int .i64 1)))<|
 .o none (.bin 11 .mul false (.c (.int .i64 16)) (.t 10))<|
 .o none (.mv 12 (.t 0))<|
 .o none (.mv 13 (.t 0))<|
 .o none (.len 14 (.t 13))<|
 .o none (.bin 15 .sub false (.t 14) (.c (.int .i64 1)))<|
 .o none (.idx 16 1 (.t 12) (.t 15))<|
 .o none (.ld 17 1 false (.t 16))<|
 .o none (.call (some 18) false (.c (.fn 167 [] [])) [(.t 17)])<|
 .o none (.bin 19 .add false (.t 11) (.t 18))<|
 .o none (.mv 2 (.t 19)) .nil))<| .ret⟩
theorem Qaic:Qe Tryz.prog Tryz.f151=some c151:=by kernel_rfl
def c159:SFn:=⟨45,[.t 4],.seq (.rg (.o none (.mv 4 (.c (.int .i64 0))) .nil))<| .seq (.rg (.o none (.mv 6 (.t 0))<|
 .o none (.call (some 7) false (.c (.fn 153 [] [])) [(.t 6)])<|
 .o none (.mv 8 (.t 1))<|
 .o none (.call (some 9) false (.c (.fn 153 [] [])) [(.t 8)])<|
 .o none (.mv 0 (.t 7))<|
 .o none (.mv 1 (.t 9)) .nil))<| .seq (.seq (.rg (.o none (.mv 10 (.t 0))<|
 .o none (.len 11 (.t 10))<|
 .o none (.mv 12 (.t 1))<|
 .o none (.len 13 (.t 12))<|
 .o none (.bin 14 .neq false (.t 11) (.t 13)) .nil))<| .cond (.t 14) (.seq (.seq (.rg (.o none (.mv 15 (.t 0))<|
 .o none (.len 16 (.t 15))<|
 .o none (.mv 17 (.t 1))<|
 .o none (.len 18 (.t 17))<|
 .o none (.bin 19 .lss false (.t 16) (.t 18)) .nil))<| .cond (.t 19) (.seq (.rg (.o none (.mv 4 (.c (.int .i64 (-1)))) .nil))<| .ret) (.skip))<| .seq (.rg (.o none (.mv 4 (.c (.int .i64 1))) .nil))<| .ret) (.skip))<| .seq (.seq (.rg (.o none (.mv 20 (.t 0))<|
 .o none (.len 21 (.t 20))<|
 .o none (.bin 22 .sub false (.t 21) (.c (.int .i64 1)))<|
 .o none (.mv 5 (.t 22)) .nil))<| .block 0 (.loop (.seq (.seq (.rg (.o none (.mv 23 (.t 5))<|
 .o none (.bin 24 .geq false (.t 23) (.c (.int .i64 0))) .nil))<| .cond (.t 24) (.skip) (.exit 0))<| .seq (.block 1 (.seq (.seq (.rg (.o none (.mv 27 (.t 0))<|
 .o none (.mv 28 (.t 5))<|
 .o none (.idx 29 1 (.t 27) (.t 28))<|
 .o none (.ld 30 1 false (.t 29))<|
 .o none (.mv 31 (.t 1))<|
 .o none (.mv 32 (.t 5))<|
 .o none (.idx 33 1 (.t 31) (.t 32))<|
 .o none (.ld 34 1 false (.t 33))<|
 .o none (.bin 35 .lss false (.t 30) (.t 34)) .nil))<| .cond (.t 35) (.seq (.rg (.o none (.mv 4 (.c (.int .i64 (-1)))) .nil))<| .ret) (.skip))<| .seq (.rg (.o none (.mv 36 (.t 0))<|
 .o none (.mv 37 (.t 5))<|
 .o none (.idx 38 1 (.t 36) (.t 37))<|
 .o none (.ld 39 1 false (.t 38))<|
 .o none (.mv 40 (.t 1))<|
 .o none (.mv 41 (.t 5))<|
 .o none (.idx 42 1 (.t 40) (.t 41))<|
 .o none (.ld 43 1 false (.t 42))<|
 .o none (.bin 44 .gtr false (.t 39) (.t 43)) .nil))<| .cond (.t 44) (.seq (.rg (.o none (.mv 4 (.c (.int .i64 1))) .nil))<| .ret) (.skip)))<| .rg (.o none (.mv 25 (.t 5))<|
 .o none (.bin 26 .sub false (.t 25) (.c (.int .i64 1)))<|
 .o none (.mv 5 (.t 26)) .nil))))<| .seq (.rg (.o none (.mv 4 (.c (.int .i64 0))) .nil))<| .ret⟩
theorem Qaid:Qe Tryz.prog Tryz.f159=some c159:=by kernel_rfl
def c169:SFn:=⟨64,[.t 4],.seq (.rg (.o none (.mv 4 (.c .nilS)) .nil))<| .seq (.rg (.o none (.mv 9 (.t 0))<|
 .o none (.call (some 10) false (.c (.fn 153 [] [])) [(.t 9)])<|
 .o none (.mv 11 (.t 1))<|
 .o none (.call (some 12) false (.c (.fn 153 [] [])) [(.t 11)])<|
 .o none (.mv 0 (.t 10))<|
 .o none (.mv 1 (.t 12)) .nil))<| .seq (.seq (.rg (.o none (.mv 13 (.t 0))<|
 .o none (.len 14 (.t 13))<|
 .o none (.mv 15 (.t 1))<|
 .o none (.len 16 (.t 15))<|
 .o none (.bin 17 .lss false (.t 14) (.t 16)) .nil))<| .cond (.t 17) (.rg (.o none (.mv 18 (.t 1))<|
 .o none (.mv 19 (.t 0))<|
 .o none (.mv 0 (.t 18))<|
 .o none (.mv 1 (.t 19)) .nil)) (.skip))<| .seq (.rg (.o none (.mv 20 (.t 0))<|
 .o none (.len 21 (.t 20))<|
 .o none (.mv 22 (.t 0))<|
 .o none (.len 23 (.t 22))<|
 .o none (.bin 24 .add false (.t 23) (.c (.int .i64 1)))<|
 .o none (.mk 25 1 2 115 (.int .u16 0) (.t 21) (.t 24))<|
 .o none (.mv 5 (.t 25)) .nil))<| .seq (.rg (.o none (.mv 6 (.c (.int .u32 0))) .nil))<| .seq (.seq (.rg (.o none (.mv 26 (.t 0))<|
 .o none (.len 27 (.t 26))<|
 .o none (.mv 28 (.c (.int .i64 0))) .nil))<| .block 0 (.loop (.seq (.rg (.o none (.bin 29 .lss false (.t 28) (.t 27)) .nil))<| .seq (.cond (.t 29) (.skip) (.exit 0))<| .seq (.block 1 (.seq (.rg (.o none (.mv 30 (.t 28))<|
 .o none (.idx 31 1 (.t 26) (.t 28))<|
 .o none (.ld 32 1 false (.t 31))<|
 .o none (.mv 7 (.t 30))<|
 .o none (.mv 8 (.t 32)) .nil))<| .seq (.rg (.o none (.mv 33 (.t 6))<|
 .o none (.mv 34 (.t 8))<|
 .o none (.conv 35 .u32 (.t 34))<|
 .o none (.bin 36 .add false (.t 33) (.t 35))<|
 .o none (.mv 6 (.t 36)) .nil))<| .seq (.seq (.rg (.o none (.mv 37 (.t 7))<|
 .o none (.mv 38 (.t 1))<|
 .o none (.len 39 (.t 38))<|
 .o none (.bin 40 .lss false (.t 37) (.t 39)) .nil))<| .cond (.t 40) (.rg (.o none (.mv 41 (.t 6))<|
 .o none (.mv 42 (.t 1))<|
 .o none (.mv 43 (.t 7))<|
 .o none (.idx 44 1 (.t 42) (.t 43))<|
 .o none (.ld 45 1 false (.t 44))<|
 .o none (.conv 46 .u32 (.t 45))<|
 .o none (.bin 47 .add false (.t 41) (.t 46))<|
 .o none (.mv 6 (.t 47)) .nil)) (.skip))<| .seq (.rg (.o none (.mv 48 (.t 5))<|
 .o none (.mv 49 (.t 7))<|
 .o none (.mv 50 (.t 6))<|
 .o none (.conv 51 .u16 (.t 50))<|
 .o none (.idx 52 1 (.t 48) (.t 49))<|
 .o none (.st 1 (.t 52) (.t 51)) .nil))<| .rg (.o none (.mv 53 (.t 6))<|
 .o none (.bin 54 .shr false (.t 53) (.c (.int .u64 16)))<|
 .o none (.mv 6 (.t 54)) .nil)))<| .rg (.o none (.bin 55 .add false (.t 28) (.c (.int .i64 1)))<|
 .o none (.mv 28 (.t 55)) .nil))))<| .seq (.seq (.rg (.o none (.mv 56 (.t 6))<|
 .o none (.bin 57 .gtr false (.t 56) (.c (.int .u32 0))) .nil))<| .cond (.t 57) (.rg (.o none (.mv 58 (.t 5))<|
 .o none (.mv 59 (.t 6))<|
 .o none (.conv 60 .u16 (.t 59))<|
 .o none (.bs 61 1 115 [(.t 60)])<|
 .o none (.app 62 1 2 115 (.t 58) (.t 61))<|
 .o none (.mv 5 (.t 62)) .nil)) (.skip))<| .seq (.rg (.o none (.mv 63 (.t 5))<|
 .o none (.mv 4 (.t 63)) .nil))<| .ret⟩
theorem Qaie:Qe Tryz.prog Tryz.f169=some c169:=by kernel_rfl
def c170:SFn:=⟨56,[.t 4,.t 5],.seq (.rg (.o none (.mv 4 (.c .nilS))<|
 .o none (.mv 5 (.c (.int .i64 0))) .nil))<| .seq (.seq (.rg (.o none (.mv 11 (.t 0))<|
 .o none (.mv 12 (.t 1))<|
 .o none (.call (some 13) false (.c (.fn 159 [] [])) [(.t 11),(.t 12)])<|
 .o none (.bin 14 .lss false (.t 13) (.c (.int .i64 0))) .nil))<| .cond (.t 14) (.seq (.rg (.o none (.mv 4 (.c .nilS))<|
 .o none (.mv 5 (.c (.int .i64 2))) .nil))<| .ret) (.skip))<| .seq (.rg (.o none (.mv 15 (.t 0))<|
 .o none (.call (some 16) false (.c (.fn 153 [] [])) [(.t 15)])<|
 .o none (.mv 17 (.t 1))<|
 .o none (.call (some 18) false (.c (.fn 153 [] [])) [(.t 17)])<|
 .o none (.mv 0 (.t 16))<|
 .o none (.mv 1 (.t 18)) .nil))<| .seq (.rg (.o none (.mv 19 (.t 0))<|
 .o none (.len 20 (.t 19))<|
 .o none (.mk 21 1 2 115 (.int .u16 0) (.t 20) (.t 20))<|
 .o none (.mv 6 (.t 21)) .nil))<| .seq (.rg (.o none (.mv 7 (.c (.int .i32 0))) .nil))<| .seq (.seq (.rg (.o none (.mv 22 (.t 0))<|
 .o none (.len 23 (.t 22))<|
 .o none (.mv 24 (.c (.int .i64 0))) .nil))<| .block 0 (.loop (.seq (.rg (.o none (.bin 25 .lss false (.t 24) (.t 23)) .nil))<| .seq (.cond (.t 25) (.skip) (.exit 0))<| .seq (.block 1 (.seq (.rg (.o none (.mv 26 (.t 24))<|
 .o none (.idx 27 1 (.t 22) (.t 24))<|
 .o none (.ld 28 1 false (.t 27))<|
 .o none (.mv 8 (.t 26))<|
 .o none (.mv 9 (.t 28)) .nil))<| .seq (.rg (.o none (.mv 29 (.t 9))<|
 .o none (.conv 30 .i32 (.t 29))<|
 .o none (.mv 31 (.t 7))<|
 .o none (.bin 32 .sub false (.t 30) (.t 31))<|
 .o none (.mv 10 (.t 32)) .nil))<| .seq (.seq (.rg (.o none (.mv 33 (.t 8))<|
 .o none (.mv 34 (.t 1))<|
 .o none (.len 35 (.t 34))<|
 .o none (.bin 36 .lss false (.t 33) (.t 35)) .nil))<| .cond (.t 36) (.rg (.o none (.mv 37 (.t 10))<|
 .o none (.mv 38 (.t 1))<|
 .o none (.mv 39 (.t 8))<|
 .o none (.idx 40 1 (.t 38) (.t 39))<|
 .o none (.ld 41 1 false (.t 40))<|
 .o none (.conv 42 .i32 (.t 41))<|
 .o none (.bin 43 .sub false (.t 37) (.t 42))<|
 .o none (.mv 10 (.t 43)) .nil)) (.skip))<| .seq (.rg (.o none (.mv 7 (.c (.int .i32 0))) .nil))<| .seq (.seq (.rg (.o none (.mv 44 (.t 10))<|
 .o none (.bin 45 .lss false (.t 44) (.c (.int .i32 0))) .nil))<| .cond (.t 45) (.seq (.rg (.o none (.mv 46 (.t 10))<|
 .o none (.bin 47 .add false (.t 46) (.c (.int .i32 65536)))<|
 .o none (.mv 10 (.t 47)) .nil))<| .rg (.o none (.mv 7 (.c (.int .i32 1))) .nil)) (.skip))<| .rg (.o none (.mv 48 (.t 6))<|
 .o none (.mv 49 (.t 8))<|
 .o none (.mv 50 (.t 10))<|
 .o none (.conv 51 .u16 (.t 50))<|
 .o none (.idx 52 1 (.t 48) (.t 49))<|
 .o none (.st 1 (.t 52) (.t 51)) .nil)))<| .rg (.o none (.bin 53 .add false (.t 24) (.c (.int .i64 1)))<|
 .o none (.mv 24 (.t 53)) .nil))))<| .seq (.rg (.o none (.mv 54 (.t 6))<|
 .o none (.call (some 55) false (.c (.fn 153 [] [])) [(.t 54)])<|
 .o none (.mv 4 (.t 55))<|
 .o none (.mv 5 (.c (.int .i64 0))) .nil))<| .ret⟩
theorem Qaif:Qe Tryz.prog Tryz.f170=some c170:=by kernel_rfl
def c127:SFn:=⟨79,[.t 4],.seq (.rg (.o none (.mv 4 (.c .nilS)) .nil))<| .seq (.rg (.o none (.mv 11 (.t 0))<|
 .o none (.call (some 12) false (.c (.fn 153 [] [])) [(.t 11)])<|
 .o none (.mv 13 (.t 1))<|
 .o none (.call (some 14) false (.c (.fn 153 [] [])) [(.t 13)])<|
 .o none (.mv 0 (.t 12))<|
 .o none (.mv 1 (.t 14)) .nil))<| .seq (.seq (.rg (.o none (.mv 15 (.t 0))<|
 .o none (.len 16 (.t 15))<|
 .o none (.bin 17 .eql false (.t 16) (.c (.int .i64 0)))<|
 .o none (.mv 18 (.t 17))<|
 .o (some (18,false)) (.mv 19 (.t 1))<|
 .o (some (18,false)) (.len 20 (.t 19))<|
 .o (some (18,false)) (.bin 21 .eql false (.t 20) (.c (.int .i64 0)))<|
 .o none (.pick 22 (.t 18) (.c (.bool true)) (.t 21)) .nil))<| .cond (.t 22) (.seq (.rg (.o none (.mv 4 (.c .nilS)) .nil))<| .ret) (.skip))<| .seq (.rg (.o none (.mv 23 (.t 0))<|
 .o none (.len 24 (.t 23))<|
 .o none (.mv 25 (.t 1))<|
 .o none (.len 26 (.t 25))<|
 .o none (.bin 27 .add false (.t 24) (.t 26))<|
 .o none (.mk 28 1 2 115 (.int .u16 0) (.t 27) (.t 27))<|
 .o none (.mv 5 (.t 28)) .nil))<| .seq (.seq (.rg (.o none (.mv 29 (.t 0))<|
 .o none (.len 30 (.t 29))<|
 .o none (.mv 31 (.c (.int .i64 0))) .nil))<| .block 0 (.loop (.seq (.rg (.o none (.bin 32 .lss false (.t 31) (.t 30)) .nil))<| .seq (.cond (.t 32) (.skip) (.exit 0))<| .seq (.block 1 (.seq (.rg (.o none (.mv 33 (.t 31))<|
 .o none (.idx 34 1 (.t 29) (.t 31))<|
 .o none (.ld 35 1 false (.t 34))<|
 .o none (.mv 6 (.t 33))<|
 .o none (.mv 7 (.t 35)) .nil))<| .seq (.rg (.o none (.mv 8 (.c (.int .u32 0))) .nil))<| .seq (.seq (.rg (.o none (.mv 36 (.t 1))<|
 .o none (.len 37 (.t 36))<|
 .o none (.mv 38 (.c (.int .i64 0))) .nil))<| .block 2 (.loop (.seq (.rg (.o none (.bin 39 .lss false (.t 38) (.t 37)) .nil))<| .seq (.cond (.t 39) (.skip) (.exit 2))<| .seq (.block 3 (.seq (.rg (.o none (.mv 40 (.t 38))<|
 .o none (.idx 41 1 (.t 36) (.t 38))<|
 .o none (.ld 42 1 false (.t 41))<|
 .o none (.mv 9 (.t 40))<|
 .o none (.mv 10 (.t 42)) .nil))<| .seq (.rg (.o none (.mv 43 (.t 8))<|
 .o none (.mv 44 (.t 5))<|
 .o none (.mv 45 (.t 6))<|
 .o none (.mv 46 (.t 9))<|
 .o none (.bin 47 .add false (.t 45) (.t 46))<|
 .o none (.idx 48 1 (.t 44) (.t 47))<|
 .o none (.ld 49 1 false (.t 48))<|
 .o none (.conv 50 .u32 (.t 49))<|
 .o none (.mv 51 (.t 7))<|
 .o none (.conv 52 .u32 (.t 51))<|
 .o none (.mv 53 (.t 10))<|
 .o none (.conv 54 .u32 (.t 53))<|
 .o none (.bin 55 .mul false (.t 52) (.t 54))<|
 .o none (.bin 56 .add false (.t 50) (.t 55))<|
 .o none (.bin 57 .add false (.t 43) (.t 56))<|
 .o none (.mv 8 (.t 57)) .nil))<| .seq (.rg (.o none (.mv 58 (.t 5))<|
 .o none (.mv 59 (.t 6))<|
 .o none (.mv 60 (.t 9))<|
 .o none (.bin 61 .add false (.t 59) (.t 60))<|
 .o none (.mv 62 (.t 8))<|
 .o none (.conv 63 .u16 (.t 62))<|
 .o none (.idx 64 1 (.t 58) (.t 61))<|
 .o none (.st 1 (.t 64) (.t 63)) .nil))<| .rg (.o none (.mv 65 (.t 8))<|
 .o none (.bin 66 .shr false (.t 65) (.c (.int .u64 16)))<|
 .o none (.mv 8 (.t 66)) .nil)))<| .rg (.o none (.bin 67 .add false (.t 38) (.c (.int .i64 1)))<|
 .o none (.mv 38 (.t 67)) .nil))))<| .rg (.o none (.mv 68 (.t 5))<|
 .o none (.mv 69 (.t 6))<|
 .o none (.mv 70 (.t 1))<|
 .o none (.len 71 (.t 70))<|
 .o none (.bin 72 .add false (.t 69) (.t 71))<|
 .o none (.mv 73 (.t 8))<|
 .o none (.conv 74 .u16 (.t 73))<|
 .o none (.idx 75 1 (.t 68) (.t 72))<|
 .o none (.st 1 (.t 75) (.t 74)) .nil)))<| .rg (.o none (.bin 76 .add false (.t 31) (.c (.int .i64 1)))<|
 .o none (.mv 31 (.t 76)) .nil))))<| .seq (.rg (.o none (.mv 77 (.t 5))<|
 .o none (.call (some 78) false (.c (.fn 153 [] [])) [(.t 77)])<|
 .o none (.mv 4 (.t 78)) .nil))<| .ret⟩
theorem Qaig:Qe Tryz.prog Tryz.f127=some c127:=by kernel_rfl
def c163:SFn:=⟨43,[.t 4,.t 5],.seq (.rg (.o none (.mv 4 (.c .nilS))<|
 .o none (.mv 5 (.c (.int .u16 0))) .nil))<| .seq (.rg (.o none (.mv 9 (.t 0))<|
 .o none (.len 10 (.t 9))<|
 .o none (.mk 11 1 2 115 (.int .u16 0) (.t 10) (.t 10))<|
 .o none (.mv 6 (.t 11)) .nil))<| .seq (.rg (.o none (.mv 7 (.c (.int .u32 0))) .nil))<| .seq (.seq (.rg (.o none (.mv 12 (.t 0))<|
 .o none (.len 13 (.t 12))<|
 .o none (.bin 14 .sub false (.t 13) (.c (.int .i64 1)))<|
 .o none (.mv 8 (.t 14)) .nil))<| .block 0 (.loop (.seq (.seq (.rg (.o none (.mv 15 (.t 8))<|
 .o none (.bin 16 .geq false (.t 15) (.c (.int .i64 0))) .nil))<| .cond (.t 16) (.skip) (.exit 0))<| .seq (.block 1 (.seq (.rg (.o none (.mv 19 (.t 7))<|
 .o none (.bin 20 .shl false (.t 19) (.c (.int .u64 16)))<|
 .o none (.mv 21 (.t 0))<|
 .o none (.mv 22 (.t 8))<|
 .o none (.idx 23 1 (.t 21) (.t 22))<|
 .o none (.ld 24 1 false (.t 23))<|
 .o none (.conv 25 .u32 (.t 24))<|
 .o none (.bin 26 .or false (.t 20) (.t 25))<|
 .o none (.mv 7 (.t 26)) .nil))<| .seq (.rg (.o none (.mv 27 (.t 6))<|
 .o none (.mv 28 (.t 8))<|
 .o none (.mv 29 (.t 7))<|
 .o none (.mv 30 (.t 1))<|
 .o none (.conv 31 .u32 (.t 30))<|
 .o none (.bin 32 .quo false (.t 29) (.t 31))<|
 .o none (.conv 33 .u16 (.t 32))<|
 .o none (.idx 34 1 (.t 27) (.t 28))<|
 .o none (.st 1 (.t 34) (.t 33)) .nil))<| .rg (.o none (.mv 35 (.t 7))<|
 .o none (.mv 36 (.t 1))<|
 .o none (.conv 37 .u32 (.t 36))<|
 .o none (.bin 38 .rem false (.t 35) (.t 37))<|
 .o none (.mv 7 (.t 38)) .nil)))<| .rg (.o none (.mv 17 (.t 8))<|
 .o none (.bin 18 .sub false (.t 17) (.c (.int .i64 1)))<|
 .o none (.mv 8 (.t 18)) .nil))))<| .seq (.rg (.o none (.mv 39 (.t 6))<|
 .o none (.call (some 40) false (.c (.fn 153 [] [])) [(.t 39)])<|
 .o none (.mv 41 (.t 7))<|
 .o none (.conv 42 .u16 (.t 41))<|
 .o none (.mv 4 (.t 40))<|
 .o none (.mv 5 (.t 42)) .nil))<| .ret⟩
theorem Qaih:Qe Tryz.prog Tryz.f163=some c163:=by kernel_rfl
def c150:SFn:=⟨71,[.t 4,.t 5,.t 6],.seq (.rg (.o none (.mv 4 (.c .nilS))<|
 .o none (.mv 5 (.c .nilS))<|
 .o none (.mv 6 (.c (.int .i64 0))) .nil))<| .seq (.rg (.o none (.mv 12 (.t 0))<|
 .o none (.call (some 13) false (.c (.fn 153 [] [])) [(.t 12)])<|
 .o none (.mv 14 (.t 1))<|
 .o none (.call (some 15) false (.c (.fn 153 [] [])) [(.t 14)])<|
 .o none (.mv 0 (.t 13))<|
 .o none (.mv 1 (.t 15)) .nil))<| .seq (.block 0 (.seq (.rg (.o none (.mv 17 (.t 1))<|
 .o none (.len 18 (.t 17))<|
 .o none (.bin 19 .eql false (.t 18) (.c (.int .i64 0)))<|
 .o none (.mv 16 (.t 19)) .nil))<| .cond (.t 16) (.seq (.rg (.o none (.mv 4 (.c .nilS))<|
 .o none (.mv 5 (.c .nilS))<|
 .o none (.mv 6 (.c (.int .i64 3))) .nil))<| .ret) (.seq (.rg (.o none (.mv 21 (.t 0))<|
 .o none (.mv 22 (.t 1))<|
 .o none (.call (some 23) false (.c (.fn 159 [] [])) [(.t 21),(.t 22)])<|
 .o none (.bin 24 .lss false (.t 23) (.c (.int .i64 0)))<|
 .o none (.mv 20 (.t 24)) .nil))<| .cond (.t 20) (.seq (.rg (.o none (.mv 25 (.t 0))<|
 .o none (.call (some 26) false (.c (.fn 148 [] [])) [(.t 25)])<|
 .o none (.mv 4 (.c .nilS))<|
 .o none (.mv 5 (.t 26))<|
 .o none (.mv 6 (.c (.int .i64 0))) .nil))<| .ret) (.seq (.rg (.o none (.mv 28 (.t 1))<|
 .o none (.len 29 (.t 28))<|
 .o none (.bin 30 .eql false (.t 29) (.c (.int .i64 1)))<|
 .o none (.mv 27 (.t 30)) .nil))<| .cond (.t 27) (.seq (.rg (.o none (.mv 32 (.t 0))<|
 .o none (.mv 33 (.t 1))<|
 .o none (.idx 34 1 (.t 33) (.c (.int .i64 0)))<|
 .o none (.ld 35 1 false (.t 34))<|
 .o none (.call (some 36) false (.c (.fn 163 [] [])) [(.t 32),(.t 35)])<|
 .o none (.mv 31 (.t 36))<|
 .o none (.ext 37 (.t 31) 0)<|
 .o none (.ext 38 (.t 31) 1)<|
 .o none (.mv 7 (.t 37))<|
 .o none (.mv 8 (.t 38)) .nil))<| .seq (.rg (.o none (.mv 39 (.t 7))<|
 .o none (.mv 40 (.t 8))<|
 .o none (.conv 41 .u64 (.t 40))<|
 .o none (.call (some 42) false (.c (.fn 113 [] [])) [(.t 41)])<|
 .o none (.mv 4 (.t 39))<|
 .o none (.mv 5 (.t 42))<|
 .o none (.mv 6 (.c (.int .i64 0))) .nil))<| .ret) (.skip)))))<| .seq (.rg (.o none (.mv 43 (.t 1))<|
 .o none (.mv 44 (.t 1))<|
 .o none (.len 45 (.t 44))<|
 .o none (.bin 46 .sub false (.t 45) (.c (.int .i64 1)))<|
 .o none (.idx 47 1 (.t 43) (.t 46))<|
 .o none (.ld 48 1 false (.t 47))<|
 .o none (.call (some 49) false (.c (.fn 164 [] [])) [(.t 48)])<|
 .o none (.mv 9 (.t 49)) .nil))<| .seq (.rg (.o none (.mv 50 (.t 0))<|
 .o none (.mv 51 (.t 9))<|
 .o none (.call (some 52) false (.c (.fn 165 [] [])) [(.t 50),(.t 51)])<|
 .o none (.bs 53 1 115 [(.c (.int .u16 0)),(.c (.int .u16 0))])<|
 .o none (.app 54 1 2 115 (.t 52) (.t 53))<|
 .o none (.mv 55 (.t 0))<|
 .o none (.len 56 (.t 55))<|
 .o none (.bin 57 .add false (.t 56) (.c (.int .i64 1)))<|
 .o none (.sl 58 1 (.t 54) none (some (.t 57)) none)<|
 .o none (.mv 10 (.t 58)) .nil))<| .seq (.rg (.o none (.mv 59 (.t 1))<|
 .o none (.mv 60 (.t 9))<|
 .o none (.call (some 61) false (.c (.fn 165 [] [])) [(.t 59),(.t 60)])<|
 .o none (.mv 11 (.t 61)) .nil))<| .seq (.rg (.o none (.mv 62 (.t 10))<|
 .o none (.mv 63 (.t 11))<|
 .o none (.call (some 64) false (.c (.fn 166 [] [])) [(.t 62),(.t 63)])<|
 .o none (.mv 4 (.t 64)) .nil))<| .seq (.rg (.o none (.mv 65 (.t 4))<|
 .o none (.mv 66 (.t 10))<|
 .o none (.call (some 67) false (.c (.fn 153 [] [])) [(.t 66)])<|
 .o none (.mv 68 (.t 9))<|
 .o none (.un 69 .neg (.t 68))<|
 .o none (.call (some 70) false (.c (.fn 165 [] [])) [(.t 67),(.t 69)])<|
 .o none (.mv 4 (.t 65))<|
 .o none (.mv 5 (.t 70))<|
 .o none (.mv 6 (.c (.int .i64 0))) .nil))<| .ret⟩
theorem Qaii:Qe Tryz.prog Tryz.f150=some c150:=by kernel_rfl
def c172:SFn:=⟨31,[.t 6],.seq (.rg (.o none (.mv 6 (.c (.bool false))) .nil))<| .seq (.rg (.o none (.ld 7 1 false (.t 0))<|
 .o none (.bin 8 .geq false (.t 7) (.c (.int .u64 65536)))<|
 .o none (.mv 9 (.t 8))<|
 .o (some (9,false)) (.ld 10 1 false (.t 0))<|
 .o (some (9,false)) (.ld 11 1 false (.t 1))<|
 .o (some (9,false)) (.ld 12 1 false (.t 2))<|
 .o (some (9,false)) (.bin 13 .sub false (.t 12) (.c (.int .i64 2)))<|
 .o (some (9,false)) (.idx 14 1 (.t 11) (.t 13))<|
 .o (some (9,false)) (.ld 15 1 false (.t 14))<|
 .o (some (9,false)) (.conv 16 .u64 (.t 15))<|
 .o (some (9,false)) (.bin 17 .mul false (.t 10) (.t 16))<|
 .o (some (9,false)) (.ld 18 1 false (.t 3))<|
 .o (some (9,false)) (.bin 19 .shl false (.t 18) (.c (.int .u64 16)))<|
 .o (some (9,false)) (.ld 20 1 false (.t 4))<|
 .o (some (9,false)) (.ld 21 1 false (.t 5))<|
 .o (some (9,false)) (.ld 22 1 false (.t 2))<|
 .o (some (9,false)) (.bin 23 .add false (.t 21) (.t 22))<|
 .o (some (9,false)) (.bin 24 .sub false (.t 23) (.c (.int .i64 2)))<|
 .o (some (9,false)) (.idx 25 1 (.t 20) (.t 24))<|
 .o (some (9,false)) (.ld 26 1 false (.t 25))<|
 .o (some (9,false)) (.conv 27 .u64 (.t 26))<|
 .o (some (9,false)) (.bin 28 .or false (.t 19) (.t 27))<|
 .o (some (9,false)) (.bin 29 .gtr false (.t 17) (.t 28))<|
 .o none (.pick 30 (.t 9) (.c (.bool true)) (.t 29))<|
 .o none (.mv 6 (.t 30)) .nil))<| .ret⟩
theorem Qaij:Qe Tryz.prog Tryz.f172=some c172:=by kernel_rfl
def c173:SFn:=⟨54,[.t 6],.seq (.rg (.o none (.mv 6 (.c (.bool false))) .nil))<| .seq (.rg (.o none (.mv 7 (.c (.int .u32 0))) .nil))<| .seq (.rg (.o none (.mv 8 (.c (.int .i32 0))) .nil))<| .seq (.seq (.rg (.o none (.mv 11 (.t 0))<|
 .o none (.len 12 (.t 11))<|
 .o none (.mv 13 (.c (.int .i64 0))) .nil))<| .block 0 (.loop (.seq (.rg (.o none (.bin 14 .lss false (.t 13) (.t 12)) .nil))<| .seq (.cond (.t 14) (.skip) (.exit 0))<| .seq (.block 1 (.seq (.rg (.o none (.mv 15 (.t 13))<|
 .o none (.mv 9 (.t 15)) .nil))<| .seq (.seq (.rg (.o none (.mv 16 (.t 9))<|
 .o none (.mv 17 (.t 1))<|
 .o none (.len 18 (.t 17))<|
 .o none (.bin 19 .lss false (.t 16) (.t 18)) .nil))<| .cond (.t 19) (.rg (.o none (.mv 20 (.t 7))<|
 .o none (.mv 21 (.t 2))<|
 .o none (.mv 22 (.t 1))<|
 .o none (.mv 23 (.t 9))<|
 .o none (.idx 24 1 (.t 22) (.t 23))<|
 .o none (.ld 25 1 false (.t 24))<|
 .o none (.conv 26 .u32 (.t 25))<|
 .o none (.bin 27 .mul false (.t 21) (.t 26))<|
 .o none (.bin 28 .add false (.t 20) (.t 27))<|
 .o none (.mv 7 (.t 28)) .nil)) (.skip))<| .seq (.rg (.o none (.mv 29 (.t 0))<|
 .o none (.mv 30 (.t 9))<|
 .o none (.idx 31 1 (.t 29) (.t 30))<|
 .o none (.ld 32 1 false (.t 31))<|
 .o none (.conv 33 .i32 (.t 32))<|
 .o none (.mv 34 (.t 7))<|
 .o none (.conv 35 .u16 (.t 34))<|
 .o none (.conv 36 .i32 (.t 35))<|
 .o none (.bin 37 .sub false (.t 33) (.t 36))<|
 .o none (.mv 38 (.t 8))<|
 .o none (.bin 39 .sub false (.t 37) (.t 38))<|
 .o none (.mv 10 (.t 39)) .nil))<| .seq (.rg (.o none (.mv 40 (.t 7))<|
 .o none (.bin 41 .shr false (.t 40) (.c (.int .u64 16)))<|
 .o none (.mv 7 (.t 41)) .nil))<| .seq (.rg (.o none (.mv 8 (.c (.int .i32 0))) .nil))<| .seq (.seq (.rg (.o none (.mv 42 (.t 10))<|
 .o none (.bin 43 .lss false (.t 42) (.c (.int .i32 0))) .nil))<| .cond (.t 43) (.seq (.rg (.o none (.mv 44 (.t 10))<|
 .o none (.bin 45 .add false (.t 44) (.c (.int .i32 65536)))<|
 .o none (.mv 10 (.t 45)) .nil))<| .rg (.o none (.mv 8 (.c (.int .i32 1))) .nil)) (.skip))<| .rg (.o none (.mv 46 (.t 0))<|
 .o none (.mv 47 (.t 9))<|
 .o none (.mv 48 (.t 10))<|
 .o none (.conv 49 .u16 (.t 48))<|
 .o none (.idx 50 1 (.t 46) (.t 47))<|
 .o none (.st 1 (.t 50) (.t 49)) .nil)))<| .rg (.o none (.bin 51 .add false (.t 13) (.c (.int .i64 1)))<|
 .o none (.mv 13 (.t 51)) .nil))))<| .seq (.rg (.o none (.mv 52 (.t 8))<|
 .o none (.bin 53 .gtr false (.t 52) (.c (.int .i32 0)))<|
 .o none (.mv 6 (.t 53)) .nil))<| .ret⟩
theorem Qaik:Qe Tryz.prog Tryz.f173=some c173:=by kernel_rfl
def c174:SFn:=⟨37,[],.seq (.rg (.o none (.mv 4 (.c (.int .u32 0))) .nil))<| .seq (.rg (.o none (.mv 6 (.t 0))<|
 .o none (.len 7 (.t 6))<|
 .o none (.mv 8 (.c (.int .i64 0))) .nil))<| .block 0 (.loop (.seq (.rg (.o none (.bin 9 .lss false (.t 8) (.t 7)) .nil))<| .seq (.cond (.t 9) (.skip) (.exit 0))<| .seq (.block 1 (.seq (.rg (.o none (.mv 10 (.t 8))<|
 .o none (.mv 5 (.t 10)) .nil))<| .seq (.rg (.o none (.mv 11 (.t 4))<|
 .o none (.mv 12 (.t 0))<|
 .o none (.mv 13 (.t 5))<|
 .o none (.idx 14 1 (.t 12) (.t 13))<|
 .o none (.ld 15 1 false (.t 14))<|
 .o none (.conv 16 .u32 (.t 15))<|
 .o none (.bin 17 .add false (.t 11) (.t 16))<|
 .o none (.mv 4 (.t 17)) .nil))<| .seq (.seq (.rg (.o none (.mv 18 (.t 5))<|
 .o none (.mv 19 (.t 1))<|
 .o none (.len 20 (.t 19))<|
 .o none (.bin 21 .lss false (.t 18) (.t 20)) .nil))<| .cond (.t 21) (.rg (.o none (.mv 22 (.t 4))<|
 .o none (.mv 23 (.t 1))<|
 .o none (.mv 24 (.t 5))<|
 .o none (.idx 25 1 (.t 23) (.t 24))<|
 .o none (.ld 26 1 false (.t 25))<|
 .o none (.conv 27 .u32 (.t 26))<|
 .o none (.bin 28 .add false (.t 22) (.t 27))<|
 .o none (.mv 4 (.t 28)) .nil)) (.skip))<| .seq (.rg (.o none (.mv 29 (.t 0))<|
 .o none (.mv 30 (.t 5))<|
 .o none (.mv 31 (.t 4))<|
 .o none (.conv 32 .u16 (.t 31))<|
 .o none (.idx 33 1 (.t 29) (.t 30))<|
 .o none (.st 1 (.t 33) (.t 32)) .nil))<| .rg (.o none (.mv 34 (.t 4))<|
 .o none (.bin 35 .shr false (.t 34) (.c (.int .u64 16)))<|
 .o none (.mv 4 (.t 35)) .nil)))<| .rg (.o none (.bin 36 .add false (.t 8) (.c (.int .i64 1)))<|
 .o none (.mv 8 (.t 36)) .nil)))⟩
theorem Qail:Qe Tryz.prog Tryz.f174=some c174:=by kernel_rfl
def c117:SFn:=⟨51,[.t 4],.seq (.rg (.o none (.mv 4 (.c .nilS)) .nil))<| .seq (.rg (.o none (.mv 12 (.t 0))<|
 .o none (.call (some 13) false (.c (.fn 148 [] [])) [(.t 12)])<|
 .o none (.mv 14 (.t 1))<|
 .o none (.call (some 15) false (.c (.fn 148 [] [])) [(.t 14)])<|
 .o none (.mv 0 (.t 13))<|
 .o none (.mv 1 (.t 15)) .nil))<| .seq (.block 0 (.loop (.seq (.seq (.rg (.o none (.mv 16 (.t 1))<|
 .o none (.len 17 (.t 16))<|
 .o none (.bin 18 .gtr false (.t 17) (.c (.int .i64 0))) .nil))<| .cond (.t 18) (.skip) (.exit 0))<| .block 1 (.seq (.rg (.o none (.mv 20 (.t 0))<|
 .o none (.call (some 21) false (.c (.fn 149 [] [])) [(.t 20)])<|
 .o none (.mv 19 (.t 21))<|
 .o none (.ext 22 (.t 19) 0)<|
 .o none (.ext 23 (.t 19) 1)<|
 .o none (.mv 5 (.t 22))<|
 .o none (.mv 6 (.t 23)) .nil))<| .seq (.rg (.o none (.mv 25 (.t 1))<|
 .o none (.call (some 26) false (.c (.fn 149 [] [])) [(.t 25)])<|
 .o none (.mv 24 (.t 26))<|
 .o none (.ext 27 (.t 24) 0)<|
 .o none (.ext 28 (.t 24) 1)<|
 .o none (.mv 7 (.t 27))<|
 .o none (.mv 8 (.t 28)) .nil))<| .seq (.seq (.rg (.o none (.mv 29 (.t 6))<|
 .o none (.mv 30 (.t 29))<|
 .o (some (30,true)) (.mv 31 (.t 8))<|
 .o none (.pick 32 (.t 30) (.t 31) (.c (.bool false))) .nil))<| .cond (.t 32) (.seq (.block 2 (.loop (.seq (.seq (.rg (.o none (.mv 33 (.t 7))<|
 .o none (.bin 34 .gtr false (.t 33) (.c (.int .u64 0))) .nil))<| .cond (.t 34) (.skip) (.exit 2))<| .block 3 (.rg (.o none (.mv 35 (.t 7))<|
 .o none (.mv 36 (.t 5))<|
 .o none (.mv 37 (.t 7))<|
 .o none (.bin 38 .rem false (.t 36) (.t 37))<|
 .o none (.mv 5 (.t 35))<|
 .o none (.mv 7 (.t 38)) .nil)))))<| .seq (.rg (.o none (.mv 39 (.t 5))<|
 .o none (.call (some 40) false (.c (.fn 113 [] [])) [(.t 39)])<|
 .o none (.mv 4 (.t 40)) .nil))<| .ret) (.skip))<| .seq (.rg (.o none (.mv 42 (.t 0))<|
 .o none (.mv 43 (.t 1))<|
 .o none (.call (some 44) false (.c (.fn 150 [] [])) [(.t 42),(.t 43)])<|
 .o none (.mv 41 (.t 44))<|
 .o none (.ext 45 (.t 41) 0)<|
 .o none (.ext 46 (.t 41) 1)<|
 .o none (.ext 47 (.t 41) 2)<|
 .o none (.mv 9 (.t 45))<|
 .o none (.mv 10 (.t 46))<|
 .o none (.mv 11 (.t 47)) .nil))<| .rg (.o none (.mv 48 (.t 1))<|
 .o none (.mv 49 (.t 10))<|
 .o none (.mv 0 (.t 48))<|
 .o none (.mv 1 (.t 49)) .nil)))))<| .seq (.rg (.o none (.mv 50 (.t 0))<|
 .o none (.mv 4 (.t 50)) .nil))<| .ret⟩
theorem Qaim:Qe Tryz.prog Tryz.f117=some c117:=by kernel_rfl
def Qto:SFn:=⟨78,[.t 4],.seq (.rg (.o none (.mv 4 (.c .nilS)) .nil))<| .seq (.rg (.o none (.mv 11 (.t 0))<|
 .o none (.call (some 12) false (.c (.fn 153 [] [])) [(.t 11)])<|
 .o none (.mv 0 (.t 12)) .nil))<| .seq (.seq (.rg (.o none (.mv 13 (.t 1))<|
 .o none (.bin 14 .lss false (.t 13) (.c (.int .i64 (-1048576))))<|
 .o none (.mv 15 (.t 14))<|
 .o (some (15,false)) (.mv 16 (.t 1))<|
 .o (some (15,false)) (.bin 17 .gtr false (.t 16) (.c (.int .i64 1048576)))<|
 .o none (.pick 18 (.t 15) (.c (.bool true)) (.t 17))<|
 .o none (.mv 19 (.t 18))<|
 .o (some (19,false)) (.mv 20 (.t 0))<|
 .o (some (19,false)) (.len 21 (.t 20))<|
 .o (some (19,false)) (.bin 22 .eql false (.t 21) (.c (.int .i64 0)))<|
 .o none (.pick 23 (.t 19) (.c (.bool true)) (.t 22)) .nil))<| .cond (.t 23) (.seq (.rg (.o none (.mv 4 (.c .nilS)) .nil))<| .ret) (.skip))<| .seq (.seq (.rg (.o none (.mv 24 (.t 1))<|
 .o none (.bin 25 .lss false (.t 24) (.c (.int .i64 0))) .nil))<| .cond (.t 25) (.seq (.rg (.o none (.mv 26 (.t 0))<|
 .o none (.mv 27 (.t 1))<|
 .o none (.un 28 .neg (.t 27))<|
 .o none (.call (some 29) false (.c (.fn 171 [] [])) [(.t 26),(.t 28)])<|
 .o none (.mv 4 (.t 29)) .nil))<| .ret) (.skip))<| .seq (.rg (.o none (.mv 30 (.t 1))<|
 .o none (.bin 31 .quo false (.t 30) (.c (.int .i64 16)))<|
 .o none (.mv 32 (.t 1))<|
 .o none (.bin 33 .rem false (.t 32) (.c (.int .i64 16)))<|
 .o none (.mv 5 (.t 31))<|
 .o none (.mv 6 (.t 33)) .nil))<| .seq (.rg (.o none (.mv 34 (.t 0))<|
 .o none (.len 35 (.t 34))<|
 .o none (.mv 36 (.t 5))<|
 .o none (.bin 37 .add false (.t 35) (.t 36))<|
 .o none (.bin 38 .add false (.t 37) (.c (.int .i64 1)))<|
 .o none (.mv 39 (.t 0))<|
 .o none (.len 40 (.t 39))<|
 .o none (.mv 41 (.t 5))<|
 .o none (.bin 42 .add false (.t 40) (.t 41))<|
 .o none (.bin 43 .add false (.t 42) (.c (.int .i64 3)))<|
 .o none (.mk 44 1 2 115 (.int .u16 0) (.t 38) (.t 43))<|
 .o none (.mv 7 (.t 44)) .nil))<| .seq (.seq (.rg (.o none (.mv 45 (.t 0))<|
 .o none (.len 46 (.t 45))<|
 .o none (.mv 47 (.c (.int .i64 0))) .nil))<| .block 0 (.loop (.seq (.rg (.o none (.bin 48 .lss false (.t 47) (.t 46)) .nil))<| .seq (.cond (.t 48) (.skip) (.exit 0))<| .seq (.block 1 (.seq (.rg (.o none (.mv 49 (.t 47))<|
 .o none (.idx 50 1 (.t 45) (.t 47))<|
 .o none (.ld 51 1 false (.t 50))<|
 .o none (.mv 8 (.t 49))<|
 .o none (.mv 9 (.t 51)) .nil))<| .seq (.rg (.o none (.mv 52 (.t 9))<|
 .o none (.conv 53 .u32 (.t 52))<|
 .o none (.mv 54 (.t 6))<|
 .o none (.bin 55 .shl false (.t 53) (.t 54))<|
 .o none (.mv 10 (.t 55)) .nil))<| .seq (.rg (.o none (.mv 56 (.t 7))<|
 .o none (.mv 57 (.t 8))<|
 .o none (.mv 58 (.t 5))<|
 .o none (.bin 59 .add false (.t 57) (.t 58))<|
 .o none (.idx 60 1 (.t 56) (.t 59))<|
 .o none (.ld 61 1 false (.t 60))<|
 .o none (.mv 62 (.t 10))<|
 .o none (.conv 63 .u16 (.t 62))<|
 .o none (.bin 64 .or false (.t 61) (.t 63))<|
 .o none (.idx 65 1 (.t 56) (.t 59))<|
 .o none (.st 1 (.t 65) (.t 64)) .nil))<| .rg (.o none (.mv 66 (.t 7))<|
 .o none (.mv 67 (.t 8))<|
 .o none (.mv 68 (.t 5))<|
 .o none (.bin 69 .add false (.t 67) (.t 68))<|
 .o none (.bin 70 .add false (.t 69) (.c (.int .i64 1)))<|
 .o none (.mv 71 (.t 10))<|
 .o none (.bin 72 .shr false (.t 71) (.c (.int .u64 16)))<|
 .o none (.conv 73 .u16 (.t 72))<|
 .o none (.idx 74 1 (.t 66) (.t 70))<|
 .o none (.st 1 (.t 74) (.t 73)) .nil)))<| .rg (.o none (.bin 75 .add false (.t 47) (.c (.int .i64 1)))<|
 .o none (.mv 47 (.t 75)) .nil))))<| .seq (.rg (.o none (.mv 76 (.t 7))<|
 .o none (.call (some 77) false (.c (.fn 153 [] [])) [(.t 76)])<|
 .o none (.mv 4 (.t 77)) .nil))<| .ret⟩
theorem Qw3:Qe Tryz.prog Tryz.f165=some Qto:=by kernel_rfl
def c171:SFn:=⟨63,[.t 4],.seq (.rg (.o none (.mv 4 (.c .nilS)) .nil))<| .seq (.rg (.o none (.mv 10 (.t 1))<|
 .o none (.bin 11 .quo false (.t 10) (.c (.int .i64 16)))<|
 .o none (.mv 12 (.t 1))<|
 .o none (.bin 13 .rem false (.t 12) (.c (.int .i64 16)))<|
 .o none (.mv 5 (.t 11))<|
 .o none (.mv 6 (.t 13)) .nil))<| .seq (.seq (.rg (.o none (.mv 14 (.t 5))<|
 .o none (.mv 15 (.t 0))<|
 .o none (.len 16 (.t 15))<|
 .o none (.bin 17 .geq false (.t 14) (.t 16)) .nil))<| .cond (.t 17) (.seq (.rg (.o none (.mv 4 (.c .nilS)) .nil))<| .ret) (.skip))<| .seq (.rg (.o none (.mv 18 (.t 0))<|
 .o none (.len 19 (.t 18))<|
 .o none (.mv 20 (.t 5))<|
 .o none (.bin 21 .sub false (.t 19) (.t 20))<|
 .o none (.mk 22 1 2 115 (.int .u16 0) (.t 21) (.t 21))<|
 .o none (.mv 7 (.t 22)) .nil))<| .seq (.seq (.rg (.o none (.mv 23 (.t 7))<|
 .o none (.len 24 (.t 23))<|
 .o none (.mv 25 (.c (.int .i64 0))) .nil))<| .block 0 (.loop (.seq (.rg (.o none (.bin 26 .lss false (.t 25) (.t 24)) .nil))<| .seq (.cond (.t 26) (.skip) (.exit 0))<| .seq (.block 1 (.seq (.rg (.o none (.mv 27 (.t 25))<|
 .o none (.mv 8 (.t 27)) .nil))<| .seq (.rg (.o none (.mv 28 (.t 0))<|
 .o none (.mv 29 (.t 8))<|
 .o none (.mv 30 (.t 5))<|
 .o none (.bin 31 .add false (.t 29) (.t 30))<|
 .o none (.idx 32 1 (.t 28) (.t 31))<|
 .o none (.ld 33 1 false (.t 32))<|
 .o none (.conv 34 .u32 (.t 33))<|
 .o none (.mv 9 (.t 34)) .nil))<| .seq (.seq (.rg (.o none (.mv 35 (.t 8))<|
 .o none (.mv 36 (.t 5))<|
 .o none (.bin 37 .add false (.t 35) (.t 36))<|
 .o none (.bin 38 .add false (.t 37) (.c (.int .i64 1)))<|
 .o none (.mv 39 (.t 0))<|
 .o none (.len 40 (.t 39))<|
 .o none (.bin 41 .lss false (.t 38) (.t 40)) .nil))<| .cond (.t 41) (.rg (.o none (.mv 42 (.t 9))<|
 .o none (.mv 43 (.t 0))<|
 .o none (.mv 44 (.t 8))<|
 .o none (.mv 45 (.t 5))<|
 .o none (.bin 46 .add false (.t 44) (.t 45))<|
 .o none (.bin 47 .add false (.t 46) (.c (.int .i64 1)))<|
 .o none (.idx 48 1 (.t 43) (.t 47))<|
 .o none (.ld 49 1 false (.t 48))<|
 .o none (.conv 50 .u32 (.t 49))<|
 .o none (.bin 51 .shl false (.t 50) (.c (.int .u64 16)))<|
 .o none (.bin 52 .or false (.t 42) (.t 51))<|
 .o none (.mv 9 (.t 52)) .nil)) (.skip))<| .rg (.o none (.mv 53 (.t 7))<|
 .o none (.mv 54 (.t 8))<|
 .o none (.mv 55 (.t 9))<|
 .o none (.mv 56 (.t 6))<|
 .o none (.bin 57 .shr false (.t 55) (.t 56))<|
 .o none (.conv 58 .u16 (.t 57))<|
 .o none (.idx 59 1 (.t 53) (.t 54))<|
 .o none (.st 1 (.t 59) (.t 58)) .nil)))<| .rg (.o none (.bin 60 .add false (.t 25) (.c (.int .i64 1)))<|
 .o none (.mv 25 (.t 60)) .nil))))<| .seq (.rg (.o none (.mv 61 (.t 7))<|
 .o none (.call (some 62) false (.c (.fn 153 [] [])) [(.t 61)])<|
 .o none (.mv 4 (.t 62)) .nil))<| .ret⟩
theorem Qain:Qe Tryz.prog Tryz.f171=some c171:=by kernel_rfl
def c164:SFn:=⟨6,[.t 2],.seq (.rg (.o none (.mv 2 (.c (.int .i64 0))) .nil))<| .seq (.rg (.o none (.mv 3 (.t 0))<|
 .o none (.call (some 4) false (.c (.fn 167 [] [])) [(.t 3)])<|
 .o none (.bin 5 .sub false (.c (.int .i64 16)) (.t 4))<|
 .o none (.mv 2 (.t 5)) .nil))<| .ret⟩
theorem Qaio:Qe Tryz.prog Tryz.f164=some c164:=by kernel_rfl
def c128:SFn:=⟨47,[.t 6],.seq (.rg (.o none (.mv 6 (.c .nilS)) .nil))<| .seq (.rg (.o none (.mv 11 (.t 0))<|
 .o none (.len 12 (.t 11))<|
 .o none (.mv 13 (.t 1))<|
 .o none (.len 14 (.t 13))<|
 .o none (.mx 15 (.t 12) (.t 14))<|
 .o none (.mk 16 1 8 3 (.int .i64 0) (.t 15) (.t 15))<|
 .o none (.mv 7 (.t 16)) .nil))<| .seq (.seq (.rg (.o none (.mv 17 (.t 7))<|
 .o none (.len 18 (.t 17))<|
 .o none (.mv 19 (.c (.int .i64 0))) .nil))<| .block 0 (.loop (.seq (.rg (.o none (.bin 20 .lss false (.t 19) (.t 18)) .nil))<| .seq (.cond (.t 20) (.skip) (.exit 0))<| .seq (.block 1 (.seq (.rg (.o none (.mv 21 (.t 19))<|
 .o none (.mv 8 (.t 21)) .nil))<| .seq (.rg (.o none (.mv 9 (.c (.int .i64 0)))<|
 .o none (.mv 10 (.c (.int .i64 0))) .nil))<| .seq (.seq (.rg (.o none (.mv 22 (.t 8))<|
 .o none (.mv 23 (.t 0))<|
 .o none (.len 24 (.t 23))<|
 .o none (.bin 25 .lss false (.t 22) (.t 24)) .nil))<| .cond (.t 25) (.rg (.o none (.mv 26 (.t 0))<|
 .o none (.mv 27 (.t 8))<|
 .o none (.idx 28 1 (.t 26) (.t 27))<|
 .o none (.ld 29 1 false (.t 28))<|
 .o none (.mv 9 (.t 29)) .nil)) (.skip))<| .seq (.seq (.rg (.o none (.mv 30 (.t 8))<|
 .o none (.mv 31 (.t 1))<|
 .o none (.len 32 (.t 31))<|
 .o none (.bin 33 .lss false (.t 30) (.t 32)) .nil))<| .cond (.t 33) (.rg (.o none (.mv 34 (.t 1))<|
 .o none (.mv 35 (.t 8))<|
 .o none (.idx 36 1 (.t 34) (.t 35))<|
 .o none (.ld 37 1 false (.t 36))<|
 .o none (.mv 10 (.t 37)) .nil)) (.skip))<| .rg (.o none (.mv 38 (.t 7))<|
 .o none (.mv 39 (.t 8))<|
 .o none (.mv 40 (.t 2))<|
 .o none (.mv 41 (.t 9))<|
 .o none (.mv 42 (.t 10))<|
 .o none (.call (some 43) false (.t 40) [(.t 41),(.t 42)])<|
 .o none (.idx 44 1 (.t 38) (.t 39))<|
 .o none (.st 1 (.t 44) (.t 43)) .nil)))<| .rg (.o none (.bin 45 .add false (.t 19) (.c (.int .i64 1)))<|
 .o none (.mv 19 (.t 45)) .nil))))<| .seq (.rg (.o none (.mv 46 (.t 7))<|
 .o none (.mv 6 (.t 46)) .nil))<| .ret⟩
theorem Qaip:Qe Tryz.prog Tryz.f128=some c128:=by kernel_rfl
def c92:SFn:=⟨24,[.t 2],.seq (.rg (.o none (.mv 2 (.c .nilS)) .nil))<| .seq (.rg (.o none (.mv 4 (.t 0))<|
 .o none (.len 5 (.t 4))<|
 .o none (.mv 3 (.t 5)) .nil))<| .seq (.block 0 (.loop (.seq (.seq (.rg (.o none (.mv 6 (.t 3))<|
 .o none (.bin 7 .gtr false (.t 6) (.c (.int .i64 0)))<|
 .o none (.mv 8 (.t 7))<|
 .o (some (8,true)) (.mv 9 (.t 0))<|
 .o (some (8,true)) (.mv 10 (.t 3))<|
 .o (some (8,true)) (.bin 11 .sub false (.t 10) (.c (.int .i64 1)))<|
 .o (some (8,true)) (.idx 12 1 (.t 9) (.t 11))<|
 .o (some (8,true)) (.ld 13 1 false (.t 12))<|
 .o (some (8,true)) (.bin 14 .eql false (.t 13) (.c (.int .i64 0)))<|
 .o none (.pick 15 (.t 8) (.t 14) (.c (.bool false))) .nil))<| .cond (.t 15) (.skip) (.exit 0))<| .block 1 (.rg (.o none (.mv 16 (.t 3))<|
 .o none (.bin 17 .sub false (.t 16) (.c (.int .i64 1)))<|
 .o none (.mv 3 (.t 17)) .nil)))))<| .seq (.seq (.rg (.o none (.mv 18 (.t 3))<|
 .o none (.bin 19 .eql false (.t 18) (.c (.int .i64 0))) .nil))<| .cond (.t 19) (.seq (.rg (.o none (.mv 2 (.c .nilS)) .nil))<| .ret) (.skip))<| .seq (.rg (.o none (.mv 20 (.t 0))<|
 .o none (.mv 21 (.t 3))<|
 .o none (.mv 22 (.t 3))<|
 .o none (.sl 23 1 (.t 20) none (some (.t 21)) (some (.t 22)))<|
 .o none (.mv 2 (.t 23)) .nil))<| .ret⟩
theorem Qam7:Qe Tryz.prog Tryz.f92=some c92:=by kernel_rfl
def c70:SFn:=⟨35,[.t 2],.seq (.rg (.o none (.mv 2 (.c (.bool false))) .nil))<| .seq (.seq (.rg (.o none (.mv 5 (.t 0))<|
 .o none (.len 6 (.t 5))<|
 .o none (.bin 7 .gtr false (.t 6) (.c (.int .i64 64)))<|
 .o none (.mv 8 (.t 7))<|
 .o (some (8,false)) (.mv 9 (.t 0))<|
 .o (some (8,false)) (.len 10 (.t 9))<|
 .o (some (8,false)) (.bin 11 .gtr false (.t 10) (.c (.int .i64 0)))<|
 .o (some (8,false)) (.mv 12 (.t 11))<|
 .o (some (12,true)) (.mv 13 (.t 0))<|
 .o (some (12,true)) (.mv 14 (.t 0))<|
 .o (some (12,true)) (.len 15 (.t 14))<|
 .o (some (12,true)) (.bin 16 .sub false (.t 15) (.c (.int .i64 1)))<|
 .o (some (12,true)) (.idx 17 1 (.t 13) (.t 16))<|
 .o (some (12,true)) (.ld 18 1 false (.t 17))<|
 .o (some (12,true)) (.bin 19 .eql false (.t 18) (.c (.int .i64 0)))<|
 .o (some (8,false)) (.pick 20 (.t 12) (.t 19) (.c (.bool false)))<|
 .o none (.pick 21 (.t 8) (.c (.bool true)) (.t 20)) .nil))<| .cond (.t 21) (.seq (.rg (.o none (.mv 2 (.c (.bool false))) .nil))<| .ret) (.skip))<| .seq (.seq (.rg (.o none (.mv 22 (.t 0))<|
 .o none (.len 23 (.t 22))<|
 .o none (.mv 24 (.c (.int .i64 0))) .nil))<| .block 0 (.loop (.seq (.rg (.o none (.bin 25 .lss false (.t 24) (.t 23)) .nil))<| .seq (.cond (.t 25) (.skip) (.exit 0))<| .seq (.block 1 (.seq (.rg (.o none (.idx 26 1 (.t 22) (.t 24))<|
 .o none (.ld 27 1 false (.t 26))<|
 .o none (.mv 4 (.t 27)) .nil))<| .seq (.rg (.o none (.mv 28 (.t 4))<|
 .o none (.bin 29 .lss false (.t 28) (.c (.int .i64 0)))<|
 .o none (.mv 30 (.t 29))<|
 .o (some (30,false)) (.mv 31 (.t 4))<|
 .o (some (30,false)) (.bin 32 .gtr false (.t 31) (.c (.int .i64 1048576)))<|
 .o none (.pick 33 (.t 30) (.c (.bool true)) (.t 32)) .nil))<| .cond (.t 33) (.seq (.rg (.o none (.mv 2 (.c (.bool false))) .nil))<| .ret) (.skip)))<| .rg (.o none (.bin 34 .add false (.t 24) (.c (.int .i64 1)))<|
 .o none (.mv 24 (.t 34)) .nil))))<| .seq (.rg (.o none (.mv 2 (.c (.bool true))) .nil))<| .ret⟩
theorem Qam8:Qe Tryz.prog Tryz.f70=some c70:=by kernel_rfl
def c137:SFn:=⟨17,[.t 2],.seq (.rg (.o none (.mv 2 (.c (.int .i64 0))) .nil))<| .seq (.rg (.o none (.mv 3 (.c (.int .i64 0))) .nil))<| .seq (.seq (.rg (.o none (.mv 6 (.t 0))<|
 .o none (.len 7 (.t 6))<|
 .o none (.mv 8 (.c (.int .i64 0))) .nil))<| .block 0 (.loop (.seq (.rg (.o none (.bin 9 .lss false (.t 8) (.t 7)) .nil))<| .seq (.cond (.t 9) (.skip) (.exit 0))<| .seq (.block 1 (.seq (.rg (.o none (.idx 10 1 (.t 6) (.t 8))<|
 .o none (.ld 11 1 false (.t 10))<|
 .o none (.mv 5 (.t 11)) .nil))<| .rg (.o none (.mv 12 (.t 3))<|
 .o none (.mv 13 (.t 5))<|
 .o none (.bin 14 .add false (.t 12) (.t 13))<|
 .o none (.mv 3 (.t 14)) .nil)))<| .rg (.o none (.bin 15 .add false (.t 8) (.c (.int .i64 1)))<|
 .o none (.mv 8 (.t 15)) .nil))))<| .seq (.rg (.o none (.mv 16 (.t 3))<|
 .o none (.mv 2 (.t 16)) .nil))<| .ret⟩
theorem Qaiq:Qe Tryz.prog Tryz.f137=some c137:=by kernel_rfl
def c51:SFn:=⟨17,[.t 4],.seq (.rg (.o none (.mv 4 (.c (.int .i64 0))) .nil))<| .seq (.seq (.rg (.o none (.mv 5 (.t 1))<|
 .o none (.bin 6 .lss false (.t 5) (.c (.int .i64 0)))<|
 .o none (.mv 7 (.t 6))<|
 .o (some (7,false)) (.mv 8 (.t 1))<|
 .o (some (7,false)) (.mv 9 (.t 0))<|
 .o (some (7,false)) (.len 10 (.t 9))<|
 .o (some (7,false)) (.bin 11 .geq false (.t 8) (.t 10))<|
 .o none (.pick 12 (.t 7) (.c (.bool true)) (.t 11)) .nil))<| .cond (.t 12) (.seq (.rg (.o none (.mv 4 (.c (.int .i64 0))) .nil))<| .ret) (.skip))<| .seq (.rg (.o none (.mv 13 (.t 0))<|
 .o none (.mv 14 (.t 1))<|
 .o none (.idx 15 1 (.t 13) (.t 14))<|
 .o none (.ld 16 1 false (.t 15))<|
 .o none (.mv 4 (.t 16)) .nil))<| .ret⟩
theorem Qam9:Qe Tryz.prog Tryz.f51=some c51:=by kernel_rfl
def c50:SFn:=⟨7,[.t 2],.seq (.rg (.o none (.mv 2 (.c (.int .i64 0))) .nil))<| .seq (.rg (.o none (.mv 3 (.t 0))<|
 .o none (.call (some 4) false (.c (.fn 92 [] [])) [(.t 3)])<|
 .o none (.len 5 (.t 4))<|
 .o none (.bin 6 .sub false (.t 5) (.c (.int .i64 1)))<|
 .o none (.mv 2 (.t 6)) .nil))<| .ret⟩
theorem Qana:Qe Tryz.prog Tryz.f50=some c50:=by kernel_rfl
def c83:SFn:=⟨9,[.t 4],.seq (.rg (.o none (.mv 4 (.c .nilS)) .nil))<| .seq (.rg (.o none (.mv 5 (.t 0))<|
 .o none (.mv 6 (.t 1))<|
 .o none (.call (some 7) false (.c (.fn 128 [] [])) [(.t 5),(.t 6),(.c (.fn 129 [] []))])<|
 .o none (.call (some 8) false (.c (.fn 92 [] [])) [(.t 7)])<|
 .o none (.mv 4 (.t 8)) .nil))<| .ret⟩
theorem Qanb:Qe Tryz.prog Tryz.f83=some c83:=by kernel_rfl
def c129:SFn:=⟨8,[.t 4],.seq (.rg (.o none (.mv 4 (.c (.int .i64 0))) .nil))<| .seq (.rg (.o none (.mv 5 (.t 0))<|
 .o none (.mv 6 (.t 1))<|
 .o none (.bin 7 .add false (.t 5) (.t 6))<|
 .o none (.mv 4 (.t 7)) .nil))<| .ret⟩
theorem Qair:Qe Tryz.prog Tryz.f129=some c129:=by kernel_rfl
def c90:SFn:=⟨46,[.t 6],.seq (.rg (.o none (.mv 6 (.c (.int .i64 0))) .nil))<| .seq (.seq (.rg (.o none (.mv 12 (.t 2))<|
 .o none (.bin 13 .eql false (.t 12) (.c (.int .i64 1))) .nil))<| .cond (.t 13) (.seq (.rg (.o none (.mv 14 (.t 0))<|
 .o none (.call (some 15) false (.c (.fn 137 [] [])) [(.t 14)])<|
 .o none (.mv 16 (.t 1))<|
 .o none (.call (some 17) false (.c (.fn 137 [] [])) [(.t 16)])<|
 .o none (.mv 7 (.t 15))<|
 .o none (.mv 8 (.t 17)) .nil))<| .seq (.rg (.o none (.mv 18 (.t 7))<|
 .o none (.mv 19 (.t 8))<|
 .o none (.bin 20 .neq false (.t 18) (.t 19)) .nil))<| .cond (.t 20) (.seq (.seq (.rg (.o none (.mv 21 (.t 7))<|
 .o none (.mv 22 (.t 8))<|
 .o none (.bin 23 .lss false (.t 21) (.t 22)) .nil))<| .cond (.t 23) (.seq (.rg (.o none (.mv 6 (.c (.int .i64 (-1)))) .nil))<| .ret) (.skip))<| .seq (.rg (.o none (.mv 6 (.c (.int .i64 1))) .nil))<| .ret) (.skip)) (.skip))<| .seq (.seq (.rg (.o none (.mv 24 (.t 0))<|
 .o none (.len 25 (.t 24))<|
 .o none (.mv 26 (.t 1))<|
 .o none (.len 27 (.t 26))<|
 .o none (.mx 28 (.t 25) (.t 27))<|
 .o none (.bin 29 .sub false (.t 28) (.c (.int .i64 1)))<|
 .o none (.mv 9 (.t 29)) .nil))<| .block 0 (.loop (.seq (.seq (.rg (.o none (.mv 30 (.t 9))<|
 .o none (.bin 31 .geq false (.t 30) (.c (.int .i64 0))) .nil))<| .cond (.t 31) (.skip) (.exit 0))<| .seq (.block 1 (.seq (.rg (.o none (.mv 34 (.t 0))<|
 .o none (.mv 35 (.t 9))<|
 .o none (.call (some 36) false (.c (.fn 51 [] [])) [(.t 34),(.t 35)])<|
 .o none (.mv 37 (.t 1))<|
 .o none (.mv 38 (.t 9))<|
 .o none (.call (some 39) false (.c (.fn 51 [] [])) [(.t 37),(.t 38)])<|
 .o none (.mv 10 (.t 36))<|
 .o none (.mv 11 (.t 39)) .nil))<| .seq (.rg (.o none (.mv 40 (.t 10))<|
 .o none (.mv 41 (.t 11))<|
 .o none (.bin 42 .neq false (.t 40) (.t 41)) .nil))<| .cond (.t 42) (.seq (.seq (.rg (.o none (.mv 43 (.t 10))<|
 .o none (.mv 44 (.t 11))<|
 .o none (.bin 45 .lss false (.t 43) (.t 44)) .nil))<| .cond (.t 45) (.seq (.rg (.o none (.mv 6 (.c (.int .i64 (-1)))) .nil))<| .ret) (.skip))<| .seq (.rg (.o none (.mv 6 (.c (.int .i64 1))) .nil))<| .ret) (.skip)))<| .rg (.o none (.mv 32 (.t 9))<|
 .o none (.bin 33 .sub false (.t 32) (.c (.int .i64 1)))<|
 .o none (.mv 9 (.t 33)) .nil))))<| .seq (.rg (.o none (.mv 6 (.c (.int .i64 0))) .nil))<| .ret⟩
theorem Qanc:Qe Tryz.prog Tryz.f90=some c90:=by kernel_rfl
def c47:SFn:=⟨97,[.t 8],.seq (.rg (.o none (.mv 8 (.c .nilS)) .nil))<| .seq (.rg (.o none (.mv 15 (.t 0))<|
 .o none (.len 16 (.t 15))<|
 .o none (.mv 17 (.t 1))<|
 .o none (.len 18 (.t 17))<|
 .o none (.bin 19 .add false (.t 16) (.t 18))<|
 .o none (.mk 20 4 80 54 (.agg [(.bool false),.nilS,.nilS,.nilS]) (.c (.int .i64 0)) (.t 19))<|
 .o none (.mv 9 (.t 20)) .nil))<| .seq (.rg (.o none (.mv 10 (.c (.int .i64 0)))<|
 .o none (.mv 11 (.c (.int .i64 0))) .nil))<| .seq (.block 0 (.loop (.seq (.seq (.rg (.o none (.mv 21 (.t 10))<|
 .o none (.mv 22 (.t 0))<|
 .o none (.len 23 (.t 22))<|
 .o none (.bin 24 .lss false (.t 21) (.t 23))<|
 .o none (.mv 25 (.t 24))<|
 .o (some (25,true)) (.mv 26 (.t 11))<|
 .o (some (25,true)) (.mv 27 (.t 1))<|
 .o (some (25,true)) (.len 28 (.t 27))<|
 .o (some (25,true)) (.bin 29 .lss false (.t 26) (.t 28))<|
 .o none (.pick 30 (.t 25) (.t 29) (.c (.bool false))) .nil))<| .cond (.t 30) (.skip) (.exit 0))<| .block 1 (.seq (.rg (.o none (.mv 31 (.t 2))<|
 .o none (.mv 32 (.t 0))<|
 .o none (.mv 33 (.t 10))<|
 .o none (.idx 34 4 (.t 32) (.t 33))<|
 .o none (.ld 35 4 true (.t 34))<|
 .o none (.mv 36 (.t 1))<|
 .o none (.mv 37 (.t 11))<|
 .o none (.idx 38 4 (.t 36) (.t 37))<|
 .o none (.ld 39 4 true (.t 38))<|
 .o none (.call (some 40) false (.t 31) [(.t 35),(.t 39)])<|
 .o none (.mv 12 (.t 40)) .nil))<| .block 2 (.seq (.rg (.o none (.mv 64 (.t 12))<|
 .o none (.bin 65 .gtr false (.t 64) (.c (.int .i64 0)))<|
 .o none (.mv 63 (.t 65)) .nil))<| .cond (.t 63) (.seq (.rg (.o none (.mv 66 (.t 9))<|
 .o none (.mv 67 (.t 0))<|
 .o none (.mv 68 (.t 10))<|
 .o none (.idx 69 4 (.t 67) (.t 68))<|
 .o none (.ld 70 4 true (.t 69))<|
 .o none (.bs 71 4 54 [(.t 70)])<|
 .o none (.app 72 4 80 54 (.t 66) (.t 71))<|
 .o none (.mv 9 (.t 72)) .nil))<| .rg (.o none (.mv 73 (.t 10))<|
 .o none (.bin 74 .add false (.t 73) (.c (.int .i64 1)))<|
 .o none (.mv 10 (.t 74)) .nil)) (.seq (.rg (.o none (.mv 76 (.t 12))<|
 .o none (.bin 77 .lss false (.t 76) (.c (.int .i64 0)))<|
 .o none (.mv 75 (.t 77)) .nil))<| .cond (.t 75) (.seq (.rg (.o none (.mv 78 (.t 9))<|
 .o none (.mv 79 (.t 1))<|
 .o none (.mv 80 (.t 11))<|
 .o none (.idx 81 4 (.t 79) (.t 80))<|
 .o none (.ld 82 4 true (.t 81))<|
 .o none (.bs 83 4 54 [(.t 82)])<|
 .o none (.app 84 4 80 54 (.t 78) (.t 83))<|
 .o none (.mv 9 (.t 84)) .nil))<| .rg (.o none (.mv 85 (.t 11))<|
 .o none (.bin 86 .add false (.t 85) (.c (.int .i64 1)))<|
 .o none (.mv 11 (.t 86)) .nil)) (.seq (.seq (.rg (.o none (.mv 42 (.t 3))<|
 .o none (.mv 43 (.t 0))<|
 .o none (.mv 44 (.t 10))<|
 .o none (.idx 45 4 (.t 43) (.t 44))<|
 .o none (.ld 46 4 true (.t 45))<|
 .o none (.mv 47 (.t 1))<|
 .o none (.mv 48 (.t 11))<|
 .o none (.idx 49 4 (.t 47) (.t 48))<|
 .o none (.ld 50 4 true (.t 49))<|
 .br (.o none (.call (some 51) true (.t 42) [(.t 46),(.t 50)])<|
 .o none (.mv 41 (.t 51))<|
 .o none (.ext 52 (.t 41) 0)<|
 .o none (.ext 53 (.t 41) 1)<|
 .o none (.alloc 13 4 54 (.agg [(.bool false),.nilS,.nilS,.nilS]))<|
 .o none (.st 4 (.t 13) (.t 52))<|
 .o none (.mv 14 (.t 53)) .nil) (.o none (.alloc 13 4 54 (.agg [(.bool false),.nilS,.nilS,.nilS]))<|
 .o none (.call (some 51) true (.t 42) [(.t 46),(.t 50)])<|
 .o none (.mv 41 (.t 51))<|
 .o none (.ext 52 (.t 41) 0)<|
 .o none (.ext 53 (.t 41) 1)<|
 .o none (.st 4 (.t 13) (.t 52))<|
 .o none (.mv 14 (.t 53)) .nil)))<| .seq (.rg (.o none (.mv 54 (.t 14)) .nil))<| .cond (.t 54) (.rg (.o none (.mv 55 (.t 9))<|
 .o none (.ld 56 4 true (.t 13))<|
 .o none (.bs 57 4 54 [(.t 56)])<|
 .o none (.app 58 4 80 54 (.t 55) (.t 57))<|
 .o none (.mv 9 (.t 58)) .nil)) (.skip))<| .seq (.rg (.o none (.mv 59 (.t 10))<|
 .o none (.bin 60 .add false (.t 59) (.c (.int .i64 1)))<|
 .o none (.mv 10 (.t 60)) .nil))<| .rg (.o none (.mv 61 (.t 11))<|
 .o none (.bin 62 .add false (.t 61) (.c (.int .i64 1)))<|
 .o none (.mv 11 (.t 62)) .nil))))))))<| .seq (.rg (.o none (.mv 87 (.t 9))<|
 .o none (.mv 88 (.t 0))<|
 .o none (.mv 89 (.t 10))<|
 .o none (.sl 90 4 (.t 88) (some (.t 89)) none none)<|
 .o none (.app 91 4 80 54 (.t 87) (.t 90))<|
 .o none (.mv 9 (.t 91)) .nil))<| .seq (.rg (.o none (.mv 92 (.t 9))<|
 .o none (.mv 93 (.t 1))<|
 .o none (.mv 94 (.t 11))<|
 .o none (.sl 95 4 (.t 93) (some (.t 94)) none none)<|
 .o none (.app 96 4 80 54 (.t 92) (.t 95))<|
 .o none (.mv 8 (.t 96)) .nil))<| .ret⟩
theorem Qand:Qe Tryz.prog Tryz.f47=some c47:=by kernel_rfl
def c48:SFn:=⟨10,[.t 4],.seq (.rg (.o none (.box 2 4 54 (.t 0))<|
 .o none (.box 3 4 54 (.t 1))<|
 .o none (.mv 4 (.c (.int .i64 0))) .nil))<| .seq (.rg (.o none (.fld 5 3 (.t 2))<|
 .o none (.ld 6 1 false (.t 5))<|
 .o none (.fld 7 3 (.t 3))<|
 .o none (.ld 8 1 false (.t 7))<|
 .o none (.call (some 9) false (.c (.fn 90 [] [])) [(.t 6),(.t 8),(.c (.int .i64 0))])<|
 .o none (.mv 4 (.t 9)) .nil))<| .ret⟩
theorem Q9j:Qe Tryz.prog Tryz.f48=some c48:=by kernel_rfl
def c49:SFn:=⟨19,[.cell 4 4 true,.t 5],.seq (.rg (.o none (.box 2 4 54 (.t 0))<|
 .o none (.box 3 4 54 (.t 1))<|
 .o none (.alloc 4 4 54 (.agg [(.bool false),.nilS,.nilS,.nilS]))<|
 .o none (.mv 5 (.c (.bool false))) .nil))<| .seq (.rg (.o none (.fld 7 0 (.t 2))<|
 .o none (.ld 8 3 true (.t 7))<|
 .o none (.fld 9 0 (.t 3))<|
 .o none (.ld 10 3 true (.t 9))<|
 .o none (.call (some 11) false (.c (.fn 91 [] [])) [(.t 8),(.t 10)])<|
 .o none (.alloc 6 3 51 (.agg [(.bool false),.nilS,.nilS]))<|
 .o none (.st 3 (.t 6) (.t 11)) .nil))<| .seq (.rg (.o none (.ld 12 3 true (.t 6))<|
 .o none (.fld 13 3 (.t 2))<|
 .o none (.ld 14 1 false (.t 13))<|
 .o none (.bld 15 [(.bool false),.nilS,.nilS,.nilS] [(0,3,(.t 12)),(3,1,(.t 14))])<|
 .o none (.ld 16 3 true (.t 6))<|
 .o none (.call (some 17) true (.c (.fn 69 [] [])) [(.t 16)])<|
 .o none (.bin 18 .neq false (.t 17) (.c (.int .i64 0)))<|
 .o none (.st 4 (.t 4) (.t 15))<|
 .o none (.mv 5 (.t 18)) .nil))<| .ret⟩
theorem Qane:Qe Tryz.prog Tryz.f49=some c49:=by kernel_rfl
def c43:SFn:=⟨25,[.t 2],.seq (.rg (.o none (.mv 2 (.c .nilS)) .nil))<| .seq (.seq (.rg (.o none (.mv 4 (.t 0))<|
 .o none (.len 5 (.t 4)) .nil))<| .block 0 (.seq (.rg (.o none (.bin 7 .eql false (.t 5) (.c (.int .i64 0)))<|
 .o none (.mv 6 (.t 7)) .nil))<| .cond (.t 6) (.seq (.rg (.o none (.mv 2 (.c .nilS)) .nil))<| .ret) (.seq (.rg (.o none (.bin 9 .eql false (.t 5) (.c (.int .i64 1)))<|
 .o none (.mv 8 (.t 9)) .nil))<| .cond (.t 8) (.seq (.rg (.o none (.mv 10 (.t 0))<|
 .o none (.idx 11 1 (.t 10) (.c (.int .i64 0)))<|
 .o none (.ld 12 1 false (.t 11))<|
 .o none (.mv 2 (.t 12)) .nil))<| .ret) (.skip))))<| .seq (.rg (.o none (.mv 13 (.t 0))<|
 .o none (.len 14 (.t 13))<|
 .o none (.bin 15 .quo false (.t 14) (.c (.int .i64 2)))<|
 .o none (.mv 3 (.t 15)) .nil))<| .seq (.rg (.o none (.mv 16 (.t 0))<|
 .o none (.mv 17 (.t 3))<|
 .o none (.sl 18 1 (.t 16) none (some (.t 17)) none)<|
 .o none (.mv 20 (.t 0))<|
 .o none (.mv 21 (.t 3))<|
 .o none (.sl 22 1 (.t 20) (some (.t 21)) none none)<|
 .o none (.call (some 19) false (.c (.fn 43 [] [])) [(.t 18)])<|
 .o none (.call (some 23) false (.c (.fn 43 [] [])) [(.t 22)])<|
 .o none (.call (some 24) false (.c (.fn 15 [] [])) [(.t 19),(.t 23)])<|
 .o none (.mv 2 (.t 24)) .nil))<| .ret⟩
theorem Q9k:Qe Tryz.prog Tryz.f43=some c43:=by kernel_rfl
def c122:SFn:=⟨12,[.t 4],.seq (.rg (.o none (.box 2 3 51 (.t 0))<|
 .o none (.mv 4 (.c .nilS)) .nil))<| .seq (.seq (.rg (.o none (.ld 5 3 true (.t 2))<|
 .o none (.call (some 6) false (.c (.fn 69 [] [])) [(.t 5)])<|
 .o none (.bin 7 .eql false (.t 6) (.c (.int .i64 0))) .nil))<| .cond (.t 7) (.seq (.rg (.o none (.mv 4 (.c .nilS)) .nil))<| .ret) (.skip))<| .seq (.rg (.o none (.ld 8 3 true (.t 2))<|
 .o none (.mv 9 (.t 1))<|
 .o none (.bld 10 [(.bool false),.nilS,.nilS,.nilS] [(0,3,(.t 8)),(3,1,(.t 9))])<|
 .o none (.bs 11 4 54 [(.t 10)])<|
 .o none (.mv 4 (.t 11)) .nil))<| .ret⟩
theorem Qais:Qe Tryz.prog Tryz.f122=some c122:=by kernel_rfl
def c34:SFn:=⟨43,[.t 2],.seq (.rg (.o none (.mv 2 (.c (.bool false))) .nil))<| .seq (.seq (.rg (.o none (.mv 5 (.t 0))<|
 .o none (.len 6 (.t 5))<|
 .o none (.mv 7 (.c (.int .i64 0))) .nil))<| .block 0 (.loop (.seq (.rg (.o none (.bin 8 .lss false (.t 7) (.t 6)) .nil))<| .seq (.cond (.t 8) (.skip) (.exit 0))<| .seq (.block 1 (.seq (.rg (.o none (.mv 9 (.t 7))<|
 .o none (.idx 10 4 (.t 5) (.t 7))<|
 .o none (.ld 11 4 true (.t 10))<|
 .o none (.alloc 4 4 54 (.agg [(.bool false),.nilS,.nilS,.nilS]))<|
 .o none (.mv 3 (.t 9))<|
 .o none (.st 4 (.t 4) (.t 11)) .nil))<| .seq (.rg (.o none (.fld 12 0 (.t 4))<|
 .o none (.ld 13 3 true (.t 12))<|
 .o none (.call (some 14) true (.c (.fn 68 [] [])) [(.t 13)])<|
 .o none (.un 15 .not (.t 14))<|
 .o none (.mv 16 (.t 15))<|
 .o (some (16,false)) (.fld 17 0 (.t 4))<|
 .o (some (16,false)) (.ld 18 3 true (.t 17))<|
 .o (some (16,false)) (.call (some 19) true (.c (.fn 69 [] [])) [(.t 18)])<|
 .o (some (16,false)) (.bin 20 .eql false (.t 19) (.c (.int .i64 0)))<|
 .o none (.pick 21 (.t 16) (.c (.bool true)) (.t 20))<|
 .o none (.mv 22 (.t 21))<|
 .o (some (22,false)) (.fld 23 3 (.t 4))<|
 .o (some (22,false)) (.ld 24 1 false (.t 23))<|
 .o (some (22,false)) (.call (some 25) true (.c (.fn 70 [] [])) [(.t 24)])<|
 .o (some (22,false)) (.un 26 .not (.t 25))<|
 .o none (.pick 27 (.t 22) (.c (.bool true)) (.t 26))<|
 .o none (.mv 28 (.t 27))<|
 .o (some (28,false)) (.mv 29 (.t 3))<|
 .o (some (28,false)) (.bin 30 .gtr false (.t 29) (.c (.int .i64 0)))<|
 .o (some (28,false)) (.mv 31 (.t 30))<|
 .o (some (31,true)) (.mv 32 (.t 0))<|
 .o (some (31,true)) (.mv 33 (.t 3))<|
 .o (some (31,true)) (.bin 34 .sub false (.t 33) (.c (.int .i64 1)))<|
 .o (some (31,true)) (.idx 35 4 (.t 32) (.t 34))<|
 .o (some (31,true)) (.ld 36 4 true (.t 35))<|
 .o (some (31,true)) (.ld 37 4 true (.t 4))<|
 .o (some (31,true)) (.call (some 38) true (.c (.fn 48 [] [])) [(.t 36),(.t 37)])<|
 .o (some (31,true)) (.bin 39 .leq false (.t 38) (.c (.int .i64 0)))<|
 .o (some (28,false)) (.pick 40 (.t 31) (.t 39) (.c (.bool false)))<|
 .o none (.pick 41 (.t 28) (.c (.bool true)) (.t 40)) .nil))<| .cond (.t 41) (.seq (.rg (.o none (.mv 2 (.c (.bool false))) .nil))<| .ret) (.skip)))<| .rg (.o none (.bin 42 .add false (.t 7) (.c (.int .i64 1)))<|
 .o none (.mv 7 (.t 42)) .nil))))<| .seq (.rg (.o none (.mv 2 (.c (.bool true))) .nil))<| .ret⟩
theorem Qanf:Qe Tryz.prog Tryz.f34=some c34:=by kernel_rfl
def c75:SFn:=⟨7,[.t 2],.seq (.rg (.o none (.box 1 3 51 (.t 0))<|
 .o none (.mv 2 (.c .nilS)) .nil))<| .seq (.rg (.o none (.ld 3 3 true (.t 1))<|
 .o none (.call (some 4) true (.c (.fn 32 [] [])) [(.c (.int .i64 0))])<|
 .o none (.call (some 5) true (.c (.fn 91 [] [])) [(.t 3),(.t 4)])<|
 .o none (.call (some 6) true (.c (.fn 122 [] [])) [(.t 5),(.c .nilS)])<|
 .o none (.mv 2 (.t 6)) .nil))<| .ret⟩
theorem Qang:Qe Tryz.prog Tryz.f75=some c75:=by kernel_rfl
def c18:SFn:=⟨9,[.t 4],.seq (.rg (.o none (.mv 4 (.c (.bool false))) .nil))<| .seq (.rg (.o none (.mv 5 (.t 0))<|
 .o none (.mv 6 (.t 1))<|
 .o none (.call (some 7) false (.c (.fn 52 [] [])) [(.t 5),(.t 6)])<|
 .o none (.bin 8 .eql false (.t 7) (.c (.int .i64 0)))<|
 .o none (.mv 4 (.t 8)) .nil))<| .ret⟩
theorem Qanh:Qe Tryz.prog Tryz.f18=some c18:=by kernel_rfl
def c52:SFn:=⟨10,[.t 4],.seq (.rg (.o none (.mv 4 (.c (.int .i64 0))) .nil))<| .seq (.rg (.o none (.mv 5 (.c (.fn 93 [] []))) .nil))<| .seq (.rg (.o none (.mv 6 (.t 0))<|
 .o none (.mv 7 (.t 1))<|
 .o none (.mv 8 (.t 5))<|
 .o none (.call (some 9) false (.c (.fn 95 [] [])) [(.t 6),(.t 7),(.t 8)])<|
 .o none (.mv 4 (.t 9)) .nil))<| .ret⟩
theorem Qani:Qe Tryz.prog Tryz.f52=some c52:=by kernel_rfl
def c93:SFn:=⟨17,[.t 4],.seq (.rg (.o none (.box 2 4 54 (.t 0))<|
 .o none (.box 3 4 54 (.t 1))<|
 .o none (.mv 4 (.c (.int .i64 0))) .nil))<| .seq (.seq (.rg (.o none (.ld 6 4 true (.t 2))<|
 .o none (.ld 7 4 true (.t 3))<|
 .o none (.call (some 8) false (.c (.fn 48 [] [])) [(.t 6),(.t 7)])<|
 .o none (.mv 5 (.t 8)) .nil))<| .seq (.rg (.o none (.mv 9 (.t 5))<|
 .o none (.bin 10 .neq false (.t 9) (.c (.int .i64 0))) .nil))<| .cond (.t 10) (.seq (.rg (.o none (.mv 11 (.t 5))<|
 .o none (.mv 4 (.t 11)) .nil))<| .ret) (.skip))<| .seq (.rg (.o none (.fld 12 0 (.t 2))<|
 .o none (.ld 13 3 true (.t 12))<|
 .o none (.fld 14 0 (.t 3))<|
 .o none (.ld 15 3 true (.t 14))<|
 .o none (.call (some 16) false (.c (.fn 94 [] [])) [(.t 13),(.t 15)])<|
 .o none (.mv 4 (.t 16)) .nil))<| .ret⟩
theorem Qanj:Qe Tryz.prog Tryz.f93=some c93:=by kernel_rfl
def c121:SFn:=⟨6,[.t 2],.seq (.rg (.o none (.mv 2 (.c .nilS)) .nil))<| .seq (.rg (.o none (.mv 3 (.t 0))<|
 .o none (.call (some 4) false (.c (.fn 32 [] [])) [(.c (.int .i64 (-1)))])<|
 .o none (.call (some 5) false (.c (.fn 142 [] [])) [(.t 3),(.t 4)])<|
 .o none (.mv 2 (.t 5)) .nil))<| .ret⟩
theorem Qait:Qe Tryz.prog Tryz.f121=some c121:=by kernel_rfl
def c15:SFn:=⟨8,[.t 4],.seq (.rg (.o none (.mv 4 (.c .nilS)) .nil))<| .seq (.rg (.o none (.mv 5 (.t 0))<|
 .o none (.mv 6 (.t 1))<|
 .o none (.call (some 7) false (.c (.fn 47 [] [])) [(.t 5),(.t 6),(.c (.fn 48 [] [])),(.c (.fn 49 [] []))])<|
 .o none (.mv 4 (.t 7)) .nil))<| .ret⟩
theorem Qank:Qe Tryz.prog Tryz.f15=some c15:=by kernel_rfl
def c74:SFn:=⟨9,[.t 4],.seq (.rg (.o none (.mv 4 (.c .nilS)) .nil))<| .seq (.rg (.o none (.mv 5 (.t 0))<|
 .o none (.mv 6 (.t 1))<|
 .o none (.call (some 7) false (.c (.fn 121 [] [])) [(.t 6)])<|
 .o none (.call (some 8) false (.c (.fn 15 [] [])) [(.t 5),(.t 7)])<|
 .o none (.mv 4 (.t 8)) .nil))<| .ret⟩
theorem Qanl:Qe Tryz.prog Tryz.f74=some c74:=by kernel_rfl
def c42:SFn:=⟨38,[.t 4],.seq (.rg (.o none (.box 3 4 54 (.t 1))<|
 .o none (.mv 4 (.c .nilS)) .nil))<| .seq (.rg (.o none (.mv 9 (.t 0))<|
 .o none (.len 10 (.t 9))<|
 .o none (.mk 11 4 80 54 (.agg [(.bool false),.nilS,.nilS,.nilS]) (.c (.int .i64 0)) (.t 10))<|
 .o none (.mv 5 (.t 11)) .nil))<| .seq (.seq (.rg (.o none (.mv 12 (.t 0))<|
 .o none (.len 13 (.t 12))<|
 .o none (.mv 14 (.c (.int .i64 0))) .nil))<| .block 0 (.loop (.seq (.rg (.o none (.bin 15 .lss false (.t 14) (.t 13)) .nil))<| .seq (.cond (.t 15) (.skip) (.exit 0))<| .seq (.block 1 (.seq (.rg (.o none (.idx 16 4 (.t 12) (.t 14))<|
 .o none (.ld 17 4 true (.t 16))<|
 .o none (.alloc 7 4 54 (.agg [(.bool false),.nilS,.nilS,.nilS]))<|
 .o none (.st 4 (.t 7) (.t 17)) .nil))<| .seq (.rg (.o none (.fld 18 0 (.t 7))<|
 .o none (.ld 19 3 true (.t 18))<|
 .o none (.fld 20 0 (.t 3))<|
 .o none (.ld 21 3 true (.t 20))<|
 .o none (.call (some 22) false (.c (.fn 82 [] [])) [(.t 19),(.t 21)])<|
 .o none (.alloc 8 3 51 (.agg [(.bool false),.nilS,.nilS]))<|
 .o none (.st 3 (.t 8) (.t 22)) .nil))<| .seq (.rg (.o none (.ld 23 3 true (.t 8))<|
 .o none (.call (some 24) false (.c (.fn 69 [] [])) [(.t 23)])<|
 .o none (.bin 25 .neq false (.t 24) (.c (.int .i64 0))) .nil))<| .cond (.t 25) (.rg (.o none (.mv 26 (.t 5))<|
 .o none (.ld 27 3 true (.t 8))<|
 .o none (.fld 28 3 (.t 7))<|
 .o none (.ld 29 1 false (.t 28))<|
 .o none (.fld 30 3 (.t 3))<|
 .o none (.ld 31 1 false (.t 30))<|
 .o none (.call (some 32) true (.c (.fn 83 [] [])) [(.t 29),(.t 31)])<|
 .o none (.bld 33 [(.bool false),.nilS,.nilS,.nilS] [(0,3,(.t 27)),(3,1,(.t 32))])<|
 .o none (.bs 34 4 54 [(.t 33)])<|
 .o none (.app 35 4 80 54 (.t 26) (.t 34))<|
 .o none (.mv 5 (.t 35)) .nil)) (.skip)))<| .rg (.o none (.bin 36 .add false (.t 14) (.c (.int .i64 1)))<|
 .o none (.mv 14 (.t 36)) .nil))))<| .seq (.rg (.o none (.mv 37 (.t 5))<|
 .o none (.mv 4 (.t 37)) .nil))<| .ret⟩
theorem Qanm:Qe Tryz.prog Tryz.f42=some c42:=by kernel_rfl
def c12:SFn:=⟨33,[.t 4],.seq (.rg (.o none (.mv 4 (.c .nilS)) .nil))<| .seq (.seq (.rg (.o none (.mv 8 (.t 0))<|
 .o none (.len 9 (.t 8))<|
 .o none (.mv 10 (.t 1))<|
 .o none (.len 11 (.t 10))<|
 .o none (.bin 12 .gtr false (.t 9) (.t 11)) .nil))<| .cond (.t 12) (.rg (.o none (.mv 13 (.t 1))<|
 .o none (.mv 14 (.t 0))<|
 .o none (.mv 0 (.t 13))<|
 .o none (.mv 1 (.t 14)) .nil)) (.skip))<| .seq (.rg (.o none (.mv 15 (.t 0))<|
 .o none (.len 16 (.t 15))<|
 .o none (.mk 17 1 24 23 .nilS (.c (.int .i64 0)) (.t 16))<|
 .o none (.mv 5 (.t 17)) .nil))<| .seq (.seq (.rg (.o none (.mv 18 (.t 0))<|
 .o none (.len 19 (.t 18))<|
 .o none (.mv 20 (.c (.int .i64 0))) .nil))<| .block 0 (.loop (.seq (.rg (.o none (.bin 21 .lss false (.t 20) (.t 19)) .nil))<| .seq (.cond (.t 21) (.skip) (.exit 0))<| .seq (.block 1 (.seq (.rg (.o none (.idx 22 4 (.t 18) (.t 20))<|
 .o none (.ld 23 4 true (.t 22))<|
 .o none (.alloc 7 4 54 (.agg [(.bool false),.nilS,.nilS,.nilS]))<|
 .o none (.st 4 (.t 7) (.t 23)) .nil))<| .rg (.o none (.mv 24 (.t 5))<|
 .o none (.mv 25 (.t 1))<|
 .o none (.ld 26 4 true (.t 7))<|
 .o none (.call (some 27) false (.c (.fn 42 [] [])) [(.t 25),(.t 26)])<|
 .o none (.bs 28 1 23 [(.t 27)])<|
 .o none (.app 29 1 24 23 (.t 24) (.t 28))<|
 .o none (.mv 5 (.t 29)) .nil)))<| .rg (.o none (.bin 30 .add false (.t 20) (.c (.int .i64 1)))<|
 .o none (.mv 20 (.t 30)) .nil))))<| .seq (.rg (.o none (.mv 31 (.t 5))<|
 .o none (.call (some 32) false (.c (.fn 43 [] [])) [(.t 31)])<|
 .o none (.mv 4 (.t 32)) .nil))<| .ret⟩
theorem Qann:Qe Tryz.prog Tryz.f12=some c12:=by kernel_rfl
def c142:SFn:=⟨12,[.t 4],.seq (.rg (.o none (.box 3 3 51 (.t 1))<|
 .o none (.mv 4 (.c .nilS)) .nil))<| .seq (.seq (.rg (.o none (.ld 5 3 true (.t 3))<|
 .o none (.call (some 6) false (.c (.fn 69 [] [])) [(.t 5)])<|
 .o none (.bin 7 .eql false (.t 6) (.c (.int .i64 0))) .nil))<| .cond (.t 7) (.seq (.rg (.o none (.mv 4 (.c .nilS)) .nil))<| .ret) (.skip))<| .seq (.rg (.o none (.mv 8 (.t 0))<|
 .o none (.ld 9 3 true (.t 3))<|
 .o none (.bld 10 [(.bool false),.nilS,.nilS,.nilS] [(0,3,(.t 9))])<|
 .o none (.call (some 11) false (.c (.fn 42 [] [])) [(.t 8),(.t 10)])<|
 .o none (.mv 4 (.t 11)) .nil))<| .ret⟩
theorem Qaiu:Qe Tryz.prog Tryz.f142=some c142:=by kernel_rfl
def c95:SFn:=⟨39,[.t 6],.seq (.rg (.o none (.mv 6 (.c (.int .i64 0))) .nil))<| .seq (.seq (.rg (.o none (.mv 11 (.t 0))<|
 .o none (.len 12 (.t 11))<|
 .o none (.mv 13 (.c (.int .i64 0))) .nil))<| .block 0 (.loop (.seq (.rg (.o none (.bin 14 .lss false (.t 13) (.t 12)) .nil))<| .seq (.cond (.t 14) (.skip) (.exit 0))<| .seq (.block 1 (.seq (.rg (.o none (.mv 15 (.t 13))<|
 .o none (.idx 16 4 (.t 11) (.t 13))<|
 .o none (.ld 17 4 true (.t 16))<|
 .o none (.alloc 8 4 54 (.agg [(.bool false),.nilS,.nilS,.nilS]))<|
 .o none (.mv 7 (.t 15))<|
 .o none (.st 4 (.t 8) (.t 17)) .nil))<| .seq (.seq (.rg (.o none (.mv 18 (.t 7))<|
 .o none (.mv 19 (.t 1))<|
 .o none (.len 20 (.t 19))<|
 .o none (.bin 21 .geq false (.t 18) (.t 20)) .nil))<| .cond (.t 21) (.seq (.rg (.o none (.mv 6 (.c (.int .i64 1))) .nil))<| .ret) (.skip))<| .seq (.rg (.o none (.mv 22 (.t 1))<|
 .o none (.mv 23 (.t 7))<|
 .o none (.idx 24 4 (.t 22) (.t 23))<|
 .o none (.ld 25 4 true (.t 24))<|
 .o none (.alloc 9 4 54 (.agg [(.bool false),.nilS,.nilS,.nilS]))<|
 .o none (.st 4 (.t 9) (.t 25)) .nil))<| .seq (.rg (.o none (.mv 26 (.t 2))<|
 .o none (.ld 27 4 true (.t 8))<|
 .o none (.ld 28 4 true (.t 9))<|
 .o none (.call (some 29) false (.t 26) [(.t 27),(.t 28)])<|
 .o none (.mv 10 (.t 29)) .nil))<| .seq (.rg (.o none (.mv 30 (.t 10))<|
 .o none (.bin 31 .neq false (.t 30) (.c (.int .i64 0))) .nil))<| .cond (.t 31) (.seq (.rg (.o none (.mv 32 (.t 10))<|
 .o none (.mv 6 (.t 32)) .nil))<| .ret) (.skip)))<| .rg (.o none (.bin 33 .add false (.t 13) (.c (.int .i64 1)))<|
 .o none (.mv 13 (.t 33)) .nil))))<| .seq (.seq (.rg (.o none (.mv 34 (.t 0))<|
 .o none (.len 35 (.t 34))<|
 .o none (.mv 36 (.t 1))<|
 .o none (.len 37 (.t 36))<|
 .o none (.bin 38 .lss false (.t 35) (.t 37)) .nil))<| .cond (.t 38) (.seq (.rg (.o none (.mv 6 (.c (.int .i64 (-1)))) .nil))<| .ret) (.skip))<| .seq (.rg (.o none (.mv 6 (.c (.int .i64 0))) .nil))<| .ret⟩
theorem Qano:Qe Tryz.prog Tryz.f95=some c95:=by kernel_rfl
def c76:SFn:=⟨9,[.t 4],.seq (.rg (.o none (.mv 4 (.c (.bool false))) .nil))<| .seq (.rg (.o none (.mv 5 (.t 0))<|
 .o none (.mv 6 (.t 1))<|
 .o none (.call (some 7) false (.c (.fn 123 [] [])) [(.t 5),(.t 6)])<|
 .o none (.bin 8 .geq false (.t 7) (.c (.int .i64 0)))<|
 .o none (.mv 4 (.t 8)) .nil))<| .ret⟩
theorem Qanp:Qe Tryz.prog Tryz.f76=some c76:=by kernel_rfl
def c78:SFn:=⟨9,[.t 4],.seq (.rg (.o none (.mv 4 (.c (.bool false))) .nil))<| .seq (.rg (.o none (.mv 5 (.t 0))<|
 .o none (.mv 6 (.t 1))<|
 .o none (.call (some 7) false (.c (.fn 124 [] [])) [(.t 5),(.t 6)])<|
 .o none (.bin 8 .geq false (.t 7) (.c (.int .i64 0)))<|
 .o none (.mv 4 (.t 8)) .nil))<| .ret⟩
theorem Qanq:Qe Tryz.prog Tryz.f78=some c78:=by kernel_rfl
def c123:SFn:=⟨19,[.t 4],.seq (.rg (.o none (.mv 4 (.c (.int .i64 0))) .nil))<| .seq (.seq (.rg (.o none (.mv 6 (.t 0))<|
 .o none (.len 7 (.t 6))<|
 .o none (.mv 8 (.c (.int .i64 0))) .nil))<| .block 0 (.loop (.seq (.rg (.o none (.bin 9 .lss false (.t 8) (.t 7)) .nil))<| .seq (.cond (.t 9) (.skip) (.exit 0))<| .seq (.block 1 (.seq (.rg (.o none (.mv 10 (.t 8))<|
 .o none (.mv 5 (.t 10)) .nil))<| .seq (.rg (.o none (.mv 11 (.t 1))<|
 .o none (.mv 12 (.t 0))<|
 .o none (.mv 13 (.t 5))<|
 .o none (.idx 14 4 (.t 12) (.t 13))<|
 .o none (.ld 15 4 true (.t 14))<|
 .o none (.call (some 16) false (.t 11) [(.t 15)]) .nil))<| .cond (.t 16) (.seq (.rg (.o none (.mv 17 (.t 5))<|
 .o none (.mv 4 (.t 17)) .nil))<| .ret) (.skip)))<| .rg (.o none (.bin 18 .add false (.t 8) (.c (.int .i64 1)))<|
 .o none (.mv 8 (.t 18)) .nil))))<| .seq (.rg (.o none (.mv 4 (.c (.int .i64 (-1)))) .nil))<| .ret⟩
theorem Qaiv:Qe Tryz.prog Tryz.f123=some c123:=by kernel_rfl
def c124:SFn:=⟨19,[.t 4],.seq (.rg (.o none (.mv 4 (.c (.int .i64 0))) .nil))<| .seq (.seq (.rg (.o none (.mv 6 (.t 0))<|
 .o none (.len 7 (.t 6))<|
 .o none (.mv 8 (.c (.int .i64 0))) .nil))<| .block 0 (.loop (.seq (.rg (.o none (.bin 9 .lss false (.t 8) (.t 7)) .nil))<| .seq (.cond (.t 9) (.skip) (.exit 0))<| .seq (.block 1 (.seq (.rg (.o none (.mv 10 (.t 8))<|
 .o none (.mv 5 (.t 10)) .nil))<| .seq (.rg (.o none (.mv 11 (.t 1))<|
 .o none (.mv 12 (.t 0))<|
 .o none (.mv 13 (.t 5))<|
 .o none (.idx 14 1 (.t 12) (.t 13))<|
 .o none (.ld 15 1 false (.t 14))<|
 .o none (.call (some 16) false (.t 11) [(.t 15)]) .nil))<| .cond (.t 16) (.seq (.rg (.o none (.mv 17 (.t 5))<|
 .o none (.mv 4 (.t 17)) .nil))<| .ret) (.skip)))<| .rg (.o none (.bin 18 .add false (.t 8) (.c (.int .i64 1)))<|
 .o none (.mv 8 (.t 18)) .nil))))<| .seq (.rg (.o none (.mv 4 (.c (.int .i64 (-1)))) .nil))<| .ret⟩
theorem Qaiw:Qe Tryz.prog Tryz.f124=some c124:=by kernel_rfl
def c168:SFn:=⟨15,[.cell 4 2 true],.seq (.rg (.o none (.alloc 4 2 49 (.agg [(.bool false),.nilS])) .nil))<| .seq (.rg (.o none (.mv 5 (.t 1))<|
 .o none (.call (some 6) false (.c (.fn 148 [] [])) [(.t 5)])<|
 .o none (.mv 1 (.t 6)) .nil))<| .seq (.rg (.o none (.mv 7 (.t 0))<|
 .o none (.mv 8 (.t 7))<|
 .o (some (8,true)) (.mv 9 (.t 1))<|
 .o (some (8,true)) (.len 10 (.t 9))<|
 .o (some (8,true)) (.bin 11 .gtr false (.t 10) (.c (.int .i64 0)))<|
 .o none (.pick 12 (.t 8) (.t 11) (.c (.bool false)))<|
 .o none (.mv 13 (.t 1))<|
 .o none (.bld 14 [(.bool false),.nilS] [(0,1,(.t 12)),(1,1,(.t 13))])<|
 .o none (.st 2 (.t 4) (.t 14)) .nil))<| .ret⟩
theorem Qaix:Qe Tryz.prog Tryz.f168=some c168:=by kernel_rfl
def c112:SFn:=⟨13,[.cell 4 2 true],.seq (.rg (.o none (.alloc 4 2 49 (.agg [(.bool false),.nilS])) .nil))<| .seq (.rg (.o none (.mv 5 (.t 0))<|
 .o none (.mv 6 (.t 5))<|
 .o (some (6,true)) (.mv 7 (.t 1))<|
 .o (some (6,true)) (.len 8 (.t 7))<|
 .o (some (6,true)) (.bin 9 .gtr false (.t 8) (.c (.int .i64 0)))<|
 .o none (.pick 10 (.t 6) (.t 9) (.c (.bool false)))<|
 .o none (.mv 11 (.t 1))<|
 .o none (.bld 12 [(.bool false),.nilS] [(0,1,(.t 10)),(1,1,(.t 11))])<|
 .o none (.st 2 (.t 4) (.t 12)) .nil))<| .ret⟩
theorem Qaiy:Qe Tryz.prog Tryz.f112=some c112:=by kernel_rfl
def c115:SFn:=⟨27,[.t 2],.seq (.rg (.o none (.box 1 2 49 (.t 0))<|
 .o none (.mv 2 (.c (.bool false))) .nil))<| .seq (.rg (.o none (.fld 4 1 (.t 1))<|
 .o none (.ld 5 1 false (.t 4))<|
 .o none (.len 6 (.t 5))<|
 .o none (.mv 3 (.t 6)) .nil))<| .seq (.rg (.o none (.mv 7 (.t 3))<|
 .o none (.bin 8 .eql false (.t 7) (.c (.int .i64 0)))<|
 .o none (.mv 9 (.t 8))<|
 .o (some (9,true)) (.fld 10 0 (.t 1))<|
 .o (some (9,true)) (.ld 11 1 false (.t 10))<|
 .o (some (9,true)) (.un 12 .not (.t 11))<|
 .o none (.pick 13 (.t 9) (.t 12) (.c (.bool false)))<|
 .o none (.mv 14 (.t 13))<|
 .o (some (14,false)) (.mv 15 (.t 3))<|
 .o (some (14,false)) (.bin 16 .gtr false (.t 15) (.c (.int .i64 0)))<|
 .o (some (14,false)) (.mv 17 (.t 16))<|
 .o (some (17,true)) (.fld 18 1 (.t 1))<|
 .o (some (17,true)) (.ld 19 1 false (.t 18))<|
 .o (some (17,true)) (.mv 20 (.t 3))<|
 .o (some (17,true)) (.bin 21 .sub false (.t 20) (.c (.int .i64 1)))<|
 .o (some (17,true)) (.idx 22 1 (.t 19) (.t 21))<|
 .o (some (17,true)) (.ld 23 1 false (.t 22))<|
 .o (some (17,true)) (.bin 24 .neq false (.t 23) (.c (.int .u16 0)))<|
 .o (some (14,false)) (.pick 25 (.t 17) (.t 24) (.c (.bool false)))<|
 .o none (.pick 26 (.t 14) (.c (.bool true)) (.t 25))<|
 .o none (.mv 2 (.t 26)) .nil))<| .ret⟩
theorem Qaiz:Qe Tryz.prog Tryz.f115=some c115:=by kernel_rfl
def c152:SFn:=⟨8,[.cell 2 2 true],.seq (.rg (.o none (.box 1 2 49 (.t 0))<|
 .o none (.alloc 2 2 49 (.agg [(.bool false),.nilS])) .nil))<| .seq (.rg (.o none (.fld 3 0 (.t 1))<|
 .o none (.ld 4 1 false (.t 3))<|
 .o none (.fld 5 1 (.t 1))<|
 .o none (.ld 6 1 false (.t 5))<|
 .o none (.call (some 7) false (.c (.fn 168 [] [])) [(.t 4),(.t 6)])<|
 .o none (.st 2 (.t 2) (.t 7)) .nil))<| .ret⟩
theorem Qai0:Qe Tryz.prog Tryz.f152=some c152:=by kernel_rfl
def c65:SFn:=⟨16,[.cell 2 2 true],.seq (.rg (.o none (.alloc 2 2 49 (.agg [(.bool false),.nilS])) .nil))<| .seq (.seq (.rg (.o none (.mv 3 (.t 0))<|
 .o none (.bin 4 .lss false (.t 3) (.c (.int .i64 0))) .nil))<| .cond (.t 4) (.seq (.rg (.o none (.mv 5 (.t 0))<|
 .o none (.bin 6 .add false (.t 5) (.c (.int .i64 1)))<|
 .o none (.un 7 .neg (.t 6))<|
 .o none (.conv 8 .u64 (.t 7))<|
 .o none (.bin 9 .add false (.t 8) (.c (.int .u64 1)))<|
 .o none (.call (some 10) false (.c (.fn 113 [] [])) [(.t 9)])<|
 .o none (.call (some 11) false (.c (.fn 112 [] [])) [(.c (.bool true)),(.t 10)])<|
 .o none (.st 2 (.t 2) (.t 11)) .nil))<| .ret) (.skip))<| .seq (.rg (.o none (.mv 12 (.t 0))<|
 .o none (.conv 13 .u64 (.t 12))<|
 .o none (.call (some 14) false (.c (.fn 113 [] [])) [(.t 13)])<|
 .o none (.call (some 15) false (.c (.fn 112 [] [])) [(.c (.bool false)),(.t 14)])<|
 .o none (.st 2 (.t 2) (.t 15)) .nil))<| .ret⟩
theorem Qanr:Qe Tryz.prog Tryz.f65=some c65:=by kernel_rfl
def c119:SFn:=⟨11,[.t 2],.seq (.rg (.o none (.box 1 2 49 (.t 0))<|
 .o none (.mv 2 (.c (.int .i64 0))) .nil))<| .seq (.block 0 (.seq (.rg (.o none (.fld 4 1 (.t 1))<|
 .o none (.ld 5 1 false (.t 4))<|
 .o none (.call (some 6) false (.c (.fn 151 [] [])) [(.t 5)])<|
 .o none (.bin 7 .eql false (.t 6) (.c (.int .i64 0)))<|
 .o none (.mv 3 (.t 7)) .nil))<| .cond (.t 3) (.seq (.rg (.o none (.mv 2 (.c (.int .i64 0))) .nil))<| .ret) (.seq (.rg (.o none (.fld 9 0 (.t 1))<|
 .o none (.ld 10 1 false (.t 9))<|
 .o none (.mv 8 (.t 10)) .nil))<| .cond (.t 8) (.seq (.rg (.o none (.mv 2 (.c (.int .i64 (-1)))) .nil))<| .ret) (.skip))))<| .seq (.rg (.o none (.mv 2 (.c (.int .i64 1))) .nil))<| .ret⟩
theorem Qai1:Qe Tryz.prog Tryz.f119=some c119:=by kernel_rfl
def c140:SFn:=⟨35,[.t 4],.seq (.rg (.o none (.box 2 2 49 (.t 0))<|
 .o none (.box 3 2 49 (.t 1))<|
 .o none (.mv 4 (.c (.int .i64 0))) .nil))<| .seq (.rg (.o none (.ld 8 2 true (.t 2))<|
 .o none (.ld 10 2 true (.t 3))<|
 .o none (.call (some 9) true (.c (.fn 119 [] [])) [(.t 8)])<|
 .o none (.call (some 11) true (.c (.fn 119 [] [])) [(.t 10)])<|
 .o none (.mv 5 (.t 9))<|
 .o none (.mv 6 (.t 11)) .nil))<| .seq (.rg (.o none (.mv 7 (.c (.fn 158 [] []))) .nil))<| .seq (.block 0 (.seq (.rg (.o none (.mv 13 (.t 5))<|
 .o none (.mv 14 (.t 6))<|
 .o none (.bin 15 .lss false (.t 13) (.t 14))<|
 .o none (.mv 12 (.t 15)) .nil))<| .cond (.t 12) (.seq (.rg (.o none (.mv 4 (.c (.int .i64 (-1)))) .nil))<| .ret) (.seq (.rg (.o none (.mv 17 (.t 5))<|
 .o none (.mv 18 (.t 6))<|
 .o none (.bin 19 .gtr false (.t 17) (.t 18))<|
 .o none (.mv 16 (.t 19)) .nil))<| .cond (.t 16) (.seq (.rg (.o none (.mv 4 (.c (.int .i64 1))) .nil))<| .ret) (.seq (.rg (.o none (.mv 21 (.t 5))<|
 .o none (.bin 22 .lss false (.t 21) (.c (.int .i64 0)))<|
 .o none (.mv 20 (.t 22)) .nil))<| .cond (.t 20) (.seq (.rg (.o none (.mv 23 (.t 7))<|
 .o none (.fld 24 1 (.t 3))<|
 .o none (.ld 25 1 false (.t 24))<|
 .o none (.fld 26 1 (.t 2))<|
 .o none (.ld 27 1 false (.t 26))<|
 .o none (.call (some 28) false (.t 23) [(.t 25),(.t 27)])<|
 .o none (.mv 4 (.t 28)) .nil))<| .ret) (.skip)))))<| .seq (.rg (.o none (.mv 29 (.t 7))<|
 .o none (.fld 30 1 (.t 2))<|
 .o none (.ld 31 1 false (.t 30))<|
 .o none (.fld 32 1 (.t 3))<|
 .o none (.ld 33 1 false (.t 32))<|
 .o none (.call (some 34) false (.t 29) [(.t 31),(.t 33)])<|
 .o none (.mv 4 (.t 34)) .nil))<| .ret⟩
theorem Qai2:Qe Tryz.prog Tryz.f140=some c140:=by kernel_rfl
def c158:SFn:=⟨8,[.t 4],.seq (.rg (.o none (.mv 4 (.c (.int .i64 0))) .nil))<| .seq (.rg (.o none (.mv 5 (.t 0))<|
 .o none (.mv 6 (.t 1))<|
 .o none (.call (some 7) false (.c (.fn 159 [] [])) [(.t 5),(.t 6)])<|
 .o none (.mv 4 (.t 7)) .nil))<| .ret⟩
theorem Qai3:Qe Tryz.prog Tryz.f158=some c158:=by kernel_rfl
def c157:SFn:=⟨40,[.cell 4 2 true],.seq (.rg (.o none (.box 2 2 49 (.t 0))<|
 .o none (.box 3 2 49 (.t 1))<|
 .o none (.alloc 4 2 49 (.agg [(.bool false),.nilS])) .nil))<| .seq (.seq (.rg (.o none (.fld 7 0 (.t 2))<|
 .o none (.ld 8 1 false (.t 7))<|
 .o none (.fld 9 0 (.t 3))<|
 .o none (.ld 10 1 false (.t 9))<|
 .o none (.bin 11 .eql true (.t 8) (.t 10)) .nil))<| .cond (.t 11) (.seq (.rg (.o none (.fld 12 0 (.t 2))<|
 .o none (.ld 13 1 false (.t 12))<|
 .o none (.fld 14 1 (.t 2))<|
 .o none (.ld 15 1 false (.t 14))<|
 .o none (.fld 16 1 (.t 3))<|
 .o none (.ld 17 1 false (.t 16))<|
 .o none (.call (some 18) true (.c (.fn 169 [] [])) [(.t 15),(.t 17)])<|
 .o none (.call (some 19) true (.c (.fn 112 [] [])) [(.t 13),(.t 18)])<|
 .o none (.st 2 (.t 4) (.t 19)) .nil))<| .ret) (.skip))<| .seq (.seq (.rg (.o none (.fld 20 1 (.t 2))<|
 .o none (.ld 21 1 false (.t 20))<|
 .o none (.fld 22 1 (.t 3))<|
 .o none (.ld 23 1 false (.t 22))<|
 .o none (.call (some 24) false (.c (.fn 159 [] [])) [(.t 21),(.t 23)])<|
 .o none (.bin 25 .lss false (.t 24) (.c (.int .i64 0))) .nil))<| .cond (.t 25) (.rg (.o none (.ld 26 2 true (.t 3))<|
 .o none (.ld 27 2 true (.t 2))<|
 .o none (.st 2 (.t 2) (.t 26))<|
 .o none (.st 2 (.t 3) (.t 27)) .nil)) (.skip))<| .seq (.rg (.o none (.fld 29 1 (.t 2))<|
 .o none (.ld 30 1 false (.t 29))<|
 .o none (.fld 31 1 (.t 3))<|
 .o none (.ld 32 1 false (.t 31))<|
 .o none (.call (some 33) false (.c (.fn 170 [] [])) [(.t 30),(.t 32)])<|
 .o none (.mv 28 (.t 33))<|
 .o none (.ext 34 (.t 28) 0)<|
 .o none (.ext 35 (.t 28) 1)<|
 .o none (.mv 5 (.t 34))<|
 .o none (.mv 6 (.t 35)) .nil))<| .seq (.rg (.o none (.fld 36 0 (.t 2))<|
 .o none (.ld 37 1 false (.t 36))<|
 .o none (.mv 38 (.t 5))<|
 .o none (.call (some 39) false (.c (.fn 112 [] [])) [(.t 37),(.t 38)])<|
 .o none (.st 2 (.t 4) (.t 39)) .nil))<| .ret⟩
theorem Qai4:Qe Tryz.prog Tryz.f157=some c157:=by kernel_rfl
def c126:SFn:=⟨16,[.cell 4 2 true],.seq (.rg (.o none (.box 2 2 49 (.t 0))<|
 .o none (.box 3 2 49 (.t 1))<|
 .o none (.alloc 4 2 49 (.agg [(.bool false),.nilS])) .nil))<| .seq (.rg (.o none (.fld 5 0 (.t 2))<|
 .o none (.ld 6 1 false (.t 5))<|
 .o none (.fld 7 0 (.t 3))<|
 .o none (.ld 8 1 false (.t 7))<|
 .o none (.bin 9 .neq true (.t 6) (.t 8))<|
 .o none (.fld 10 1 (.t 2))<|
 .o none (.ld 11 1 false (.t 10))<|
 .o none (.fld 12 1 (.t 3))<|
 .o none (.ld 13 1 false (.t 12))<|
 .o none (.call (some 14) true (.c (.fn 127 [] [])) [(.t 11),(.t 13)])<|
 .o none (.call (some 15) true (.c (.fn 112 [] [])) [(.t 9),(.t 14)])<|
 .o none (.st 2 (.t 4) (.t 15)) .nil))<| .ret⟩
theorem Qai5:Qe Tryz.prog Tryz.f126=some c126:=by kernel_rfl
def c116:SFn:=⟨17,[.t 2],.seq (.rg (.o none (.mv 2 (.c (.bool false))) .nil))<| .seq (.rg (.o none (.mv 4 (.t 0))<|
 .o none (.len 5 (.t 4))<|
 .o none (.bld 6 [(.int .i64 0),(.int .u16 0)] [(0,1,(.t 5))])<|
 .o none (.alloc 3 2 138 (.agg [(.int .i64 0),(.int .u16 0)]))<|
 .o none (.st 2 (.t 3) (.t 6)) .nil))<| .seq (.seq (.rg (.o none (.mv 7 (.t 0))<|
 .o none (.len 8 (.t 7))<|
 .o none (.bin 9 .gtr false (.t 8) (.c (.int .i64 0))) .nil))<| .cond (.t 9) (.rg (.o none (.mv 10 (.t 0))<|
 .o none (.idx 11 1 (.t 10) (.c (.int .i64 0)))<|
 .o none (.ld 12 1 false (.t 11))<|
 .o none (.fld 13 1 (.t 3))<|
 .o none (.st 1 (.t 13) (.t 12)) .nil)) (.skip))<| .seq (.rg (.o none (.ld 14 2 true (.t 3))<|
 .o none (.bld 15 [(.int .i64 0),(.int .u16 0)] [(0,1,(.c (.int .i64 1))),(1,1,(.c (.int .u16 1)))])<|
 .o none (.eqs 16 false (.t 14) (.t 15))<|
 .o none (.mv 2 (.t 16)) .nil))<| .ret⟩
theorem Qai6:Qe Tryz.prog Tryz.f116=some c116:=by kernel_rfl
def c66:SFn:=⟨2,[.t 0],.seq (.rg (.o none (.mv 0 (.c .nilS)) .nil))<| .seq (.rg (.o none (.bs 1 1 115 [(.c (.int .u16 1))])<|
 .o none (.mv 0 (.t 1)) .nil))<| .ret⟩
theorem Qans:Qe Tryz.prog Tryz.f66=some c66:=by kernel_rfl
def c125:SFn:=⟨52,[.cell 4 3 true],.seq (.rg (.o none (.box 2 2 49 (.t 0))<|
 .o none (.alloc 4 3 51 (.agg [(.bool false),.nilS,.nilS])) .nil))<| .seq (.rg (.o none (.mv 6 (.t 1))<|
 .o none (.call (some 7) false (.c (.fn 148 [] [])) [(.t 6)])<|
 .o none (.mv 1 (.t 7)) .nil))<| .seq (.rg (.o none (.ld 8 2 true (.t 2))<|
 .o none (.call (some 9) false (.c (.fn 152 [] [])) [(.t 8)])<|
 .o none (.st 2 (.t 2) (.t 9)) .nil))<| .seq (.seq (.rg (.o none (.mv 10 (.t 1))<|
 .o none (.len 11 (.t 10))<|
 .o none (.bin 12 .eql false (.t 11) (.c (.int .i64 0)))<|
 .o none (.mv 13 (.t 12))<|
 .o (some (13,false)) (.fld 14 1 (.t 2))<|
 .o (some (13,false)) (.ld 15 1 false (.t 14))<|
 .o (some (13,false)) (.len 16 (.t 15))<|
 .o (some (13,false)) (.bin 17 .eql false (.t 16) (.c (.int .i64 0)))<|
 .o none (.pick 18 (.t 13) (.c (.bool true)) (.t 17)) .nil))<| .cond (.t 18) (.seq (.rg (.o none (.call (some 19) false (.c (.fn 66 [] [])) [])<|
 .o none (.bld 20 [(.bool false),.nilS,.nilS] [(2,1,(.t 19))])<|
 .o none (.st 3 (.t 4) (.t 20)) .nil))<| .ret) (.skip))<| .seq (.seq (.rg (.o none (.mv 21 (.t 1))<|
 .o none (.call (some 22) false (.c (.fn 116 [] [])) [(.t 21)]) .nil))<| .cond (.t 22) (.seq (.rg (.o none (.ld 23 2 true (.t 2))<|
 .o none (.mv 24 (.t 1))<|
 .o none (.bld 25 [(.bool false),.nilS,.nilS] [(0,2,(.t 23)),(2,1,(.t 24))])<|
 .o none (.st 3 (.t 4) (.t 25)) .nil))<| .ret) (.skip))<| .seq (.rg (.o none (.fld 26 1 (.t 2))<|
 .o none (.ld 27 1 false (.t 26))<|
 .o none (.mv 28 (.t 1))<|
 .o none (.call (some 29) false (.c (.fn 117 [] [])) [(.t 27),(.t 28)])<|
 .o none (.mv 5 (.t 29)) .nil))<| .seq (.seq (.rg (.o none (.mv 30 (.t 5))<|
 .o none (.call (some 31) false (.c (.fn 116 [] [])) [(.t 30)])<|
 .o none (.un 32 .not (.t 31)) .nil))<| .cond (.t 32) (.seq (.rg (.o none (.fld 34 1 (.t 2))<|
 .o none (.ld 35 1 false (.t 34))<|
 .o none (.mv 36 (.t 5))<|
 .o none (.call (some 37) false (.c (.fn 150 [] [])) [(.t 35),(.t 36)])<|
 .o none (.mv 33 (.t 37))<|
 .o none (.ext 38 (.t 33) 0)<|
 .o none (.ext 39 (.t 33) 1)<|
 .o none (.ext 40 (.t 33) 2)<|
 .o none (.fld 41 1 (.t 2))<|
 .o none (.st 1 (.t 41) (.t 38)) .nil))<| .rg (.o none (.mv 43 (.t 1))<|
 .o none (.mv 44 (.t 5))<|
 .o none (.call (some 45) false (.c (.fn 150 [] [])) [(.t 43),(.t 44)])<|
 .o none (.mv 42 (.t 45))<|
 .o none (.ext 46 (.t 42) 0)<|
 .o none (.ext 47 (.t 42) 1)<|
 .o none (.ext 48 (.t 42) 2)<|
 .o none (.mv 1 (.t 46)) .nil)) (.skip))<| .seq (.rg (.o none (.ld 49 2 true (.t 2))<|
 .o none (.mv 50 (.t 1))<|
 .o none (.bld 51 [(.bool false),.nilS,.nilS] [(0,2,(.t 49)),(2,1,(.t 50))])<|
 .o none (.st 3 (.t 4) (.t 51)) .nil))<| .ret⟩
theorem Qai7:Qe Tryz.prog Tryz.f125=some c125:=by kernel_rfl
def c118:SFn:=⟨14,[.cell 2 2 true,.t 3],.seq (.rg (.o none (.box 1 3 51 (.t 0))<|
 .o none (.alloc 2 2 49 (.agg [(.bool false),.nilS]))<|
 .o none (.mv 3 (.c .nilS)) .nil))<| .seq (.seq (.rg (.o none (.fld 4 2 (.t 1))<|
 .o none (.ld 5 1 false (.t 4))<|
 .o none (.call (some 6) false (.c (.fn 151 [] [])) [(.t 5)])<|
 .o none (.bin 7 .eql false (.t 6) (.c (.int .i64 0))) .nil))<| .cond (.t 7) (.seq (.rg (.o none (.bld 8 [(.bool false),.nilS] [])<|
 .o none (.call (some 9) false (.c (.fn 66 [] [])) [])<|
 .o none (.st 2 (.t 2) (.t 8))<|
 .o none (.mv 3 (.t 9)) .nil))<| .ret) (.skip))<| .seq (.rg (.o none (.fld 10 0 (.t 1))<|
 .o none (.ld 11 2 true (.t 10))<|
 .o none (.fld 12 2 (.t 1))<|
 .br (.o none (.ld 13 1 false (.t 12))<|
 .o none (.st 2 (.t 2) (.t 11))<|
 .o none (.mv 3 (.t 13)) .nil) (.o none (.st 2 (.t 2) (.t 11))<|
 .o none (.ld 13 1 false (.t 12))<|
 .o none (.mv 3 (.t 13)) .nil)))<| .ret⟩
theorem Qai8:Qe Tryz.prog Tryz.f118=some c118:=by kernel_rfl
def c139:SFn:=⟨5,[.cell 2 2 true],.seq (.rg (.o none (.alloc 2 2 49 (.agg [(.bool false),.nilS])) .nil))<| .seq (.rg (.o none (.mv 3 (.t 0))<|
 .o none (.bld 4 [(.bool false),.nilS] [(1,1,(.t 3))])<|
 .o none (.st 2 (.t 2) (.t 4)) .nil))<| .ret⟩
theorem Qai9:Qe Tryz.prog Tryz.f139=some c139:=by kernel_rfl
def c68:SFn:=⟨36,[.t 2],.seq (.rg (.o none (.box 1 3 51 (.t 0))<|
 .o none (.mv 2 (.c (.bool false))) .nil))<| .seq (.rg (.o none (.fld 4 2 (.t 1))<|
 .o none (.ld 5 1 false (.t 4))<|
 .o none (.len 6 (.t 5))<|
 .o none (.mv 3 (.t 6)) .nil))<| .seq (.seq (.rg (.o none (.fld 7 0 (.t 1))<|
 .o none (.ld 8 2 true (.t 7))<|
 .o none (.call (some 9) false (.c (.fn 115 [] [])) [(.t 8)])<|
 .o none (.un 10 .not (.t 9))<|
 .o none (.mv 11 (.t 10))<|
 .o (some (11,false)) (.mv 12 (.t 3))<|
 .o (some (11,false)) (.bin 13 .eql false (.t 12) (.c (.int .i64 0)))<|
 .o none (.pick 14 (.t 11) (.c (.bool true)) (.t 13))<|
 .o none (.mv 15 (.t 14))<|
 .o (some (15,false)) (.fld 16 2 (.t 1))<|
 .o (some (15,false)) (.ld 17 1 false (.t 16))<|
 .o (some (15,false)) (.mv 18 (.t 3))<|
 .o (some (15,false)) (.bin 19 .sub false (.t 18) (.c (.int .i64 1)))<|
 .o (some (15,false)) (.idx 20 1 (.t 17) (.t 19))<|
 .o (some (15,false)) (.ld 21 1 false (.t 20))<|
 .o (some (15,false)) (.bin 22 .eql false (.t 21) (.c (.int .u16 0)))<|
 .o none (.pick 23 (.t 15) (.c (.bool true)) (.t 22)) .nil))<| .cond (.t 23) (.seq (.rg (.o none (.mv 2 (.c (.bool false))) .nil))<| .ret) (.skip))<| .seq (.rg (.o none (.fld 24 2 (.t 1))<|
 .o none (.ld 25 1 false (.t 24))<|
 .o none (.call (some 26) false (.c (.fn 116 [] [])) [(.t 25)])<|
 .o none (.mv 27 (.t 26))<|
 .o (some (27,false)) (.fld 28 0 (.t 1))<|
 .o (some (27,false)) (.fld 29 1 (.t 28))<|
 .o (some (27,false)) (.ld 30 1 false (.t 29))<|
 .o (some (27,false)) (.fld 31 2 (.t 1))<|
 .o (some (27,false)) (.ld 32 1 false (.t 31))<|
 .o (some (27,false)) (.call (some 33) false (.c (.fn 117 [] [])) [(.t 30),(.t 32)])<|
 .o (some (27,false)) (.call (some 34) false (.c (.fn 116 [] [])) [(.t 33)])<|
 .o none (.pick 35 (.t 27) (.c (.bool true)) (.t 34))<|
 .o none (.mv 2 (.t 35)) .nil))<| .ret⟩
theorem Qant:Qe Tryz.prog Tryz.f68=some c68:=by kernel_rfl
def c32:SFn:=⟨7,[.cell 2 3 true],.seq (.rg (.o none (.alloc 2 3 51 (.agg [(.bool false),.nilS,.nilS])) .nil))<| .seq (.rg (.o none (.mv 3 (.t 0))<|
 .o none (.call (some 4) false (.c (.fn 65 [] [])) [(.t 3)])<|
 .o none (.call (some 5) false (.c (.fn 66 [] [])) [])<|
 .o none (.bld 6 [(.bool false),.nilS,.nilS] [(0,2,(.t 4)),(2,1,(.t 5))])<|
 .o none (.st 3 (.t 2) (.t 6)) .nil))<| .ret⟩
theorem Qanu:Qe Tryz.prog Tryz.f32=some c32:=by kernel_rfl
def c69:SFn:=⟨12,[.t 2],.seq (.rg (.o none (.box 1 3 51 (.t 0))<|
 .o none (.mv 2 (.c (.int .i64 0))) .nil))<| .seq (.rg (.o none (.ld 6 3 true (.t 1))<|
 .o none (.call (some 7) false (.c (.fn 118 [] [])) [(.t 6)])<|
 .o none (.mv 5 (.t 7))<|
 .o none (.ext 8 (.t 5) 0)<|
 .o none (.ext 9 (.t 5) 1)<|
 .o none (.alloc 3 2 49 (.agg [(.bool false),.nilS]))<|
 .o none (.st 2 (.t 3) (.t 8))<|
 .o none (.mv 4 (.t 9)) .nil))<| .seq (.rg (.o none (.ld 10 2 true (.t 3))<|
 .o none (.call (some 11) false (.c (.fn 119 [] [])) [(.t 10)])<|
 .o none (.mv 2 (.t 11)) .nil))<| .ret⟩
theorem Qanv:Qe Tryz.prog Tryz.f69=some c69:=by kernel_rfl
def c94:SFn:=⟨40,[.t 4],.seq (.rg (.o none (.box 2 3 51 (.t 0))<|
 .o none (.box 3 3 51 (.t 1))<|
 .o none (.mv 4 (.c (.int .i64 0))) .nil))<| .seq (.rg (.o none (.ld 11 3 true (.t 2))<|
 .o none (.ld 13 3 true (.t 3))<|
 .o none (.call (some 12) true (.c (.fn 69 [] [])) [(.t 11)])<|
 .o none (.call (some 14) true (.c (.fn 69 [] [])) [(.t 13)])<|
 .o none (.mv 5 (.t 12))<|
 .o none (.mv 6 (.t 14)) .nil))<| .seq (.seq (.rg (.o none (.mv 15 (.t 5))<|
 .o none (.mv 16 (.t 6))<|
 .o none (.bin 17 .neq false (.t 15) (.t 16)) .nil))<| .cond (.t 17) (.seq (.seq (.rg (.o none (.mv 18 (.t 5))<|
 .o none (.mv 19 (.t 6))<|
 .o none (.bin 20 .lss false (.t 18) (.t 19)) .nil))<| .cond (.t 20) (.seq (.rg (.o none (.mv 4 (.c (.int .i64 (-1)))) .nil))<| .ret) (.skip))<| .seq (.rg (.o none (.mv 4 (.c (.int .i64 1))) .nil))<| .ret) (.skip))<| .seq (.rg (.o none (.ld 22 3 true (.t 2))<|
 .o none (.call (some 23) false (.c (.fn 118 [] [])) [(.t 22)])<|
 .o none (.mv 21 (.t 23))<|
 .o none (.ext 24 (.t 21) 0)<|
 .o none (.ext 25 (.t 21) 1)<|
 .o none (.alloc 7 2 49 (.agg [(.bool false),.nilS]))<|
 .o none (.st 2 (.t 7) (.t 24))<|
 .o none (.mv 8 (.t 25)) .nil))<| .seq (.rg (.o none (.ld 27 3 true (.t 3))<|
 .o none (.call (some 28) false (.c (.fn 118 [] [])) [(.t 27)])<|
 .o none (.mv 26 (.t 28))<|
 .o none (.ext 29 (.t 26) 0)<|
 .o none (.ext 30 (.t 26) 1)<|
 .o none (.alloc 9 2 49 (.agg [(.bool false),.nilS]))<|
 .o none (.st 2 (.t 9) (.t 29))<|
 .o none (.mv 10 (.t 30)) .nil))<| .seq (.rg (.o none (.ld 31 2 true (.t 7))<|
 .o none (.mv 32 (.t 10))<|
 .o none (.ld 35 2 true (.t 9))<|
 .o none (.mv 36 (.t 8))<|
 .o none (.call (some 33) true (.c (.fn 139 [] [])) [(.t 32)])<|
 .o none (.call (some 34) true (.c (.fn 126 [] [])) [(.t 31),(.t 33)])<|
 .o none (.call (some 37) true (.c (.fn 139 [] [])) [(.t 36)])<|
 .o none (.call (some 38) true (.c (.fn 126 [] [])) [(.t 35),(.t 37)])<|
 .o none (.call (some 39) true (.c (.fn 140 [] [])) [(.t 34),(.t 38)])<|
 .o none (.mv 4 (.t 39)) .nil))<| .ret⟩
theorem Qanw:Qe Tryz.prog Tryz.f94=some c94:=by kernel_rfl
def c138:SFn:=⟨17,[.cell 2 2 true],.seq (.rg (.o none (.alloc 2 2 49 (.agg [(.bool false),.nilS])) .nil))<| .seq (.rg (.o none (.alloc 3 2 49 (.agg [(.bool false),.nilS])) .nil))<| .seq (.seq (.rg (.o none (.mv 6 (.t 0))<|
 .o none (.len 7 (.t 6))<|
 .o none (.mv 8 (.c (.int .i64 0))) .nil))<| .block 0 (.loop (.seq (.rg (.o none (.bin 9 .lss false (.t 8) (.t 7)) .nil))<| .seq (.cond (.t 9) (.skip) (.exit 0))<| .seq (.block 1 (.seq (.rg (.o none (.idx 10 2 (.t 6) (.t 8))<|
 .o none (.ld 11 2 true (.t 10))<|
 .o none (.alloc 5 2 49 (.agg [(.bool false),.nilS]))<|
 .o none (.st 2 (.t 5) (.t 11)) .nil))<| .rg (.o none (.ld 12 2 true (.t 3))<|
 .o none (.ld 13 2 true (.t 5))<|
 .o none (.call (some 14) false (.c (.fn 157 [] [])) [(.t 12),(.t 13)])<|
 .o none (.st 2 (.t 3) (.t 14)) .nil)))<| .rg (.o none (.bin 15 .add false (.t 8) (.c (.int .i64 1)))<|
 .o none (.mv 8 (.t 15)) .nil))))<| .seq (.rg (.o none (.ld 16 2 true (.t 3))<|
 .o none (.st 2 (.t 2) (.t 16)) .nil))<| .ret⟩
theorem Qaja:Qe Tryz.prog Tryz.f138=some c138:=by kernel_rfl
def c91:SFn:=⟨45,[.cell 4 3 true],.seq (.rg (.o none (.box 2 3 51 (.t 0))<|
 .o none (.box 3 3 51 (.t 1))<|
 .o none (.alloc 4 3 51 (.agg [(.bool false),.nilS,.nilS])) .nil))<| .seq (.rg (.o none (.ld 10 3 true (.t 2))<|
 .o none (.call (some 11) false (.c (.fn 118 [] [])) [(.t 10)])<|
 .o none (.mv 9 (.t 11))<|
 .o none (.ext 12 (.t 9) 0)<|
 .o none (.ext 13 (.t 9) 1)<|
 .o none (.alloc 5 2 49 (.agg [(.bool false),.nilS]))<|
 .o none (.st 2 (.t 5) (.t 12))<|
 .o none (.mv 6 (.t 13)) .nil))<| .seq (.rg (.o none (.ld 15 3 true (.t 3))<|
 .o none (.call (some 16) false (.c (.fn 118 [] [])) [(.t 15)])<|
 .o none (.mv 14 (.t 16))<|
 .o none (.ext 17 (.t 14) 0)<|
 .o none (.ext 18 (.t 14) 1)<|
 .o none (.alloc 7 2 49 (.agg [(.bool false),.nilS]))<|
 .o none (.st 2 (.t 7) (.t 17))<|
 .o none (.mv 8 (.t 18)) .nil))<| .seq (.seq (.rg (.o none (.mv 19 (.t 6))<|
 .o none (.call (some 20) false (.c (.fn 116 [] [])) [(.t 19)])<|
 .o none (.mv 21 (.t 20))<|
 .o (some (21,true)) (.mv 22 (.t 8))<|
 .o (some (21,true)) (.call (some 23) false (.c (.fn 116 [] [])) [(.t 22)])<|
 .o none (.pick 24 (.t 21) (.t 23) (.c (.bool false))) .nil))<| .cond (.t 24) (.seq (.rg (.o none (.ld 25 2 true (.t 5))<|
 .o none (.ld 26 2 true (.t 7))<|
 .o none (.bs 27 2 49 [(.t 25),(.t 26)])<|
 .o none (.call (some 28) false (.c (.fn 138 [] [])) [(.t 27)])<|
 .o none (.mv 29 (.t 6))<|
 .o none (.call (some 30) false (.c (.fn 125 [] [])) [(.t 28),(.t 29)])<|
 .o none (.st 3 (.t 4) (.t 30)) .nil))<| .ret) (.skip))<| .seq (.rg (.o none (.ld 31 2 true (.t 5))<|
 .o none (.mv 32 (.t 8))<|
 .o none (.ld 35 2 true (.t 7))<|
 .o none (.mv 36 (.t 6))<|
 .o none (.mv 41 (.t 6))<|
 .o none (.mv 42 (.t 8))<|
 .o none (.call (some 33) true (.c (.fn 139 [] [])) [(.t 32)])<|
 .o none (.call (some 34) true (.c (.fn 126 [] [])) [(.t 31),(.t 33)])<|
 .o none (.call (some 37) true (.c (.fn 139 [] [])) [(.t 36)])<|
 .o none (.call (some 38) true (.c (.fn 126 [] [])) [(.t 35),(.t 37)])<|
 .o none (.bs 39 2 49 [(.t 34),(.t 38)])<|
 .o none (.call (some 40) true (.c (.fn 138 [] [])) [(.t 39)])<|
 .o none (.call (some 43) true (.c (.fn 127 [] [])) [(.t 41),(.t 42)])<|
 .o none (.call (some 44) true (.c (.fn 125 [] [])) [(.t 40),(.t 43)])<|
 .o none (.st 3 (.t 4) (.t 44)) .nil))<| .ret⟩
theorem Qanx:Qe Tryz.prog Tryz.f91=some c91:=by kernel_rfl
def c82:SFn:=⟨26,[.cell 4 3 true],.seq (.rg (.o none (.box 2 3 51 (.t 0))<|
 .o none (.box 3 3 51 (.t 1))<|
 .o none (.alloc 4 3 51 (.agg [(.bool false),.nilS,.nilS])) .nil))<| .seq (.rg (.o none (.ld 10 3 true (.t 2))<|
 .o none (.call (some 11) false (.c (.fn 118 [] [])) [(.t 10)])<|
 .o none (.mv 9 (.t 11))<|
 .o none (.ext 12 (.t 9) 0)<|
 .o none (.ext 13 (.t 9) 1)<|
 .o none (.alloc 5 2 49 (.agg [(.bool false),.nilS]))<|
 .o none (.st 2 (.t 5) (.t 12))<|
 .o none (.mv 6 (.t 13)) .nil))<| .seq (.rg (.o none (.ld 15 3 true (.t 3))<|
 .o none (.call (some 16) false (.c (.fn 118 [] [])) [(.t 15)])<|
 .o none (.mv 14 (.t 16))<|
 .o none (.ext 17 (.t 14) 0)<|
 .o none (.ext 18 (.t 14) 1)<|
 .o none (.alloc 7 2 49 (.agg [(.bool false),.nilS]))<|
 .o none (.st 2 (.t 7) (.t 17))<|
 .o none (.mv 8 (.t 18)) .nil))<| .seq (.rg (.o none (.ld 19 2 true (.t 5))<|
 .o none (.ld 20 2 true (.t 7))<|
 .o none (.call (some 21) false (.c (.fn 126 [] [])) [(.t 19),(.t 20)])<|
 .o none (.mv 22 (.t 6))<|
 .o none (.mv 23 (.t 8))<|
 .o none (.call (some 24) false (.c (.fn 127 [] [])) [(.t 22),(.t 23)])<|
 .o none (.call (some 25) false (.c (.fn 125 [] [])) [(.t 21),(.t 24)])<|
 .o none (.st 3 (.t 4) (.t 25)) .nil))<| .ret⟩
theorem Qany:Qe Tryz.prog Tryz.f82=some c82:=by kernel_rfl
def c160:SFn:=⟨21,[.cell 4 3 true,.t 5],.seq (.rg (.o none (.box 2 2 49 (.t 0))<|
 .o none (.box 3 2 49 (.t 1))<|
 .o none (.alloc 4 3 51 (.agg [(.bool false),.nilS,.nilS]))<|
 .o none (.mv 5 (.c (.int .i64 0))) .nil))<| .seq (.seq (.rg (.o none (.ld 6 2 true (.t 3))<|
 .o none (.call (some 7) false (.c (.fn 119 [] [])) [(.t 6)])<|
 .o none (.bin 8 .eql false (.t 7) (.c (.int .i64 0))) .nil))<| .cond (.t 8) (.seq (.rg (.o none (.bld 9 [(.bool false),.nilS,.nilS] [])<|
 .o none (.st 3 (.t 4) (.t 9))<|
 .o none (.mv 5 (.c (.int .i64 3))) .nil))<| .ret) (.skip))<| .seq (.rg (.o none (.fld 10 0 (.t 2))<|
 .o none (.ld 11 1 false (.t 10))<|
 .o none (.fld 12 0 (.t 3))<|
 .o none (.ld 13 1 false (.t 12))<|
 .o none (.bin 14 .neq true (.t 11) (.t 13))<|
 .o none (.fld 15 1 (.t 2))<|
 .o none (.ld 16 1 false (.t 15))<|
 .o none (.bld 17 [(.bool false),.nilS] [(0,1,(.t 14)),(1,1,(.t 16))])<|
 .o none (.fld 18 1 (.t 3))<|
 .o none (.ld 19 1 false (.t 18))<|
 .o none (.call (some 20) false (.c (.fn 125 [] [])) [(.t 17),(.t 19)])<|
 .o none (.st 3 (.t 4) (.t 20))<|
 .o none (.mv 5 (.c (.int .i64 0))) .nil))<| .ret⟩
theorem Qajb:Qe Tryz.prog Tryz.f160=some c160:=by kernel_rfl
def c166:SFn:=⟨108,[.t 4],.seq (.rg (.o none (.box 2 1 47 (.t 0))<|
 .o none (.box 3 1 47 (.t 1))<|
 .o none (.mv 4 (.c .nilS)) .nil))<| .seq (.rg (.o none (.ld 12 1 false (.t 3))<|
 .o none (.len 13 (.t 12))<|
 .o none (.alloc 5 1 3 (.int .i64 0))<|
 .o none (.st 1 (.t 5) (.t 13)) .nil))<| .seq (.rg (.o none (.ld 14 1 false (.t 2))<|
 .o none (.len 15 (.t 14))<|
 .o none (.ld 16 1 false (.t 5))<|
 .o none (.bin 17 .sub false (.t 15) (.t 16))<|
 .o none (.mk 18 1 2 115 (.int .u16 0) (.t 17) (.t 17))<|
 .o none (.mv 6 (.t 18)) .nil))<| .seq (.seq (.rg (.o none (.ld 19 1 false (.t 2))<|
 .o none (.len 20 (.t 19))<|
 .o none (.ld 21 1 false (.t 5))<|
 .o none (.bin 22 .sub false (.t 20) (.t 21))<|
 .o none (.bin 23 .sub false (.t 22) (.c (.int .i64 1)))<|
 .o none (.alloc 7 1 3 (.int .i64 0))<|
 .o none (.st 1 (.t 7) (.t 23)) .nil))<| .block 0 (.loop (.seq (.seq (.rg (.o none (.ld 24 1 false (.t 7))<|
 .o none (.bin 25 .geq false (.t 24) (.c (.int .i64 0))) .nil))<| .cond (.t 25) (.skip) (.exit 0))<| .seq (.block 1 (.seq (.rg (.o none (.ld 28 1 false (.t 2))<|
 .o none (.ld 29 1 false (.t 7))<|
 .o none (.ld 30 1 false (.t 5))<|
 .o none (.bin 31 .add false (.t 29) (.t 30))<|
 .o none (.idx 32 1 (.t 28) (.t 31))<|
 .o none (.ld 33 1 false (.t 32))<|
 .o none (.conv 34 .u64 (.t 33))<|
 .o none (.bin 35 .shl false (.t 34) (.c (.int .u64 16)))<|
 .o none (.ld 36 1 false (.t 2))<|
 .o none (.ld 37 1 false (.t 7))<|
 .o none (.ld 38 1 false (.t 5))<|
 .o none (.bin 39 .add false (.t 37) (.t 38))<|
 .o none (.bin 40 .sub false (.t 39) (.c (.int .i64 1)))<|
 .o none (.idx 41 1 (.t 36) (.t 40))<|
 .o none (.ld 42 1 false (.t 41))<|
 .o none (.conv 43 .u64 (.t 42))<|
 .o none (.bin 44 .or false (.t 35) (.t 43))<|
 .o none (.mv 8 (.t 44)) .nil))<| .seq (.rg (.o none (.mv 45 (.t 8))<|
 .o none (.ld 46 1 false (.t 3))<|
 .o none (.ld 47 1 false (.t 5))<|
 .o none (.bin 48 .sub false (.t 47) (.c (.int .i64 1)))<|
 .o none (.idx 49 1 (.t 46) (.t 48))<|
 .o none (.ld 50 1 false (.t 49))<|
 .o none (.conv 51 .u64 (.t 50))<|
 .o none (.bin 52 .quo false (.t 45) (.t 51))<|
 .o none (.mv 53 (.t 8))<|
 .br (.o none (.ld 54 1 false (.t 3))<|
 .br (.o none (.ld 55 1 false (.t 5))<|
 .o none (.bin 56 .sub false (.t 55) (.c (.int .i64 1)))<|
 .o none (.idx 57 1 (.t 54) (.t 56))<|
 .br (.o none (.ld 58 1 false (.t 57))<|
 .o none (.conv 59 .u64 (.t 58))<|
 .o none (.bin 60 .rem false (.t 53) (.t 59))<|
 .br (.o none (.alloc 9 1 94 (.int .u64 0))<|
 .o none (.alloc 10 1 94 (.int .u64 0))<|
 .o none (.st 1 (.t 9) (.t 52))<|
 .o none (.st 1 (.t 10) (.t 60)) .nil) (.o none (.alloc 10 1 94 (.int .u64 0))<|
 .o none (.alloc 9 1 94 (.int .u64 0))<|
 .o none (.st 1 (.t 9) (.t 52))<|
 .o none (.st 1 (.t 10) (.t 60)) .nil)) (.br (.o none (.alloc 9 1 94 (.int .u64 0))<|
 .br (.o none (.ld 58 1 false (.t 57))<|
 .o none (.conv 59 .u64 (.t 58))<|
 .o none (.bin 60 .rem false (.t 53) (.t 59))<|
 .o none (.alloc 10 1 94 (.int .u64 0))<|
 .o none (.st 1 (.t 9) (.t 52))<|
 .o none (.st 1 (.t 10) (.t 60)) .nil) (.o none (.alloc 10 1 94 (.int .u64 0))<|
 .br (.o none (.ld 58 1 false (.t 57))<|
 .o none (.conv 59 .u64 (.t 58))<|
 .o none (.bin 60 .rem false (.t 53) (.t 59))<|
 .o none (.st 1 (.t 9) (.t 52))<|
 .o none (.st 1 (.t 10) (.t 60)) .nil) (.o none (.st 1 (.t 9) (.t 52))<|
 .o none (.ld 58 1 false (.t 57))<|
 .o none (.conv 59 .u64 (.t 58))<|
 .o none (.bin 60 .rem false (.t 53) (.t 59))<|
 .o none (.st 1 (.t 10) (.t 60)) .nil))) (.o none (.alloc 10 1 94 (.int .u64 0))<|
 .br (.o none (.ld 58 1 false (.t 57))<|
 .o none (.conv 59 .u64 (.t 58))<|
 .o none (.bin 60 .rem false (.t 53) (.t 59))<|
 .o none (.alloc 9 1 94 (.int .u64 0))<|
 .o none (.st 1 (.t 9) (.t 52))<|
 .o none (.st 1 (.t 10) (.t 60)) .nil) (.o none (.alloc 9 1 94 (.int .u64 0))<|
 .br (.o none (.ld 58 1 false (.t 57))<|
 .o none (.conv 59 .u64 (.t 58))<|
 .o none (.bin 60 .rem false (.t 53) (.t 59))<|
 .o none (.st 1 (.t 9) (.t 52))<|
 .o none (.st 1 (.t 10) (.t 60)) .nil) (.o none (.st 1 (.t 9) (.t 52))<|
 .o none (.ld 58 1 false (.t 57))<|
 .o none (.conv 59 .u64 (.t 58))<|
 .o none (.bin 60 .rem false (.t 53) (.t 59))<|
 .o none (.st 1 (.t 10) (.t 60)) .nil))))) (.br (.o none (.alloc 9 1 94 (.int .u64 0))<|
 .br (.o none (.ld 55 1 false (.t 5))<|
 .o none (.bin 56 .sub false (.t 55) (.c (.int .i64 1)))<|
 .o none (.idx 57 1 (.t 54) (.t 56))<|
 .br (.o none (.ld 58 1 false (.t 57))<|
 .o none (.conv 59 .u64 (.t 58))<|
 .o none (.bin 60 .rem false (.t 53) (.t 59))<|
 .o none (.alloc 10 1 94 (.int .u64 0))<|
 .o none (.st 1 (.t 9) (.t 52))<|
 .o none (.st 1 (.t 10) (.t 60)) .nil) (.o none (.alloc 10 1 94 (.int .u64 0))<|
 .br (.o none (.ld 58 1 false (.t 57))<|
 .o none (.conv 59 .u64 (.t 58))<|
 .o none (.bin 60 .rem false (.t 53) (.t 59))<|
 .o none (.st 1 (.t 9) (.t 52))<|
 .o none (.st 1 (.t 10) (.t 60)) .nil) (.o none (.st 1 (.t 9) (.t 52))<|
 .o none (.ld 58 1 false (.t 57))<|
 .o none (.conv 59 .u64 (.t 58))<|
 .o none (.bin 60 .rem false (.t 53) (.t 59))<|
 .o none (.st 1 (.t 10) (.t 60)) .nil))) (.o none (.alloc 10 1 94 (.int .u64 0))<|
 .br (.o none (.ld 55 1 false (.t 5))<|
 .o none (.bin 56 .sub false (.t 55) (.c (.int .i64 1)))<|
 .o none (.idx 57 1 (.t 54) (.t 56))<|
 .br (.o none (.ld 58 1 false (.t 57))<|
 .o none (.conv 59 .u64 (.t 58))<|
 .o none (.bin 60 .rem false (.t 53) (.t 59))<|
 .o none (.st 1 (.t 9) (.t 52))<|
 .o none (.st 1 (.t 10) (.t 60)) .nil) (.o none (.st 1 (.t 9) (.t 52))<|
 .o none (.ld 58 1 false (.t 57))<|
 .o none (.conv 59 .u64 (.t 58))<|
 .o none (.bin 60 .rem false (.t 53) (.t 59))<|
 .o none (.st 1 (.t 10) (.t 60)) .nil)) (.o none (.st 1 (.t 9) (.t 52))<|
 .o none (.ld 55 1 false (.t 5))<|
 .o none (.bin 56 .sub false (.t 55) (.c (.int .i64 1)))<|
 .o none (.idx 57 1 (.t 54) (.t 56))<|
 .o none (.ld 58 1 false (.t 57))<|
 .o none (.conv 59 .u64 (.t 58))<|
 .o none (.bin 60 .rem false (.t 53) (.t 59))<|
 .o none (.st 1 (.t 10) (.t 60)) .nil))) (.o none (.alloc 10 1 94 (.int .u64 0))<|
 .br (.o none (.ld 55 1 false (.t 5))<|
 .o none (.bin 56 .sub false (.t 55) (.c (.int .i64 1)))<|
 .o none (.idx 57 1 (.t 54) (.t 56))<|
 .br (.o none (.ld 58 1 false (.t 57))<|
 .o none (.conv 59 .u64 (.t 58))<|
 .o none (.bin 60 .rem false (.t 53) (.t 59))<|
 .o none (.alloc 9 1 94 (.int .u64 0))<|
 .o none (.st 1 (.t 9) (.t 52))<|
 .o none (.st 1 (.t 10) (.t 60)) .nil) (.o none (.alloc 9 1 94 (.int .u64 0))<|
 .br (.o none (.ld 58 1 false (.t 57))<|
 .o none (.conv 59 .u64 (.t 58))<|
 .o none (.bin 60 .rem false (.t 53) (.t 59))<|
 .o none (.st 1 (.t 9) (.t 52))<|
 .o none (.st 1 (.t 10) (.t 60)) .nil) (.o none (.st 1 (.t 9) (.t 52))<|
 .o none (.ld 58 1 false (.t 57))<|
 .o none (.conv 59 .u64 (.t 58))<|
 .o none (.bin 60 .rem false (.t 53) (.t 59))<|
 .o none (.st 1 (.t 10) (.t 60)) .nil))) (.o none (.alloc 9 1 94 (.int .u64 0))<|
 .br (.o none (.ld 55 1 false (.t 5))<|
 .o none (.bin 56 .sub false (.t 55) (.c (.int .i64 1)))<|
 .o none (.idx 57 1 (.t 54) (.t 56))<|
 .br (.o none (.ld 58 1 false (.t 57))<|
 .o none (.conv 59 .u64 (.t 58))<|
 .o none (.bin 60 .rem false (.t 53) (.t 59))<|
 .o none (.st 1 (.t 9) (.t 52))<|
 .o none (.st 1 (.t 10) (.t 60)) .nil) (.o none (.st 1 (.t 9) (.t 52))<|
 .o none (.ld 58 1 false (.t 57))<|
 .o none (.conv 59 .u64 (.t 58))<|
 .o none (.bin 60 .rem false (.t 53) (.t 59))<|
 .o none (.st 1 (.t 10) (.t 60)) .nil)) (.o none (.st 1 (.t 9) (.t 52))<|
 .o none (.ld 55 1 false (.t 5))<|
 .o none (.bin 56 .sub false (.t 55) (.c (.int .i64 1)))<|
 .o none (.idx 57 1 (.t 54) (.t 56))<|
 .o none (.ld 58 1 false (.t 57))<|
 .o none (.conv 59 .u64 (.t 58))<|
 .o none (.bin 60 .rem false (.t 53) (.t 59))<|
 .o none (.st 1 (.t 10) (.t 60)) .nil))))) (.br (.o none (.ld 55 1 false (.t 5))<|
 .o none (.bin 56 .sub false (.t 55) (.c (.int .i64 1)))<|
 .br (.o none (.ld 54 1 false (.t 3))<|
 .o none (.idx 57 1 (.t 54) (.t 56))<|
 .br (.o none (.ld 58 1 false (.t 57))<|
 .o none (.conv 59 .u64 (.t 58))<|
 .o none (.bin 60 .rem false (.t 53) (.t 59))<|
 .br (.o none (.alloc 9 1 94 (.int .u64 0))<|
 .o none (.alloc 10 1 94 (.int .u64 0))<|
 .o none (.st 1 (.t 9) (.t 52))<|
 .o none (.st 1 (.t 10) (.t 60)) .nil) (.o none (.alloc 10 1 94 (.int .u64 0))<|
 .o none (.alloc 9 1 94 (.int .u64 0))<|
 .o none (.st 1 (.t 9) (.t 52))<|
 .o none (.st 1 (.t 10) (.t 60)) .nil)) (.br (.o none (.alloc 9 1 94 (.int .u64 0))<|
 .br (.o none (.ld 58 1 false (.t 57))<|
 .o none (.conv 59 .u64 (.t 58))<|
 .o none (.bin 60 .rem false (.t 53) (.t 59))<|
 .o none (.alloc 10 1 94 (.int .u64 0))<|
 .o none (.st 1 (.t 9) (.t 52))<|
 .o none (.st 1 (.t 10) (.t 60)) .nil) (.o none (.alloc 10 1 94 (.int .u64 0))<|
 .br (.o none (.ld 58 1 false (.t 57))<|
 .o none (.conv 59 .u64 (.t 58))<|
 .o none (.bin 60 .rem false (.t 53) (.t 59))<|
 .o none (.st 1 (.t 9) (.t 52))<|
 .o none (.st 1 (.t 10) (.t 60)) .nil) (.o none (.st 1 (.t 9) (.t 52))<|
 .o none (.ld 58 1 false (.t 57))<|
 .o none (.conv 59 .u64 (.t 58))<|
 .o none (.bin 60 .rem false (.t 53) (.t 59))<|
 .o none (.st 1 (.t 10) (.t 60)) .nil))) (.o none (.alloc 10 1 94 (.int .u64 0))<|
 .br (.o none (.ld 58 1 false (.t 57))<|
 .o none (.conv 59 .u64 (.t 58))<|
 .o none (.bin 60 .rem false (.t 53) (.t 59))<|
 .o none (.alloc 9 1 94 (.int .u64 0))<|
 .o none (.st 1 (.t 9) (.t 52))<|
 .o none (.st 1 (.t 10) (.t 60)) .nil) (.o none (.alloc 9 1 94 (.int .u64 0))<|
 .br (.o none (.ld 58 1 false (.t 57))<|
 .o none (.conv 59 .u64 (.t 58))<|
 .o none (.bin 60 .rem false (.t 53) (.t 59))<|
 .o none (.st 1 (.t 9) (.t 52))<|
 .o none (.st 1 (.t 10) (.t 60)) .nil) (.o none (.st 1 (.t 9) (.t 52))<|
 .o none (.ld 58 1 false (.t 57))<|
 .o none (.conv 59 .u64 (.t 58))<|
 .o none (.bin 60 .rem false (.t 53) (.t 59))<|
 .o none (.st 1 (.t 10) (.t 60)) .nil))))) (.br (.o none (.alloc 9 1 94 (.int .u64 0))<|
 .br (.o none (.ld 54 1 false (.t 3))<|
 .o none (.idx 57 1 (.t 54) (.t 56))<|
 .br (.o none (.ld 58 1 false (.t 57))<|
 .o none (.conv 59 .u64 (.t 58))<|
 .o none (.bin 60 .rem false (.t 53) (.t 59))<|
 .o none (.alloc 10 1 94 (.int .u64 0))<|
 .o none (.st 1 (.t 9) (.t 52))<|
 .o none (.st 1 (.t 10) (.t 60)) .nil) (.o none (.alloc 10 1 94 (.int .u64 0))<|
 .br (.o none (.ld 58 1 false (.t 57))<|
 .o none (.conv 59 .u64 (.t 58))<|
 .o none (.bin 60 .rem false (.t 53) (.t 59))<|
 .o none (.st 1 (.t 9) (.t 52))<|
 .o none (.st 1 (.t 10) (.t 60)) .nil) (.o none (.st 1 (.t 9) (.t 52))<|
 .o none (.ld 58 1 false (.t 57))<|
 .o none (.conv 59 .u64 (.t 58))<|
 .o none (.bin 60 .rem false (.t 53) (.t 59))<|
 .o none (.st 1 (.t 10) (.t 60)) .nil))) (.o none (.alloc 10 1 94 (.int .u64 0))<|
 .br (.o none (.ld 54 1 false (.t 3))<|
 .o none (.idx 57 1 (.t 54) (.t 56))<|
 .br (.o none (.ld 58 1 false (.t 57))<|
 .o none (.conv 59 .u64 (.t 58))<|
 .o none (.bin 60 .rem false (.t 53) (.t 59))<|
 .o none (.st 1 (.t 9) (.t 52))<|
 .o none (.st 1 (.t 10) (.t 60)) .nil) (.o none (.st 1 (.t 9) (.t 52))<|
 .o none (.ld 58 1 false (.t 57))<|
 .o none (.conv 59 .u64 (.t 58))<|
 .o none (.bin 60 .rem false (.t 53) (.t 59))<|
 .o none (.st 1 (.t 10) (.t 60)) .nil)) (.o none (.st 1 (.t 9) (.t 52))<|
 .o none (.ld 54 1 false (.t 3))<|
 .o none (.idx 57 1 (.t 54) (.t 56))<|
 .o none (.ld 58 1 false (.t 57))<|
 .o none (.conv 59 .u64 (.t 58))<|
 .o none (.bin 60 .rem false (.t 53) (.t 59))<|
 .o none (.st 1 (.t 10) (.t 60)) .nil))) (.o none (.alloc 10 1 94 (.int .u64 0))<|
 .br (.o none (.ld 54 1 false (.t 3))<|
 .o none (.idx 57 1 (.t 54) (.t 56))<|
 .br (.o none (.ld 58 1 false (.t 57))<|
 .o none (.conv 59 .u64 (.t 58))<|
 .o none (.bin 60 .rem false (.t 53) (.t 59))<|
 .o none (.alloc 9 1 94 (.int .u64 0))<|
 .o none (.st 1 (.t 9) (.t 52))<|
 .o none (.st 1 (.t 10) (.t 60)) .nil) (.o none (.alloc 9 1 94 (.int .u64 0))<|
 .br (.o none (.ld 58 1 false (.t 57))<|
 .o none (.conv 59 .u64 (.t 58))<|
 .o none (.bin 60 .rem false (.t 53) (.t 59))<|
 .o none (.st 1 (.t 9) (.t 52))<|
 .o none (.st 1 (.t 10) (.t 60)) .nil) (.o none (.st 1 (.t 9) (.t 52))<|
 .o none (.ld 58 1 false (.t 57))<|
 .o none (.conv 59 .u64 (.t 58))<|
 .o none (.bin 60 .rem false (.t 53) (.t 59))<|
 .o none (.st 1 (.t 10) (.t 60)) .nil))) (.o none (.alloc 9 1 94 (.int .u64 0))<|
 .br (.o none (.ld 54 1 false (.t 3))<|
 .o none (.idx 57 1 (.t 54) (.t 56))<|
 .br (.o none (.ld 58 1 false (.t 57))<|
 .o none (.conv 59 .u64 (.t 58))<|
 .o none (.bin 60 .rem false (.t 53) (.t 59))<|
 .o none (.st 1 (.t 9) (.t 52))<|
 .o none (.st 1 (.t 10) (.t 60)) .nil) (.o none (.st 1 (.t 9) (.t 52))<|
 .o none (.ld 58 1 false (.t 57))<|
 .o none (.conv 59 .u64 (.t 58))<|
 .o none (.bin 60 .rem false (.t 53) (.t 59))<|
 .o none (.st 1 (.t 10) (.t 60)) .nil)) (.o none (.st 1 (.t 9) (.t 52))<|
 .o none (.ld 54 1 false (.t 3))<|
 .o none (.idx 57 1 (.t 54) (.t 56))<|
 .o none (.ld 58 1 false (.t 57))<|
 .o none (.conv 59 .u64 (.t 58))<|
 .o none (.bin 60 .rem false (.t 53) (.t 59))<|
 .o none (.st 1 (.t 10) (.t 60)) .nil))))) (.br (.o none (.alloc 9 1 94 (.int .u64 0))<|
 .br (.o none (.ld 54 1 false (.t 3))<|
 .br (.o none (.ld 55 1 false (.t 5))<|
 .o none (.bin 56 .sub false (.t 55) (.c (.int .i64 1)))<|
 .o none (.idx 57 1 (.t 54) (.t 56))<|
 .br (.o none (.ld 58 1 false (.t 57))<|
 .o none (.conv 59 .u64 (.t 58))<|
 .o none (.bin 60 .rem false (.t 53) (.t 59))<|
 .o none (.alloc 10 1 94 (.int .u64 0))<|
 .o none (.st 1 (.t 9) (.t 52))<|
 .o none (.st 1 (.t 10) (.t 60)) .nil) (.o none (.alloc 10 1 94 (.int .u64 0))<|
 .br (.o none (.ld 58 1 false (.t 57))<|
 .o none (.conv 59 .u64 (.t 58))<|
 .o none (.bin 60 .rem false (.t 53) (.t 59))<|
 .o none (.st 1 (.t 9) (.t 52))<|
 .o none (.st 1 (.t 10) (.t 60)) .nil) (.o none (.st 1 (.t 9) (.t 52))<|
 .o none (.ld 58 1 false (.t 57))<|
 .o none (.conv 59 .u64 (.t 58))<|
 .o none (.bin 60 .rem false (.t 53) (.t 59))<|
 .o none (.st 1 (.t 10) (.t 60)) .nil))) (.o none (.alloc 10 1 94 (.int .u64 0))<|
 .br (.o none (.ld 55 1 false (.t 5))<|
 .o none (.bin 56 .sub false (.t 55) (.c (.int .i64 1)))<|
 .o none (.idx 57 1 (.t 54) (.t 56))<|
 .br (.o none (.ld 58 1 false (.t 57))<|
 .o none (.conv 59 .u64 (.t 58))<|
 .o none (.bin 60 .rem false (.t 53) (.t 59))<|
 .o none (.st 1 (.t 9) (.t 52))<|
 .o none (.st 1 (.t 10) (.t 60)) .nil) (.o none (.st 1 (.t 9) (.t 52))<|
 .o none (.ld 58 1 false (.t 57))<|
 .o none (.conv 59 .u64 (.t 58))<|
 .o none (.bin 60 .rem false (.t 53) (.t 59))<|
 .o none (.st 1 (.t 10) (.t 60)) .nil)) (.o none (.st 1 (.t 9) (.t 52))<|
 .o none (.ld 55 1 false (.t 5))<|
 .o none (.bin 56 .sub false (.t 55) (.c (.int .i64 1)))<|
 .o none (.idx 57 1 (.t 54) (.t 56))<|
 .o none (.ld 58 1 false (.t 57))<|
 .o none (.conv 59 .u64 (.t 58))<|
 .o none (.bin 60 .rem false (.t 53) (.t 59))<|
 .o none (.st 1 (.t 10) (.t 60)) .nil))) (.br (.o none (.ld 55 1 false (.t 5))<|
 .o none (.bin 56 .sub false (.t 55) (.c (.int .i64 1)))<|
 .br (.o none (.ld 54 1 false (.t 3))<|
 .o none (.idx 57 1 (.t 54) (.t 56))<|
 .br (.o none (.ld 58 1 false (.t 57))<|
 .o none (.conv 59 .u64 (.t 58))<|
 .o none (.bin 60 .rem false (.t 53) (.t 59))<|
 .o none (.alloc 10 1 94 (.int .u64 0))<|
 .o none (.st 1 (.t 9) (.t 52))<|
 .o none (.st 1 (.t 10) (.t 60)) .nil) (.o none (.alloc 10 1 94 (.int .u64 0))<|
 .br (.o none (.ld 58 1 false (.t 57))<|
 .o none (.conv 59 .u64 (.t 58))<|
 .o none (.bin 60 .rem false (.t 53) (.t 59))<|
 .o none (.st 1 (.t 9) (.t 52))<|
 .o none (.st 1 (.t 10) (.t 60)) .nil) (.o none (.st 1 (.t 9) (.t 52))<|
 .o none (.ld 58 1 false (.t 57))<|
 .o none (.conv 59 .u64 (.t 58))<|
 .o none (.bin 60 .rem false (.t 53) (.t 59))<|
 .o none (.st 1 (.t 10) (.t 60)) .nil))) (.o none (.alloc 10 1 94 (.int .u64 0))<|
 .br (.o none (.ld 54 1 false (.t 3))<|
 .o none (.idx 57 1 (.t 54) (.t 56))<|
 .br (.o none (.ld 58 1 false (.t 57))<|
 .o none (.conv 59 .u64 (.t 58))<|
 .o none (.bin 60 .rem false (.t 53) (.t 59))<|
 .o none (.st 1 (.t 9) (.t 52))<|
 .o none (.st 1 (.t 10) (.t 60)) .nil) (.o none (.st 1 (.t 9) (.t 52))<|
 .o none (.ld 58 1 false (.t 57))<|
 .o none (.conv 59 .u64 (.t 58))<|
 .o none (.bin 60 .rem false (.t 53) (.t 59))<|
 .o none (.st 1 (.t 10) (.t 60)) .nil)) (.o none (.st 1 (.t 9) (.t 52))<|
 .o none (.ld 54 1 false (.t 3))<|
 .o none (.idx 57 1 (.t 54) (.t 56))<|
 .o none (.ld 58 1 false (.t 57))<|
 .o none (.conv 59 .u64 (.t 58))<|
 .o none (.bin 60 .rem false (.t 53) (.t 59))<|
 .o none (.st 1 (.t 10) (.t 60)) .nil))) (.o none (.alloc 10 1 94 (.int .u64 0))<|
 .br (.o none (.ld 54 1 false (.t 3))<|
 .br (.o none (.ld 55 1 false (.t 5))<|
 .o none (.bin 56 .sub false (.t 55) (.c (.int .i64 1)))<|
 .o none (.idx 57 1 (.t 54) (.t 56))<|
 .br (.o none (.ld 58 1 false (.t 57))<|
 .o none (.conv 59 .u64 (.t 58))<|
 .o none (.bin 60 .rem false (.t 53) (.t 59))<|
 .o none (.st 1 (.t 9) (.t 52))<|
 .o none (.st 1 (.t 10) (.t 60)) .nil) (.o none (.st 1 (.t 9) (.t 52))<|
 .o none (.ld 58 1 false (.t 57))<|
 .o none (.conv 59 .u64 (.t 58))<|
 .o none (.bin 60 .rem false (.t 53) (.t 59))<|
 .o none (.st 1 (.t 10) (.t 60)) .nil)) (.o none (.st 1 (.t 9) (.t 52))<|
 .o none (.ld 55 1 false (.t 5))<|
 .o none (.bin 56 .sub false (.t 55) (.c (.int .i64 1)))<|
 .o none (.idx 57 1 (.t 54) (.t 56))<|
 .o none (.ld 58 1 false (.t 57))<|
 .o none (.conv 59 .u64 (.t 58))<|
 .o none (.bin 60 .rem false (.t 53) (.t 59))<|
 .o none (.st 1 (.t 10) (.t 60)) .nil)) (.br (.o none (.ld 55 1 false (.t 5))<|
 .o none (.bin 56 .sub false (.t 55) (.c (.int .i64 1)))<|
 .br (.o none (.ld 54 1 false (.t 3))<|
 .o none (.idx 57 1 (.t 54) (.t 56))<|
 .br (.o none (.ld 58 1 false (.t 57))<|
 .o none (.conv 59 .u64 (.t 58))<|
 .o none (.bin 60 .rem false (.t 53) (.t 59))<|
 .o none (.st 1 (.t 9) (.t 52))<|
 .o none (.st 1 (.t 10) (.t 60)) .nil) (.o none (.st 1 (.t 9) (.t 52))<|
 .o none (.ld 58 1 false (.t 57))<|
 .o none (.conv 59 .u64 (.t 58))<|
 .o none (.bin 60 .rem false (.t 53) (.t 59))<|
 .o none (.st 1 (.t 10) (.t 60)) .nil)) (.o none (.st 1 (.t 9) (.t 52))<|
 .o none (.ld 54 1 false (.t 3))<|
 .o none (.idx 57 1 (.t 54) (.t 56))<|
 .o none (.ld 58 1 false (.t 57))<|
 .o none (.conv 59 .u64 (.t 58))<|
 .o none (.bin 60 .rem false (.t 53) (.t 59))<|
 .o none (.st 1 (.t 10) (.t 60)) .nil)) (.o none (.st 1 (.t 9) (.t 52))<|
 .br (.o none (.ld 54 1 false (.t 3))<|
 .o none (.ld 55 1 false (.t 5))<|
 .o none (.bin 56 .sub false (.t 55) (.c (.int .i64 1)))<|
 .o none (.idx 57 1 (.t 54) (.t 56))<|
 .o none (.ld 58 1 false (.t 57))<|
 .o none (.conv 59 .u64 (.t 58))<|
 .o none (.bin 60 .rem false (.t 53) (.t 59))<|
 .o none (.st 1 (.t 10) (.t 60)) .nil) (.o none (.ld 55 1 false (.t 5))<|
 .o none (.bin 56 .sub false (.t 55) (.c (.int .i64 1)))<|
 .o none (.ld 54 1 false (.t 3))<|
 .o none (.idx 57 1 (.t 54) (.t 56))<|
 .o none (.ld 58 1 false (.t 57))<|
 .o none (.conv 59 .u64 (.t 58))<|
 .o none (.bin 60 .rem false (.t 53) (.t 59))<|
 .o none (.st 1 (.t 10) (.t 60)) .nil)))))) (.o none (.alloc 10 1 94 (.int .u64 0))<|
 .br (.o none (.ld 54 1 false (.t 3))<|
 .br (.o none (.ld 55 1 false (.t 5))<|
 .o none (.bin 56 .sub false (.t 55) (.c (.int .i64 1)))<|
 .o none (.idx 57 1 (.t 54) (.t 56))<|
 .br (.o none (.ld 58 1 false (.t 57))<|
 .o none (.conv 59 .u64 (.t 58))<|
 .o none (.bin 60 .rem false (.t 53) (.t 59))<|
 .o none (.alloc 9 1 94 (.int .u64 0))<|
 .o none (.st 1 (.t 9) (.t 52))<|
 .o none (.st 1 (.t 10) (.t 60)) .nil) (.o none (.alloc 9 1 94 (.int .u64 0))<|
 .br (.o none (.ld 58 1 false (.t 57))<|
 .o none (.conv 59 .u64 (.t 58))<|
 .o none (.bin 60 .rem false (.t 53) (.t 59))<|
 .o none (.st 1 (.t 9) (.t 52))<|
 .o none (.st 1 (.t 10) (.t 60)) .nil) (.o none (.st 1 (.t 9) (.t 52))<|
 .o none (.ld 58 1 false (.t 57))<|
 .o none (.conv 59 .u64 (.t 58))<|
 .o none (.bin 60 .rem false (.t 53) (.t 59))<|
 .o none (.st 1 (.t 10) (.t 60)) .nil))) (.o none (.alloc 9 1 94 (.int .u64 0))<|
 .br (.o none (.ld 55 1 false (.t 5))<|
 .o none (.bin 56 .sub false (.t 55) (.c (.int .i64 1)))<|
 .o none (.idx 57 1 (.t 54) (.t 56))<|
 .br (.o none (.ld 58 1 false (.t 57))<|
 .o none (.conv 59 .u64 (.t 58))<|
 .o none (.bin 60 .rem false (.t 53) (.t 59))<|
 .o none (.st 1 (.t 9) (.t 52))<|
 .o none (.st 1 (.t 10) (.t 60)) .nil) (.o none (.st 1 (.t 9) (.t 52))<|
 .o none (.ld 58 1 false (.t 57))<|
 .o none (.conv 59 .u64 (.t 58))<|
 .o none (.bin 60 .rem false (.t 53) (.t 59))<|
 .o none (.st 1 (.t 10) (.t 60)) .nil)) (.o none (.st 1 (.t 9) (.t 52))<|
 .o none (.ld 55 1 false (.t 5))<|
 .o none (.bin 56 .sub false (.t 55) (.c (.int .i64 1)))<|
 .o none (.idx 57 1 (.t 54) (.t 56))<|
 .o none (.ld 58 1 false (.t 57))<|
 .o none (.conv 59 .u64 (.t 58))<|
 .o none (.bin 60 .rem false (.t 53) (.t 59))<|
 .o none (.st 1 (.t 10) (.t 60)) .nil))) (.br (.o none (.ld 55 1 false (.t 5))<|
 .o none (.bin 56 .sub false (.t 55) (.c (.int .i64 1)))<|
 .br (.o none (.ld 54 1 false (.t 3))<|
 .o none (.idx 57 1 (.t 54) (.t 56))<|
 .br (.o none (.ld 58 1 false (.t 57))<|
 .o none (.conv 59 .u64 (.t 58))<|
 .o none (.bin 60 .rem false (.t 53) (.t 59))<|
 .o none (.alloc 9 1 94 (.int .u64 0))<|
 .o none (.st 1 (.t 9) (.t 52))<|
 .o none (.st 1 (.t 10) (.t 60)) .nil) (.o none (.alloc 9 1 94 (.int .u64 0))<|
 .br (.o none (.ld 58 1 false (.t 57))<|
 .o none (.conv 59 .u64 (.t 58))<|
 .o none (.bin 60 .rem false (.t 53) (.t 59))<|
 .o none (.st 1 (.t 9) (.t 52))<|
 .o none (.st 1 (.t 10) (.t 60)) .nil) (.o none (.st 1 (.t 9) (.t 52))<|
 .o none (.ld 58 1 false (.t 57))<|
 .o none (.conv 59 .u64 (.t 58))<|
 .o none (.bin 60 .rem false (.t 53) (.t 59))<|
 .o none (.st 1 (.t 10) (.t 60)) .nil))) (.o none (.alloc 9 1 94 (.int .u64 0))<|
 .br (.o none (.ld 54 1 false (.t 3))<|
 .o none (.idx 57 1 (.t 54) (.t 56))<|
 .br (.o none (.ld 58 1 false (.t 57))<|
 .o none (.conv 59 .u64 (.t 58))<|
 .o none (.bin 60 .rem false (.t 53) (.t 59))<|
 .o none (.st 1 (.t 9) (.t 52))<|
 .o none (.st 1 (.t 10) (.t 60)) .nil) (.o none (.st 1 (.t 9) (.t 52))<|
 .o none (.ld 58 1 false (.t 57))<|
 .o none (.conv 59 .u64 (.t 58))<|
 .o none (.bin 60 .rem false (.t 53) (.t 59))<|
 .o none (.st 1 (.t 10) (.t 60)) .nil)) (.o none (.st 1 (.t 9) (.t 52))<|
 .o none (.ld 54 1 false (.t 3))<|
 .o none (.idx 57 1 (.t 54) (.t 56))<|
 .o none (.ld 58 1 false (.t 57))<|
 .o none (.conv 59 .u64 (.t 58))<|
 .o none (.bin 60 .rem false (.t 53) (.t 59))<|
 .o none (.st 1 (.t 10) (.t 60)) .nil))) (.o none (.alloc 9 1 94 (.int .u64 0))<|
 .br (.o none (.ld 54 1 false (.t 3))<|
 .br (.o none (.ld 55 1 false (.t 5))<|
 .o none (.bin 56 .sub false (.t 55) (.c (.int .i64 1)))<|
 .o none (.idx 57 1 (.t 54) (.t 56))<|
 .br (.o none (.ld 58 1 false (.t 57))<|
 .o none (.conv 59 .u64 (.t 58))<|
 .o none (.bin 60 .rem false (.t 53) (.t 59))<|
 .o none (.st 1 (.t 9) (.t 52))<|
 .o none (.st 1 (.t 10) (.t 60)) .nil) (.o none (.st 1 (.t 9) (.t 52))<|
 .o none (.ld 58 1 false (.t 57))<|
 .o none (.conv 59 .u64 (.t 58))<|
 .o none (.bin 60 .rem false (.t 53) (.t 59))<|
 .o none (.st 1 (.t 10) (.t 60)) .nil)) (.o none (.st 1 (.t 9) (.t 52))<|
 .o none (.ld 55 1 false (.t 5))<|
 .o none (.bin 56 .sub false (.t 55) (.c (.int .i64 1)))<|
 .o none (.idx 57 1 (.t 54) (.t 56))<|
 .o none (.ld 58 1 false (.t 57))<|
 .o none (.conv 59 .u64 (.t 58))<|
 .o none (.bin 60 .rem false (.t 53) (.t 59))<|
 .o none (.st 1 (.t 10) (.t 60)) .nil)) (.br (.o none (.ld 55 1 false (.t 5))<|
 .o none (.bin 56 .sub false (.t 55) (.c (.int .i64 1)))<|
 .br (.o none (.ld 54 1 false (.t 3))<|
 .o none (.idx 57 1 (.t 54) (.t 56))<|
 .br (.o none (.ld 58 1 false (.t 57))<|
 .o none (.conv 59 .u64 (.t 58))<|
 .o none (.bin 60 .rem false (.t 53) (.t 59))<|
 .o none (.st 1 (.t 9) (.t 52))<|
 .o none (.st 1 (.t 10) (.t 60)) .nil) (.o none (.st 1 (.t 9) (.t 52))<|
 .o none (.ld 58 1 false (.t 57))<|
 .o none (.conv 59 .u64 (.t 58))<|
 .o none (.bin 60 .rem false (.t 53) (.t 59))<|
 .o none (.st 1 (.t 10) (.t 60)) .nil)) (.o none (.st 1 (.t 9) (.t 52))<|
 .o none (.ld 54 1 false (.t 3))<|
 .o none (.idx 57 1 (.t 54) (.t 56))<|
 .o none (.ld 58 1 false (.t 57))<|
 .o none (.conv 59 .u64 (.t 58))<|
 .o none (.bin 60 .rem false (.t 53) (.t 59))<|
 .o none (.st 1 (.t 10) (.t 60)) .nil)) (.o none (.st 1 (.t 9) (.t 52))<|
 .br (.o none (.ld 54 1 false (.t 3))<|
 .o none (.ld 55 1 false (.t 5))<|
 .o none (.bin 56 .sub false (.t 55) (.c (.int .i64 1)))<|
 .o none (.idx 57 1 (.t 54) (.t 56))<|
 .o none (.ld 58 1 false (.t 57))<|
 .o none (.conv 59 .u64 (.t 58))<|
 .o none (.bin 60 .rem false (.t 53) (.t 59))<|
 .o none (.st 1 (.t 10) (.t 60)) .nil) (.o none (.ld 55 1 false (.t 5))<|
 .o none (.bin 56 .sub false (.t 55) (.c (.int .i64 1)))<|
 .o none (.ld 54 1 false (.t 3))<|
 .o none (.idx 57 1 (.t 54) (.t 56))<|
 .o none (.ld 58 1 false (.t 57))<|
 .o none (.conv 59 .u64 (.t 58))<|
 .o none (.bin 60 .rem false (.t 53) (.t 59))<|
 .o none (.st 1 (.t 10) (.t 60)) .nil))))))))))<| .seq (.rg (.o none (.fn 61 172 [] [(.t 9),(.t 3),(.t 5),(.t 10),(.t 2),(.t 7)])<|
 .o none (.mv 11 (.t 61)) .nil))<| .seq (.block 2 (.loop (.seq (.seq (.rg (.o none (.ld 62 1 false (.t 10))<|
 .o none (.bin 63 .lss false (.t 62) (.c (.int .u64 65536)))<|
 .o none (.mv 64 (.t 63))<|
 .o (some (64,true)) (.mv 65 (.t 11))<|
 .o (some (64,true)) (.call (some 66) false (.t 65) [])<|
 .o none (.pick 67 (.t 64) (.t 66) (.c (.bool false))) .nil))<| .cond (.t 67) (.skip) (.exit 2))<| .block 3 (.seq (.rg (.o none (.ld 68 1 false (.t 9))<|
 .o none (.bin 69 .sub false (.t 68) (.c (.int .u64 1)))<|
 .o none (.st 1 (.t 9) (.t 69)) .nil))<| .rg (.o none (.ld 70 1 false (.t 10))<|
 .o none (.ld 71 1 false (.t 3))<|
 .o none (.ld 72 1 false (.t 5))<|
 .o none (.bin 73 .sub false (.t 72) (.c (.int .i64 1)))<|
 .o none (.idx 74 1 (.t 71) (.t 73))<|
 .o none (.ld 75 1 false (.t 74))<|
 .o none (.conv 76 .u64 (.t 75))<|
 .o none (.bin 77 .add false (.t 70) (.t 76))<|
 .o none (.st 1 (.t 10) (.t 77)) .nil)))))<| .seq (.seq (.rg (.o none (.ld 78 1 false (.t 2))<|
 .o none (.ld 79 1 false (.t 7))<|
 .o none (.ld 80 1 false (.t 7))<|
 .o none (.ld 81 1 false (.t 5))<|
 .o none (.bin 82 .add false (.t 80) (.t 81))<|
 .o none (.bin 83 .add false (.t 82) (.c (.int .i64 1)))<|
 .o none (.sl 84 1 (.t 78) (some (.t 79)) (some (.t 83)) none)<|
 .o none (.ld 85 1 false (.t 3))<|
 .o none (.ld 86 1 false (.t 9))<|
 .o none (.conv 87 .u32 (.t 86))<|
 .o none (.call (some 88) false (.c (.fn 173 [] [])) [(.t 84),(.t 85),(.t 87)]) .nil))<| .cond (.t 88) (.seq (.rg (.o none (.ld 89 1 false (.t 9))<|
 .o none (.bin 90 .sub false (.t 89) (.c (.int .u64 1)))<|
 .o none (.st 1 (.t 9) (.t 90)) .nil))<| .rg (.o none (.ld 91 1 false (.t 2))<|
 .o none (.ld 92 1 false (.t 7))<|
 .o none (.ld 93 1 false (.t 7))<|
 .o none (.ld 94 1 false (.t 5))<|
 .o none (.bin 95 .add false (.t 93) (.t 94))<|
 .o none (.bin 96 .add false (.t 95) (.c (.int .i64 1)))<|
 .o none (.sl 97 1 (.t 91) (some (.t 92)) (some (.t 96)) none)<|
 .o none (.ld 98 1 false (.t 3))<|
 .o none (.call (some 99) false (.c (.fn 174 [] [])) [(.t 97),(.t 98)]) .nil)) (.skip))<| .rg (.o none (.mv 100 (.t 6))<|
 .o none (.ld 101 1 false (.t 7))<|
 .o none (.ld 102 1 false (.t 9))<|
 .o none (.conv 103 .u16 (.t 102))<|
 .o none (.idx 104 1 (.t 100) (.t 101))<|
 .o none (.st 1 (.t 104) (.t 103)) .nil)))<| .seq (.seq (.rg (.o none (.ld 105 1 false (.t 7)) .nil))<| .rg (.o none (.alloc 7 1 3 (.int .i64 0))<|
 .o none (.st 1 (.t 7) (.t 105)) .nil))<| .rg (.o none (.ld 26 1 false (.t 7))<|
 .o none (.bin 27 .sub false (.t 26) (.c (.int .i64 1)))<|
 .o none (.st 1 (.t 7) (.t 27)) .nil))))<| .seq (.rg (.o none (.mv 106 (.t 6))<|
 .o none (.call (some 107) false (.c (.fn 153 [] [])) [(.t 106)])<|
 .o none (.mv 4 (.t 107)) .nil))<| .ret⟩
theorem Qajc:Qe Tryz.prog Tryz.f166=some c166:=by kernel_rfl
theorem Qbi{l:List Nat}(hv:Ql l)(hl:l.length<2^42):Qd Tryz.prog 153 [PV.nat l] (· =PV.num (val l)):=by
 refine Qf Qj Tryz.func153 rfl Q35 (by simp[Q04]) fun C hP=>?_;simp only[Q04];refine Sz0 ?_;refine Qfo (fun m fr hp=>m<=l.length/\cut l m=dig (val l)/\fr 0=PV.nat l/\fr 3= .int .i64 m/\hp=hp0) l.length ?_ ?_
 ·exact⟨Nat.le_refl _,Qnx hv,rfl,rfl,rfl⟩
 rintro n fr _ ⟨hn,hc,h0,h3,rfl⟩;refine Sz2 h0 h3 ?_;refine Qat (fun hg=>?_) (fun hg=>?_)
 ·simp+decide (disch:=first|omega|rfl|(simp+decide only[go_sem,↓reduceIte,h0,h3,Qll,Qkb]<;>rfl)|fail) only[go_sem,↓reduceIte,h0,h3,Qll,Qkb];obtain _|n:=n
  ·omega
  have e:((n+1:Nat):Int)-1=n:=by omega
  simp only[cut]at hc;refine Qb (fun hz=>?_) (fun hz=>?_)
  ·rw[if_pos (by grind)]at hc;simp+decide (disch:=first|omega|rfl|(simp+decide only[go_sem,↓reduceIte,h0,h3,e]<;>rfl)|fail) only[go_sem,↓reduceIte,h0,h3,e];refine Qcg (m:=n) (by omega) ⟨by omega,hc,?_⟩;exact Tz3 h0 @true_and @and_true
  ·refine Sz3 h0 h3 @Qqh ?_;rw[if_neg (by grind)]at hc;exact Qc (by simp[hc]) rfl
 ·obtain rfl:n=0:=by omega
  refine Sz3 h0 h3 @Qqh ?_;exact Qc (by simp[<-hc,cut]) rfl
theorem Qkl{l:List Nat}(hv:Ql l)(hl:l.length<2^42):Qd Tryz.prog 148 [PV.nat l] (· =PV.num (val l)):=by
 have hd:=Qau hv;unfold nl at hd;refine Qf Qj Tryz.func148 rfl Qah9 (by simp[c148]) fun C hP=>?_;simp only[c148];refine Sz0 ?_;refine Qa hP (Qbi hv hl) rfl rfl rfl ?_;refine Sz0 ?_;refine Qb (fun hz=>?_) (fun hz=>?_)
 ·refine Sz0 ?_;have:dig (val l)=[]:=List.length_eq_zero_iff.1 (by omega);exact Qeq (by rw[PV.num,this];exact Qalr) rfl
 ·refine Sz0 ?_;rw[Qag7 rfl (by simp)];refine Sz0 ?_;exact Qrv rfl (by simp[List.take_of_length_le])
theorem Qn7{n:Nat}(hn:n<18446744073709551616):Qd Tryz.prog 113 [.int .u64 n] (· =PV.num n):=by
 have hlen:=Qf8 hn;unfold nl at hlen;refine Qf Qj Tryz.func113 rfl Qaia (by simp[c113]) fun C hP=>?_;simp only[c113];refine Sz0 ?_;refine Qkc (fun m fr hp=>∃done:List Nat,dig n=done++dig m/\m<=n/\fr 0= .int .u64 m/\fr 3= .ms 12 done.length/\hp 12=some ⟨1,115,done.map fun(x:Nat)=>.int .u16 x,false⟩) n (Q7x 3 12 1 115 (by omega) ?_) ?_ ?_
 ·exact Tz0
 ·refine⟨[],?_⟩;simp+decide (disch:=first|omega|rfl|(simp+decide only[go_sem,↓reduceIte,List.nil_append,List.map_nil,List.length_nil,true_and,and_true,Nat.le_refl]<;>rfl)|fail) only[go_sem,↓reduceIte,List.nil_append,List.map_nil,List.length_nil,true_and,and_true,Nat.le_refl]
 rintro m fr hp ⟨done,hd,hm,h0,h3,hh⟩;rw[hd,List.length_append]at hlen;refine Sz1 h0 ?_;refine Qb (fun hz=>?_) (fun hz=>?_)
 ·have hne:m≠0:=by omega
  have hd2:dig n=(done++[m%65536])++dig (m/65536):=by rw[hd,Qif hne];simp
  refine Sz2 h0 h3 ?_;rw[Qtd (xs:=done.map fun(x:Nat)=>.int .u16 x) (Tz1 hh) rfl (by omega) (by simp) (by omega) (by omega)];refine Sz4 h0 h3 @Qqi @Qxu ?_;refine Qcg (m:=m/65536) (by omega) ⟨done++[m%65536],hd2,by omega,?_⟩;refine Sz3 h0 h3 hh ?_;simp
 ·obtain rfl:m=0:=by omega
  refine Sz1 h3 ?_;exact Qrv hh (by simp[PV.num,PV.nat,hd,Qa7,List.take_of_length_le])
theorem Qo9{a b:List Nat}(ha:Ql a)(hb:Ql b)(hla:a.length<2^40)(hlb:b.length<2^40):Qd Tryz.prog 159 [PV.nat a,PV.nat b] (· = .int .i64 (Qel (val a) (val b))):=by
 have hda:=Qau ha;have hdb:=Qau hb;have hnl1:= @Q0h (val a) (val b);have hnl2:= @Q0h (val b) (val a);have hla':=Qq (val a);have hlb':=Qq (val b);have hva:=Q7 (val a);have hvb:=Q7 (val b);unfold nl at hda hdb hnl1 hnl2;refine Qf Qj Tryz.func159 rfl Qaid (by simp[c159]) fun C hP=>?_;simp only[c159];refine Sz0 ?_;refine Qa hP (Qbi ha (by omega)) rfl rfl rfl ?_;refine Sz0 ?_;refine Qa hP (Qbi hb (by omega)) rfl rfl rfl ?_;refine Sz0 ?_;generalize val a=x at *
 generalize val b=y at *
 refine Qb (fun hz=>?_) (fun hz=>?_)
 ·refine Sz0 ?_;refine Qb (fun hz=>?_) (fun hz=>?_)
  ·refine Sz0 ?_;exact Qc (by rw[Qwq (hnl1 (by omega))]) rfl
  ·refine Sz0 ?_;exact Qc (by rw[Qwr (hnl2 (by omega))]) rfl
 refine Sz0 ?_;refine Qfo (fun m fr hp=>m<=(dig x).length/\val ((dig x).drop m)=val ((dig y).drop m)/\fr 0=PV.num x/\fr 1=PV.num y/\fr 5= .int .i64 ((m:Int)-1)/\hp=hp0) (dig x).length ?_ ?_
 ·refine⟨Nat.le_refl _,?_,?_⟩
  ·rw[List.drop_of_length_le (Nat.le_refl _),List.drop_of_length_le (by omega)]
  ·exact Tz2 @true_and @and_true
 rintro m fr _ ⟨hm,hd,h0,h1,h5,rfl⟩;refine Sz3 h0 h1 h5 ?_;refine Qb (fun hg=>?_) (fun hg=>?_)
 ·obtain _|m:=m
  ·omega
  have e:((m+1:Nat):Int)-1=m:=by omega
  have hm1:m<(dig x).length:=by omega
  have hm2:m<(dig y).length:=by omega
  simp+decide (disch:=first|omega|rfl|(simp+decide only[go_sem,↓reduceIte,h0,h1,h5,e]<;>rfl)|fail) only[go_sem,↓reduceIte,h0,h1,h5,e];refine Qb (fun hq=>?_) (fun hq=>?_)
  ·refine Sz0 ?_;exact Qc (by rw[Qwq];have:=Qxw hla' hm1 hm2 (by omega) hd;omega) rfl
  simp+decide (disch:=first|omega|rfl|(simp+decide only[go_sem,↓reduceIte,h0,h1,h5,e]<;>rfl)|fail) only[go_sem,↓reduceIte,h0,h1,h5,e];refine Qb (fun hq2=>?_) (fun hq2=>?_)
  ·refine Sz0 ?_;exact Qc (by rw[Qwr];have:=Qxw hlb' hm2 hm1 (by omega) hd.symm;omega) rfl
  refine Sz4 h0 h1 h5 e ?_;refine Qcg (m:=m) (by omega) ⟨by omega,?_,?_⟩
  ·rw[Qda hm1,Qda hm2,hd];omega
  ·exact Tz4 h0 h1 @true_and @and_true
 ·obtain rfl:m=0:=by omega
  refine Sz0 ?_;refine Qc ?_ rfl;rw[Q3n];simp at hd;omega
theorem Qaed{a b:List Nat}(ha:Ql a)(hb:Ql b)(hla:a.length<2^40)(hlb:b.length<2^40):Qd Tryz.prog 169 [PV.nat a,PV.nat b] (· =PV.num (val a+val b)):=by
 have hda:=Qau ha;have hdb:=Qau hb;unfold nl at hda hdb;refine Qf Qj Tryz.func169 rfl Qaie (by simp[c169]) fun C hP=>?_;simp only[c169];refine Sz0 ?_;refine Qa hP (Qbi ha (by omega)) rfl rfl rfl ?_;refine Sz0 ?_;refine Qa hP (Qbi hb (by omega)) rfl rfl rfl ?_;refine Sz0 ?_;generalize val a=x0 at *
 generalize val b=y0 at *
 refine Qke (fun fr hp=>∃x y,x+y=x0+y0/\(dig x).length<2^40/\(dig y).length<=(dig x).length/\fr 0=PV.num x/\fr 1=PV.num y/\hp=hp0) ?_ ?_
 ·refine Qb (fun hz=>?_) (fun hz=>?_)
  ·refine Sz0 ?_;refine⟨y0,x0,by omega,by omega,by omega,?_⟩;exact Tz2 @true_and @and_true
  ·refine Sz0 ?_;refine⟨x0,y0,by omega,by omega,by omega,?_⟩;exact Tz2 @true_and @and_true
 rintro fr _ ⟨x,y,hsum,hx,hy,h0,h1,rfl⟩;rw[<-hsum];clear hsum hda hdb;have hxl:=Qq x;have hyl:=Qq y;refine Sz2 h0 h1 ?_;refine Qfo (fun m fr hp=>∃i c done,m=(dig x).length-i/\i<=(dig x).length/\c<=1/\done.length=i/\done++Qfw ((dig x).drop i) ((dig y).drop i) c=dig (x+y)/\
  fr 1=PV.num y/\fr 5= .ms 25 (dig x).length/\fr 6= .int .u32 c/\fr 26=PV.num x/\fr 27= .int .i64 (dig x).length/\fr 28= .int .i64 i/\hp=Qv hp0 25 ⟨1,115,Qba (done++List.replicate ((dig x).length-i) 0),false⟩) (dig x).length ?_ ?_
 ·refine⟨0,0,[],rfl,by omega,by omega,rfl,by simpa using Qabz hy,?_⟩;simp+decide (disch:=first|omega|rfl|(simp+decide only[go_sem,↓reduceIte,h0,h1,true_and,and_true,Nat.sub_zero,List.nil_append]<;>rfl)|fail) only[go_sem,↓reduceIte,h0,h1,true_and,and_true,Nat.sub_zero,List.nil_append];simp
 rintro _ fr _ ⟨i,c,done,rfl,hi,hc,hdl,hd,h1,h5,h6,h26,h27,h28,rfl⟩;refine Sz3 h26 h27 h28 ?_;refine Qb (fun hg=>?_) (fun hg=>?_)
 ·have hi':i<(dig x).length:=by omega
  have hxi:=Qas hxl hi';rw[Q8a hi']at hd;have hlen:=Qte (n:=(dig x).length-i) hdl (by omega:_=(dig x).length);simp+decide (disch:=first|omega|rfl|(simp+decide only[go_sem,↓reduceIte,h1,h5,h6,h26,h27,h28]<;>rfl)|fail) only[go_sem,↓reduceIte,h1,h5,h6,h26,h27,h28];refine Qb (fun hq=>?_) (fun hq=>?_)
  ·have hq':i<(dig y).length:=by omega
   have hyi:=Qas hyl hq';rw[Qbu hq']at hd;simp+decide (disch:=first|omega|rfl|(simp+decide only[go_sem,↓reduceIte,h1,h5,h6,h26,h27,h28]<;>rfl)|fail) only[go_sem,↓reduceIte,h1,h5,h6,h26,h27,h28];refine Qcg (m:=(dig x).length-(i+1)) (by omega) ⟨i+1,_,_,rfl,by omega,?_,?_,(List.append_cons ..).symm.trans hd,?_⟩
   ·omega
   ·simp[hdl]
   ·exact Tz10 h1 h5 h6 h26 h27 h28 @true_and @and_true @Ql5 @Nat.sub_sub
  ·rw[Qbv (by omega)]at hd;refine Sz6 h1 h5 h6 h26 h27 h28 ?_;refine Qcg (m:=(dig x).length-(i+1)) (by omega) ⟨i+1,_,_,rfl,by omega,?_,?_,(List.append_cons ..).symm.trans hd,?_⟩
   ·omega
   ·simp[hdl]
   ·exact Tz11 h1 h5 h6 h26 h27 h28 @true_and @and_true @Ql5 @Nat.sub_sub @Nat.add_zero
 ·obtain rfl:i=(dig x).length:=by omega
  rw[List.drop_of_length_le (Nat.le_refl _),List.drop_of_length_le hy]at hd;simp+decide (disch:=first|omega|rfl|(simp+decide only[go_sem,↓reduceIte,h5,h6,Nat.sub_self,List.replicate_zero,List.append_nil]<;>rfl)|fail) only[go_sem,↓reduceIte,h5,h6,Nat.sub_self,List.replicate_zero,List.append_nil];refine Qb (fun hq=>?_) (fun hq=>?_)
  ·refine Sz2 h5 h6 ?_;rw[Qtd (xs:=Qba done) Tz0 rfl (by omega) (by simp[hdl]) (by omega) (by omega)];refine Sz1 h5 ?_;refine Qrv rfl ?_;rw[Qfw,if_neg (by omega)]at hd;rw[PV.num,<-hd];simp[Qba,hdl,List.take_of_length_le];omega
  ·refine Sz1 h5 ?_;refine Qrv rfl ?_;rw[Qfw,if_pos (by omega)]at hd;rw[PV.num,<-hd];simp[Qba,hdl,List.take_of_length_le]
theorem Q05{a b:List Nat}(ha:Ql a)(hb:Ql b)(hla:a.length<2^40)(hlb:b.length<2^40)(hle:val b<=val a):Qd Tryz.prog 170 [PV.nat a,PV.nat b] (· = .tup [PV.num (val a-val b),.int .i64 0]):=by
 have hda:=Qau ha;have hdb:=Qau hb;have hnl:=Qbm hle;unfold nl at hda hdb hnl;refine Qf Qj Tryz.func170 rfl Qaif (by simp[c170]) fun C hP=>?_;simp only[c170];refine Sz0 ?_;refine Qa hP (Qo9 ha hb hla hlb) rfl rfl rfl ?_;have hcmp:¬Qel (val a) (val b)<0:=by unfold Qel;split<;>(try split)<;>omega
 refine Sz0 ?_;refine Qb (fun hz=>absurd hz hcmp) (fun hz=>?_);refine Sz0 ?_;refine Qa hP (Qbi ha (by omega)) rfl rfl rfl ?_;refine Sz0 ?_;refine Qa hP (Qbi hb (by omega)) rfl rfl rfl ?_;refine Sz0 ?_;generalize val a=x at *
 generalize val b=y at *
 have hxl:=Qq x;have hyl:=Qq y;have Qdy:=Q0j (dig x) (dig y) 0 (by omega) hxl hyl hnl (by rw[Q7,Q7];exact hle);rw[Q7,Q7,Nat.add_zero]at Qdy;have hvl:=Qum (dig x) (dig y) 0;have hln:=Qsf (dig x) (dig y) 0;refine Qfo (fun m fr hp=>∃i c done,m=(dig x).length-i/\i<=(dig x).length/\c<=1/\done.length=i/\done++Qh8 ((dig x).drop i) ((dig y).drop i) c=Qh8 (dig x) (dig y) 0/\
  fr 1=PV.num y/\fr 6= .ms 21 (dig x).length/\fr 7= .int .i32 (c:Nat)/\fr 22=PV.num x/\fr 23= .int .i64 (dig x).length/\fr 24= .int .i64 i/\hp=Qv hp0 21 ⟨1,115,Qba (done++List.replicate ((dig x).length-i) 0),false⟩) (dig x).length ?_ ?_
 ·refine⟨0,0,[],rfl,by omega,by omega,rfl,rfl,?_⟩;simp+decide (disch:=first|omega|rfl|(simp+decide only[go_sem,↓reduceIte,true_and,and_true,Nat.sub_zero,List.nil_append]<;>rfl)|fail) only[go_sem,↓reduceIte,true_and,and_true,Nat.sub_zero,List.nil_append];simp
 rintro _ fr _ ⟨i,c,done,rfl,hi,hc,hdl,hd,h1,h6,h7,h22,h23,h24,rfl⟩;refine Sz3 h22 h23 h24 ?_;refine Qb (fun hg=>?_) (fun hg=>?_)
 ·have hi':i<(dig x).length:=by omega
  have hxi:=Qas hxl hi';rw[Q8b hi']at hd;have hlen:=Qte (n:=(dig x).length-i) hdl (by omega:_=(dig x).length);simp+decide (disch:=first|omega|rfl|(simp+decide only[go_sem,↓reduceIte,h1,h6,h7,h22,h23,h24]<;>rfl)|fail) only[go_sem,↓reduceIte,h1,h6,h7,h22,h23,h24];refine Qke (fun fr hp=>fr 1=PV.num y/\fr 6= .ms 21 (dig x).length/\fr 8= .int .i64 i/\fr 10= .int .i32 ((dig x)[i]-(c:Int)-((dig y).getD i 0:Nat))/\(dig y).getD i 0<65536/\fr 22=PV.num x/\fr 23= .int .i64 (dig x).length/\fr 24= .int .i64 i/\hp=Qv hp0 21 ⟨1,115,Qba (done++List.replicate ((dig x).length-i) 0),false⟩) ?_ ?_
  ·refine Qb (fun hq=>?_) (fun hq=>?_)
   ·have hq':i<(dig y).length:=by omega
    have hyi:=Qas hyl hq';simp+decide (disch:=first|omega|rfl|(simp+decide only[go_sem,↓reduceIte,h1,h6,h7,h22,h23,h24,Qbu hq',true_and,and_true]<;>rfl)|fail) only[go_sem,↓reduceIte,h1,h6,h7,h22,h23,h24,Qbu hq',true_and,and_true];exact hyi
   ·simp+decide (disch:=first|omega|rfl|(simp+decide only[go_sem,↓reduceIte,h1,h6,h7,h22,h23,h24,true_and,and_true,Qbv (by omega:¬i<(dig y).length)]<;>rfl)|fail) only[go_sem,↓reduceIte,h1,h6,h7,h22,h23,h24,true_and,and_true,Qbv (by omega:¬i<(dig y).length)];simp
  clear h1 h6 h22 h23 h24;rintro fr _ ⟨h1,h6,h8,h10,hyi,h22,h23,h24,rfl⟩;generalize hw:(dig y).getD i 0=yi at *
  refine Sz1 h10 ?_;refine Qke (fun fr hp=>fr 1=PV.num y/\fr 6= .ms 21 (dig x).length/\fr 8= .int .i64 i/\fr 10= .int .i32 (((dig x)[i]+65536-c-yi)%65536:Nat)/\fr 7= .int .i32 ((if(dig x)[i]<c+yi then 1 else 0):Nat)/\fr 22=PV.num x/\fr 23= .int .i64 (dig x).length/\fr 24= .int .i64 i/\hp=Qv hp0 21 ⟨1,115,Qba (done++List.replicate ((dig x).length-i) 0),false⟩) ?_ ?_
  ·refine Qb (fun hq=>?_) (fun hq=>?_)
   ·rw[if_pos (by omega)];refine Sz9 h1 h6 h8 h10 h22 h23 h24 @true_and @and_true ?_;simp;omega
   ·rw[if_neg (by omega)];refine Sz9 h1 h6 h8 h10 h22 h23 h24 @true_and @and_true ?_;simp;omega
  clear h1 h6 h8 h10 h22 h23 h24;rintro fr _ ⟨h1,h6,h8,h10,h7,h22,h23,h24,rfl⟩;refine Sz8 h1 h6 h7 h8 h10 h22 h23 h24 ?_;refine Qcg (m:=(dig x).length-(i+1)) (by omega) ⟨i+1,_,_,rfl,by omega,?_,?_,(List.append_cons ..).symm.trans hd,?_⟩
  ·split<;>omega
  ·simp[hdl]
  ·exact Tz13 h1 h6 h7 h8 h10 h22 h23 h24 @true_and @and_true @Ql5 @Nat.sub_sub @Nat.mod_mod
 ·obtain rfl:i=(dig x).length:=by omega
  rw[List.drop_of_length_le (Nat.le_refl _),Qh8,List.append_nil]at hd;simp+decide (disch:=first|omega|rfl|(simp+decide only[go_sem,↓reduceIte,h6,Nat.sub_self,List.replicate_zero,List.append_nil]<;>rfl)|fail) only[go_sem,↓reduceIte,h6,Nat.sub_self,List.replicate_zero,List.append_nil];rw[hd];refine Qg3 hP (Qbi hvl (by omega)) (Ql6 rfl hln.symm) rfl fun hp'=>?_;refine Sz0 ?_;exact Qf9 rfl rfl rfl (Qg4 (by rw[show val (Qh8 (dig x) (dig y) 0)=x-y by omega])) (Q2 _)
theorem Qma{a b:List Nat}(ha:Ql a)(hb:Ql b)(hla:a.length<2^40)(hlb:b.length<2^40):Qd Tryz.prog 127 [PV.nat a,PV.nat b] (· =PV.num (val a*val b)):=by
 have hda:=Qau ha;have hdb:=Qau hb;unfold nl at hda hdb;refine Qf Qj Tryz.func127 rfl Qaig (by simp[c127]) fun C hP=>?_;simp only[c127];refine Sz0 ?_;refine Qa hP (Qbi ha (by omega)) rfl rfl rfl ?_;refine Sz0 ?_;refine Qa hP (Qbi hb (by omega)) rfl rfl rfl ?_;refine Sz0 ?_;generalize val a=x at *
 generalize val b=y at *
 have hxl:=Qq x;have hyl:=Qq y;refine Qab (fun hz=>?_) (fun hz=>?_)
 ·refine Sz0 ?_;have:=Qdm (by omega:(dig x).length=0);rw[Qbw]at this;exact Qeq (Qn0 (by simp[this])) rfl
 refine Sz0 ?_;refine Qb (fun hz2=>?_) (fun hz2=>?_)
 ·refine Sz0 ?_;have:=Qdm (by omega:(dig y).length=0);rw[Qbw]at this;exact Qeq (Qn0 (by simp[this])) rfl
 refine Sz0 ?_;refine Qfo (fun m fr hp=>∃i lo,m=(dig x).length-i/\i<=(dig x).length/\Ql lo/\lo.length=i+(dig y).length/\val lo=val ((dig x).take i)*val (dig y)/\
  fr 1=PV.num y/\fr 5= .ms 28 ((dig x).length+(dig y).length)/\fr 29=PV.num x/\fr 30= .int .i64 (dig x).length/\fr 31= .int .i64 i/\hp=Qv hp0 28 ⟨1,115,Qba (lo++List.replicate ((dig x).length-i) 0),false⟩) (dig x).length ?_ ?_
 ·refine⟨0,List.replicate (dig y).length 0,rfl,by omega,?_,by simp,by simp[Qxv,val],?_⟩
  ·intro z hz;rw[List.eq_of_mem_replicate hz];omega
  ·refine Sz3 @true_and @and_true @Nat.sub_zero ?_;simp[Nat.add_comm]
 rintro _ fr _ ⟨i,lo,rfl,hi,hlo,hlol,hv,h1,h5,h29,h30,h31,rfl⟩;refine Sz3 h29 h30 h31 ?_;refine Qb (fun hg=>?_) (fun hg=>?_)
 ·have hi':i<(dig x).length:=by omega
  have hxi:=Qas hxl hi';have hstep:=Qab0 hi' hlol hv;have hlims:Ql (lo.take i++Qgs (lo.drop i) (dig y) (dig x)[i] 0):=Qb5.2 ⟨Qhh hlo i,Quo _ _ _ _ (by omega) hxi (Qit hlo i) hyl⟩;have hlenr:(lo.take i++Qgs (lo.drop i) (dig y) (dig x)[i] 0).length=i+(dig y).length+1:=by rw[List.length_append,Qsg _ _ _ _ (by simp[hlol])];simp;omega
  generalize hxx:(dig x)[i]=xi at *
  refine Sz6 h1 h5 h29 h30 h31 hxx ?_;refine Qfo (fun m fr hp=>∃k c p rs,m=(dig y).length-k/\k<=(dig y).length/\c<65536/\Ql rs/\p.length=i+k/\rs.length=(dig y).length-k/\p++Qgs rs ((dig y).drop k) xi c=lo.take i++Qgs (lo.drop i) (dig y) xi 0/\
   fr 1=PV.num y/\fr 5= .ms 28 ((dig x).length+(dig y).length)/\fr 6= .int .i64 i/\fr 7= .int .u16 xi/\fr 8= .int .u32 c/\fr 29=PV.num x/\fr 30= .int .i64 (dig x).length/\fr 31= .int .i64 i/\fr 36=PV.num y/\fr 37= .int .i64 (dig y).length/\fr 38= .int .i64 k/\
   hp=Qv hp0 28 ⟨1,115,Qba (p++(rs++List.replicate ((dig x).length-i) 0)),false⟩) (dig y).length ?_ ?_
  ·refine⟨0,0,lo.take i,lo.drop i,rfl,by omega,by omega,Qit hlo i,by simp;omega,by simp;omega,rfl,?_⟩;refine Sz7 h1 h5 h29 h30 h31 @true_and @and_true ?_;rw[<-List.append_assoc,List.take_append_drop];simp
  clear h1 h5 h29 h30 h31;rintro _ fr _ ⟨k,c,p,rs,rfl,hk,hc,hrs,hpl,hrl,hinv,h1,h5,h6,h7,h8,h29,h30,h31,h36,h37,h38,rfl⟩;refine Sz3 h36 h37 h38 ?_;refine Qb (fun hq=>?_) (fun hq=>?_)
  ·have hk':k<(dig y).length:=by omega
   have hyk:=Qas hyl hk';rw[List.drop_eq_getElem_cons hk']at hinv;generalize hyy:(dig y)[k]=yk at *
   obtain _|⟨r,rs⟩:=rs
   ·simp at hrl;omega
   rw[Qa5]at hrs;have hr0:=hrs.1;have hxy:=Qf2 hxi hyk;rw[Qgs]at hinv;have hlt:i+k<(p++r::(rs++List.replicate ((dig x).length-i) 0)).length:=by simp;omega
   have hget:=Qrw hpl hlt;simp+decide (disch:=first|omega|rfl|(simp+decide only[go_sem,↓reduceIte,h1,h5,h6,h7,h8,h36,h37,h38,hyy,List.cons_append,hget]<;>rfl)|fail) only[go_sem,↓reduceIte,h1,h5,h6,h7,h8,h36,h37,h38,hyy,List.cons_append,hget];refine Qcg (m:=(dig y).length-(k+1)) (by omega) ⟨k+1,_,_,_,rfl,by omega,?_,hrs.2,?_,?_,(List.append_cons ..).symm.trans hinv,?_⟩
   ·omega
   ·simp[hpl];omega
   ·simp at hrl;omega
   ·refine Sz14 h1 h5 h6 h7 h8 h29 h30 h31 h36 h37 h38 @true_and @and_true @Qer ?_;simp
  ·obtain rfl:k=(dig y).length:=by omega
   obtain rfl:rs=[]:=List.length_eq_zero_iff.1 (by omega);rw[List.drop_of_length_le (Nat.le_refl _),Qgs]at hinv
   rotate_left
   ·intros;simp_all
   obtain⟨z,hz⟩:∃z,(dig x).length-i=z+1:=⟨(dig x).length-i-1,by omega⟩
   have hlt:i+(dig y).length<(p++0::(List.replicate z 0)).length:=by simp;omega
   simp+decide (disch:=first|omega|rfl|(simp+decide only[go_sem,↓reduceIte,h1,h5,h6,h8,h29,h30,h31,List.nil_append,hz,List.replicate_succ]<;>rfl)|fail) only[go_sem,↓reduceIte,h1,h5,h6,h8,h29,h30,h31,List.nil_append,hz,List.replicate_succ];refine Qcg (m:=(dig x).length-(i+1)) (by omega) ⟨i+1,lo.take i++Qgs (lo.drop i) (dig y) xi 0,rfl,by omega,hlims,by omega,?_,?_⟩
   ·rw[hstep]
   ·refine Sz8 h1 h5 h29 h30 h31 @true_and @and_true @Qer ?_;rw[<-hinv,show(dig x).length-(i+1)=z by omega,Nat.mod_eq_of_lt hc];simp
 ·obtain rfl:i=(dig x).length:=by omega
  rw[List.take_length,Q7,Q7]at hv;simp+decide (disch:=first|omega|rfl|(simp+decide only[go_sem,↓reduceIte,h5,Nat.sub_self,List.replicate_zero,List.append_nil]<;>rfl)|fail) only[go_sem,↓reduceIte,h5,Nat.sub_self,List.replicate_zero,List.append_nil];refine Qg3 hP (Qbi hlo (by omega)) (Ql6 rfl hlol.symm) rfl fun hp'=>?_;refine Sz0 ?_;exact Qc (by rw[hv]) rfl
theorem Q06{pre w post v:List Nat}{j m:Nat}(hw:Ql w)(hv:Ql v)(hj:pre.length=j)(hm:w.length=m)(hle:v.length<=w.length)(hlen:(pre++(w++post)).length<2^43):
  Qlm Tryz.prog 174 [.mso B0 j m,PV.nat v] 115 (Qba (pre++(w++post))) (fun r xs'=>r= .tup []/\xs'=Qba (pre++(Qg5 w v 0++post))):=by
 simp only[List.length_append]at hlen;refine Qmu Qj Tryz.func174 rfl Qail (by simp[c174]) fun C hP=>?_;simp only[c174];refine Sz0 ?_;refine Qfo (fun k fr hp=>∃i c done,k=w.length-i/\i<=w.length/\c<=1/\done.length=i/\done++Qg5 (w.drop i) (v.drop i) c=Qg5 w v 0/\
  fr 0= .mso 1000000 j m/\fr 1=PV.nat v/\fr 4= .int .u32 c/\fr 7= .int .i64 m/\fr 8= .int .i64 i/\hp=Qv hp0 1000000 ⟨1,115,Qba ((pre++done)++(w.drop i++post)),false⟩) w.length ?_ ?_
 ·refine⟨0,0,[],rfl,by omega,by omega,rfl,rfl,?_⟩;simp+decide (disch:=first|omega|rfl|(simp+decide only[go_sem,↓reduceIte,true_and,and_true,List.append_nil,List.drop_zero]<;>rfl)|fail) only[go_sem,↓reduceIte,true_and,and_true,List.append_nil,List.drop_zero];simp
 rintro _ fr _ ⟨i,c,done,rfl,hi,hc,hdl,hd,h0,h1,h4,h7,h8,rfl⟩;refine Sz2 h7 h8 ?_;refine Qb (fun hg=>?_) (fun hg=>?_)
 ·have hi':i<w.length:=by omega
  have hwi:=Qas hw hi';rw[Q8i hi']at hd;have hpl:(pre++done).length=j+i:=by simp[hj,hdl]
  rw[List.drop_eq_getElem_cons hi'];generalize hww:w[i]=wi at *
  have hlt:j+i<((pre++done)++wi::(w.drop (i+1)++post)).length:=by simp;omega
  have hget:=Qrw hpl hlt;simp+decide (disch:=first|omega|rfl|(simp+decide only[go_sem,↓reduceIte,h0,h1,h4,h7,h8,List.cons_append,hget]<;>rfl)|fail) only[go_sem,↓reduceIte,h0,h1,h4,h7,h8,List.cons_append,hget];refine Qb (fun hq=>?_) (fun hq=>?_)
  ·have hq':i<v.length:=by omega
   have hvi:=Qas hv hq';rw[Qbu hq']at hd;simp+decide (disch:=first|omega|rfl|(simp+decide only[go_sem,↓reduceIte,h0,h1,h4,h7,h8,Qer]<;>rfl)|fail) only[go_sem,↓reduceIte,h0,h1,h4,h7,h8,Qer];refine Qcg (m:=w.length-(i+1)) (by omega) ⟨i+1,_,_,rfl,by omega,?_,?_,(List.append_cons ..).symm.trans hd,?_⟩
   ·omega
   ·simp[hdl]
   ·refine Sz8 h0 h1 h4 h7 h8 @true_and @and_true @Qer ?_;simp
  ·rw[Qbv (by omega)]at hd;refine Sz6 h0 h1 h4 h7 h8 @Qer ?_;refine Qcg (m:=w.length-(i+1)) (by omega) ⟨i+1,_,_,rfl,by omega,?_,?_,(List.append_cons ..).symm.trans hd,?_⟩
   ·omega
   ·simp[hdl]
   ·refine Sz8 h0 h1 h4 h7 h8 @true_and @and_true @Qer ?_;simp
 ·obtain rfl:i=w.length:=by omega
  rw[List.drop_of_length_le (Nat.le_refl _),Qg5,List.append_nil]at hd;refine Sz0 ?_;refine Qal6 rfl (Qfp _) ?_ ⟨rfl,?_⟩
  ·simp[hdl]
  ·rw[List.drop_of_length_le (Nat.le_refl _),hd];simp
theorem Qy6{pre w post v:List Nat}{j m q:Nat}(hw:Ql w)(hv:Ql v)(hq:q<65536)(hj:pre.length=j)(hm:w.length=m)(hle:v.length<=w.length)(hlen:(pre++(w++post)).length<2^43):
  Qlm Tryz.prog 173 [.mso B0 j m,PV.nat v,.int .u32 q] 115 (Qba (pre++(w++post))) (fun r xs'=>r= .bool (decide (0<(Qdn w v q 0 0).2.2))/\xs'=Qba (pre++((Qdn w v q 0 0).1++post))):=by
 simp only[List.length_append]at hlen;refine Qmu Qj Tryz.func173 rfl Qaik (by simp[c173]) fun C hP=>?_;simp only[c173];refine Sz0 ?_;refine Qfo (fun k fr hp=>∃i c b done,k=w.length-i/\i<=w.length/\c<65536/\b<=1/\done.length=i/\done++(Qdn (w.drop i) (v.drop i) q c b).1=(Qdn w v q 0 0).1/\(Qdn (w.drop i) (v.drop i) q c b).2=(Qdn w v q 0 0).2/\
  fr 0= .mso 1000000 j m/\fr 1=PV.nat v/\fr 2= .int .u32 q/\fr 7= .int .u32 c/\fr 8= .int .i32 (b:Nat)/\fr 12= .int .i64 m/\fr 13= .int .i64 i/\hp=Qv hp0 1000000 ⟨1,115,Qba ((pre++done)++(w.drop i++post)),false⟩) w.length ?_ ?_
 ·refine⟨0,0,0,[],rfl,by omega,by omega,by omega,rfl,rfl,rfl,?_⟩;simp+decide (disch:=first|omega|rfl|(simp+decide only[go_sem,↓reduceIte,true_and,and_true,List.append_nil,List.drop_zero]<;>rfl)|fail) only[go_sem,↓reduceIte,true_and,and_true,List.append_nil,List.drop_zero];simp
 rintro _ fr _ ⟨i,c,b,done,rfl,hi,hc,hb,hdl,hd,hd2,h0,h1,h2,h7,h8,h12,h13,rfl⟩;refine Sz2 h12 h13 ?_;refine Qb (fun hg=>?_) (fun hg=>?_)
 ·have hi':i<w.length:=by omega
  have hwi:=Qas hw hi';rw[Q8j hi']at hd hd2;simp only at hd hd2;have hpl:(pre++done).length=j+i:=by simp[hj,hdl]
  rw[List.drop_eq_getElem_cons hi'];generalize hww:w[i]=wi at *
  have hlt:j+i<((pre++done)++wi::(w.drop (i+1)++post)).length:=by simp;omega
  have hget:=Qrw hpl hlt;simp+decide (disch:=first|omega|rfl|(simp+decide only[go_sem,↓reduceIte,h0,h1,h2,h7,h8,h12,h13,List.cons_append,hget]<;>rfl)|fail) only[go_sem,↓reduceIte,h0,h1,h2,h7,h8,h12,h13,List.cons_append,hget];refine Qke (fun fr hp=>c+q*v.getD i 0<=4294967295/\fr 0= .mso 1000000 j m/\fr 1=PV.nat v/\fr 2= .int .u32 q/\fr 7= .int .u32 (c+q*v.getD i 0:Nat)/\fr 8= .int .i32 (b:Nat)/\fr 9= .int .i64 i/\fr 12= .int .i64 m/\fr 13= .int .i64 i/\hp=Qv hp0 1000000 ⟨1,115,Qba ((pre++done)++wi::(w.drop (i+1)++post)),false⟩) ?_ ?_
  ·refine Qb (fun hqv=>?_) (fun hqv=>?_)
   ·have hq':i<v.length:=by omega
    have hvi:=Qas hv hq';have hqv:=Qf2 hq hvi;simp+decide (disch:=first|omega|rfl|(simp+decide only[go_sem,↓reduceIte,h0,h1,h2,h7,h8,h12,h13,Qbu hq',true_and,and_true]<;>rfl)|fail) only[go_sem,↓reduceIte,h0,h1,h2,h7,h8,h12,h13,Qbu hq',true_and,and_true];omega
   ·simp+decide (disch:=first|omega|rfl|(simp+decide only[go_sem,↓reduceIte,h0,h1,h2,h7,h8,h12,h13,true_and,and_true,Qbv (by omega:¬i<v.length),Nat.mul_zero,Nat.add_zero]<;>rfl)|fail) only[go_sem,↓reduceIte,h0,h1,h2,h7,h8,h12,h13,true_and,and_true,Qbv (by omega:¬i<v.length),Nat.mul_zero,Nat.add_zero];omega
  clear h0 h1 h2 h7 h8 h12 h13;rintro fr _ ⟨hc1,h0,h1,h2,h7,h8,h9,h12,h13,rfl⟩;generalize c+q*v.getD i 0=c1 at *
  refine Sz9 h0 h1 h2 h7 h8 h9 h12 h13 hget ?_;refine Qke (fun fr hp=>fr 0= .mso 1000000 j m/\fr 1=PV.nat v/\fr 2= .int .u32 q/\fr 7= .int .u32 (c1/65536:Nat)/\fr 8= .int .i32 ((if wi<c1%65536+b then 1 else 0):Nat)/\fr 9= .int .i64 i/\fr 10= .int .i32 ((wi+65536-c1%65536-b)%65536:Nat)/\fr 12= .int .i64 m/\fr 13= .int .i64 i/\hp=Qv hp0 1000000 ⟨1,115,Qba ((pre++done)++wi::(w.drop (i+1)++post)),false⟩) ?_ ?_
  ·refine Qb (fun hq=>?_) (fun hq=>?_)
   ·rw[if_pos (by omega)];refine Qkz h0 h1 h2 h7 h8 h9 h12 h13 @true_and @and_true ?_;simp;omega
   ·rw[if_neg (by omega)];refine Qkz h0 h1 h2 h7 h8 h9 h12 h13 @true_and @and_true ?_;simp;omega
  clear h0 h1 h2 h7 h8 h9 h12 h13;rintro fr _ ⟨h0,h1,h2,h7,h8,h9,h10,h12,h13,rfl⟩;refine Qkz h0 h1 h2 h7 h8 h9 h10 h12 h13 @Qer ?_;refine Qcg (m:=w.length-(i+1)) (by omega) ⟨i+1,c1/65536,_,_,rfl,by omega,by omega,?_,?_,(List.append_cons ..).symm.trans hd,hd2,?_⟩
  ·split<;>omega
  ·simp[hdl]
  ·refine Sz13 h0 h1 h2 h7 h8 h9 h10 h12 h13 @true_and @and_true @Qer @Nat.mod_mod ?_;simp
 ·obtain rfl:i=w.length:=by omega
  rw[List.drop_of_length_le (Nat.le_refl _),Qdn]at hd hd2;simp only[List.append_nil]at hd;refine Sz1 h8 ?_;refine Q8k (p:=.bool (decide (0<(b:Int)))) rfl (Qfp _) ?_ Tz0 rfl ⟨?_,?_⟩
  ·simp[hdl]
  ·rw[<-hd2];simp
  ·rw[List.drop_of_length_le (Nat.le_refl _),hd];simp
theorem Qy7{v u:List Nat}{dg n r j:Nat}(hv:Ql v)(hu:Ql u)(hn:2<=n)(hnv:n=v.length)(hju:j+n<u.length)(hd:dg<4294967296)(hr:r<65536)(hul:u.length<2^43):
  Qd Tryz.prog 172 [.pt [.int .u64 dg],.pt [PV.nat v],.pt [.int .i64 n],.pt [.int .u64 r],.pt [PV.nat u],.pt [.int .i64 j]]
   (· = .bool (decide (65536<=dg∨r*65536+u.getD (j+n-2) 0<dg*v.getD (n-2) 0))):=by
 have h1:n-2<v.length:=by omega
 have h2:j+n-2<u.length:=by omega
 have hv1:=Qas hv h1;have hu1:=Qas hu h2;rw[Qbu h1,Qbu h2];refine Qf Qj Tryz.func172 rfl Qaij (by simp[c172]) fun C hP=>?_;simp only[c172];refine Sz0 ?_;refine Qab (fun hz=>?_) (fun hz=>?_)
 ·refine Sz0 ?_;exact Qc (by simp;omega) rfl
 ·have hd':dg<65536:=by omega
  have e1:(n:Int)-2=((n-2:Nat):Int):=by omega
  have e2:((j+n:Nat):Int)-2=((j+n-2:Nat):Int):=by omega
  generalize hvv:v[n-2]=vi at *
  generalize huu:u[j+n-2]=ui at *
  have hm:=Qf2 hd' hv1;refine Sz6 e1 e2 hvv huu @Qql @Qth ?_;exact Qc (congrArg PV.bool (decide_eq_decide.2 ⟨fun h=>.inr (by omega),fun h=>by rcases h with h|h<;>omega⟩)) rfl
theorem Q53{l post:List Nat}(hv:Ql l)(hl:(l++post).length<2^43)(hlen:0<l.length):
  Qlm Tryz.prog 153 [.mso B0 0 l.length] 115 (Qba (l++post)) (fun r xs'=>r= .mso B0 0 (nl (val l))/\xs'=Qba (l++post)):=by
 simp only[List.length_append]at hl;have hlen2:l.length<=(l++post).length:=by simp
 refine Qmu Qj Tryz.func153 rfl Q35 (by simp[Q04]) fun C hP=>?_;simp only[Q04];refine Sz0 ?_;refine Qfo (fun m fr hp=>m<=l.length/\cut l m=dig (val l)/\fr 0= .mso 1000000 0 l.length/\fr 3= .int .i64 m/\hp=Qv hp0 1000000 ⟨1,115,Qba (l++post),false⟩) l.length ?_ ?_
 ·exact⟨Nat.le_refl _,Qnx hv,rfl,rfl,rfl⟩
 rintro n fr _ ⟨hn,hc,h0,h3,rfl⟩;refine Sz2 h0 h3 ?_;refine Qat (fun hg=>?_) (fun hg=>?_)
 ·obtain _|n:=n
  ·omega
  have e:((n+1:Nat):Int)-1=n:=by omega
  have hlt:n<(l++post).length:=by simp;omega
  have hget:(l++post)[n]=l[n]:=by simp[List.getElem_append,show n<l.length by omega]
  refine Sz4 h0 h3 e hget ?_;simp only[cut]at hc;refine Qb (fun hz=>?_) (fun hz=>?_)
  ·rw[if_pos (by grind)]at hc;refine Sz3 h0 h3 e ?_;refine Qcg (m:=n) (by omega) ⟨by omega,hc,?_⟩;exact Tz3 h0 @true_and @and_true
  ·rw[if_neg (by grind)]at hc;have hnl:nl (val l)=n+1:=by rw[nl,<-hc];simp;omega
   refine Sz2 h0 h3 ?_;exact Q3o rfl (Qfp _) (by simp) (Tz1 hnl) ⟨rfl,rfl⟩
 ·obtain rfl:n=0:=by omega
  have hnl:nl (val l)=0:=by rw[nl,<-hc,cut];rfl
  refine Sz2 h0 h3 ?_;exact Q3o rfl (Qfp _) (by simp) (Tz1 hnl) ⟨rfl,rfl⟩
theorem Qnd{a:List Nat}{s:Nat}(ha:Ql a)(hla:a.length<2^40)(hs:s<=15)(hne:val a≠0):Qn1 Tryz.prog 165 [PV.nat a,.int .i64 s] 115 (fun ys=>ys=Qba (dig (val a*2^s))):=by
 have hda:=Qau ha;unfold nl at hda;have hnz:(dig (val a)).length≠0:=by intro h;exact hne (Qbw.1 (Qdm h))
 refine Q8g Qj Tryz.func165 rfl Qw3 (by simp[Qto]) fun C hP=>?_;simp only[Qto];refine Sz0 ?_;refine Qa hP (Qbi ha (by omega)) rfl rfl rfl ?_;refine Sz0 ?_;generalize val a=x at *
 have hxl:=Qq x;have e1:s/16=0:=Nat.div_eq_of_lt (by omega);have e2:s%16=s:=Nat.mod_eq_of_lt (by omega);refine Qab (fun hz=>by omega) (fun hz=>?_);refine Sz0 ?_;refine Qab (fun hz=>by omega) (fun hz=>?_);refine Sz0 ?_;refine Qb (fun hz=>by omega) (fun hz=>?_);refine Sz0 ?_;refine Qb (fun hz=>by omega) (fun hz=>?_);refine Sz4 @Qxz @Qx0 e1 e2 ?_;refine Qfo (fun k fr hp=>∃i c done,k=(dig x).length-i/\i<=(dig x).length/\c<2^s/\done.length=i/\done++Qjk s ((dig x).drop i) c=Qjk s (dig x) 0/\
  fr 5= .int .i64 (0:Nat)/\fr 6= .int .i64 s/\fr 7= .ms 44 ((dig x).length+1)/\fr 45=PV.num x/\fr 46= .int .i64 (dig x).length/\fr 47= .int .i64 i/\
  hp=Qv hp0 44 ⟨1,115,Qba (done++c::List.replicate ((dig x).length-i) 0),false⟩) (dig x).length ?_ ?_
 ·refine⟨0,0,[],rfl,by omega,Nat.pow_pos (by omega),rfl,rfl,?_⟩;simp+decide (disch:=first|omega|rfl|(simp+decide only[go_sem,↓reduceIte,true_and,and_true,List.nil_append,Nat.sub_zero]<;>rfl)|fail) only[go_sem,↓reduceIte,true_and,and_true,List.nil_append,Nat.sub_zero];simp[List.replicate_succ]
 rintro _ fr _ ⟨i,c,done,rfl,hi,hc,hdl,hd,h5,h6,h7,h45,h46,h47,rfl⟩;refine Sz3 h45 h46 h47 ?_;have hp15:2^s<=2^15:=Nat.pow_le_pow_right (by omega) hs;refine Qb (fun hg=>?_) (fun hg=>?_)
 ·have hi':i<(dig x).length:=by omega
  have hxi:=Qas hxl hi';rw[List.drop_eq_getElem_cons hi',Qjk]at hd;generalize hxx:(dig x)[i]=xi at *
  obtain⟨z,hz⟩:∃z,(dig x).length-i=z+1:=⟨(dig x).length-i-1,by omega⟩
  have hlt:i<(done++c::List.replicate (z+1) 0).length:=by simp;omega
  have hget:=Qrw hdl hlt;have hsp:=Q0o (x:=xi) (show s<=16 by omega) hc;have hcl:=Qx1 (show s<=16 by omega) hxi;have hl:=Qal8 hs hxi;refine Sz13 h5 h6 h7 h45 h46 h47 hxx hz hget @Q3q @Qal7 hsp.2 @Qer ?_;have hset:∀v u,(done++v::List.replicate (z+1) 0).set (i+1) u=(done++[v])++u::List.replicate z 0:=fun v u=>by rw[List.append_cons,List.replicate_succ,Qer (by simp[hdl])]
  rw[Q79 (by simp;omega),hset,Nat.mod_eq_of_lt (by omega:xi*2^s/65536<65536)];refine Sz6 h5 h6 h7 h45 h46 h47 ?_;refine Qcg (m:=(dig x).length-(i+1)) (by omega) ⟨i+1,xi*2^s/65536,done++[xi*2^s%65536+c],rfl,by omega,hcl,by simp[hdl],(List.append_cons ..).symm.trans hd,?_⟩;refine Sz8 h5 h6 h7 h45 h46 h47 @true_and @and_true ?_;rw[show(dig x).length-(i+1)=z by omega]
 ·obtain rfl:i=(dig x).length:=by omega
  rw[List.drop_of_length_le (Nat.le_refl _),Qjk]at hd;have hlim:=Quu hs (dig x) 0 hxl (Nat.pow_pos (by omega));have hvs:=Q0n s (dig x) 0;have hln:=Qsj s (dig x) 0;rw[Q7,Nat.add_zero]at hvs;rw[<-hd]at hlim hvs hln;have hnz2:x*2^s≠0:=Nat.mul_ne_zero hne (Nat.ne_of_gt (Nat.pow_pos (by omega)));simp+decide (disch:=first|omega|rfl|(simp+decide only[go_sem,↓reduceIte,h7,Nat.sub_self,List.replicate_zero]<;>rfl)|fail) only[go_sem,↓reduceIte,h7,Nat.sub_self,List.replicate_zero];have ht:=Q53 (l:=done++[c]) (post:=[]) hlim (by simp[hdl];omega) (by simp);rw[List.append_nil,hvs]at ht;refine Qup hP ht (β:=44) Tz0 (Qfp _) (by simp) (by simp[toB,hln]) rfl ?_;rintro r xs' _ _ ⟨rfl,rfl⟩;simp+decide (disch:=first|omega|rfl|(simp+decide only[go_sem,↓reduceIte,Qhj]<;>rfl)|fail) only[go_sem,↓reduceIte,Qhj];refine⟨4,44,nl (x*2^s),_,rfl,by simp+decide (disch:=first|omega|rfl|(simp+decide only[go_sem,↓reduceIte]<;>rfl)|fail) only[go_sem,↓reduceIte],rfl,by simp+decide (disch:=first|omega|rfl|(simp+decide only[go_sem,↓reduceIte]<;>rfl)|fail) only[go_sem,↓reduceIte];rfl,Qfp _,?_,?_⟩
  ·have:= @Qiu (x*2^s);omega
  ·rw[<-hvs,<-List.map_take,Qab2 hlim]
theorem Q54{a:List Nat}{s:Nat}(ha:Ql a)(hla:a.length<2^42)(hs:s<=15):Qd Tryz.prog 171 [PV.nat a,.int .i64 s] (· =PV.num (val a/2^s)):=by
 have e1:s/16=0:=Nat.div_eq_of_lt (by omega);have e2:s%16=s:=Nat.mod_eq_of_lt (by omega);refine Qf Qj Tryz.func171 rfl Qain (by simp[c171]) fun C hP=>?_;simp only[c171];refine Sz4 @Qxz @Qx0 e1 e2 ?_;refine Qb (fun hz=>?_) (fun hz=>?_)
 ·have:a=[]:=List.length_eq_zero_iff.1 (by omega);subst this;refine Sz0 ?_;exact Qeq (Qn0 (by simp[val])) rfl
 have e3:((a.length:Int)-((0:Nat):Int))=((a.length:Nat):Int):=by omega
 refine Sz1 e3 ?_;refine Qy (by repeat (first|exact Qu|exact Qn|exact Qo|exact Qk|exact Qp|apply Qm|apply Qt|apply Qw|apply Q5|apply Q6|apply Qi)) [(8,9),(25,60)] [] (fun k J hp=>∃i done,k=a.length-i/\i<=a.length/\done.length=i/\done++Qix s (a.drop i)=Qix s a/\J 25= .int .i64 i/\
  hp=Qv hp0 22 ⟨1,115,Qba (done++List.replicate (a.length-i) 0),false⟩) a.length ?_ ?_
 ·refine⟨0,[],rfl,by omega,rfl,rfl,?_⟩;simp+decide (disch:=first|omega|rfl|(simp+decide only[go_sem,↓reduceIte,true_and,and_true,List.nil_append,Nat.sub_zero]<;>rfl)|fail) only[go_sem,↓reduceIte,true_and,and_true,List.nil_append,Nat.sub_zero];simp
 rintro _ J _ ⟨i,done,rfl,hi,hdl,hd,h25,rfl⟩;refine Sz1 h25 ?_;refine Qb (fun hg=>?_) (fun hg=>?_)
 ·have hi':i<a.length:=by omega
  have hai:=Qas ha hi';rw[Q8q hi']at hd;generalize hxx:a[i]=xi at *
  have hlen:=Qte (n:=a.length-i) hdl (by omega:_=a.length);refine Sz2 h25 hxx ?_;refine Qb (fun hq=>?_) (fun hq=>?_)
  ·have hq':i+1<a.length:=by omega
   have haj:=Qas ha hq';rw[Qbu hq']at hd;simp+decide (disch:=first|omega|rfl|(simp+decide only[go_sem,↓reduceIte,h25,Qqm,Qxy,Qws]<;>rfl)|fail) only[go_sem,↓reduceIte,h25,Qqm,Qxy,Qws];refine Qh (a.length-(i+1)) (by omega) ⟨i+1,_,rfl,by omega,by simp[hdl],(List.append_cons ..).symm.trans hd,?_⟩;exact Tz5 h25 @true_and @and_true @Ql5 @Nat.sub_sub
  ·rw[Qbv (by omega),Nat.zero_mul,Nat.zero_add]at hd;refine Sz2 h25 @Qws ?_;refine Qh (a.length-(i+1)) (by omega) ⟨i+1,_,rfl,by omega,by simp[hdl],(List.append_cons ..).symm.trans hd,?_⟩;exact Tz5 h25 @true_and @and_true @Ql5 @Nat.sub_sub
 ·obtain rfl:i=a.length:=by omega
  rw[List.drop_of_length_le (Nat.le_refl _),Qix,List.append_nil]at hd;simp+decide (disch:=first|omega|rfl|(simp+decide only[go_sem,↓reduceIte,Nat.sub_self,List.replicate_zero,List.append_nil]<;>rfl)|fail) only[go_sem,↓reduceIte,Nat.sub_self,List.replicate_zero,List.append_nil];rw[hd];refine Qg3 hP (Qbi (Quv s a) (by rw[Qnb];exact hla)) (Ql6 rfl (Qnb s a).symm) rfl fun hp'=>?_;refine Sz0 ?_;exact Qc (by rw[Q0q (by omega) a ha]) rfl
theorem Q2n{x V d q:Nat}(hd:0<d)(h:q=V/d):(V%d*65536+x)/d+65536*q=(x+65536*V)/d/\(V%d*65536+x)%d=(x+65536*V)%d:=by
 subst h;have e:x+65536*V=(V%d*65536+x)+d*(65536*(V/d)):=by
  have:=Nat.div_add_mod V d
  calc x+65536*V=x+65536*(d*(V/d)+V%d):=by rw[this]
   _=_:=by rw[Nat.mul_add,Nat.mul_left_comm];omega
 rw[e,Nat.add_mul_div_left _ _ hd,Nat.add_mul_mod_self_left];exact⟨rfl,rfl⟩
theorem Q2o{a:List Nat}{d:Nat}(ha:Ql a)(hla:a.length<2^42)(hd:0<d)(hd2:d<65536):Qd Tryz.prog 163 [PV.nat a,.int .u16 d] (· = .tup [PV.num (val a/d),.int .u16 (val a%d:Nat)]):=by
 refine Qf Qj Tryz.func163 rfl Qaih (by simp[c163]) fun C hP=>?_;simp only[c163];refine Sz0 ?_;refine Qy (by repeat (first|exact Qu|exact Qn|exact Qo|exact Qk|exact Qp|apply Qm|apply Qt|apply Qw|apply Q5|apply Q6|apply Qi)) [(7,8),(15,38)] [] (fun k J hp=>∃qs,k<=a.length/\qs.length=a.length-k/\Ql qs/\val qs=val (a.drop k)/d/\J 7= .int .u32 (val (a.drop k)%d:Nat)/\J 8= .int .i64 ((k:Int)-1)/\
  hp=Qv hp0 11 ⟨1,115,Qba (List.replicate k 0++qs),false⟩) a.length ?_ ?_
 ·refine⟨[],Nat.le_refl _,by simp,Qdc,by simp[val],?_⟩;refine Sz2 @true_and @and_true ?_;simp[val]
 rintro k J _ ⟨qs,hk,hql,hqs,hv,h7,h8,rfl⟩;refine Sz2 h7 h8 ?_;have hr:=Nat.mod_lt (val (a.drop k)) hd;refine Qb (fun hg=>?_) (fun hg=>?_)
 ·obtain _|n:=k
  ·omega
  have hn:n<a.length:=by omega
  have han:=Qas ha hn;have e:((n+1:Nat):Int)-1=n:=by omega
  have hst:=Q2n (x:=a[n]) hd hv;rw[<-Qda hn]at hst;have hlt:(val (a.drop (n+1))%d*65536+a[n])/d<65536:=by rw[Nat.div_lt_iff_lt_mul hd];have:(val (a.drop (n+1))%d+1)*65536<=d*65536:=Nat.mul_le_mul_right _ hr;omega
  generalize hxx:a[n]=xn at *
  generalize val (a.drop (n+1))%d=r at *
  have hlen:n<(List.replicate (n+1) 0++qs).length:=by simp;omega
  refine Sz8 h7 h8 e hxx @Qqm @Qab1 @Qahd @Qgm ?_;refine Qh n (by omega) ⟨(r*65536+xn)/d::qs,by omega,?_,?_,?_,?_⟩
  ·simp;omega
  ·rw[Qa5];exact⟨hlt,hqs⟩
  ·rw[val,hst.1]
  ·refine Sz5 h7 h8 @true_and @and_true hst.2 ?_;rw[Nat.mod_eq_of_lt hlt,List.replicate_succ',List.append_assoc,List.singleton_append,Qer (by simp)]
 ·obtain rfl:k=0:=by omega
  rw[List.drop_zero]at hv h7;have hlt:=Nat.mod_lt (val a) hd;simp+decide (disch:=first|omega|rfl|(simp+decide only[go_sem,↓reduceIte,h7,h8,List.replicate_zero,List.nil_append]<;>rfl)|fail) only[go_sem,↓reduceIte,h7,h8,List.replicate_zero,List.nil_append];refine Qg3 hP (Qbi hqs (by omega)) (Ql6 rfl (by omega)) rfl fun hp'=>?_;refine Sz1 h7 ?_;refine Qf9 rfl rfl rfl (Qg4 (by rw[hv])) (Qg4 ?_);rw[Nat.mod_eq_of_lt (by omega)]
theorem Qu5{x:Nat}(h:x<65536):Qd Tryz.prog 167 [.int .u16 x] (· = .int .i64 (Lib.bitLen x:Nat)):=
 Q2h (by simp[Ql3];exact⟨rfl,by decide⟩) (fun w=>Q2p x w (by omega) (by omega)) (fun _ _=>Qs.int _ _)
theorem Qne{x:Nat}(h:x<65536):Lib.bitLen x<=16:=Lib.bitLen_le x 16 (by omega) (by omega)
theorem Qpa{x:Nat}(h:x<65536)(h0:x≠0):1<=Lib.bitLen x:=by have:=Lib.bitLen_half x h0 (by omega);omega
theorem Q2q:Lib.bitLen 0=0:=by decide
theorem Q55:∀(n x:Nat),Lib.bitLen x=n->x≠0->x<65536->2^n<=2*x/\x<2^n:=by
 intro n;induction n with
 |zero=>intro x h h0 hx;have:=Qpa hx h0;omega
 | succ n ih=>
  intro x h h0 hx;have e:=Lib.bitLen_half x h0 (by omega);by_cases h2:x/2=0
  ·have:x=1:=by omega
   subst this;have:n=0:=by rw[h]at e;simp[Q2q]at e;exact e
   subst this;simp
  ·have:=ih (x/2) (by omega) h2 (by omega);rw[Nat.pow_succ];omega
theorem Qp5{x:Nat}(h:x<65536):Qd Tryz.prog 164 [.int .u16 x] (· = .int .i64 (16-Lib.bitLen x:Nat)):=by have:=Qne h;refine Qf Qj Tryz.func164 rfl Qaio (by simp[c164]) fun C hP=>?_;simp only[c164];refine Sz0 ?_;refine Qa hP (Qu5 h) rfl rfl rfl ?_;refine Sz0 ?_;exact Qc (by congr 1;omega) rfl
theorem Qyi{a:List Nat}(ha:Ql a)(hla:a.length<2^40):Qd Tryz.prog 151 [PV.nat a] (fun r=>∃n:Nat,r= .int .i64 n/\(n=0↔val a=0)):=by
 have hd:=Qau ha;unfold nl at hd;refine Qf Qj Tryz.func151 rfl Qaic (by simp[c151]) fun C hP=>?_;simp only[c151];refine Sz0 ?_;refine Qa hP (Qbi ha (by omega)) rfl rfl rfl ?_;refine Sz0 ?_;refine Qb (fun hz=>?_) (fun hz=>?_)
 ·refine Sz0 ?_;have:val a=0:=Qbw.1 (List.length_eq_zero_iff.1 (by omega));exact⟨rfl,_,Q2 _,0,rfl,by simp[this]⟩
 ·have hne:val a≠0:=fun h=>by rw[h,Qa7]at hz;simp at hz
  have hlast:=Ql4 (val a);have hlx:=Qq (val a);generalize val a=x at *
  obtain⟨k,hk⟩:∃k,(dig x).length=k+1:=⟨(dig x).length-1,by omega⟩
  have hlt:k<(dig x).length:=by omega
  have hxk:=Qas hlx hlt;have hnz:(dig x)[k]≠0:=by intro h;apply hlast;rw[List.getLast?_eq_getElem?,hk,Nat.add_sub_cancel,List.getElem?_eq_getElem hlt,h]
  have e:((k+1:Nat):Int)-1=k:=by omega
  generalize hxx:(dig x)[k]=xi at *
  have hb:=Qne hxk;have hb1:=Qpa hxk hnz;refine Sz3 hk e hxx ?_;refine Qa hP (Qu5 hxk) rfl rfl rfl ?_;have e2:(16:Int)*(k:Int)=((16*k:Nat):Int):=by omega
  refine Sz1 e2 ?_;exact⟨rfl,_,Q2 _,16*k+Lib.bitLen xi,rfl,by omega⟩
theorem Qarb(i:Nat):2^(16*i)=65536^i:=by rw[Nat.pow_mul]
theorem Qqu{a:List Nat}(ha:Ql a)(hla:a.length<2^40):Qd Tryz.prog 149 [PV.nat a] (· =if nl (val a)<=4 then .tup [.int .u64 (val a),.bool true]else .tup [.int .u64 0,.bool false]):=by
 have hd:=Qau ha;unfold nl at hd;refine Qf Qj Tryz.func149 rfl Qaib (by simp[c149]) fun C hP=>?_;simp only[c149];refine Sz0 ?_;refine Qa hP (Qbi ha (by omega)) rfl rfl rfl ?_;refine Sz0 ?_;have hlx:=Qq (val a);have Qdy:=Q7 (val a);unfold nl;generalize val a=x at *
 refine Qb (fun hz=>?_) (fun hz=>?_)
 ·refine Sz0 ?_;rw[if_neg (by omega)];exact Qf9 rfl rfl rfl (Q2 _) (Q2 _)
 ·refine Sz0 ?_;rw[if_pos (by omega)];refine Qy (by repeat (first|exact Qu|exact Qn|exact Qo|exact Qk|exact Qp|apply Qm|apply Qt|apply Qw|apply Q5|apply Q6|apply Qi)) [(4,6),(14,26)] [] (fun k J hp=>∃i,k=(dig x).length-i/\i<=(dig x).length/\J 14= .int .i64 i/\J 4= .int .u64 (val ((dig x).take i))/\hp=hp0) (dig x).length ?_ ?_
  ·refine⟨0,rfl,by omega,?_⟩;simp+decide (disch:=first|omega|rfl|(simp+decide only[go_sem,↓reduceIte,true_and,and_true,List.take_zero]<;>rfl)|fail) only[go_sem,↓reduceIte,true_and,and_true,List.take_zero];simp[val]
  rintro _ J _ ⟨i,rfl,hi,h14,h4,rfl⟩;refine Sz2 h14 h4 ?_;refine Qb (fun hg=>?_) (fun hg=>?_)
  ·have hi':i<(dig x).length:=by omega
   have hxi:=Qas hlx hi';have hts:=Qgk hi';have hvt:=Qem hlx i (by omega);generalize hxx:(dig x)[i]=xi at *
   have e2:(16:Int)*(i:Int)=((16*i:Nat):Int):=by omega
   have hb:xi*2^(16*i)+2^(16*i)<=18446744073709551616:=by have h3:2^(16*i)<=2^48:=Nat.pow_le_pow_right (by omega) (by omega);have:(xi+1)*2^(16*i)<=65536*2^48:=Nat.mul_le_mul (by omega) h3;rw[Nat.add_mul]at this;omega
   have hpp:0<2^(16*i):=Nat.pow_pos (by omega);rw[<-Qarb]at hts hvt;have hor:(val ((dig x).take i)|||xi*2^(16*i))=val ((dig x).take (i+1)):=by rw[Nat.or_comm,Qqk hvt,hts,Nat.mul_comm,Nat.add_comm]
   refine Sz7 h14 h4 hxx e2 @Q3p @Q8l hor ?_;refine Qh ((dig x).length-(i+1)) (by omega) ⟨i+1,rfl,by omega,?_⟩;exact Tz3 h14 @true_and @and_true
  ·obtain rfl:i=(dig x).length:=by omega
   rw[List.take_length,Qdy]at h4;refine Sz1 h4 ?_;exact Qf9 rfl rfl rfl (Q2 _) (Q2 _)
set_option maxHeartbeats 2000000 in
theorem Q9l{u v ex:List Nat}(hu:Ql u)(hv:Ql v)(hn:2<=v.length)(hlt:v.length<u.length)(htop:32768<=v.getD (v.length-1) 0)(hinit:val (u.drop (u.length-v.length))<val v)(hul:u.length+ex.length<2^42):
  Qlm Tryz.prog 166 [.mso B0 0 u.length,PV.nat v] 115 (Qba (u++ex)) (fun r xs'=>r=PV.num (val u/val v)/\∃l,xs'=Qba (l++ex)/\Ql l/\l.length=u.length/\val l=val u%val v):=by
 obtain⟨n,hnv⟩:∃n,v.length=n+2:=⟨v.length-2,by omega⟩
 have e1:(u.length:Int)-(v.length:Int)=((u.length-v.length:Nat):Int):=by omega
 have hvt:=Q3t hnv;have hv0:=Qem hv n (by omega);have hvlt:=Qgj hv;have hv1:=Qas hv (show n+1<v.length by omega);have hv2:=Qas hv (show n<v.length by omega);have hg1:v[n+1]'(by omega)=v.getD (n+1) 0:=(Qbu _).symm;have hg2:v[n]'(by omega)=v.getD n 0:=(Qbu _).symm;have htop':32768<=v.getD (n+1) 0:=by rw[hnv]at htop;exact htop
 rw[hg1]at hv1;rw[hg2]at hv2;rw[hnv]at hvlt;have hvp:0<val v:=by rw[hvt];have:0<65536^n:=Nat.pow_pos (by omega);have:0<(v.getD (n+1) 0*65536+v.getD n 0)*65536^n:=Nat.mul_pos (by omega) this;omega
 refine Qmu Qj Tryz.func166 rfl Qajc (by simp[c166]) fun C hP=>?_;simp only[c166];refine Sz1 e1 ?_;refine Q0r (by repeat (first|exact Qu|exact Qn|exact Qo|exact Qk|exact Qp|apply Qm|apply Qt|apply Qw|apply Q5|apply Q6|apply Qi)) [(7,11),(24,105)] [7,9,10] (fun k J hp=>∃l qs,k+qs.length=u.length-v.length/\Ql l/\l.length=u.length/\Ql qs/\val (l.drop k)<val v/\val u=val l+val v*(65536^k*val qs)/\J 7= .mp 7 0 0/\
  hp 7=some ⟨1,3,[.int .i64 ((k:Int)-1)],false⟩/\hp 1000000=some ⟨1,115,Qba (l++ex),false⟩/\hp 18=some ⟨1,115,Qba (List.replicate k 0++qs),false⟩/\
  hp 3=some ⟨1,47,[PV.nat v],false⟩/\hp 5=some ⟨1,3,[.int .i64 v.length],false⟩) (u.length-v.length) ?_ ?_
 ·refine⟨u,[],rfl,hu,rfl,Qdc,hinit,by simp[val],?_⟩;refine Sz2 @true_and @and_true ?_;simp
 intro F hF;have hF2:F 2= .rb 1000000 0 u.length:=by rw[hF];simp+decide (disch:=first|omega|rfl|(simp+decide only[go_sem,↓reduceIte]<;>rfl)|fail) only[go_sem,↓reduceIte]
 have hF3:F 3= .mp 3 0 0:=by rw[hF];simp+decide (disch:=first|omega|rfl|(simp+decide only[go_sem,↓reduceIte]<;>rfl)|fail) only[go_sem,↓reduceIte]
 have hF5:F 5= .mp 5 0 0:=by rw[hF];simp+decide (disch:=first|omega|rfl|(simp+decide only[go_sem,↓reduceIte]<;>rfl)|fail) only[go_sem,↓reduceIte]
 have hF6:F 6= .ms 18 (u.length-v.length):=by rw[hF];simp+decide (disch:=first|omega|rfl|(simp+decide only[go_sem,↓reduceIte]<;>rfl)|fail) only[go_sem,↓reduceIte]
 have hkF:∀β,[7,9,10].contains β=true->Qa2 β F=F:=fun β h=>by rw[hF];exact Qi0 h
 have hk9:=hkF 9 rfl;have hk10:=hkF 10 rfl;have hk7:=hkF 7 rfl;have hkk:Qah [9,10] F=F:=by rw[hF];exact Qy5 rfl
 clear hkF hF;rintro k J h ⟨l,qs,hsum,hl,hll,hqs,hred,Qdy,hJ7,hh7,hhB,hh18,hh3,hh5⟩;refine Qkz @hJ7 hh7 @hhB hh18 hh3 hh5 @hF2 @hF3 @hF5 @hF6 ?_;refine Qb (fun hg=>?_) (fun hg=>?_)
 ·obtain _|j:=k
  ·omega
  have e2:((j+1:Nat):Int)-1=j:=by omega
  have e3:((n+2:Nat):Int)-1=((n+1:Nat):Int):=by omega
  have e4:((j+(n+2):Nat):Int)-1=((j+(n+1):Nat):Int):=by omega
  obtain⟨pre,w,post,hlw,hpl,hwl,hpre,hw,hpost,hpost0,hdj,hwlt,w0,hw0,hwv⟩:=Qama (n:=n) hl (by omega) (by omega) hred;have hl2:=Qas hl (show j+(n+2)<l.length by omega);have hl1:=Qas hl (show j+(n+1)<l.length by omega);have hl0:=Qas hl (show j+n<l.length by omega);have hlel:(l++ex).length=u.length+ex.length:=by rw[List.length_append,hll]
  have hgl2:(l++ex)[j+(n+2)]'(by omega)=l.getD (j+(n+2)) 0:=by rw[List.getElem_append_left (by omega)];exact(Qbu _).symm
  have hgl1:(l++ex)[j+(n+1)]'(by omega)=l.getD (j+(n+1)) 0:=by rw[List.getElem_append_left (by omega)];exact(Qbu _).symm
  rw[<-Qbu (by omega)]at hl2 hl1;have htk2:(Qba (l++ex)).take u.length=Qba l:=by rw[<-List.map_take,<-hll,List.take_left]
  have hlw2:l++ex=pre++(w++(post++ex)):=by rw[hlw];simp
  generalize l.getD (j+(n+2)) 0=w2 at *
  generalize l.getD (j+(n+1)) 0=w1 at *
  simp+decide (disch:=first|omega|rfl|(simp+decide only[go_sem,↓reduceIte,hJ7,hh7,hhB,hh18,hh3,hh5,hF2,hF3,hF5,hF6,hnv,e2,e3,e4,hgl2,hgl1,hg1,Qql,Qth,Qn2,Qgm]<;>rfl)|fail) only[go_sem,↓reduceIte,hJ7,hh7,hhB,hh18,hh3,hh5,hF2,hF3,hF5,hF6,hnv,e2,e3,e4,hgl2,hgl1,hg1,Qql,Qth,Qn2,Qgm];have hwl2:w.length=n+3:=hwl;have hdigit:=Q5m hvt hwv hw0 (by rw[<-Qbu (show j+n<l.length by omega)]at hl0;omega) (by omega:0<v.getD (n+1) 0);have hhi:=Qacb hvt hwv hv0 hwlt (Nat.pow_pos (by omega));have hdm:=Nat.div_add_mod (w2*65536+w1) (v.getD (n+1) 0);have hdlt:(w2*65536+w1)/v.getD (n+1) 0<131072:=by rw[Nat.div_lt_iff_lt_mul (by omega)];omega
  have hrlt:=Nat.mod_lt (w2*65536+w1) (by omega:0<v.getD (n+1) 0);rw[Nat.mul_comm]at hdm;generalize hd0:(w2*65536+w1)/v.getD (n+1) 0=d0 at *
  generalize hr0:(w2*65536+w1)%v.getD (n+1) 0=r0 at *
  have hcomm:∀(h:HP) v w,Qv (Qv h 10 v) 9 w=Qv (Qv h 9 w) 10 v:=fun h v w=>Q8t 10 9 (by decide) h v w;refine Qahh (fun J=>J 7= .mp 7 0 0/\J 52= .int .u64 d0/\J 53= .int .u64 (w2*65536+w1:Nat)) (Tz3 @hJ7 @true_and @and_true) ?_;clear hJ7;rintro J ⟨hJ7,hJ52,hJ53⟩;refine Qacc (by repeat (first|exact Qu|exact Qn|exact Qo|exact Qk|exact Qp|apply Qm|apply Qt|apply Qw|apply Q5|apply Q6|apply Qi)) [9,10] (fun J2 hp2=>J2 7= .mp 7 0 0/\J2 9= .mp 9 0 0/\J2 10= .mp 10 0 0/\hp2=Qv (Qv h 9 ⟨1,94,[.int .u64 d0],false⟩) 10 ⟨1,94,[.int .u64 r0],false⟩) ?_ ?_
  ·intro F' hF';have hF'3:F' 3= .mp 3 0 0:=by rw[hF'];simp+decide (disch:=first|omega|rfl|(simp+decide only[go_sem,↓reduceIte,hF3]<;>rfl)|fail) only[go_sem,↓reduceIte,hF3]
   have hF'5:F' 5= .mp 5 0 0:=by rw[hF'];simp+decide (disch:=first|omega|rfl|(simp+decide only[go_sem,↓reduceIte,hF5]<;>rfl)|fail) only[go_sem,↓reduceIte,hF5]
   have hk9':Qa2 9 F'=F':=by rw[hF'];exact Qi0 rfl
   have hk10':Qa2 10 F'=F':=by rw[hF'];exact Qi0 rfl
   clear hF'
   repeat' (first|refine Qfq ?_ ?_|simp+decide (disch:=first|omega|rfl|(simp+decide only[go_sem,↓reduceIte,hJ7,hJ52,hJ53,hh3,hh5,hF'3,hF'5,hk9',hk10',hnv,e3,hg1,Qgm]<;>rfl)|fail) only[go_sem,↓reduceIte,hJ7,hJ52,hJ53,hh3,hh5,hF'3,hF'5,hk9',hk10',hnv,e3,hg1,Qgm])
   all_goals refine Qln (J:=_) ?_
   all_goals simp+decide (disch:=first|omega|rfl|(simp+decide only[go_sem,↓reduceIte,hJ7,hr0,hcomm,true_and,and_true]<;>rfl)|fail) only[go_sem,↓reduceIte,hJ7,hr0,hcomm,true_and,and_true]
  clear hJ7 hJ52 hJ53 J;rintro J _ ⟨hJ7,hJ9,hJ10,rfl⟩;simp+decide (disch:=first|omega|rfl|(simp+decide only[go_sem,↓reduceIte,hJ7,hJ9,hJ10,hF2,hF3,hF5,hF6,caps,List.all_cons,List.all_nil,List.cons_append,List.nil_append,true_and]<;>rfl)|fail) only[go_sem,↓reduceIte,hJ7,hJ9,hJ10,hF2,hF3,hF5,hF6,caps,List.all_cons,List.all_nil,List.cons_append,List.nil_append,true_and];refine Q0r (by repeat (first|exact Qu|exact Qn|exact Qo|exact Qk|exact Qp|apply Qm|apply Qt|apply Qw|apply Q5|apply Q6|apply Qi)) [(62,77)] [] (fun m J hp=>∃d r,m=d/\d*v.getD (n+1) 0+r=w2*65536+w1/\val w<(d+1)*val v/\hp=Qv (Qv h 9 ⟨1,94,[.int .u64 d],false⟩) 10 ⟨1,94,[.int .u64 r],false⟩) d0 ?_ ?_
  ·exact⟨d0,r0,rfl,hdm,hdigit,rfl⟩
  intro F1 hF1;have hE9:F1 9= .mp 9 0 0:=by rw[hF1,Qb3];simp+decide (disch:=first|omega|rfl|(simp+decide only[go_sem,↓reduceIte,hJ9]<;>rfl)|fail) only[go_sem,↓reduceIte,hJ9]
  have hE10:F1 10= .mp 10 0 0:=by rw[hF1,Qb3];simp+decide (disch:=first|omega|rfl|(simp+decide only[go_sem,↓reduceIte,hJ10]<;>rfl)|fail) only[go_sem,↓reduceIte,hJ10]
  have hE11:F1 11= .fn 172 [] [.mp 9 0 0,.mp 3 0 0,.mp 5 0 0,.mp 10 0 0,.rb 1000000 0 u.length,.mp 7 0 0]:=by rw[hF1,Qb3];simp+decide (disch:=first|omega|rfl|(simp+decide only[go_sem,↓reduceIte]<;>rfl)|fail) only[go_sem,↓reduceIte]
  have hE3:F1 3= .mp 3 0 0:=by rw[hF1,Qb3];simp+decide (disch:=first|omega|rfl|(simp+decide only[go_sem,↓reduceIte,hF3]<;>rfl)|fail) only[go_sem,↓reduceIte,hF3]
  have hE5:F1 5= .mp 5 0 0:=by rw[hF1,Qb3];simp+decide (disch:=first|omega|rfl|(simp+decide only[go_sem,↓reduceIte,hF5]<;>rfl)|fail) only[go_sem,↓reduceIte,hF5]
  rintro d J2 _ ⟨_,r,rfl,hdr,hdW,rfl⟩;have hd17:d<131072:=by have:d*32768<=d*v.getD (n+1) 0:=Nat.mul_le_mul_left _ htop';omega
  refine Sz3 @hE9 @hE10 @hE11 ?_;refine Q2i (by repeat (first|exact Qu|exact Qn|exact Qo|exact Qk|exact Qp|apply Qm|apply Qt|apply Qw|apply Q5|apply Q6|apply Qi)) [(62,67)] [] (fun J hp=>J 67= .bool (decide (r<65536/\(65536<=d∨r*65536+l.getD (j+n) 0<d*v.getD n 0)))/\hp=Qv (Qv h 9 ⟨1,94,[.int .u64 d],false⟩) 10 ⟨1,94,[.int .u64 r],false⟩) ?_ ?_
  ·refine Qat (fun hr=>?_) (fun hr=>?_)
   ·refine Sz3 @hE9 @hE10 @hE11 ?_;refine Q8h hP (Qy7 (dg:=d) (r:=r) (j:=j) hv hl hn rfl (by omega) (by omega) (by omega) (by omega)) (by simp+decide (disch:=first|omega|rfl|(simp+decide only[go_sem,↓reduceIte,Qcr,hhB,hh3,hh5,hh7,e2,List.append_nil,List.nil_append,List.getElem?_cons_zero,List.drop_zero,List.take_of_length_le]<;>rfl)|fail) only[go_sem,↓reduceIte,Qcr,hhB,hh3,hh5,hh7,e2,List.append_nil,List.nil_append,List.getElem?_cons_zero,List.drop_zero,List.take_of_length_le];simp only[List.drop_zero,htk2]) rfl rfl ?_;refine Sz1 hnv ?_;refine Qln ⟨?_,rfl⟩;refine Sz0 ?_;rw[show j+(n+2)-2=j+n by omega,show n+2-2=n by omega];exact congrArg PV.bool (decide_eq_decide.2 ⟨fun h=>⟨by omega,h⟩,fun h=>h.2⟩)
   ·refine Sz3 @hE9 @hE10 @hE11 ?_;refine Qln ⟨?_,rfl⟩;refine Sz0 ?_;simp;omega
  rintro J3 _ ⟨h67,rfl⟩;simp (disch:=decide) only[Qb3,Qfx];refine Sz1 h67 ?_;refine Qb (fun ht=>?_) (fun ht=>?_)
  ·obtain⟨hr,ht⟩:=ht;have hlt2:val w<d*val v:=by
    rcases ht with ht|ht
    ·exact Nat.lt_of_lt_of_le hwlt (Nat.mul_le_mul_right _ ht)
    ·exact Qab9 hvt hwv hw0 hdr ht
   obtain _|d:=d
   ·omega
   have e5:((d+1:Nat):Int)-1=(d:Nat):=by omega
   refine Sz11 @hE9 @hE10 @hE3 @hE5 hh3 hh5 hnv e3 e5 hg1 hcomm ?_;refine Qh d (by omega) ⟨d,r+v.getD (n+1) 0,rfl,?_,hlt2,rfl⟩;rw[Nat.add_mul]at hdr;omega
  have hd65:d<65536:=by apply Decidable.byContradiction;intro hge;apply ht;refine⟨?_,.inl (by omega)⟩;have:65536*v.getD (n+1) 0<=d*v.getD (n+1) 0:=Nat.mul_le_mul_right _ (by omega);omega
  have htest:¬r*65536+l.getD (j+n) 0<d*v.getD n 0:=by
   intro hlt3;by_cases hr:r<65536
   ·exact ht ⟨hr,.inr hlt3⟩
   ·have:=Qf2 hd65 hv2;omega
  have e5:j+(n+2)+1-j=n+3:=by omega
  subst hF1;simp (disch:=decide) only[Qb3,hkk,Qfx];refine Sz14 @hJ7 @hJ9 @hJ10 @hF2 @hF3 @hF5 @hF6 hh3 hh5 hh7 @hhB e2 hnv e5 ?_;have hsq:=Q0m w v d 0 0 hw (by omega) (by omega);have hcar:=Quw w v d 0 0 (by omega) (by omega) hd65 hv;have hsl:=Qut w v d 0 0;have hsln:=Qsi w v d 0 0;have hwB:=Qgj hw;rw[hwl]at hsq hwB;refine Qup hP (Qy6 (pre:=pre) (w:=w) (post:=post++ex) (j:=j) (m:=n+3) (q:=d) hw hv hd65 hpl hwl (by omega) (by rw[<-hlw2];omega)) (β:=1000000) (Tz2 @hhB hlw2) (Qfp _) (by simp;omega) (by simp[toB,B0]) rfl ?_;rintro _ _ _ _ ⟨rfl,rfl⟩;generalize Qdn w v d 0 0=sq at *
  obtain⟨⟨hsq,hb1⟩,hcar⟩:=And.intro hsq hcar;have hSB:=Qgj hsl;rw[hsln,hwl]at hSB;have hpll:pre.length+(w.length+post.length)=u.length:=by rw[<-hll,hlw];simp
  have hs18:j<(List.replicate (j+1) 0++qs).length:=by simp;omega
  have hvl2:val l=val pre+65536^j*val w:=by rw[hlw,Qcm,Qcm,hpost0,hpl,Nat.mul_zero,Nat.add_zero]
  simp+decide (disch:=first|omega|rfl|(simp+decide only[go_sem,↓reduceIte,Qhj,hJ7,hJ9,hJ10,hF2,hF3,hF5,hF6]<;>rfl)|fail) only[go_sem,↓reduceIte,Qhj,hJ7,hJ9,hJ10,hF2,hF3,hF5,hF6];refine Qb (fun hb=>?_) (fun hb=>?_)
  ·have hb2:sq.2.2=1:=by omega
   rw[hcar,hb2]at hsq;obtain _|d:=d
   ·omega
   have heV:=Qaca hvt hwv hv0 (by omega) hd65 hdr htest;obtain⟨k,hk⟩:=Q0l sq.1 v 0 (by omega);have hrl:=Qus sq.1 v 0;have hrln:=Qsh sq.1 v 0;rw[hsln,hwl]at hk hrln;have hrB:=Qgj hrl;rw[hrln]at hrB;obtain⟨hR1,hR2⟩:=Qahi (B:=65536^(n+3)) (S:=val sq.1) (e:=d) (by omega) hSB heV (by omega) hrB hwB;have e6:((d+1:Nat):Int)-1=(d:Nat):=by omega
   simp+decide (disch:=first|omega|rfl|(simp+decide only[go_sem,↓reduceIte,hJ7,hJ9,hJ10,hF2,hF3,hF5,hF6,hh3,hh5,hh7,hhB,e2,e6,hnv,e5]<;>rfl)|fail) only[go_sem,↓reduceIte,hJ7,hJ9,hJ10,hF2,hF3,hF5,hF6,hh3,hh5,hh7,hhB,e2,e6,hnv,e5];refine Qup hP (Q06 (pre:=pre) (w:=sq.1) (post:=post++ex) (j:=j) (m:=n+3) hsl hv hpl (by omega) (by omega) (by simp;omega)) (β:=1000000) Tz0 (Qfp _) (by simp;omega) (by simp[toB,B0]) rfl ?_;rintro _ _ _ _ ⟨rfl,rfl⟩;have hback:=Qx2 (q:=d) (R:=Qg5 sq.1 v 0) hpl hpost0 Qdy hvl2 hR2;simp+decide (disch:=first|omega|rfl|(simp+decide only[go_sem,↓reduceIte,Qhj,hJ7,hJ9,hJ10,hF2,hF3,hF5,hF6,hh3,hh5,hh7,hhB,hh18,e2,e6,hnv,e5,Qr0,Nat.mod_eq_of_lt (by omega:d<65536),hk7]<;>rfl)|fail) only[go_sem,↓reduceIte,Qhj,hJ7,hJ9,hJ10,hF2,hF3,hF5,hF6,hh3,hh5,hh7,hhB,hh18,e2,e6,hnv,e5,Qr0,Nat.mod_eq_of_lt (by omega:d<65536),hk7];refine Qh j (by omega) ⟨pre++(Qg5 sq.1 v 0++post),d::qs,by simp;omega,?_,?_,?_,?_,hback.2,?_⟩
   ·rw[Qb5,Qb5];exact⟨hpre,hrl,hpost⟩
   ·simp;omega
   ·rw[Qa5];exact⟨by omega,hqs⟩
   ·rw[hback.1];exact hR1
   ·simp+decide (disch:=first|omega|rfl|(simp+decide only[go_sem,↓reduceIte,hh3,hh5,true_and,and_true,hnv,List.append_assoc]<;>rfl)|fail) only[go_sem,↓reduceIte,hh3,hh5,true_and,and_true,hnv,List.append_assoc]
  ·have hb2:sq.2.2=0:=by omega
   rw[hcar,hb2]at hsq;obtain⟨hR1,hR2⟩:=Qamc (S:=val sq.1) (d:=d) (by omega) hdW;have hback:=Qx2 (q:=d) (R:=sq.1) hpl hpost0 Qdy hvl2 hR2;simp+decide (disch:=first|omega|rfl|(simp+decide only[go_sem,↓reduceIte,Qhj,hJ7,hJ9,hJ10,hF2,hF3,hF5,hF6,hh3,hh5,hh7,hhB,hh18,e2,hnv,e5,Qr0,Nat.mod_eq_of_lt hd65,hk7]<;>rfl)|fail) only[go_sem,↓reduceIte,Qhj,hJ7,hJ9,hJ10,hF2,hF3,hF5,hF6,hh3,hh5,hh7,hhB,hh18,e2,hnv,e5,Qr0,Nat.mod_eq_of_lt hd65,hk7];refine Qh j (by omega) ⟨pre++(sq.1++post),d::qs,by simp;omega,?_,?_,?_,?_,hback.2,?_⟩
   ·rw[Qb5,Qb5];exact⟨hpre,hsl,hpost⟩
   ·simp;omega
   ·rw[Qa5];exact⟨hd65,hqs⟩
   ·rw[hback.1];exact hR1
   ·simp+decide (disch:=first|omega|rfl|(simp+decide only[go_sem,↓reduceIte,hh3,hh5,true_and,and_true,hnv,List.append_assoc]<;>rfl)|fail) only[go_sem,↓reduceIte,hh3,hh5,true_and,and_true,hnv,List.append_assoc]
 ·obtain rfl:k=0:=by omega
  rw[List.drop_zero]at hred;rw[Nat.pow_zero,Nat.one_mul]at Qdy;have hdiv:val u/val v=val qs:=by rw[Qdy,Nat.add_mul_div_left _ _ hvp,Nat.div_eq_of_lt hred,Nat.zero_add]
  have hmod:val u%val v=val l:=by rw[Qdy,Nat.add_mul_mod_self_left,Nat.mod_eq_of_lt hred]
  simp+decide (disch:=first|omega|rfl|(simp+decide only[go_sem,↓reduceIte,hJ7,hh7,hhB,hh18,hh3,hh5,hF2,hF3,hF5,hF6,List.replicate_zero,List.nil_append]<;>rfl)|fail) only[go_sem,↓reduceIte,hJ7,hh7,hhB,hh18,hh3,hh5,hF2,hF3,hF5,hF6,List.replicate_zero,List.nil_append];refine Qcb hP (Qbi hqs (by omega)) (Ql6 (ty:=115) (fz:=false) (by simp+decide (disch:=first|omega|rfl|(simp+decide only[go_sem,↓reduceIte,hh18,List.replicate_zero,List.nil_append]<;>rfl)|fail) only[go_sem,↓reduceIte,hh18,List.replicate_zero,List.nil_append]) (by omega)) rfl ?_;refine Sz0 ?_;refine Q8k (xs':=Qba (l++ex)) (p:=PV.num (val qs)) ?_ (Qfp _) (by simp;omega) Tz0 rfl ⟨by rw[hdiv],l,rfl,hl,hll,hmod.symm⟩;show FW.Qaj h [18] 1000000=_;simp only[FW.Qaj];rw[if_neg (by decide),hhB]
theorem Q56{a:List Nat}{s:Nat}(ha:Ql a)(hla:a.length<2^40)(hs:s<=15):Qd Tryz.prog 165 [PV.nat a,.int .i64 (-(s:Int))] (· =PV.num (val a/2^s)):=by
 have hda:=Qau ha;unfold nl at hda;by_cases h0:val a=0
 ·refine Qf Qj Tryz.func165 rfl Qw3 (by simp[Qto]) fun C hP=>?_;simp only[Qto];refine Sz0 ?_;refine Qa hP (Qbi ha (by omega)) rfl rfl rfl ?_;refine Sz0 ?_;refine Qab (fun hz=>by omega) (fun hz=>?_);refine Sz0 ?_;refine Qab (fun hz=>by omega) (fun hz=>?_);refine Sz0 ?_;refine Qb (fun hz=>?_) (fun hz=>absurd (by rw[h0,Qa7];rfl) hz);refine Sz0 ?_;exact Qeq (Qn0 (by simp[h0])) rfl
 by_cases hs0:s=0
 ·subst hs0;have:=(Qnd (s:=0) ha hla (by omega) h0).toV;rw[Nat.pow_zero,Nat.mul_one]at this;rw[Nat.pow_zero,Nat.div_one];exact this
 have hnz:(dig (val a)).length≠0:=fun h=>h0 (Qbw.1 (Qdm h));refine Qf Qj Tryz.func165 rfl Qw3 (by simp[Qto]) fun C hP=>?_;simp only[Qto];refine Sz0 ?_;refine Qa hP (Qbi ha (by omega)) rfl rfl rfl ?_;refine Sz0 ?_;refine Qab (fun hz=>by omega) (fun hz=>?_);refine Sz0 ?_;refine Qab (fun hz=>by omega) (fun hz=>?_);refine Sz0 ?_;refine Qb (fun hz=>by omega) (fun hz=>?_);refine Sz0 ?_;refine Qb (fun hz=>?_) (fun hz=>by omega);have e:(0:Int)- -(s:Int)=(s:Nat):=by omega
 refine Sz1 e ?_;refine Qa hP (Q54 (Qq (val a)) (by omega) hs) rfl rfl rfl ?_;refine Sz1 @Q7 ?_;exact Qc rfl rfl
theorem Q57{x d:Nat}(hx:(dig x).length<2^42)(hd:0<d)(hd2:d<65536):Qd Tryz.prog 163 [PV.num x,.int .u16 d] (· = .tup [PV.num (x/d),.int .u16 (x%d:Nat)]):=by
 have:=Q2o (Qq x) hx hd hd2
 rwa[Q7]at this
theorem Qnf{a b:List Nat}(ha:Ql a)(hb:Ql b)(hla:a.length<2^38)(hlb:b.length<2^38):Qd Tryz.prog 150 [PV.nat a,PV.nat b]
  (· =if val b=0 then .tup [PV.num 0,PV.num 0,.int .i64 3]else .tup [PV.num (val a/val b),PV.num (val a%val b),.int .i64 0]):=by
 have hda:=Qau ha;have hdb:=Qau hb;unfold nl at hda hdb;refine Qf Qj Tryz.func150 rfl Qaii (by simp[c150]) fun C hP=>?_;simp only[c150];refine Sz0 ?_;refine Qa hP (Qbi ha (by omega)) rfl rfl rfl ?_;refine Sz0 ?_;refine Qa hP (Qbi hb (by omega)) rfl rfl rfl ?_;refine Sz0 ?_;have hxl:=Qq (val a);have hyl:=Qq (val b);have hxv:=Q7 (val a);have hyv:=Q7 (val b);have hylast:=Ql4 (val b);generalize val a=x at *
 generalize val b=y at *
 refine Qb (fun hz=>?_) (fun hz=>?_)
 ·have hy0:y=0:=Qbw.1 (Qdm (by omega));refine Sz0 ?_;rw[if_pos hy0];exact Qqj rfl rfl rfl rfl Qji Qji (Q2 _)
 have hy0:y≠0:=fun h=>by rw[h,Qa7]at hz;simp at hz
 rw[if_neg hy0];refine Sz0 ?_;refine Qa hP (Qo9 hxl hyl (by omega) (by omega)) rfl rfl rfl ?_;refine Sz2 hxv hyv ?_;refine Qb (fun hc=>?_) (fun hc=>?_)
 ·have hlt:x<y:=by
   unfold Qel at hc;split at hc
   ·assumption
   ·split at hc<;>omega
  refine Sz0 ?_;refine Qa hP (Qkl hxl (by omega)) rfl rfl rfl ?_;refine Sz1 hxv ?_;exact Qqj rfl rfl rfl rfl (Qn0 (Nat.div_eq_of_lt hlt)) (Qg4 (by rw[Nat.mod_eq_of_lt hlt])) (Q2 _)
 have hge:y<=x:=by unfold Qel at hc;split at hc<;>omega
 refine Sz0 ?_;refine Qb (fun h1=>?_) (fun h1=>?_)
 ·obtain⟨d,hd⟩:∃d,dig y=[d]:=by
   match h:dig y,h1 with
   | [d],_=>exact⟨d,rfl⟩
   | [],h1=>simp at h1
   |_::_::_,h1=>simp at h1;omega
  have hyd:y=d:=by rw[<-hyv,hd];simp[val]
  have hd1:d<65536:=by rw[hd]at hyl;exact hyl d (by simp)
  simp+decide (disch:=first|omega|rfl|(simp+decide only[go_sem,↓reduceIte,hd,List.map_cons,List.map_nil,List.length_cons,List.length_nil]<;>rfl)|fail) only[go_sem,↓reduceIte,hd,List.map_cons,List.map_nil,List.length_cons,List.length_nil];refine Qa hP (Q57 (x:=x) (d:=d) (by omega) (by omega) hd1) (by rw[PV.num];rfl) rfl rfl ?_;have hm:x%d<18446744073709551616:=by have:=Nat.mod_lt x (show 0<d by omega);omega
  refine Sz0 ?_;refine Qa hP (Qn7 hm) rfl rfl rfl ?_;refine Sz0 ?_;rw[hyd];exact Qqj rfl rfl rfl rfl (Q2 _) (Q2 _) (Q2 _)
 obtain⟨n,hn⟩:∃n,(dig y).length=n+2:=⟨(dig y).length-2,by omega⟩
 obtain⟨m,hm⟩:∃m,(dig x).length=m+2:=by have:=Qbm hge;unfold nl at this;exact⟨(dig x).length-2,by omega⟩
 have e1:((n+2:Nat):Int)-1=((n+1:Nat):Int):=by omega
 have hlast:(dig y)[n+1]'(by omega)≠0:=by
  intro h;apply hylast;have:(dig y).getLast? =some ((dig y)[n+1]'(by omega)):=by rw[List.getLast?_eq_getElem?,show(dig y).length-1=n+1 by omega];exact List.getElem?_eq_getElem _
  rw[this,h]
 have hy1:=Qas hyl (show n+1<(dig y).length by omega);have hdyv:val (dig y)=y:=Q7 y;generalize hyi:(dig y)[n+1]'(by omega)=yi at *
 have hbl:=Qne hy1;have hbp:=Qpa hy1 hlast;obtain⟨htp,htp2⟩:=Q55 _ yi rfl hlast hy1;obtain⟨s,hs,hs15⟩:∃s,16-Lib.bitLen yi=s/\s<=15:=⟨_,rfl,by omega⟩
 refine Sz3 hn e1 hyi ?_;refine Qa hP (Qp5 hy1) rfl rfl rfl ?_;refine Sz1 hs ?_;have hso:=Qnd (a:=dig x) (s:=s) hxl (by omega) hs15 (by rw[hxv];omega);refine Qal5 hP hso rfl rfl rfl (by decide) ?_;rintro _ _ rfl;rw[hxv];have hDl:(dig (x*2^s)).length<=m+3:=by have h1:=Qdl x (2^s);have h2:nl (2^s)<=1:=Qgy.2 (by have:2^s<=2^15:=Nat.pow_le_pow_right (by omega) hs15;omega);unfold nl at h1 h2;omega
 have hDl2:m+2<=(dig (x*2^s)).length:=by have:=Qbm (show x<=x*2^s from Nat.le_mul_of_pos_right _ (Nat.pow_pos (by omega)));unfold nl at this;omega
 refine Sz1 hm ?_;rw[Qop (ys:=Qba [0,0]) (xs:=Qba (dig (x*2^s))) (by simp+decide (disch:=first|omega|rfl|(simp+decide only[go_sem,↓reduceIte,Qe6]<;>rfl)|fail) only[go_sem,↓reduceIte,Qe6];rfl) Tz0 (by omega) (by simp) (by simp;omega) (by simp;omega)];rw[List.take_of_length_le (by simp),<-List.map_append];simp+decide (disch:=first|omega|rfl|(simp+decide only[go_sem,↓reduceIte,hm,List.length_cons,List.length_nil]<;>rfl)|fail) only[go_sem,↓reduceIte,hm,List.length_cons,List.length_nil];have hsoy:=(Qnd (a:=dig y) (s:=s) hyl (by omega) hs15 (by rw[hyv];omega)).toV;rw[hyv]at hsoy;refine Qa hP hsoy rfl rfl rfl ?_;obtain⟨g1,g2⟩:=Q8w hs15 (by rw[show 16-s=Lib.bitLen yi by omega];exact htp) (by rw[show 16-s=Lib.bitLen yi by omega];exact htp2);obtain⟨hYl,hYt,hYge⟩:=Q2j hn hyi g1 g2;have hnm:n<=m:=by have:=Qbm hge;unfold nl at this;omega
 obtain⟨u,ex,hu1,hu2,hu3,hu4,hu5,hu6⟩:=Q2k (s:=s) hm hs15 hnm hYge;have hdm1:x*2^s/(y*2^s)=x/y:=Nat.mul_div_mul_right _ _ (Nat.pow_pos (by omega));have hdm2:x*2^s%(y*2^s)=x%y*2^s:=Nat.mul_mod_mul_right _ _ _;rw[hu1];refine Sz0 ?_;have hlg:=Q9l (u:=u) (v:=dig (y*2^s)) (ex:=ex) hu3 (Qq _) (by omega) (by omega) (by rw[hYl];exact hYt) (by rw[hYl,hu2,Q7];exact hu6) (by omega);rw[hu2,hu4,Q7,hdm1,hdm2]at hlg;refine Qup hP hlg (β:=52) Tz0 (Qfp _) (by simp;omega) (by simp[toB]) rfl ?_;rintro _ _ _ _ ⟨rfl,l,rfl,hl1,hl2,hl3⟩;have e5:IntKind.i64.wrap (0-(s:Int))= -(s:Int):=by rw[Qh7 (by omega) (by omega)];omega
 have htk:(Qba (l++ex)).take (m+2+1)=Qba l:=by rw[<-List.map_take,show m+2+1=l.length by omega,List.take_left]
 simp+decide (disch:=first|omega|rfl|(simp+decide only[go_sem,↓reduceIte,Qhj]<;>rfl)|fail) only[go_sem,↓reduceIte,Qhj];refine Qcb hP (Qbi hl1 (by omega)) (by simp[Qaa,Qa0,isY,Qv,<-List.map_append,htk]) rfl ?_;refine Sz1 e5 ?_;rw[hl3];have hsb:=Q56 (a:=dig (x%y*2^s)) (s:=s) (Qq _) (by have:=Qbm (show x%y*2^s<=x*2^s from Nat.mul_le_mul_right _ (Nat.mod_le _ _));unfold nl at this;omega) hs15;rw[Q7,Nat.mul_div_cancel _ (Nat.pow_pos (by omega))]at hsb;refine Qa hP hsb rfl rfl rfl ?_;refine Sz0 ?_;exact Qqj rfl rfl rfl rfl (Q2 _) (Q2 _) (Q2 _)
theorem Q07{a b:List Nat}(ha:Ql a)(hb:Ql b)(hla:a.length<2^38)(hlb:b.length<2^38):Qd Tryz.prog 117 [PV.nat a,PV.nat b] (· =PV.num (Nat.gcd (val a) (val b))):=by
 have hda:=Qau ha;have hdb:=Qau hb;unfold nl at hda hdb;refine Qf Qj Tryz.func117 rfl Qaim (by simp[c117]) fun C hP=>?_;simp only[c117];refine Sz0 ?_;refine Qa hP (Qkl ha (by omega)) rfl rfl rfl ?_;refine Sz0 ?_;refine Qa hP (Qkl hb (by omega)) rfl rfl rfl ?_;refine Sz0 ?_;refine Qy (by repeat (first|exact Qu|exact Qn|exact Qo|exact Qk|exact Qp|apply Qm|apply Qt|apply Qw|apply Q5|apply Q6|apply Qi)) [(0,1),(4,11),(16,49)] [] (fun m J hp=>∃x y,m=y/\Nat.gcd x y=Nat.gcd (val a) (val b)/\(dig x).length<2^38/\(dig y).length<2^38/\J 0=PV.num x/\J 1=PV.num y/\hp=hp0) (val b) ?_ ?_
 ·refine⟨val a,val b,rfl,rfl,by omega,by omega,?_⟩;exact Tz2 @true_and @and_true
 rintro y J _ ⟨x,_,rfl,hg,hx,hy,h0,h1,rfl⟩;generalize Nat.gcd (val a) (val b)=g at *
 refine Sz2 h0 h1 ?_;refine Qb (fun hc=>?_) (fun hc=>?_)
 ·have hy0:y≠0:=fun h=>by rw[h,Qa7]at hc;simp at hc
  have hmod:(dig (x%y)).length<2^38:=by have:=Qbm (Nat.le_of_lt (Nat.mod_lt x (Nat.pos_of_ne_zero hy0)));unfold nl at this;omega
  refine Sz2 h0 h1 ?_;refine Qa hP (Qqu (Qq x) (by omega)) rfl rfl rfl ?_;refine Sz2 h0 h1 ?_;rw[Q7];by_cases hs1:nl x<=4
  ·have hxs:=Qmt.1 hs1;rw[if_pos hs1];refine Sz2 h0 h1 ?_;refine Qa hP (Qqu (Qq y) (by omega)) rfl rfl rfl ?_;rw[Q7];by_cases hs2:nl y<=4
   ·have hys:=Qmt.1 hs2;rw[if_pos hs2];refine Sz2 h0 h1 ?_;refine Qy (by repeat (first|exact Qu|exact Qn|exact Qo|exact Qk|exact Qp|apply Qm|apply Qt|apply Qw|apply Q5|apply Q6|apply Qi)) [(5,5),(7,7),(33,38)] [] (fun m J hp=>∃p q,m=q/\Nat.gcd p q=g/\p<18446744073709551616/\q<18446744073709551616/\J 5= .int .u64 p/\J 7= .int .u64 q/\hp=hp0) y ?_ ?_
    ·refine⟨x,y,rfl,hg,hxs,hys,?_⟩;exact Tz2 @true_and @and_true
    rintro q J2 _ ⟨p,_,rfl,hg2,hp1,hp2,h5,h7,rfl⟩;refine Sz2 h5 h7 ?_;refine Qb (fun hq=>?_) (fun hq=>?_)
    ·have hq0:0<q:=by omega
     refine Sz3 h5 h7 @Qgm ?_;refine Qh (p%q) (Nat.mod_lt _ hq0) ⟨q,p%q,rfl,?_,hp2,?_,?_⟩
     ·rw[<-hg2,Nat.gcd_comm p q,Nat.gcd_rec q p,Nat.gcd_comm]
     ·have:=Nat.mod_lt p hq0;omega
     ·exact Tz2 @true_and @and_true
    ·obtain rfl:q=0:=by omega
     refine Sz2 h5 h7 ?_;refine Qa hP (Qn7 hp1) rfl rfl rfl ?_;refine Sz0 ?_;exact Qc (by rw[<-hg2,Nat.gcd_zero_right]) rfl
   ·rw[if_neg hs2];refine Sz2 h0 h1 ?_;refine Qa hP (Qnf (Qq x) (Qq y) (by omega) (by omega)) rfl rfl rfl ?_;rw[Q7,Q7,if_neg hy0];refine Sz2 h0 h1 ?_;refine Qh (x%y) (Nat.mod_lt _ (Nat.pos_of_ne_zero hy0)) ⟨y,x%y,rfl,?_,hy,hmod,?_⟩
    ·rw[<-hg,Nat.gcd_comm x y,Nat.gcd_rec y x,Nat.gcd_comm]
    ·exact Tz2 @true_and @and_true
  ·rw[if_neg hs1];refine Sz2 h0 h1 ?_;refine Qa hP (Qqu (Qq y) (by omega)) rfl rfl rfl ?_;obtain⟨r1,r2,hr⟩:∃r1 r2,(if nl (val (dig y))<=4 then PV.tup [.int .u64 (val (dig y)),.bool true]else .tup [.int .u64 0,.bool false])= .tup [.int .u64 r1,.bool r2]:=by split<;>exact⟨_,_,rfl⟩
   rw[hr];refine Sz2 h0 h1 ?_;refine Qa hP (Qnf (Qq x) (Qq y) (by omega) (by omega)) rfl rfl rfl ?_;rw[Q7,Q7,if_neg hy0];refine Sz2 h0 h1 ?_;refine Qh (x%y) (Nat.mod_lt _ (Nat.pos_of_ne_zero hy0)) ⟨y,x%y,rfl,?_,hy,hmod,?_⟩
   ·rw[<-hg,Nat.gcd_comm x y,Nat.gcd_rec y x,Nat.gcd_comm]
   ·exact Tz2 @true_and @and_true
 ·have hy0:y=0:=Qbw.1 (Qdm (by omega));subst hy0;refine Sz1 h0 ?_;exact Qc (by rw[<-hg,Nat.gcd_zero_right]) rfl
theorem Qgn(n:Bool)(x:Nat):Qd Tryz.prog 112 [.bool n,PV.num x] (· =PV.zz (if n then -(x:Int)else x)):=by
 refine Qf Qj Tryz.func112 rfl Qaiy (by simp[c112]) fun C hP=>?_;simp only[c112];refine Sz0 ?_;refine Qhg (fun hn=>?_) (fun hn=>?_)
 all_goals
  refine Sz0 ?_;refine Qbs ?_;refine Sz0 ?_;exact Qc (by rw[<-Qww,hn];simp) rfl
theorem Q9m{n:Bool}{a:List Nat}(ha:Ql a)(hla:a.length<2^42):Qd Tryz.prog 168 [.bool n,PV.nat a] (· =PV.zz (zv n a)):=by
 refine Qf Qj Tryz.func168 rfl Qaix (by simp[c168]) fun C hP=>?_;simp only[c168];refine Sz0 ?_;refine Qa hP (Qkl ha hla) rfl rfl rfl ?_;refine Sz0 ?_;refine Qhg (fun hn=>?_) (fun hn=>?_)
 all_goals
  refine Sz0 ?_;refine Qbs ?_;refine Sz0 ?_;exact Qc (by have:=Qww n (val a);rw[hn]at this;subst hn;simpa[zv]using this) rfl
theorem Q2r{n:Bool}{a:List Nat}(ha:Ql a)(hla:a.length<2^42):Qd Tryz.prog 152 [PV.zi n a] (· =PV.zz (zv n a)):=by refine Qf Qj Tryz.func152 rfl Qai0 (by simp[c152]) fun C hP=>?_;simp only[c152];refine Sz0 ?_;refine Qa hP (Q9m ha hla) rfl rfl rfl ?_;refine Sz0 ?_;refine Qbs ?_;refine Sz0 ?_;exact Qc rfl rfl
theorem Qj2{n:Bool}{a:List Nat}(ha:Ql a)(hla:a.length<2^40):Qd Tryz.prog 119 [PV.zi n a] (· = .int .i64 (sgn (zv n a))):=by
 refine Qf Qj Tryz.func119 rfl Qai1 (by simp[c119]) fun C hP=>?_;simp only[c119];refine Sz0 ?_;refine Qek hP (Qyi ha hla) rfl rfl rfl ?_;rintro _ ⟨k,rfl,hk⟩;refine Sz0 ?_;rw[Q0s];refine Qb (fun hz=>?_) (fun hz=>?_)
 ·refine Sz0 ?_;rw[if_pos (hk.1 (by omega))];exact Qc rfl rfl
 ·rw[if_neg (fun h=>hz (by rw[hk.2 h];rfl))];refine Sz0 ?_;refine Qka (fun hn=>?_) (fun hn=>?_)
  ·refine Sz0 ?_;exact Qc (by simp[hn]) rfl
  ·refine Sz0 ?_;exact Qc (by simp[hn]) rfl
theorem Qsr{a b:List Nat}(ha:Ql a)(hb:Ql b)(hla:a.length<2^40)(hlb:b.length<2^40):Qd Tryz.prog 158 [PV.nat a,PV.nat b] (· = .int .i64 (Qel (val a) (val b))):=by refine Qf Qj Tryz.func158 rfl Qai3 (by simp[c158]) fun C hP=>?_;simp only[c158];refine Sz0 ?_;refine Qa hP (Qo9 ha hb hla hlb) rfl rfl rfl ?_;refine Sz0 ?_;exact Qc rfl rfl
theorem Q58{n m:Bool}{a b:List Nat}(ha:Ql a)(hb:Ql b)(hla:a.length<2^40)(hlb:b.length<2^40):Qd Tryz.prog 140 [PV.zi n a,PV.zi m b] (· = .int .i64 (Qbx (zv n a) (zv m b))):=by
 have hx:=Q0s n a;have hy:=Q0s m b;refine Qf Qj Tryz.func140 rfl Qai2 (by simp[c140]) fun C hP=>?_;simp only[c140];refine Sz0 ?_;refine Qa hP (Qj2 ha hla) rfl rfl rfl ?_;refine Sz0 ?_;refine Qa hP (Qj2 hb hlb) rfl rfl rfl ?_;refine Sz0 ?_;refine Qb (fun hs=>?_) (fun hs=>?_)
 ·refine Sz0 ?_;exact Qc (by rw[Qahm hs]) rfl
 refine Sz0 ?_;refine Qb (fun hs2=>?_) (fun hs2=>?_)
 ·refine Sz0 ?_;exact Qc (by rw[Qahn hs2]) rfl
 have he:sgn (zv n a)=sgn (zv m b):=by omega
 refine Sz0 ?_;refine Qb (fun hs3=>?_) (fun hs3=>?_)
 ·refine Sz0 ?_;refine Qa hP (Qsr hb ha hlb hla) rfl rfl rfl ?_;refine Sz0 ?_;exact Qc (by rw[Qaho (Qn4.1 hs3) (Qn4.1 (he▸hs3))]) rfl
 ·refine Sz0 ?_;refine Qa hP (Qsr ha hb hla hlb) rfl rfl rfl ?_;refine Sz0 ?_;exact Qc (by rw[Qahp (fun h=>hs3 (Qn4.2 h)) (fun h=>hs3 (he▸Qn4.2 h))]) rfl
theorem Qu6{n m:Bool}{a b:List Nat}(ha:Ql a)(hb:Ql b)(hla:a.length<2^40)(hlb:b.length<2^40):Qd Tryz.prog 157 [PV.zi n a,PV.zi m b] (· =PV.zz (zv n a+zv m b)):=by
 refine Qf Qj Tryz.func157 rfl Qai4 (by simp[c157]) fun C hP=>?_;simp only[c157];refine Sz0 ?_;refine Qka (fun hnm=>?_) (fun hnm=>?_)
 ·have hnm:n=m:=by simpa using hnm
  subst hnm;refine Sz0 ?_;refine Qa hP (Qaed ha hb hla hlb) rfl rfl rfl ?_;refine Sz0 ?_;refine Qa hP (Qgn n (val a+val b)) rfl rfl rfl ?_;refine Sz0 ?_;refine Qbs ?_;refine Sz0 ?_;exact Qc (congrArg PV.zz (by unfold zv;split<;>simp<;>omega)) rfl
 have hnm:n= !m:=by cases n<;>cases m<;>simp_all
 subst hnm;refine Sz0 ?_;refine Qa hP (Qo9 ha hb hla hlb) rfl rfl rfl ?_;refine Sz0 ?_;refine Qb (fun hc=>?_) (fun hc=>?_)
 ·rw[Qov]at hc;refine Sz0 ?_;refine Qa hP (Q05 hb ha hlb hla (by omega)) rfl rfl rfl ?_;refine Sz0 ?_;refine Qa hP (Qgn m (val b-val a)) rfl rfl rfl ?_;refine Sz0 ?_;refine Qbs ?_;refine Sz0 ?_;exact Qc (congrArg PV.zz (by unfold zv;cases m<;>simp<;>omega)) rfl
 ·rw[Qov]at hc;refine Sz0 ?_;refine Qa hP (Q05 ha hb hla hlb (by omega)) rfl rfl rfl ?_;refine Sz0 ?_;refine Qa hP (Qgn (!m) (val a-val b)) rfl rfl rfl ?_;refine Sz0 ?_;refine Qbs ?_;refine Sz0 ?_;exact Qc (congrArg PV.zz (by unfold zv;cases m<;>simp<;>omega)) rfl
theorem Qge{n m:Bool}{a b:List Nat}(ha:Ql a)(hb:Ql b)(hla:a.length<2^40)(hlb:b.length<2^40):Qd Tryz.prog 126 [PV.zi n a,PV.zi m b] (· =PV.zz (zv n a*zv m b)):=by refine Qf Qj Tryz.func126 rfl Qai5 (by simp[c126]) fun C hP=>?_;simp only[c126];refine Sz0 ?_;refine Qa hP (Qma ha hb hla hlb) rfl rfl rfl ?_;refine Sz0 ?_;refine Qa hP (Qgn (!(n==m)) (val a*val b)) rfl rfl rfl ?_;refine Sz0 ?_;refine Qbs ?_;refine Sz0 ?_;exact Qc (congrArg PV.zz (by unfold zv;cases n<;>cases m<;>simp[Int.neg_mul,Int.mul_neg])) rfl
theorem Qpb{a:List Nat}(hl:a.length<2^43):Qd Tryz.prog 116 [PV.nat a] (· = .bool (decide (a=[1]))):=by
 refine Qf Qj Tryz.func116 rfl Qai6 (by simp[c116]) fun C hP=>?_;simp only[c116];refine Sz0 ?_;refine Qb (fun hz=>?_) (fun hz=>?_)
 ·obtain⟨x,xs,rfl⟩:∃x xs,a=x::xs:=by
   match a,hz with
   |x::xs,_=>exact⟨x,xs,rfl⟩
  simp+decide (disch:=first|omega|rfl|(simp+decide only[go_sem,↓reduceIte,List.map_cons,List.getElem_cons_zero]<;>rfl)|fail) only[go_sem,↓reduceIte,List.map_cons,List.getElem_cons_zero];refine Qc (congrArg PV.bool ?_) rfl;rw[<-Bool.decide_and];exact decide_eq_decide.2 ⟨fun⟨h1,h2⟩=>by
   have:xs=[]:=List.length_eq_zero_iff.1 (by omega);subst this;congr 1;omega,fun h=>by
   injection h with h1 h2;subst h1 h2;simp⟩
 ·have:a=[]:=List.length_eq_zero_iff.1 (by omega);subst this;refine Sz0 ?_;exact Qc rfl rfl
theorem Qss(x:Nat):(dig x=[1])↔x=1:=⟨fun h=>by have:=Q7 x;rw[h]at this;simpa[val]using this.symm,fun h=>by rw[h,Qhi]⟩
theorem Qw4{x:Nat}(hl:(dig x).length<2^43):Qd Tryz.prog 116 [PV.num x] (· = .bool (decide (x=1))):=by
 have:=Qpb hl
 rwa[decide_eq_decide.2 (Qss x)]at this
theorem Qm0:Qd Tryz.prog 66 [] (· =PV.nat [1]):=by refine Qf Qj Tryz.func66 rfl Qans (by simp[c66]) fun C hP=>?_;simp only[c66];refine Sz0 ?_;exact Qc rfl rfl
theorem Qpc{x y:Nat}(hx:(dig x).length<2^38)(hy:(dig y).length<2^38)(h0:y≠0):Qd Tryz.prog 150 [PV.num x,PV.num y] (· = .tup [PV.num (x/y),PV.num (x%y),.int .i64 0]):=by
 have:=Qnf (Qq x) (Qq y) hx hy
 rwa[Q7,Q7,if_neg h0]at this
theorem Qw5{x y:Nat}(hx:(dig x).length<2^38)(hy:(dig y).length<2^38):Qd Tryz.prog 117 [PV.num x,PV.num y] (· =PV.num (Nat.gcd x y)):=by
 have:=Q07 (Qq x) (Qq y) hx hy
 rwa[Q7,Q7]at this
theorem Qqv{n:Bool}{a d:List Nat}(ha:Ql a)(hd:Ql d)(hla:a.length<2^38)(hld:d.length<2^38):Qd Tryz.prog 125 [PV.zi n a,PV.nat d] (· =PV.rat (rv n a d)):=by
 have hna:=Qau ha;have hnd:=Qau hd;rw[<-Qb1 n a]at hna;unfold rv;unfold nl at hna hnd;refine Qf Qj Tryz.func125 rfl Qai7 (by simp[c125]) fun C hP=>?_;simp only[c125];refine Sz0 ?_;refine Qa hP (Qkl hd (by omega)) rfl rfl rfl ?_;refine Sz0 ?_;refine Qa hP (Q2r ha (by omega)) rfl rfl rfl ?_;refine Sz0 ?_;generalize zv n a=z at *
 generalize val d=D at *
 have hlen:∀x:Nat,((dig x).length:Int)=0↔x=0:=fun x=>by rw[<-Qbw,<-List.length_eq_zero_iff];omega
 have fin0:∀ {fr:Fr} {hp:HP},(D=0∨z=0)->Qwp (· =PV.rat (mkRat z D)) (.agg [.bool false,.nilS,PV.nat [1]]):=fun h=>by rw[Qsk h];exact Qeq Q3v rfl
 refine Qab (fun hz=>?_) (fun hz=>?_)
 ·refine Sz0 ?_;refine Qa hP Qm0 rfl rfl rfl ?_;refine Sz0 ?_;refine Qbs ?_;refine Sz0 ?_;exact fin0 (fr:=fr0) (hp:=hp0) (.inl ((hlen _).1 hz))
 refine Sz0 ?_;refine Qb (fun hz2=>?_) (fun hz2=>?_)
 ·refine Sz0 ?_;refine Qa hP Qm0 rfl rfl rfl ?_;refine Sz0 ?_;refine Qbs ?_;refine Sz0 ?_;exact fin0 (fr:=fr0) (hp:=hp0) (.inr (Int.natAbs_eq_zero.1 ((hlen _).1 hz2)))
 have hD:D≠0:=fun h=>hz ((hlen _).2 h);refine Sz0 ?_;refine Qa hP (Qw4 (by omega)) rfl rfl rfl ?_;refine Sz0 ?_;refine Qb (fun h1=>?_) (fun h1=>?_)
 ·subst h1;refine Sz0 ?_;refine Qbs ?_;refine Sz0 ?_;exact Qc (by rw[<-Qaq1];simp only[Qhi]) rfl
 refine Sz0 ?_;refine Qa hP (Qw5 (by omega) (by omega)) rfl rfl rfl ?_;have hg0:Nat.gcd z.natAbs D≠0:=fun h=>hD (Nat.eq_zero_of_gcd_eq_zero_right h);have hgl:(dig (Nat.gcd z.natAbs D)).length<2^38:=by have:=Qbm (Nat.gcd_le_right z.natAbs (Nat.pos_of_ne_zero hD));unfold nl at this;omega
 have hfin:=Q8z (z:=z) hD;generalize Nat.gcd z.natAbs D=g at *
 refine Sz0 ?_;refine Qa hP (Qw4 (by omega)) rfl rfl rfl ?_;refine Sz0 ?_;refine Qka (fun h2=>?_) (fun h2=>?_)
 ·refine Sz0 ?_;refine Qa hP (Qpc (by omega) hgl hg0) rfl rfl rfl ?_;refine Sz0 ?_;refine Qa hP (Qpc (by omega) hgl hg0) rfl rfl rfl ?_;refine Sz0 ?_;refine Qbs ?_;refine Sz0 ?_;exact Qc hfin rfl
 ·have:g=1:=by simpa using h2
  subst this;rw[Nat.div_one,Nat.div_one]at hfin;refine Sz0 ?_;refine Qbs ?_;refine Sz0 ?_;exact Qc hfin rfl
theorem Qho(a:List Nat):Qd Tryz.prog 139 [PV.nat a] (· =PV.zi false a):=by refine Qf Qj Tryz.func139 rfl Qai9 (by simp[c139]) fun C hP=>?_;simp only[c139];refine Sz0 ?_;refine Qbs ?_;refine Sz0 ?_;exact Qc rfl rfl
def Qanz(k:Nat)(q:Rat)(r:PV):Prop:=∃n a d,r= .tup [PV.zi n a,PV.nat d]/\Ql a/\Ql d/\a.length<=k/\d.length<=k/\val d≠0/\rv n a d=q
theorem Qgf{n:Bool}{a d:List Nat}{k:Nat}(ha:Ql a)(hd:Ql d)(hk:1<=k)(hla:a.length<=k)(hld:d.length<=k)(hk2:k<2^38):Qd Tryz.prog 118 [PV.rr n a d] (Qanz k (rv n a d)):=by
 refine Qf Qj Tryz.func118 rfl Qai8 (by simp[c118]) fun C hP=>?_;simp only[c118];refine Sz0 ?_;refine Qek hP (Qyi hd (by omega)) rfl rfl rfl ?_;rintro _ ⟨b,rfl,hb⟩;refine Sz0 ?_;refine Qb (fun hz=>?_) (fun hz=>?_)
 ·have h0:val d=0:=hb.1 (by omega);refine Sz0 ?_;refine Qa hP Qm0 rfl rfl rfl ?_;refine Sz0 ?_;refine Qhk ?_;refine Sz0 ?_;refine⟨⟨rfl,rfl⟩,.tup [PV.zi false [],PV.nat [1]],⟨⟨rfl,trivial,trivial⟩,Q2 _,trivial⟩,false,[],[1],rfl,Qdc,by intro x hx;simp at hx;omega,by simp,by simpa using hk,by simp[val],?_⟩;unfold rv;rw[h0,Rat.mkRat_zero];rfl
 ·have h0:val d≠0:=fun h=>hz (by rw[hb.2 h];rfl);refine Sz0 ?_;refine Qfq ?_ ?_
  all_goals
   refine Sz0 ?_;refine Qhk ?_;refine Sz0 ?_;exact⟨⟨rfl,rfl⟩,.tup [PV.zi n a,PV.nat d],⟨Q2 _,Q2 _,trivial⟩,n,a,d,rfl,ha,hd,hla,hld,h0,rfl⟩
theorem Qaee{z:Int}{m:Bool}{b:List Nat}(hb:Ql b)(hla:nl z.natAbs<2^40)(hlb:b.length<2^40):Qd Tryz.prog 157 [PV.zz z,PV.zi m b] (· =PV.zz (z+zv m b)):=by
 have:=Qu6 (n:=decide (z<0)) (a:=dig z.natAbs) (m:=m) (Qq _) hb hla hlb
 rwa[Qga]at this
theorem Q08{n m:Bool}{a b:List Nat}(ha:Ql a)(hb:Ql b)(hla:a.length<2^39)(hlb:b.length<2^39):Qd Tryz.prog 138 [.sl 2 [PV.zi n a,PV.zi m b]] (· =PV.zz (zv n a+zv m b)):=by
 have hna:=Qau ha;rw[<-Qb1 n a]at hna;refine Qf Qj Tryz.func138 rfl Qaja (by simp[c138]) fun C hP=>?_;simp only[c138];refine Sz0 ?_;refine Qy (by repeat (first|exact Qu|exact Qn|exact Qo|exact Qk|exact Qp|apply Qm|apply Qt|apply Qw|apply Q5|apply Q6|apply Qi)) [(5,5),(8,15)] [5] (fun k J hp=>∃i,k=2-i/\i<=2/\J 8= .int .i64 (i:Nat)/\hp 2=some ⟨2,49,[.agg [.bool false,.nilS]],false⟩/\hp 3=some ⟨2,49,[if i=0 then .agg [.bool false,.nilS]else if i=1 then PV.zz (zv n a)else PV.zz (zv n a+zv m b)],false⟩) 2 ?_ ?_
 ·refine⟨0,rfl,by omega,?_⟩;refine Sz0 ?_;simp
 rintro _ J h ⟨i,rfl,hi,h8,hh2,hh3⟩;refine Sz1 h8 ?_;refine Qb (fun hg=>?_) (fun hg=>?_)
 ·have hi2:i=0∨i=1:=by have:i<2:=(by omega);omega
  rcases hi2 with rfl|rfl
  ·have h8':J 8= .int .i64 0:=h8;refine Sz3 h8' hh2 hh3 ?_;refine Qa hP ((Qu6 (n:=false) (a:=[]) (m:=n) (b:=a) Qdc ha (by simp) (by omega)).le (args':=[.agg [.bool false,.nilS],PV.zi n a]) ⟨⟨rfl,trivial,trivial⟩,Q2 _,trivial⟩) rfl rfl rfl ?_;refine Sz3 h8' hh2 hh3 ?_;refine Qh 1 (by omega) ⟨1,rfl,by omega,?_⟩;refine Sz2 hh2 hh3 ?_;simp[zv,val]
  ·rw[if_neg (by omega),if_pos rfl]at hh3;have h8':J 8= .int .i64 1:=h8;refine Sz3 h8' hh2 hh3 ?_;refine Qa hP (Qaee (z:=zv n a) hb (by omega) (by omega)) rfl rfl rfl ?_;refine Sz3 h8' hh2 hh3 ?_;refine Qh 0 (by omega) ⟨2,rfl,by omega,?_⟩;refine Sz2 hh2 hh3 ?_;simp
 ·obtain rfl:i=2:=by simp at hg;omega
  rw[if_neg (by omega),if_neg (by omega)]at hh3;refine Sz3 h8 hh2 hh3 ?_;refine Qbs ?_;refine Sz2 hh2 hh3 ?_;exact Qc rfl rfl
theorem Qlc{z:Int}{d:List Nat}(hd:Ql d)(hz:nl z.natAbs<2^38)(hld:d.length<2^38):Qd Tryz.prog 125 [PV.zz z,PV.nat d] (· =PV.rat (mkRat z (val d))):=by
 have:=Qqv (n:=decide (z<0)) (Qq z.natAbs) hd hz hld
 rwa[rv,Qga]at this
theorem Q9n{x y:Int}(hx:nl x.natAbs<2^39)(hy:nl y.natAbs<2^39):Qd Tryz.prog 138 [.sl 2 [PV.zz x,PV.zz y]] (· =PV.zz (x+y)):=by
 have:=Q08 (n:=decide (x<0)) (m:=decide (y<0)) (Qq x.natAbs) (Qq y.natAbs) hx hy
 rwa[Qga,Qga]at this
theorem Qaef{x y:Int}(hx:nl x.natAbs<2^40)(hy:nl y.natAbs<2^40):Qd Tryz.prog 140 [PV.zz x,PV.zz y] (· = .int .i64 (Qbx x y)):=by
 have:=Q58 (n:=decide (x<0)) (m:=decide (y<0)) (Qq x.natAbs) (Qq y.natAbs) hx hy
 rwa[Qga,Qga]at this
structure Raw(k:Nat)(n:Bool)(a d:List Nat):Prop where
 la:Ql a
 ld:Ql d
 sa:a.length<=k
 sd:d.length<=k
 k1:1<=k
theorem Qc7{q:Rat}{k:Nat}(h:rs q<=k):Raw k (decide (q.num<0)) (dig q.num.natAbs) (dig q.den):=by
 have:=Q80 q;unfold rs nl at *
 exact⟨Qq _,Qq _,by omega,by omega,by omega⟩
theorem Raw.rs{n:Bool}{a d:List Nat}{k:Nat}(h:Raw k n a d):FW.rs (rv n a d)<=k:=Qami (k:=k) (n:=k) h.la h.ld h.sa h.sd h.k1
theorem Qyj{n m:Bool}{a d b c:List Nat}{k:Nat}(hp:Raw k n a d)(hq:Raw k m b c)(hk:k<2^36):Qd Tryz.prog 91 [PV.rr n a d,PV.rr m b c] (· =PV.rat (rv n a d+rv m b c)):=by
 refine Qf Qj Tryz.func91 rfl Qanx (by simp[c91]) fun C hP=>?_;simp only[c91];refine Sz0 ?_;refine Qek hP (Qgf hp.la hp.ld hp.k1 hp.sa hp.sd (by omega)) rfl rfl rfl ?_;rintro _ ⟨n',a',d',rfl,g1,g2,g3,g4,g5,g6⟩;refine Sz0 ?_;refine Qek hP (Qgf hq.la hq.ld hq.k1 hq.sa hq.sd (by omega)) rfl rfl rfl ?_;rintro _ ⟨m',b',c',rfl,e1,e2,e3,e4,e5,e6⟩;refine Sz0 ?_;refine Qa hP (Qpb (by omega)) rfl rfl rfl ?_;have key:=Rat.mkRat_add_mkRat (zv n' a') (zv m' b') g5 e5;have hza:nl (zv n' a').natAbs<=k:=by rw[Qb1];exact Nat.le_trans (Qau g1) g3
 have hzb:nl (zv m' b').natAbs<=k:=by rw[Qb1];exact Nat.le_trans (Qau e1) e3
 have hvd:nl (val d')<=k:=Nat.le_trans (Qau g2) g4;have hvc:nl (val c')<=k:=Nat.le_trans (Qau e2) e4;rw[<-g6,<-e6];unfold rv;rw[key];refine Sz0 ?_;refine Qat (fun h1=>?_) (fun h1=>?_)
 ·refine Sz0 ?_;refine Qa hP (Qpb (by omega)) rfl rfl rfl ?_;refine Sz0 ?_;refine Qb (fun h2=>?_) (fun h2=>?_)
  ·subst h1 h2;refine Sz0 ?_;refine Qcb hP (Q08 (n:=n') (m:=m') g1 e1 (by omega) (by omega)) Uz0 rfl ?_;refine Vz0 ?_;have hs:=Qgl (zv n' a') (zv m' b');refine Qa hP (Qlc g2 (by omega) (by omega)) rfl rfl rfl ?_;refine Vz0 ?_;refine Qbs ?_;refine Vz0 ?_;exact Qc (congrArg PV.rat (by simp[val])) rfl
  ·refine Sz0 ?_;refine Qa hP (Qho _) rfl rfl rfl ?_;refine Sz0 ?_;refine Qa hP (Qge (n:=n') (m:=false) g1 e2 (by omega) (by omega)) rfl rfl rfl ?_;refine Sz0 ?_;refine Qa hP (Qho _) rfl rfl rfl ?_;refine Sz0 ?_;refine Qa hP (Qge (n:=m') (m:=false) e1 g2 (by omega) (by omega)) rfl rfl rfl ?_;rw[Qh9,Qh9];have h3:=Qbh (zv n' a') (val c');have h4:=Qbh (zv m' b') (val d');have h5:=Qgl (zv n' a'*(val c':Int)) (zv m' b'*(val d':Int));have h6:=Qdl (val d') (val c');rw[Int.natAbs_natCast]at h3 h4;refine Sz0 ?_;refine Qcb hP (Q9n (x:=zv n' a'*(val c':Int)) (y:=zv m' b'*(val d':Int)) (by omega) (by omega)) Uz0 rfl ?_;refine Vz0 ?_;refine Qa hP (Qma g2 e2 (by omega) (by omega)) rfl rfl rfl ?_;refine Vz0 ?_;refine Qa hP (Qlc (z:=zv n' a'*(val c':Int)+zv m' b'*(val d':Int)) (Qq _) (by omega) (by show nl _<_;omega)) rfl rfl rfl ?_;refine Vz0 ?_;refine Qbs ?_;refine Vz0 ?_;exact Qc (by rw[Q7]) rfl
 · simp+decide (disch:=first|omega|rfl|(simp+decide only[go_sem,↓reduceIte]<;>rfl)|fail) only[go_sem,↓reduceIte]
   refine Qa hP (Qho _) rfl rfl rfl ?_;refine Sz0 ?_;refine Qa hP (Qge (n:=n') (m:=false) g1 e2 (by omega) (by omega)) rfl rfl rfl ?_;refine Sz0 ?_;refine Qa hP (Qho _) rfl rfl rfl ?_;refine Sz0 ?_;refine Qa hP (Qge (n:=m') (m:=false) e1 g2 (by omega) (by omega)) rfl rfl rfl ?_;rw[Qh9,Qh9];have h3:=Qbh (zv n' a') (val c');have h4:=Qbh (zv m' b') (val d');have h5:=Qgl (zv n' a'*(val c':Int)) (zv m' b'*(val d':Int));have h6:=Qdl (val d') (val c');rw[Int.natAbs_natCast]at h3 h4;refine Sz0 ?_;refine Qcb hP (Q9n (x:=zv n' a'*(val c':Int)) (y:=zv m' b'*(val d':Int)) (by omega) (by omega)) Uz0 rfl ?_;refine Vz0 ?_;refine Qa hP (Qma g2 e2 (by omega) (by omega)) rfl rfl rfl ?_;refine Vz0 ?_;refine Qa hP (Qlc (z:=zv n' a'*(val c':Int)+zv m' b'*(val d':Int)) (Qq _) (by omega) (by show nl _<_;omega)) rfl rfl rfl ?_;refine Vz0 ?_;refine Qbs ?_;refine Vz0 ?_;exact Qc (by rw[Q7]) rfl
theorem Q9o{n m:Bool}{a d b c:List Nat}{k:Nat}(hp:Raw k n a d)(hq:Raw k m b c)(hk:k<2^36):Qd Tryz.prog 82 [PV.rr n a d,PV.rr m b c] (· =PV.rat (rv n a d*rv m b c)):=by
 refine Qf Qj Tryz.func82 rfl Qany (by simp[c82]) fun C hP=>?_;simp only[c82];refine Sz0 ?_;refine Qek hP (Qgf hp.la hp.ld hp.k1 hp.sa hp.sd (by omega)) rfl rfl rfl ?_;rintro _ ⟨n',a',d',rfl,g1,g2,g3,g4,g5,g6⟩;refine Sz0 ?_;refine Qek hP (Qgf hq.la hq.ld hq.k1 hq.sa hq.sd (by omega)) rfl rfl rfl ?_;rintro _ ⟨m',b',c',rfl,e1,e2,e3,e4,e5,e6⟩;refine Sz0 ?_;have hza:nl (zv n' a').natAbs<=k:=by rw[Qb1];exact Nat.le_trans (Qau g1) g3
 have hzb:nl (zv m' b').natAbs<=k:=by rw[Qb1];exact Nat.le_trans (Qau e1) e3
 have hvd:nl (val d')<=k:=Nat.le_trans (Qau g2) g4;have hvc:nl (val c')<=k:=Nat.le_trans (Qau e2) e4;have h3:=Qbh (zv n' a') (zv m' b');have h6:=Qdl (val d') (val c');refine Qa hP (Qge (n:=n') (m:=m') g1 e1 (by omega) (by omega)) rfl rfl rfl ?_;refine Sz0 ?_;refine Qa hP (Qma g2 e2 (by omega) (by omega)) rfl rfl rfl ?_;refine Sz0 ?_;refine Qa hP (Qlc (z:=zv n' a'*zv m' b') (Qq _) (by omega) (by show nl _<_;omega)) rfl rfl rfl ?_;refine Sz0 ?_;refine Qbs ?_;refine Sz0 ?_;refine Qc ?_ rfl;rw[Q7,<-g6,<-e6];unfold rv;rw[Rat.mkRat_mul_mkRat]
theorem Qld{n:Bool}{a d:List Nat}{k:Nat}(hp:Raw k n a d)(hk:k<2^36):Qd Tryz.prog 69 [PV.rr n a d] (· = .int .i64 (Qef (rv n a d))):=by refine Qf Qj Tryz.func69 rfl Qanv (by simp[c69]) fun C hP=>?_;simp only[c69];refine Sz0 ?_;refine Qek hP (Qgf hp.la hp.ld hp.k1 hp.sa hp.sd (by omega)) rfl rfl rfl ?_;rintro _ ⟨n',a',d',rfl,g1,g2,g3,g4,g5,g6⟩;refine Sz0 ?_;refine Qa hP (Qj2 g1 (by omega)) rfl rfl rfl ?_;refine Sz0 ?_;exact Qc (by rw[<-g6];unfold rv;rw[Q82 g5]) rfl
theorem Q9p{n m:Bool}{a d b c:List Nat}{k:Nat}(hp:Raw k n a d)(hq:Raw k m b c)(hk:k<2^36):Qd Tryz.prog 94 [PV.rr n a d,PV.rr m b c] (· = .int .i64 (Qjl (rv n a d) (rv m b c))):=by
 refine Qf Qj Tryz.func94 rfl Qanw (by simp[c94]) fun C hP=>?_;simp only[c94];refine Sz0 ?_;refine Qa hP (Qld hp hk) rfl rfl rfl ?_;refine Sz0 ?_;refine Qa hP (Qld hq hk) rfl rfl rfl ?_;refine Sz0 ?_;refine Qb (fun h1=>?_) (fun h1=>?_)
 ·refine Sz0 ?_;refine Qb (fun h2=>?_) (fun h2=>?_)
  ·refine Sz0 ?_;exact Qc (by rw[Q0w h2]) rfl
  ·refine Sz0 ?_;exact Qc (by rw[Qacn (by omega)]) rfl
 refine Sz0 ?_;refine Qek hP (Qgf hp.la hp.ld hp.k1 hp.sa hp.sd (by omega)) rfl rfl rfl ?_;rintro _ ⟨n',a',d',rfl,g1,g2,g3,g4,g5,g6⟩;refine Sz0 ?_;refine Qek hP (Qgf hq.la hq.ld hq.k1 hq.sa hq.sd (by omega)) rfl rfl rfl ?_;rintro _ ⟨m',b',c',rfl,e1,e2,e3,e4,e5,e6⟩;have hza:nl (zv n' a').natAbs<=k:=by rw[Qb1];exact Nat.le_trans (Qau g1) g3
 have hzb:nl (zv m' b').natAbs<=k:=by rw[Qb1];exact Nat.le_trans (Qau e1) e3
 have hvd:nl (val d')<=k:=Nat.le_trans (Qau g2) g4;have hvc:nl (val c')<=k:=Nat.le_trans (Qau e2) e4;have h3:=Qbh (zv n' a') (val c');have h4:=Qbh (zv m' b') (val d');rw[Int.natAbs_natCast]at h3 h4;refine Sz0 ?_;refine Qa hP (Qho _) rfl rfl rfl ?_;refine Sz0 ?_;refine Qa hP (Qge (n:=n') (m:=false) g1 e2 (by omega) (by omega)) rfl rfl rfl ?_;refine Sz0 ?_;refine Qa hP (Qho _) rfl rfl rfl ?_;refine Sz0 ?_;refine Qa hP (Qge (n:=m') (m:=false) e1 g2 (by omega) (by omega)) rfl rfl rfl ?_;rw[Qh9,Qh9];refine Sz0 ?_;refine Qa hP (Qaef (x:=zv n' a'*(val c':Int)) (y:=zv m' b'*(val d':Int)) (by omega) (by omega)) rfl rfl rfl ?_;refine Sz0 ?_;exact Qc (by rw[<-g6,<-e6];unfold rv;rw[Q3w g5 e5]) rfl
theorem Q9q{x:Int}(h1: -9223372036854775808<=x)(h2:x<=9223372036854775807):Qd Tryz.prog 65 [.int .i64 x] (· =PV.zz x):=by
 refine Qf Qj Tryz.func65 rfl Qanr (by simp[c65]) fun C hP=>?_;simp only[c65];refine Sz0 ?_;refine Qb (fun hc=>?_) (fun hc=>?_)
 ·obtain⟨y,hy⟩:∃y:Nat,x= -((y:Int)+1):=⟨(-(x+1)).toNat,by omega⟩
  have e1:IntKind.i64.wrap (x+1)= -(y:Int):=by rw[Qh7 (by omega) (by omega)];omega
  have e2:IntKind.i64.wrap (0- -(y:Int))=(y:Int):=by rw[Qh7 (by omega) (by omega)];omega
  have e3:IntKind.u64.wrap (y:Int)=(y:Int):=Qf7 (by omega) (by omega);have e4:IntKind.u64.wrap ((y+1:Nat):Int)=((y+1:Nat):Int):=Qf7 (by omega) (by omega);refine Sz4 e1 e2 e3 e4 ?_;refine Qa hP (Qn7 (by omega)) rfl rfl rfl ?_;refine Sz0 ?_;refine Qa hP (Qgn true (y+1)) rfl rfl rfl ?_;refine Sz0 ?_;refine Qbs ?_;refine Sz0 ?_;exact Qc (congrArg PV.zz (by simp;omega)) rfl
 ·obtain⟨y,rfl⟩:∃y:Nat,x=y:=⟨x.toNat,by omega⟩
  refine Sz0 ?_;refine Qa hP (Qn7 (by omega)) rfl rfl rfl ?_;refine Sz0 ?_;refine Qa hP (Qgn false y) rfl rfl rfl ?_;refine Sz0 ?_;refine Qbs ?_;refine Sz0 ?_;exact Qc (congrArg PV.zz (by simp)) rfl
theorem Qij{x:Int}(h1: -9223372036854775808<=x)(h2:x<=9223372036854775807):Qd Tryz.prog 32 [.int .i64 x] (· =PV.rat (x:Rat)):=by refine Qf Qj Tryz.func32 rfl Qanu (by simp[c32]) fun C hP=>?_;simp only[c32];refine Sz0 ?_;refine Qa hP (Q9q h1 h2) rfl rfl rfl ?_;refine Sz0 ?_;refine Qa hP Qm0 rfl rfl rfl ?_;refine Sz0 ?_;refine Qbs ?_;refine Sz0 ?_;exact Qc (by rw[PV.rat,Rat.num_intCast,Rat.den_intCast,PV.num,PV.num,Qhi];rfl) rfl
theorem Q09{n:Bool}{a:List Nat}(ha:Ql a)(hla:a.length<2^42):Qd Tryz.prog 115 [PV.zi n a] (· = .bool (Qhl n a)):=by
 refine Qf Qj Tryz.func115 rfl Qaiz (by simp[c115]) fun C hP=>?_;simp only[c115];refine Sz0 ?_;refine Qat (fun h0=>?_) (fun h0=>?_)
 ·have:a=[]:=List.length_eq_zero_iff.1 (by omega);subst this;refine Sz0 ?_;cases n
  ·refine Sz0 ?_;refine Qc (congrArg PV.bool ?_) rfl;simp[Qhl]
  ·refine Sz0 ?_;refine Qc (congrArg PV.bool ?_) rfl;simp[Qhl]
 ·obtain⟨k,hk⟩:∃k,a.length=k+1:=⟨a.length-1,by omega⟩
  have hne:a≠[]:=fun h=>by rw[h]at hk;simp at hk
  have hl:=Qsl hk;have e:((k+1:Nat):Int)-1=k:=by omega
  generalize hx:a[k]'(by omega)=x at *
  refine Sz3 hk e hx ?_;refine Qat (fun h=>?_) (fun h=>absurd (by omega) h);refine Sz3 hk e hx ?_;refine Qc (congrArg PV.bool ?_) rfl;unfold Qhl;rw[if_neg hne,hl];exact decide_eq_decide.2 ⟨fun h h'=>h (by injection h' with h';rw[h'];rfl),fun h h'=>h (by rw[show x=0 by omega])⟩
theorem Q2s{n:Bool}{a d:List Nat}{k:Nat}(hp:Raw k n a d)(hk:k<2^36):Qd Tryz.prog 68 [PV.rr n a d] (· = .bool (Qi1 n a d)):=by
 obtain⟨ha,hd,sa,sd,k1⟩:=hp;refine Qf Qj Tryz.func68 rfl Qant (by simp[c68]) fun C hP=>?_;simp only[c68];refine Sz0 ?_;refine Qa hP (Q09 ha (by omega)) rfl rfl rfl ?_;unfold Qi1;refine Sz0 ?_;cases hio:Qhl n a
 ·refine Sz1 @Bool.not_false ?_;exact Qc (by simp) rfl
 rw[Bool.true_and];refine Sz1 @Bool.not_true ?_;refine Qab (fun h0=>?_) (fun h0=>?_)
 ·have:d=[]:=List.length_eq_zero_iff.1 (by omega);subst this;refine Sz0 ?_;exact Qc (by simp) rfl
 obtain⟨k',hk'⟩:∃k,d.length=k+1:=⟨d.length-1,by omega⟩
 have hne:d≠[]:=fun h=>by rw[h]at hk';simp at hk'
 have hl:=Qsl hk';have e:((k'+1:Nat):Int)-1=k':=by omega
 generalize hx:d[k']'(by omega)=x at *
 refine Sz3 hk' e hx ?_;refine Qb (fun h1=>?_) (fun h1=>?_)
 ·refine Sz0 ?_;refine Qc (congrArg PV.bool ?_) rfl;rw[hl,show x=0 by omega];simp
 have hx0:x≠0:=by omega
 refine Sz0 ?_;refine Qa hP (Qpb (by omega)) rfl rfl rfl ?_;refine Sz0 ?_;refine Qab (fun h2=>?_) (fun h2=>?_)
 ·subst h2;refine Sz0 ?_;refine Qc (congrArg PV.bool ?_) rfl;simp[val]
 ·refine Sz0 ?_;refine Qa hP (Q07 ha hd (by omega) (by omega)) rfl rfl rfl ?_;have hD:0<val d:=by apply Nat.pos_of_ne_zero;intro h0;have hdd:=Qnw hd (by rw[hl];simpa using hx0);rw[h0,Qa7]at hdd;exact hne hdd.symm
  have hgl:(dig (Nat.gcd (val a) (val d))).length<2^43:=by have h3:=Qbm (Nat.gcd_le_right (val a) hD);have h4:=Qau hd;unfold nl at h3 h4;omega
  refine Sz0 ?_;refine Qa hP (Qw4 hgl) rfl rfl rfl ?_;refine Sz0 ?_;refine Qc (congrArg PV.bool ?_) rfl;rw[hl];simp[hne,hx0]
theorem Qst{a:List Int}(hl:a.length<2^42):Qd Tryz.prog 92 [PV.mono a] (· =PV.mono (Qdf a)):=by
 refine Qf Qj Tryz.func92 rfl Qam7 (by simp[c92]) fun C hP=>?_;simp only[c92];refine Sz0 ?_;refine Qy (by repeat (first|exact Qu|exact Qn|exact Qo|exact Qk|exact Qp|apply Qm|apply Qt|apply Qw|apply Q5|apply Q6|apply Qi)) [(3,3),(6,17)] [] (fun n J hp=>n<=a.length/\Qg6 a n=Qdf a/\J 3= .int .i64 n/\hp=hp0) a.length ?_ ?_
 ·refine⟨Nat.le_refl _,rfl,?_⟩;exact Tz0
 rintro n J _ ⟨hn,hc,h3,rfl⟩;refine Sz1 h3 ?_;refine Qat (fun hg=>?_) (fun hg=>?_)
 ·obtain _|n:=n
  ·omega
  have e:((n+1:Nat):Int)-1=n:=by omega
  simp only[Qg6]at hc;simp+decide (disch:=first|omega|rfl|(simp+decide only[go_sem,↓reduceIte,h3,e]<;>rfl)|fail) only[go_sem,↓reduceIte,h3,e];refine Qb (fun hz=>?_) (fun hz=>?_)
  ·rw[if_pos (by simp[hz,show n<a.length by omega])]at hc;refine Sz2 h3 e ?_;refine Qh n (by omega) ⟨by omega,hc,?_⟩;exact Tz0
  ·rw[if_neg (by simpa[show n<a.length by omega]using hz)]at hc;refine Sz2 h3 e ?_;refine Qb (fun h=>by omega) (fun h=>?_);refine Sz2 h3 e ?_;exact Qc (congrArg PV.mono hc) rfl
 ·obtain rfl:n=0:=by omega
  refine Sz1 h3 ?_;exact Qeq (Qx6 (by rw[<-hc];rfl)) rfl
theorem Q1a{a:List Int}(hl:a.length<2^42):Qd Tryz.prog 70 [PV.mono a] (· = .bool (Qby a)):=by
 refine Qf Qj Tryz.func70 rfl Qam8 (by simp[c70]) fun C hP=>?_;simp only[c70];refine Sz0 ?_;have bad:(64<a.length∨a.getLast? =some 0∨∃x∈a,x<0∨1048576<x)->Qby a=false:=fun h=>by
  cases hb:Qby a with
  |false=>rfl
  |true=>
   have:=MB.ofOk hb;simp only[Qby,Bool.and_eq_true,decide_eq_true_eq]at hb;rcases h with h|h|⟨x,hx,h⟩
   ·omega
   ·exact absurd h hb.2.1
   ·have h5:=this.lo x hx;have h6:=this.hi x hx;omega
 refine Qab (fun h1=>?_) (fun h1=>?_)
 ·refine Sz0 ?_;exact Qc (by rw[bad (.inl (by omega))]) rfl
 refine Sz0 ?_;have fin:a.length<=64->a.getLast? ≠some 0->(∀x∈a,0<=x/\x<=1048576)->Qby a=true:=fun h1 h2 h3=>by simp only[Qby,Bool.and_eq_true,decide_eq_true_eq,List.all_eq_true];exact⟨h1,h2,h3⟩
 refine Qat (fun h2=>?_) (fun h2=>?_)
 ·obtain⟨k,hk⟩:∃k,a.length=k+1:=⟨a.length-1,by omega⟩
  have hlast:=Qoy hk;have e:((k+1:Nat):Int)-1=k:=by omega
  generalize hy:a[k]'(by omega)=y at *
  refine Sz3 hk e hy ?_;refine Qb (fun h3=>?_) (fun h3=>?_)
  ·refine Sz0 ?_;exact Qc (by rw[bad (.inr (.inl (by rw[hlast,h3])))]) rfl
  have hlast:a.getLast? ≠some 0:=by rw[hlast];simpa using h3
  rw[<-hk]at *
  refine Sz0 ?_;refine Qy (by repeat (first|exact Qu|exact Qn|exact Qo|exact Qk|exact Qp|apply Qm|apply Qt|apply Qw|apply Q5|apply Q6|apply Qi)) [(2,2),(4,4),(24,34)] [] (fun k J hp=>∃i,k=a.length-i/\i<=a.length/\(∀x∈a.take i,0<=x/\x<=1048576)/\J 24= .int .i64 i/\hp=hp0) a.length ?_ ?_
  ·refine⟨0,rfl,by omega,by simp,?_⟩;refine Sz0 ?_;rfl
  rintro _ J _ ⟨i,rfl,hi,hall,h24,rfl⟩;refine Sz1 h24 ?_;refine Qb (fun hg=>?_) (fun hg=>?_)
  ·have hi':i<a.length:=by omega
   have hmem:=List.getElem_mem hi';have htk:∀x∈a.take (i+1),x∈a.take i∨x=a[i]:=fun x hx=>by
    rw[List.take_succ_eq_append_getElem hi']at hx;rcases List.mem_append.1 hx with h|h
    ·exact .inl h
    ·exact .inr (List.mem_singleton.1 h)
   generalize hx:a[i]=x at *
   refine Sz2 h24 hx ?_;refine Qab (fun h5=>?_) (fun h5=>?_)
   ·refine Sz0 ?_;exact Qc (by rw[bad (.inr (.inr ⟨x,hmem,.inl h5⟩))]) rfl
   ·refine Sz0 ?_;refine Qb (fun h6=>?_) (fun h6=>?_)
    ·refine Sz0 ?_;exact Qc (by rw[bad (.inr (.inr ⟨x,hmem,.inr h6⟩))]) rfl
    ·refine Sz1 h24 ?_;refine Qh (a.length-(i+1)) (by omega) ⟨i+1,rfl,by omega,fun y hy=>?_,?_⟩
     ·rcases htk y hy with h|rfl
      ·exact hall y h
      ·omega
     ·exact Tz0
  ·rw[List.take_of_length_le (by omega)]at hall;refine Sz0 ?_;exact Qc (by rw[fin (by omega) hlast hall]) rfl
 ·have hnil:a=[]:=List.length_eq_zero_iff.1 (by omega);have hlast:a.getLast? ≠some 0:=by rw[hnil];simp
  refine Sz0 ?_;refine Qy (by repeat (first|exact Qu|exact Qn|exact Qo|exact Qk|exact Qp|apply Qm|apply Qt|apply Qw|apply Q5|apply Q6|apply Qi)) [(2,2),(4,4),(24,34)] [] (fun k J hp=>∃i,k=a.length-i/\i<=a.length/\(∀x∈a.take i,0<=x/\x<=1048576)/\J 24= .int .i64 i/\hp=hp0) a.length ?_ ?_
  ·refine⟨0,rfl,by omega,by simp,?_⟩;refine Sz0 ?_;rfl
  rintro _ J _ ⟨i,rfl,hi,hall,h24,rfl⟩;refine Sz1 h24 ?_;refine Qb (fun hg=>?_) (fun hg=>?_)
  ·have hi':i<a.length:=by omega
   have hmem:=List.getElem_mem hi';have htk:∀x∈a.take (i+1),x∈a.take i∨x=a[i]:=fun x hx=>by
    rw[List.take_succ_eq_append_getElem hi']at hx;rcases List.mem_append.1 hx with h|h
    ·exact .inl h
    ·exact .inr (List.mem_singleton.1 h)
   generalize hx:a[i]=x at *
   refine Sz2 h24 hx ?_;refine Qab (fun h5=>?_) (fun h5=>?_)
   ·refine Sz0 ?_;exact Qc (by rw[bad (.inr (.inr ⟨x,hmem,.inl h5⟩))]) rfl
   ·refine Sz0 ?_;refine Qb (fun h6=>?_) (fun h6=>?_)
    ·refine Sz0 ?_;exact Qc (by rw[bad (.inr (.inr ⟨x,hmem,.inr h6⟩))]) rfl
    ·refine Sz1 h24 ?_;refine Qh (a.length-(i+1)) (by omega) ⟨i+1,rfl,by omega,fun y hy=>?_,?_⟩
     ·rcases htk y hy with h|rfl
      ·exact hall y h
      ·omega
     ·exact Tz0
  ·rw[List.take_of_length_le (by omega)]at hall;refine Sz0 ?_;exact Qc (by rw[fin (by omega) hlast hall]) rfl
theorem Qpx{a:List Int}(hl:a.length<=1048576)(hb:∀x∈a,0<=x/\x<=1099511627776):Qd Tryz.prog 137 [PV.mono a] (· = .int .i64 (Qgt a)):=by
 refine Qf Qj Tryz.func137 rfl Qaiq (by simp[c137]) fun C hP=>?_;simp only[c137];refine Sz0 ?_;refine Qy (by repeat (first|exact Qu|exact Qn|exact Qo|exact Qk|exact Qp|apply Qm|apply Qt|apply Qw|apply Q5|apply Q6|apply Qi)) [(3,3),(5,5),(8,15)] [] (fun k J hp=>∃(i:Nat)(s:Int),k=a.length-i/\i<=a.length/\0<=s/\s<=1099511627776*i/\s+(a.drop i).sum=Qgt a/\J 8= .int .i64 (i:Nat)/\J 3= .int .i64 s/\hp=hp0) a.length ?_ ?_
 ·refine⟨0,0,rfl,by omega,by omega,by omega,by simp[Qgt],?_⟩;refine Sz0 ?_;simp
 rintro _ J _ ⟨i,s,rfl,hi,hs0,hs1,hsum,h8,h3,rfl⟩;refine Sz2 h8 h3 ?_;refine Qb (fun hg=>?_) (fun hg=>?_)
 ·have hi':i<a.length:=by omega
  have hx:=hb _ (List.getElem_mem hi');rw[List.drop_eq_getElem_cons hi',List.sum_cons]at hsum;generalize hxx:a[i]=x at *
  refine Sz3 h8 h3 hxx ?_;refine Qh (a.length-(i+1)) (by omega) ⟨i+1,s+x,rfl,by omega,by omega,by push_cast;omega,by omega,?_⟩;exact Tz0
 ·rw[List.drop_of_length_le (by omega),List.sum_nil,Int.add_zero]at hsum;refine Sz1 h3 ?_;exact Qc (by rw[hsum]) rfl
theorem Qu7{a:List Int}{v:Int}(hl:a.length<2^42):Qd Tryz.prog 51 [PV.mono a,.int .i64 v] (· = .int .i64 (if v<0 then 0 else eN a v.toNat)):=by
 refine Qf Qj Tryz.func51 rfl Qam9 (by simp[c51]) fun C hP=>?_;simp only[c51];refine Sz0 ?_;refine Qab (fun h1=>?_) (fun h1=>?_)
 ·refine Sz0 ?_;exact Qc (by rw[if_pos h1]) rfl
 ·obtain⟨n,rfl⟩:∃n:Nat,v=n:=⟨v.toNat,by omega⟩
  rw[if_neg h1];refine Sz0 ?_;refine Qb (fun h2=>?_) (fun h2=>?_)
  ·refine Sz0 ?_;exact Qc (by rw[Qcs (by omega)]) rfl
  ·have hn:n<a.length:=by omega
   refine Sz0 ?_;exact Qc (by rw[Qc2 hn]) rfl
theorem Qm1{a:List Int}{i:Nat}(hl:a.length<2^42):Qd Tryz.prog 51 [PV.mono a,.int .i64 i] (· = .int .i64 (eN a i)):=by
 have:=Qu7 (v:=i) hl
 rwa[if_neg (by omega),Int.toNat_natCast]at this
theorem Qw6{a b:List Int}{f:Nat}{g:Int->Int->Int}(hla:a.length<2^40)(hlb:b.length<2^40)(hf:∀i,Qd Tryz.prog f [.int .i64 (eN a i),.int .i64 (eN b i)] (· = .int .i64 (g (eN a i) (eN b i)))):
  Qd Tryz.prog 128 [PV.mono a,PV.mono b,.fn f [] []] (· =PV.mono (Qg8 g a b)):=by
 refine Qf Qj Tryz.func128 rfl Qaip (by simp[c128]) fun C hP=>?_;simp only[c128];refine Sz0 ?_;refine Qy (by repeat (first|exact Qu|exact Qn|exact Qo|exact Qk|exact Qp|apply Qm|apply Qt|apply Qw|apply Q5|apply Q6|apply Qi)) [(8,10),(19,45)] [] (fun k J hp=>∃i,k=max a.length b.length-i/\i<=max a.length b.length/\J 19= .int .i64 (i:Nat)/\hp=Qv hp0 16 ⟨1,3,Qee ((Qg8 g a b).take i++List.replicate (max a.length b.length-i) 0),false⟩) (max a.length b.length) ?_ ?_
 ·refine⟨0,rfl,by omega,?_⟩;refine Sz0 ?_;simp
 rintro _ J _ ⟨i,rfl,hi,h19,rfl⟩;refine Sz1 h19 ?_;refine Qb (fun hg=>?_) (fun hg=>?_)
 ·have hi':i<max a.length b.length:=by omega
  have hfi:=hf i;have htl:((Qg8 g a b).take i).length=i:=by rw[List.length_take,Qc6];omega
  have hset:=fun v=>Q84 (v:=v) (z:=(0:Int)) htl (show 0<max a.length b.length-i by omega);have hlen:i<((Qg8 g a b).take i++List.replicate (max a.length b.length-i) (0:Int)).length:=by rw[List.length_append,htl,List.length_replicate];omega
  have htk:=Qqq (g:=g) hi';have fin:∀x y,x=eN a i->y=eN b i->Qd Tryz.prog f [.int .i64 x,.int .i64 y] (· = .int .i64 (g (eN a i) (eN b i))):=by rintro _ _ rfl rfl;exact hfi
  refine Sz1 h19 ?_;refine Qb (fun h1=>?_) (fun h1=>?_)
  ·have h1':i<a.length:=by omega
   simp+decide (disch:=first|omega|rfl|(simp+decide only[go_sem,↓reduceIte,h19]<;>rfl)|fail) only[go_sem,↓reduceIte,h19];refine Qb (fun h2=>?_) (fun h2=>?_)
   ·have h2':i<b.length:=by omega
    simp+decide (disch:=first|omega|rfl|(simp+decide only[go_sem,↓reduceIte,h19]<;>rfl)|fail) only[go_sem,↓reduceIte,h19];refine Qa hP (fin _ _ (Qc2 h1').symm (Qc2 h2').symm) rfl rfl rfl ?_;simp+decide (disch:=first|omega|rfl|(simp+decide only[go_sem,↓reduceIte,h19,hset,<-htk]<;>rfl)|fail) only[go_sem,↓reduceIte,h19,hset,<-htk];refine Qh (max a.length b.length-(i+1)) (by omega) ⟨i+1,rfl,by omega,?_⟩;exact Tz1 @Nat.sub_sub
   ·refine Sz1 h19 ?_;refine Qa hP (fin _ _ (Qc2 h1').symm (Qcs (by omega)).symm) rfl rfl rfl ?_;simp+decide (disch:=first|omega|rfl|(simp+decide only[go_sem,↓reduceIte,h19,hset,<-htk]<;>rfl)|fail) only[go_sem,↓reduceIte,h19,hset,<-htk];refine Qh (max a.length b.length-(i+1)) (by omega) ⟨i+1,rfl,by omega,?_⟩;exact Tz1 @Nat.sub_sub
  ·refine Sz1 h19 ?_;refine Qb (fun h2=>?_) (fun h2=>by omega);have h2':i<b.length:=by omega
   simp+decide (disch:=first|omega|rfl|(simp+decide only[go_sem,↓reduceIte,h19]<;>rfl)|fail) only[go_sem,↓reduceIte,h19];refine Qa hP (fin _ _ (Qcs (by omega)).symm (Qc2 h2').symm) rfl rfl rfl ?_;simp+decide (disch:=first|omega|rfl|(simp+decide only[go_sem,↓reduceIte,h19,hset,<-htk]<;>rfl)|fail) only[go_sem,↓reduceIte,h19,hset,<-htk];refine Qh (max a.length b.length-(i+1)) (by omega) ⟨i+1,rfl,by omega,?_⟩;exact Tz1 @Nat.sub_sub
 ·obtain rfl:i=max a.length b.length:=by omega
  refine Vz0 ?_;exact Qc (by simp[List.take_of_length_le,Qc6]) rfl
theorem Q2t{x y:Int}(h1: -9223372036854775808<=x+y)(h2:x+y<=9223372036854775807):Qd Tryz.prog 129 [.int .i64 x,.int .i64 y] (· = .int .i64 (x+y)):=by refine Qf Qj Tryz.func129 rfl Qair (by simp[c129]) fun C hP=>?_;simp only[c129];refine Sz0 ?_;exact Qc rfl rfl
theorem Q59{k:Nat}{a b:List Int}(ha:MB k a)(hb:MB k b)(hk:k<=1099511627776):Qd Tryz.prog 83 [PV.mono a,PV.mono b] (· =PV.mono (Qay a b)):=by have h1:=ha.len;have h2:=hb.len;have hz:=Qc6 (· + ·) a b;refine Qf Qj Tryz.func83 rfl Qanb (by simp[c83]) fun C hP=>?_;simp only[c83];refine Sz0 ?_;refine Qa hP (Qw6 (f:=129) (g:=(· + ·)) (by omega) (by omega) (fun i=>Q2t (by have:=ha.eN i;have:=hb.eN i;omega) (by have:=ha.eN i;have:=hb.eN i;omega))) rfl rfl rfl ?_;refine Sz0 ?_;refine Qa hP (Qst (by omega)) rfl rfl rfl ?_;refine Sz0 ?_;exact Qc rfl rfl
theorem Q2u{a:List Int}(hl:a.length<2^42):Qd Tryz.prog 50 [PV.mono a] (· = .int .i64 ((Qdf a).length-1)):=by have:=Qd7 a;refine Qf Qj Tryz.func50 rfl Qana (by simp[c50]) fun C hP=>?_;simp only[c50];refine Sz0 ?_;refine Qa hP (Qst hl) rfl rfl rfl ?_;refine Sz0 ?_;exact Qc rfl rfl
theorem Qu8{k:Nat}{a b:List Int}{o:Int}(ha:MB k a)(hb:MB k b)(hk:k<=1099511627776):Qd Tryz.prog 90 [PV.mono a,PV.mono b,.int .i64 o] (· = .int .i64 (Qgu o a b)):=by
 have h1:=ha.len;have h2:=hb.len;have hda:∀x∈a,0<=x/\x<=1099511627776:=fun x hx=>by have:=ha.lo x hx;have:=ha.hi x hx;omega
 have hdb:∀x∈b,0<=x/\x<=1099511627776:=fun x hx=>by have:=hb.lo x hx;have:=hb.hi x hx;omega
 refine Qf Qj Tryz.func90 rfl Qanc (by simp[c90]) fun C hP=>?_;simp only[c90];refine Sz0 ?_;refine Qb (fun ho=>?_) (fun ho=>?_)
 ·refine Sz0 ?_;refine Qa hP (Qpx (by omega) hda) rfl rfl rfl ?_;refine Sz0 ?_;refine Qa hP (Qpx (by omega) hdb) rfl rfl rfl ?_;refine Sz0 ?_;refine Qb (fun hd=>?_) (fun hd=>?_)
  ·have hord:Qgu o a b=Qbx (Qgt a) (Qgt b):=by unfold Qgu;rw[if_pos ⟨ho,hd⟩]
   refine Sz0 ?_;refine Qb (fun h5=>?_) (fun h5=>?_)
   ·refine Sz0 ?_;exact Qc (by rw[hord,Qbx,if_pos h5]) rfl
   ·refine Sz0 ?_;exact Qc (by rw[hord,Qbx,if_neg h5,if_pos (by omega)]) rfl
  have hord:Qgu o a b=Qak a b:=by unfold Qgu;rw[if_neg (fun h=>hd h.2)]
  refine Sz0 ?_;refine Qy (by repeat (first|exact Qu|exact Qn|exact Qo|exact Qk|exact Qp|apply Qm|apply Qt|apply Qw|apply Q5|apply Q6|apply Qi)) [(6,6),(9,11),(30,45)] [] (fun n J hp=>n<=max a.length b.length/\Qb9 a b n=Qak a b/\J 9= .int .i64 ((n:Int)-1)/\hp=hp0) (max a.length b.length) ?_ ?_
  ·refine⟨by omega,rfl,?_⟩;exact Tz0
  rintro n J _ ⟨hn,hc,h9,rfl⟩;refine Sz1 h9 ?_;refine Qb (fun hg=>?_) (fun hg=>?_)
  ·obtain _|n:=n
   ·omega
   have e:((n+1:Nat):Int)-1=n:=by omega
   rw[Qb9]at hc;refine Sz2 h9 e ?_;refine Qa hP (Qm1 (by omega)) rfl rfl rfl ?_;refine Sz2 h9 e ?_;refine Qa hP (Qm1 (by omega)) rfl rfl rfl ?_;refine Sz2 h9 e ?_;refine Qb (fun h4=>?_) (fun h4=>?_)
   ·rw[if_neg h4]at hc;refine Sz2 h9 e ?_;refine Qb (fun h5=>?_) (fun h5=>?_)
    ·refine Sz2 h9 e ?_;exact Qc (by rw[hord,<-hc,Qbx,if_pos h5]) rfl
    ·refine Sz2 h9 e ?_;exact Qc (by rw[hord,<-hc,Qbx,if_neg h5,if_pos (by omega)]) rfl
   ·rw[if_pos (by omega)]at hc;refine Sz2 h9 e ?_;refine Qh n (by omega) ⟨by omega,hc,?_⟩;exact Tz0
  ·obtain rfl:n=0:=by omega
   refine Sz0 ?_;exact Qc (by rw[hord,<-hc];rfl) rfl
 ·have hord:Qgu o a b=Qak a b:=by unfold Qgu;rw[if_neg (fun h=>ho h.1)]
  refine Sz0 ?_;refine Qy (by repeat (first|exact Qu|exact Qn|exact Qo|exact Qk|exact Qp|apply Qm|apply Qt|apply Qw|apply Q5|apply Q6|apply Qi)) [(6,6),(9,11),(30,45)] [] (fun n J hp=>n<=max a.length b.length/\Qb9 a b n=Qak a b/\J 9= .int .i64 ((n:Int)-1)/\hp=hp0) (max a.length b.length) ?_ ?_
  ·refine⟨by omega,rfl,?_⟩;exact Tz0
  rintro n J _ ⟨hn,hc,h9,rfl⟩;refine Sz1 h9 ?_;refine Qb (fun hg=>?_) (fun hg=>?_)
  ·obtain _|n:=n
   ·omega
   have e:((n+1:Nat):Int)-1=n:=by omega
   rw[Qb9]at hc;refine Sz2 h9 e ?_;refine Qa hP (Qm1 (by omega)) rfl rfl rfl ?_;refine Sz2 h9 e ?_;refine Qa hP (Qm1 (by omega)) rfl rfl rfl ?_;refine Sz2 h9 e ?_;refine Qb (fun h4=>?_) (fun h4=>?_)
   ·rw[if_neg h4]at hc;refine Sz2 h9 e ?_;refine Qb (fun h5=>?_) (fun h5=>?_)
    ·refine Sz2 h9 e ?_;exact Qc (by rw[hord,<-hc,Qbx,if_pos h5]) rfl
    ·refine Sz2 h9 e ?_;exact Qc (by rw[hord,<-hc,Qbx,if_neg h5,if_pos (by omega)]) rfl
   ·rw[if_pos (by omega)]at hc;refine Sz2 h9 e ?_;refine Qh n (by omega) ⟨by omega,hc,?_⟩;exact Tz0
  ·obtain rfl:n=0:=by omega
   refine Sz0 ?_;exact Qc (by rw[hord,<-hc];rfl) rfl
theorem Qarc{a b:Rat}{k:Nat}(ha:rs a<=k)(hb:rs b<=k)(hk:k<2^36):Qd Tryz.prog 91 [PV.rat a,PV.rat b] (· =PV.rat (a+b)):=by
 have:=Qyj (Qc7 ha) (Qc7 hb) hk
 rwa[Qdo,Qdo]at this
theorem Qard{a b:Rat}{k:Nat}(ha:rs a<=k)(hb:rs b<=k)(hk:k<2^36):Qd Tryz.prog 82 [PV.rat a,PV.rat b] (· =PV.rat (a*b)):=by
 have:=Q9o (Qc7 ha) (Qc7 hb) hk
 rwa[Qdo,Qdo]at this
theorem Qare{a b:Rat}{k:Nat}(ha:rs a<=k)(hb:rs b<=k)(hk:k<2^36):Qd Tryz.prog 94 [PV.rat a,PV.rat b] (· = .int .i64 (Qjl a b)):=by
 have:=Q9p (Qc7 ha) (Qc7 hb) hk
 rwa[Qdo,Qdo]at this
theorem Qqw{a:Rat}(ha:rs a<2^36):Qd Tryz.prog 69 [PV.rat a] (· = .int .i64 (Qef a)):=by
 have:=Qld (Qc7 (Nat.le_refl (rs a))) ha
 rwa[Qdo]at this
theorem Qu9{s t:Tm}{E:Nat}(hs:MB E s.2)(ht:MB E t.2)(hE:E<=2^38):Qd Tryz.prog 48 [PV.term s,PV.term t] (· = .int .i64 (Qak s.2 t.2)):=by refine Qf Qj Tryz.func48 rfl Q9j (by simp[c48]) fun C hP=>?_;simp only[c48];refine Sz0 ?_;refine Qa hP (Qu8 (o:=0) hs ht (by omega)) rfl rfl rfl ?_;refine Sz0 ?_;exact Qc (by rw[Qu2]) rfl
theorem Q1b{s t:Tm}{k:Nat}(hs:rs s.1<=k)(ht:rs t.1<=k)(hk:k<2^34):Qd Tryz.prog 49 [PV.term s,PV.term t] (· = .tup [PV.term (s.1+t.1,s.2),.bool (decide (¬s.1+t.1=0))]):=by have hr:=Quz s.1 t.1;refine Qf Qj Tryz.func49 rfl Qane (by simp[c49]) fun C hP=>?_;simp only[c49];refine Sz0 ?_;refine Qa hP (Qarc (a:=s.1) (b:=t.1) hs ht (by omega)) rfl rfl rfl ?_;refine Sz0 ?_;refine Qa hP (Qqw (a:=s.1+t.1) (by omega)) rfl rfl rfl ?_;refine Sz0 ?_;refine Qhk ?_;refine Sz0 ?_;exact Qf9 rfl rfl rfl (Q2 _) (Qg4 (congrArg PV.bool (decide_eq_decide.2 (not_congr Qbd))))
theorem Qy8{c:Rat}{m:List Int}(hc:rs c<2^36):Qd Tryz.prog 122 [PV.rat c,PV.mono m] (· =PV.poly (if c=0 then []else [(c,m)])):=by
 refine Qf Qj Tryz.func122 rfl Qais (by simp[c122]) fun C hP=>?_;simp only[c122];refine Sz0 ?_;refine Qa hP (Qqw (a:=c) hc) rfl rfl rfl ?_;refine Sz0 ?_;refine Qb (fun h0=>?_) (fun h0=>?_)
 ·rw[if_pos (Qbd.1 h0)];refine Sz0 ?_;exact Qeq Qgb rfl
 ·rw[if_neg (fun h=>h0 (Qbd.2 h))];refine Vz0 ?_;exact Qc rfl rfl
theorem Q1c{p q:List Tm}{K E:Nat}(hp:PB K E p)(hq:PB K E q)(hK:K<=2^33)(hE:E<=2^38)(hlp:p.length<=2^36)(hlq:q.length<=2^36):
  Qd Tryz.prog 47 [PV.poly p,PV.poly q,.fn 48 [] [],.fn 49 [] []] (· =PV.poly (Q4 p q)):=by
 refine Qf Qj Tryz.func47 rfl Qand (by simp[c47]) fun C hP=>?_;simp only[c47];refine Sz0 ?_;refine Qy (by repeat (first|exact Qu|exact Qn|exact Qo|exact Qk|exact Qp|apply Qm|apply Qt|apply Qw|apply Q5|apply Q6|apply Qi)) [(9,14),(21,86)] [13,20,57,58,71,72,83,84] (fun n J hp=>∃i k out,n=(p.length-i)+(q.length-k)/\i<=p.length/\k<=q.length/\out.length<=i+k/\out++Q4 (p.drop i) (q.drop k)=Q4 p q/\
  J 9= .ms 20 out.length/\J 10= .int .i64 (i:Nat)/\J 11= .int .i64 (k:Nat)/\hp 20=some ⟨4,54,out.map PV.term,false⟩) (p.length+q.length) ?_ ?_
 ·refine⟨0,0,[],by omega,by omega,by omega,by simp,rfl,?_⟩;refine Sz0 ?_;simp
 rintro _ J h ⟨i,k,out,rfl,hi,hk,hol,hpad,h9,h10,h11,hh⟩;refine Sz3 h9 h10 h11 ?_;refine Qat (fun hg=>?_) (fun hg=>?_)
 ·have hi':i<p.length:=by omega
  refine Sz3 h9 h10 h11 ?_;refine Qb (fun hg2=>?_) (fun hg2=>?_)
  ·have hk':k<q.length:=by omega
   have htp:=hp.get hi';have htq:=hq.get hk';rw[Qx7 hi' hk']at hpad;have c1:=htp.c;have c2:=htq.c;generalize hx:p[i]=x at *
   generalize hy:q[k]=y at *
   refine Sz5 h9 h10 h11 hx hy ?_;refine Qa hP (Qu9 (s:=x) (t:=y) htp.m htq.m hE) rfl rfl rfl ?_;refine Sz5 h9 h10 h11 hx hy ?_;refine Qb (fun hc=>?_) (fun hc=>?_)
   ·rw[if_pos hc]at hpad;refine Sz5 h9 h10 h11 hx hy ?_;rw[Qag (f:=PV.term) (y:=x) (xs:=out) (ty':=54) (fz:=false) (Tz1 hh) Qcv (by omega) rfl (by omega) (by omega)];refine Sz5 h9 h10 h11 hx hy ?_;refine Qh ((p.length-(i+1))+(q.length-k)) (by omega) ⟨i+1,k,out++[x],rfl,by omega,hk,by simp;omega,by simpa using hpad,?_⟩;refine Sz3 h9 h10 h11 ?_;simp
   rw[if_neg hc]at hpad;refine Sz5 h9 h10 h11 hx hy ?_;refine Qb (fun hc2=>?_) (fun hc2=>?_)
   ·rw[if_pos hc2]at hpad;refine Sz5 h9 h10 h11 hx hy ?_;rw[Qag (f:=PV.term) (y:=y) (xs:=out) (ty':=54) (fz:=false) (Tz1 hh) Qcv (by omega) rfl (by omega) (by omega)];refine Sz5 h9 h10 h11 hx hy ?_;refine Qh ((p.length-i)+(q.length-(k+1))) (by omega) ⟨i,k+1,out++[y],rfl,hi,by omega,by simp;omega,by simpa using hpad,?_⟩;refine Sz3 h9 h10 h11 ?_;simp
   rw[if_neg hc2]at hpad;refine Sz5 h9 h10 h11 hx hy ?_;refine Qfq ?_ ?_
   all_goals
    refine Sz5 h9 h10 h11 hx hy ?_;refine Qa hP (Q1b (s:=x) (t:=y) (k:=2^33) (by omega) (by omega) (by omega)) rfl rfl rfl ?_;refine Sz5 h9 h10 h11 hx hy ?_;refine Qb (fun hz=>?_) (fun hz=>?_)
    ·rw[if_neg hz]at hpad;refine Sz5 h9 h10 h11 hx hy ?_;rw[Qag (f:=PV.term) (y:=(x.1+y.1,x.2)) (xs:=out) (ty':=54) (fz:=false) (Tz1 hh) Qcv (by omega) rfl (by omega) (by omega)];refine Sz5 h9 h10 h11 hx hy ?_;refine Qh ((p.length-(i+1))+(q.length-(k+1))) (by omega) ⟨i+1,k+1,out++[(x.1+y.1,x.2)],rfl,by omega,by omega,by simp;omega,by simpa using hpad,?_⟩;refine Sz3 h9 h10 h11 ?_;simp
    ·rw[if_pos (Decidable.not_not.1 hz)]at hpad;refine Sz5 h9 h10 h11 hx hy ?_;refine Qh ((p.length-(i+1))+(q.length-(k+1))) (by omega) ⟨i+1,k+1,out,rfl,by omega,by omega,by omega,hpad,?_⟩;exact Tz4 h9 h10 h11 hh
  ·have hfin:(out++p.drop i++q.drop k).take (out.length+(p.drop i).length+(q.drop k).length)=Q4 p q:=by rw[List.take_of_length_le (by simp;omega),<-hpad,List.drop_of_length_le (by omega:q.length<=k),Qcj,List.append_nil]
   refine Sz3 h9 h10 h11 ?_;rw[Qec (f:=PV.term) (xs:=out) (ys:=p.drop i) (Tz1 hh) rfl (by omega) (by simp;omega) (by simp;omega)];refine Sz3 h9 h10 h11 ?_;rw[Qec (f:=PV.term) (xs:=out++p.drop i) (ys:=q.drop k) Tz0 (by simp) (by omega) (by simp;omega) (by simp;omega)];refine Vz3 h9 h10 h11 ?_;exact Qc (by rw[<-List.map_take,hfin]) rfl
 ·have hfin:(out++p.drop i++q.drop k).take (out.length+(p.drop i).length+(q.drop k).length)=Q4 p q:=by rw[List.take_of_length_le (by simp;omega),<-hpad,List.drop_of_length_le (by omega:p.length<=i),Qez,List.append_nil]
  refine Sz3 h9 h10 h11 ?_;rw[Qec (f:=PV.term) (xs:=out) (ys:=p.drop i) (Tz1 hh) rfl (by omega) (by simp;omega) (by simp;omega)];refine Sz3 h9 h10 h11 ?_;rw[Qec (f:=PV.term) (xs:=out++p.drop i) (ys:=q.drop k) Tz0 (by simp) (by omega) (by simp;omega) (by simp;omega)];refine Vz3 h9 h10 h11 ?_;exact Qc (by rw[<-List.map_take,hfin]) rfl
theorem Qle{p q:List Tm}{K E:Nat}(hp:PB K E p)(hq:PB K E q)(hK:K<=2^33)(hE:E<=2^38)(hlp:p.length<=2^36)(hlq:q.length<=2^36):
  Qd Tryz.prog 15 [PV.poly p,PV.poly q] (· =PV.poly (Q4 p q)):=by
 refine Qf Qj Tryz.func15 rfl Qank (by simp[c15]) fun C hP=>?_;simp only[c15];refine Sz0 ?_;refine Qa hP (Q1c hp hq hK hE hlp hlq) rfl rfl rfl ?_;refine Sz0 ?_;exact Qc rfl rfl
theorem Qva{K E:Nat}(hE:E<=2^38):∀(n:Nat)(l:List (List Tm)),l.length<=n->(∀p∈l,PB K E p)->l.length*K<=2^33->l.length<=2^36->Qoz l<=2^36->Qd Tryz.prog 43 [PV.polys l] (· =PV.poly (Qbn l)):=by
 intro n;induction n with
 |zero=>intro l hl _ _ _ _;have:l=[]:=List.length_eq_zero_iff.1 (by omega);subst this;refine Qf Qj Tryz.func43 rfl Q9k (by simp[c43]) fun C hP=>?_;simp only[c43];simp+decide (disch:=first|omega|rfl|(simp+decide only[go_sem,↓reduceIte,List.map_nil,List.length_nil]<;>rfl)|fail) only[go_sem,↓reduceIte,List.map_nil,List.length_nil];exact Qeq (Qqr (by rw[Qbn])) rfl
 | succ n ih=>
  intro l hl hb hK hll hpl;refine Qf Qj Tryz.func43 rfl Q9k (by simp[c43]) fun C hP=>?_;simp only[c43];refine Sz0 ?_;refine Qb (fun h0=>?_) (fun h0=>?_)
  ·have:l=[]:=List.length_eq_zero_iff.1 (by omega);subst this;refine Sz0 ?_;exact Qeq (Qqr (by rw[Qbn])) rfl
  refine Sz0 ?_;refine Qb (fun h1=>?_) (fun h1=>?_)
  ·obtain⟨p,rfl⟩:∃p,l=[p]:=List.length_eq_one_iff.1 (by omega);simp+decide (disch:=first|omega|rfl|(simp+decide only[go_sem,↓reduceIte,List.map_cons,List.map_nil]<;>rfl)|fail) only[go_sem,↓reduceIte,List.map_cons,List.map_nil];exact Qc (by rw[Qbn];rfl) rfl
  have h2:2<=l.length:=by omega
  have hs:=Qu1 l (l.length/2);have e:(2:Int)=((2:Nat):Int):=rfl;have hq:∀d fr hp K,Qa9 .quo false (.int .i64 (l.length:Int)) (.int .i64 2) d fr hp K=K (upd fr d (.int .i64 ((l.length/2:Nat):Int))) hp:=fun d fr hp K=>by rw[e,Qwu (by omega) (by omega)]
  have b1:=Qo0 (K:=K) (E:=E) _ (l.take (l.length/2)) (Nat.le_refl _) (fun p hp=>hb p (List.mem_of_mem_take hp));have b2:=Qo0 (K:=K) (E:=E) _ (l.drop (l.length/2)) (Nat.le_refl _) (fun p hp=>hb p (List.mem_of_mem_drop hp));have l1:(l.take (l.length/2)).length*K<=l.length*K:=Nat.mul_le_mul_right _ (by rw[List.length_take];omega);have l2:(l.drop (l.length/2)).length*K<=l.length*K:=Nat.mul_le_mul_right _ (by rw[List.length_drop];omega);refine Sz1 hq ?_;refine Qa hP (ih (l.take (l.length/2)) (by rw[List.length_take];omega) (fun p hp=>hb p (List.mem_of_mem_take hp)) (by omega) (by rw[List.length_take];omega) (by omega)) rfl rfl rfl ?_;refine Sz1 hq ?_;refine Qa hP (ih (l.drop (l.length/2)) (by rw[List.length_drop];omega) (fun p hp=>hb p (List.mem_of_mem_drop hp)) (by omega) (by rw[List.length_drop];omega) (by omega)) rfl rfl rfl ?_;refine Sz1 hq ?_;refine Qa hP (Qle (b1.1.mono (K':=l.length*K) l1 (Nat.le_refl _)) (b2.1.mono l2 (Nat.le_refl _)) hK hE (by omega) (by omega)) rfl rfl rfl ?_;refine Sz0 ?_;exact Qc (by rw[Qkh h2]) rfl
theorem Qng{p:List Tm}{t:Tm}{i:Nat}(h:i<p.length):Qad (p.take (i+1)) t=Qad (p.take i) t++(if p[i].1*t.1=0 then []else [(p[i].1*t.1,Qay p[i].2 t.2)]):=by rw[List.take_succ_eq_append_getElem h,Qad,List.filterMap_append,Qad];congr 1;simp only[List.filterMap_cons,List.filterMap_nil];split<;>split<;>simp_all
theorem Qmb{p:List Tm}{t:Tm}{K E:Nat}(hp:PB K E p)(ht:TB K E t)(hK:K<=2^33)(hE:E<=2^38)(hlp:p.length<=2^36):
  Qd Tryz.prog 42 [PV.poly p,PV.term t] (· =PV.poly (Qad p t)):=by
 refine Qf Qj Tryz.func42 rfl Qanm (by simp[c42]) fun C hP=>?_;simp only[c42];refine Sz0 ?_;refine Qy (by repeat (first|exact Qu|exact Qn|exact Qo|exact Qk|exact Qp|apply Qm|apply Qt|apply Qw|apply Q5|apply Q6|apply Qi)) [(5,5),(7,8),(14,36)] [7,8,11,34,35] (fun n J hp=>∃i,n=p.length-i/\i<=p.length/\J 5= .ms 11 (Qad (p.take i) t).length/\J 14= .int .i64 (i:Nat)/\hp 3=some ⟨4,54,[PV.term t],false⟩/\hp 11=some ⟨4,54,(Qad (p.take i) t).map PV.term,false⟩) p.length ?_ ?_
 ·refine⟨0,rfl,by omega,?_⟩;refine Sz0 ?_;simp[Qad]
 rintro _ J h ⟨i,rfl,hi,h5,h14,hh3,hh11⟩;refine Sz2 h5 h14 ?_;refine Qb (fun hg=>?_) (fun hg=>?_)
 ·have hi':i<p.length:=by omega
  have htp:=hp.get hi';have htk:=Qng (t:=t) hi';have hlen:=Qeg (p.take i) t;rw[List.length_take]at hlen;have c1:=htp.c;have c2:=ht.c;have hrm:=Q81 p[i].1 t.1;generalize hx:p[i]=x at *
  refine Sz4 h5 h14 hh3 hx ?_;refine Qa hP (Qard (a:=x.1) (b:=t.1) (k:=2^33) (by omega) (by omega) (by omega)) rfl rfl rfl ?_;refine Sz4 h5 h14 hh3 hx ?_;refine Qa hP (Qqw (a:=x.1*t.1) (by omega)) rfl rfl rfl ?_;refine Sz4 h5 h14 hh3 hx ?_;refine Qb (fun hz=>?_) (fun hz=>?_)
  ·rw[if_neg (fun h=>hz (Qbd.2 h))]at htk;refine Sz4 h5 h14 hh3 hx ?_;refine Qa hP (Q59 htp.m ht.m (by omega)) rfl rfl rfl ?_;refine Sz4 h5 h14 hh3 hx ?_;rw[Qag (f:=PV.term) (y:=(x.1*t.1,Qay x.2 t.2)) (xs:=Qad (p.take i) t) (ty':=54) (fz:=false) (Tz1 hh11) Qcv (by omega) rfl (by omega) (by omega)];rw[<-htk];refine Sz4 h5 h14 hh3 hx ?_;refine Qh (p.length-(i+1)) (by omega) ⟨i+1,rfl,by omega,?_⟩;rw[htk];simp+decide (disch:=first|omega|rfl|(simp+decide only[go_sem,↓reduceIte,h5,h14,hh3,List.length_append]<;>rfl)|fail) only[go_sem,↓reduceIte,h5,h14,hh3,List.length_append]
  ·rw[if_pos (Qbd.1 (Decidable.not_not.1 hz)),List.append_nil]at htk;refine Sz4 h5 h14 hh3 hx ?_;refine Qh (p.length-(i+1)) (by omega) ⟨i+1,rfl,by omega,?_⟩;rw[htk];exact Tz4 h5 h14 hh3 hh11
 ·obtain rfl:i=p.length:=by omega
  rw[List.take_length]at h5 hh11;refine Vz2 h5 hh11 ?_;exact Qc (by simp[List.take_of_length_le]) rfl
theorem Qd2{p q:List Tm}{K E:Nat}(hp:PB K E p)(hq:PB K E q)(hE:E<=2^37)(hlp:p.length<=2^30)(hlq:q.length<=2^30)(hlm:p.length*q.length<=2^36)(hK:min p.length q.length*(K+K)<=2^33)(hK2:K<=2^33):
  Qd Tryz.prog 12 [PV.poly p,PV.poly q] (· =PV.poly (Qx p q)):=by
 have main:∀(p q:List Tm),PB K E p->PB K E q->p.length<=2^30->q.length<=2^30->p.length*q.length<=2^36->p.length*(K+K)<=2^33->p.length<=q.length->True:=fun _ _ _ _ _ _ _ _ _=>trivial;refine Qf Qj Tryz.func12 rfl Qann (by simp[c12]) fun C hP=>?_;simp only[c12];refine Sz0 ?_;refine Qb (fun hg=>?_) (fun hg=>?_)
 ·have hfin:Qhy q p=Qx p q:=by rw[Qx,if_pos (by omega)]
  have hK3:q.length*(K+K)<=2^33:=by rw[Nat.min_eq_right (by omega)]at hK;exact hK
  have hlm2:q.length*p.length<=2^36:=by rw[Nat.mul_comm];exact hlm
  refine Sz0 ?_;refine Qy (by repeat (first|exact Qu|exact Qn|exact Qo|exact Qk|exact Qp|apply Qm|apply Qt|apply Qw|apply Q5|apply Q6|apply Qi)) [(5,5),(7,7),(20,30)] [7,17,28,29] (fun n J hp=>∃i,n=q.length-i/\i<=q.length/\J 5= .ms 17 i/\J 20= .int .i64 (i:Nat)/\hp 17=some ⟨1,23,((q.take i).map (Qad p)).map PV.poly,false⟩) q.length ?_ ?_
  ·refine⟨0,rfl,by omega,?_⟩;refine Sz0 ?_;simp
  rintro _ J h ⟨i,rfl,hi,h5,h20,hh⟩;refine Sz2 h5 h20 ?_;refine Qb (fun hg2=>?_) (fun hg2=>?_)
  ·have hi':i<q.length:=by omega
   have htp:=hq.get hi';have htk:(q.take (i+1)).map (Qad p)=(q.take i).map (Qad p)++[Qad p q[i]]:=by rw[List.take_succ_eq_append_getElem hi',List.map_append];rfl
   generalize hx:q[i]=x at *
   refine Sz3 h5 h20 hx ?_;refine Qa hP (Qmb (t:=x) hp htp hK2 (by omega) (by omega)) rfl rfl rfl ?_;refine Sz3 h5 h20 hx ?_;rw[Qag (f:=PV.poly) (y:=Qad p x) (xs:=(q.take i).map (Qad p)) (ty':=23) (fz:=false) (Tz1 hh) Qcv (by omega) (by simp;omega) (by omega) (by omega)];rw[<-htk];refine Sz3 h5 h20 hx ?_;refine Qh (q.length-(i+1)) (by omega) ⟨i+1,rfl,by omega,?_⟩;exact Tz2 h5 h20
  ·obtain rfl:i=q.length:=by omega
   rw[List.take_length]at hh;have hpl:=Qjn q p;refine Sz2 h5 hh ?_;refine Qcb hP (Qva (K:=K+K) (E:=E+E) (by omega) _ (q.map (Qad p)) (Nat.le_refl _) (fun x hx=>by obtain⟨t,ht,rfl⟩:=List.mem_map.1 hx;exact Qf3 hp (hq t ht)) (by rw[List.length_map];omega) (by rw[List.length_map];omega) (by omega)) (by simp+decide (disch:=first|omega|rfl|(simp+decide only[go_sem,↓reduceIte,hh,Qa6,List.contains_cons,List.contains_nil,List.flatMap_cons,List.flatMap_nil,List.append_nil]<;>rfl)|fail) only[go_sem,↓reduceIte,hh,Qa6,List.contains_cons,List.contains_nil,List.flatMap_cons,List.flatMap_nil,List.append_nil];simp[List.take_of_length_le]) rfl ?_;refine Sz0 ?_;exact Qc (congrArg PV.poly hfin) rfl
 ·have hfin:Qhy p q=Qx p q:=by rw[Qx,if_neg (by omega)]
  have hK3:p.length*(K+K)<=2^33:=by rw[Nat.min_eq_left (by omega)]at hK;exact hK
  refine Sz0 ?_;refine Qy (by repeat (first|exact Qu|exact Qn|exact Qo|exact Qk|exact Qp|apply Qm|apply Qt|apply Qw|apply Q5|apply Q6|apply Qi)) [(5,5),(7,7),(20,30)] [7,17,28,29] (fun n J hp=>∃i,n=p.length-i/\i<=p.length/\J 5= .ms 17 i/\J 20= .int .i64 (i:Nat)/\hp 17=some ⟨1,23,((p.take i).map (Qad q)).map PV.poly,false⟩) p.length ?_ ?_
  ·refine⟨0,rfl,by omega,?_⟩;refine Sz0 ?_;simp
  rintro _ J h ⟨i,rfl,hi,h5,h20,hh⟩;refine Sz2 h5 h20 ?_;refine Qb (fun hg2=>?_) (fun hg2=>?_)
  ·have hi':i<p.length:=by omega
   have htp:=hp.get hi';have htk:(p.take (i+1)).map (Qad q)=(p.take i).map (Qad q)++[Qad q p[i]]:=by rw[List.take_succ_eq_append_getElem hi',List.map_append];rfl
   generalize hx:p[i]=x at *
   refine Sz3 h5 h20 hx ?_;refine Qa hP (Qmb (t:=x) hq htp hK2 (by omega) (by omega)) rfl rfl rfl ?_;refine Sz3 h5 h20 hx ?_;rw[Qag (f:=PV.poly) (y:=Qad q x) (xs:=(p.take i).map (Qad q)) (ty':=23) (fz:=false) (Tz1 hh) Qcv (by omega) (by simp;omega) (by omega) (by omega)];rw[<-htk];refine Sz3 h5 h20 hx ?_;refine Qh (p.length-(i+1)) (by omega) ⟨i+1,rfl,by omega,?_⟩;exact Tz2 h5 h20
  ·obtain rfl:i=p.length:=by omega
   rw[List.take_length]at hh;have hpl:=Qjn p q;refine Sz2 h5 hh ?_;refine Qcb hP (Qva (K:=K+K) (E:=E+E) (by omega) _ (p.map (Qad q)) (Nat.le_refl _) (fun x hx=>by obtain⟨t,ht,rfl⟩:=List.mem_map.1 hx;exact Qf3 hq (hp t ht)) (by rw[List.length_map];omega) (by rw[List.length_map];omega) (by omega)) (by simp+decide (disch:=first|omega|rfl|(simp+decide only[go_sem,↓reduceIte,hh,Qa6,List.contains_cons,List.contains_nil,List.flatMap_cons,List.flatMap_nil,List.append_nil]<;>rfl)|fail) only[go_sem,↓reduceIte,hh,Qa6,List.contains_cons,List.contains_nil,List.flatMap_cons,List.flatMap_nil,List.append_nil];simp[List.take_of_length_le]) rfl ?_;refine Sz0 ?_;exact Qc (congrArg PV.poly hfin) rfl
theorem Qmc{p:List Tm}{a:Rat}{K E:Nat}(hp:PB K E p)(ha:rs a+1<=K)(hK:K<=2^33)(hE:E<=2^38)(hlp:p.length<=2^36):Qd Tryz.prog 142 [PV.poly p,PV.rat a] (· =PV.poly (Qcf p a)):=by
 refine Qf Qj Tryz.func142 rfl Qaiu (by simp[c142]) fun C hP=>?_;simp only[c142];refine Sz0 ?_;refine Qa hP (Qqw (a:=a) (by omega)) rfl rfl rfl ?_;refine Sz0 ?_;refine Qb (fun h0=>?_) (fun h0=>?_)
 ·refine Sz0 ?_;exact Qeq (Qqr (by rw[Qcf,if_pos (Qbd.1 h0)])) rfl
 ·refine Sz0 ?_;refine Qa hP ((Qmb (t:=(a,[])) hp (TB.num ha) hK hE hlp).le (args':=[PV.poly p,.agg [.bool (decide (a.num<0)),PV.num a.num.natAbs,PV.num a.den,.nilS]]) ⟨Q2 _,⟨rfl,Ql2 _,Ql2 _,trivial,trivial⟩,trivial⟩) rfl rfl rfl ?_;refine Sz0 ?_;exact Qc (by rw[Qcf,if_neg (fun h=>h0 (Qbd.2 h))]) rfl
theorem Q6a{p:List Tm}{K E:Nat}(hp:PB K E p)(hK2:2<=K)(hK:K<=2^33)(hE:E<=2^38)(hlp:p.length<=2^36):Qd Tryz.prog 121 [PV.poly p] (· =PV.poly (Qi2 p)):=by have h1:=Q5x;refine Qf Qj Tryz.func121 rfl Qait (by simp[c121]) fun C hP=>?_;simp only[c121];refine Sz0 ?_;refine Qa hP (Qij (x:= -1) (by omega) (by omega)) rfl rfl rfl ?_;refine Sz0 ?_;refine Qa hP (Qmc (a:=((-1:Int):Rat)) hp (by have:((-1:Int):Rat)= -1:=rfl;rw[this];omega) hK hE hlp) rfl rfl rfl ?_;refine Sz0 ?_;exact Qc rfl rfl
theorem Qvb{p q:List Tm}{K E:Nat}(hp:PB K E p)(hq:PB K E q)(hK2:2<=K)(hK:K<=2^32)(hE:E<=2^38)(hlp:p.length<=2^36)(hlq:q.length<=2^36):Qd Tryz.prog 74 [PV.poly p,PV.poly q] (· =PV.poly (Qgc p q)):=by have hl:=Qhz q (-1);refine Qf Qj Tryz.func74 rfl Qanl (by simp[c74]) fun C hP=>?_;simp only[c74];refine Sz0 ?_;refine Qa hP (Q6a hq hK2 (by omega) hE hlq) rfl rfl rfl ?_;refine Sz0 ?_;refine Qa hP (Qle (hp.mono (K':=K+2) (by omega) (Nat.le_refl _)) (Qn5 hq) (by omega) hE hlp (by show(Qcf q (-1)).length<=_;omega)) rfl rfl rfl ?_;refine Sz0 ?_;exact Qc rfl rfl
theorem Q6b{n:Bool}{a d:List Nat}{k:Nat}(hp:Raw k n a d)(hk:k<2^36):Qd Tryz.prog 91 [PV.rr n a d,PV.rat ((0:Int):Rat)] (· =PV.rat (rv n a d)):=by
 have h0:rs ((0:Int):Rat)<=k:=by have:=rs_0;have:=hp.k1;have e:((0:Int):Rat)=0:=rfl;rw[e];omega
 have:=Qyj hp (Qc7 h0) hk;rw[Qdo]at this;have e:rv n a d+((0:Int):Rat)=rv n a d:=Rat.add_zero _
 rwa[e]at this
theorem Q1d{n:Bool}{a d:List Nat}{k:Nat}(hp:Raw k n a d)(hk:k<2^36):Qd Tryz.prog 75 [PV.rr n a d] (· =PV.poly (Qbe (rv n a d))):=by have hr:=hp.rs;refine Qf Qj Tryz.func75 rfl Qang (by simp[c75]) fun C hP=>?_;simp only[c75];refine Sz0 ?_;refine Qa hP (Qij (x:=0) (by omega) (by omega)) rfl rfl rfl ?_;refine Sz0 ?_;refine Qa hP (Q6b hp hk) rfl rfl rfl ?_;refine Sz0 ?_;refine Qa hP ((Qy8 (c:=rv n a d) (m:=[]) (by omega)).le (args':=[PV.rat (rv n a d),.nilS]) ⟨Q2 _,trivial,trivial⟩) rfl rfl rfl ?_;refine Sz0 ?_;exact Qc rfl rfl
theorem Q2v{s t:Tm}{K E:Nat}(hs:TB K E s)(ht:TB K E t)(hK:K<=2^33)(hE:E<=2^38):Qd Tryz.prog 93 [PV.term s,PV.term t] (· = .int .i64 (Qi3 s t)):=by
 have c1:=hs.c;have c2:=ht.c;refine Qf Qj Tryz.func93 rfl Qanj (by simp[c93]) fun C hP=>?_;simp only[c93];refine Sz0 ?_;refine Qa hP (Qu9 (s:=s) (t:=t) hs.m ht.m hE) rfl rfl rfl ?_;refine Sz0 ?_;refine Qb (fun h=>?_) (fun h=>?_)
 ·refine Sz0 ?_;exact Qc (by rw[Qi3,if_pos h]) rfl
 ·refine Sz0 ?_;refine Qa hP (Qare (a:=s.1) (b:=t.1) (k:=2^33) (by omega) (by omega) (by omega)) rfl rfl rfl ?_;refine Sz0 ?_;exact Qc (by rw[Qi3,if_neg h]) rfl
theorem Qqx{p q:List Tm}{K E:Nat}(hp:PB K E p)(hq:PB K E q)(hK:K<=2^33)(hE:E<=2^38)(hlp:p.length<=2^36)(hlq:q.length<=2^36):
  Qd Tryz.prog 95 [PV.poly p,PV.poly q,.fn 93 [] []] (· = .int .i64 (Qe0 p q)):=by
 refine Qf Qj Tryz.func95 rfl Qano (by simp[c95]) fun C hP=>?_;simp only[c95];refine Sz0 ?_;refine Qy (by repeat (first|exact Qu|exact Qn|exact Qo|exact Qk|exact Qp|apply Qm|apply Qt|apply Qw|apply Q5|apply Q6|apply Qi)) [(6,10),(13,33)] [8,9] (fun n J hp=>∃i,n=p.length-i/\i<=p.length/\(i<=q.length)/\Qe0 (p.drop i) (q.drop i)=Qe0 p q/\J 13= .int .i64 (i:Nat)) p.length ?_ ?_
 ·refine⟨0,rfl,by omega,by omega,rfl,?_⟩;refine Sz0 ?_;rfl
 rintro _ J h ⟨i,rfl,hi,hi2,hpc,h13⟩;refine Sz1 h13 ?_;refine Qb (fun hg=>?_) (fun hg=>?_)
 ·have hi':i<p.length:=by omega
  have htp:=hp.get hi';have hdp:p.drop i=p[i]::p.drop (i+1):=List.drop_eq_getElem_cons hi';have hpcd:=fun hk=>Qx8 (q:=q) hi' hk;generalize hx:p[i]=x at *
  refine Sz2 h13 hx ?_;refine Qb (fun hk=>?_) (fun hk=>?_)
  ·rw[hdp,List.drop_of_length_le (show q.length<=i by omega),Qe0]at hpc;refine Sz0 ?_;exact Qc (by rw[hpc]) rfl
  ·have hk':i<q.length:=by omega
   have htq:=hq.get hk';have hpcd:=hpcd hk';generalize hy:q[i]=y at *
   rw[hpcd]at hpc;refine Sz3 h13 hx hy ?_;refine Qa hP (Q2v (s:=x) (t:=y) htp htq hK hE) rfl rfl rfl ?_;refine Sz3 h13 hx hy ?_;refine Qb (fun hc=>?_) (fun hc=>?_)
   ·rw[if_pos hc]at hpc;refine Sz0 ?_;exact Qc (by rw[hpc]) rfl
   ·rw[if_neg hc]at hpc;refine Sz1 h13 ?_;refine Qh (p.length-(i+1)) (by omega) ⟨i+1,rfl,by omega,by omega,hpc,?_⟩;exact Tz0
 ·obtain rfl:i=p.length:=by omega
  rw[List.drop_of_length_le (Nat.le_refl _),Ql9]at hpc;refine Sz0 ?_;refine Qb (fun hk=>?_) (fun hk=>?_)
  ·rw[if_neg (by rw[List.length_drop];omega)]at hpc;refine Sz0 ?_;exact Qc (by rw[hpc]) rfl
  ·rw[if_pos (by rw[List.length_drop];omega)]at hpc;refine Sz0 ?_;exact Qc (by rw[hpc]) rfl
theorem Qvc{p q:List Tm}{K E:Nat}(hp:PB K E p)(hq:PB K E q)(hK:K<=2^33)(hE:E<=2^38)(hlp:p.length<=2^36)(hlq:q.length<=2^36):Qd Tryz.prog 52 [PV.poly p,PV.poly q] (· = .int .i64 (Qe0 p q)):=by refine Qf Qj Tryz.func52 rfl Qani (by simp[c52]) fun C hP=>?_;simp only[c52];refine Sz0 ?_;refine Qa hP (Qqx hp hq hK hE hlp hlq) rfl rfl rfl ?_;refine Sz0 ?_;exact Qc rfl rfl
theorem Q1e{p q:List Tm}{K E:Nat}(hp:PB K E p)(hq:PB K E q)(hK:K<=2^33)(hE:E<=2^38)(hlp:p.length<=2^36)(hlq:q.length<=2^36):Qd Tryz.prog 18 [PV.poly p,PV.poly q] (· = .bool (decide (p=q))):=by refine Qf Qj Tryz.func18 rfl Qanh (by simp[c18]) fun C hP=>?_;simp only[c18];refine Sz0 ?_;refine Qa hP (Qvc hp hq hK hE hlp hlq) rfl rfl rfl ?_;refine Sz0 ?_;exact Qc (congrArg PV.bool (decide_eq_decide.2 (Qwy hp.last hq.last))) rfl
end Go.Proofs.YtdaldpkjhcfblaaGreat
namespace Go.FW
open Go
def pev(φ:List Int->Rat):List Tm->Rat
 | []=>0
 |t::p=>t.1*φ t.2+pev φ p
theorem Qcq(φ:List Int->Rat):pev φ []=0:=rfl
theorem Qav(φ:List Int->Rat)(t:Tm)(p:List Tm):pev φ (t::p)=t.1*φ t.2+pev φ p:=rfl
theorem Qch{φ ψ:List Int->Rat}:∀ {p:List Tm},(∀t∈p,φ t.2=ψ t.2)->pev φ p=pev ψ p
 | [],_=>rfl
 |t::p,h=>by rw[Qav,Qav,h t (by simp),Qch (p:=p) (fun x hx=>h x (by simp[hx]))]
theorem Q36(φ ψ:List Int->Rat):∀(p:List Tm),pev (fun m=>φ m+ψ m) p=pev φ p+pev ψ p
 | []=>by simp only[Qcq];grind
 |t::p=>by simp only[Qav];rw[Q36 φ ψ p];grind
theorem Q1f(c:Rat)(φ:List Int->Rat):∀(p:List Tm),pev (fun m=>c*φ m) p=c*pev φ p
 | []=>by simp only[Qcq];grind
 |t::p=>by simp only[Qav];rw[Q1f c φ p];grind
theorem Qtp:∀(p:List Tm),pev (fun _=>0) p=0
 | []=>rfl
 |t::p=>by simp only[Qav];rw[Qtp p];grind
theorem Qmd(ψ:List Int->List Int->Rat)(q:List Tm):∀(p:List Tm),pev (fun m=>pev (fun n=>ψ m n) q) p=pev (fun n=>pev (fun m=>ψ m n) p) q
 | []=>by simp only[Qcq];rw[Qtp]
 |t::p=>by simp only[Qav];rw[Qmd ψ q p,Q36 (fun n=>t.1*ψ t.2 n),Q1f]
def Can(p:List Tm):Prop:=∀t∈p,t.2.getLast? ≠some 0
def NZ(p:List Tm):Prop:=∀t∈p,t.1≠0
structure Nrm(p:List Tm):Prop where
 c:Can p
 z:NZ p
 s:Qbc p
theorem Can.cons{t:Tm}{p:List Tm}:Can (t::p)↔t.2.getLast? ≠some 0/\Can p:=by simp[Can]
theorem NZ.cons{t:Tm}{p:List Tm}:NZ (t::p)↔t.1≠0/\NZ p:=by simp[NZ]
theorem Nrm.nil:Nrm []:=⟨by simp[Can],by simp[NZ],trivial⟩
theorem Nrm.tail{t:Tm}{p:List Tm}(h:Nrm (t::p)):Nrm p:=⟨(Can.cons.1 h.c).2,(NZ.cons.1 h.z).2,h.s.2⟩
theorem Nrm.one{t:Tm}(h:t.1≠0)(hm:t.2.getLast? ≠some 0):Nrm [t]:=⟨by simpa[Can]using hm,by simpa[NZ]using h,⟨by simp,trivial⟩⟩
theorem PVd.nrm{p:List Tm}(h:PVd p):Nrm p:=⟨fun t ht=>Qso (h.t t ht).m,fun t ht=>(h.t t ht).c,h.s⟩
theorem Qqy{E:Nat}{a:List Int}(h:MB E a)(hE:E<=1048576)(hl:a.getLast? ≠some 0):Qby a=true:=by simp only[Qby,Bool.and_eq_true,decide_eq_true_eq,List.all_eq_true];exact⟨h.len,hl,fun x hx=>⟨h.lo x hx,by have:=h.hi x hx;omega⟩⟩
theorem Nrm.pvd{K E:Nat}{p:List Tm}(h:Nrm p)(hb:PB K E p)(hE:E<=1048576):PVd p:=
 ⟨fun t ht=>⟨h.z t ht,Qqy (hb t ht).m hE (hb t ht).l⟩,h.s⟩
theorem Qcz{φ:List Int->Rat}:∀ {p q:List Tm},Can p->Can q->pev φ (Q4 p q)=pev φ p+pev φ q:=by
 intro p q;induction p,q using Q4.induct with
 |case1 q=>rw[Q4,Qcq];intros;grind
 |case2 p h=>rw[Qcj,Qcq];intros;grind
 |case3 c m p d l q h ih=>intro hp hq;rw[Q4,if_pos h,Qav,Qav,ih (Can.cons.1 hp).2 hq];grind
 |case4 c m p d l q h1 h2 ih=>intro hp hq;rw[Q4,if_neg h1,if_pos h2,Qav,ih hp (Can.cons.1 hq).2,Qav φ (d,l)];grind
 |case5 c m p d l q h1 h2 h3 ih=>
  intro hp hq;have e:=Qo1 h1 h2 (Can.cons.1 hp).1 (Can.cons.1 hq).1;rw[Q4,if_neg h1,if_neg h2,if_pos h3,ih (Can.cons.1 hp).2 (Can.cons.1 hq).2,Qav,Qav];subst e;have:c*φ m+d*φ m=0:=by rw[<-Rat.add_mul,h3];grind
  grind
 |case6 c m p d l q h1 h2 h3 ih=>intro hp hq;have e:=Qo1 h1 h2 (Can.cons.1 hp).1 (Can.cons.1 hq).1;rw[Q4,if_neg h1,if_neg h2,if_neg h3,Qav,ih (Can.cons.1 hp).2 (Can.cons.1 hq).2,Qav,Qav];subst e;grind
theorem Qib:∀ {p q:List Tm} {t:Tm},t∈Q4 p q->(∃s∈p,s.2=t.2)∨(∃s∈q,s.2=t.2):=by
 intro p q;induction p,q using Q4.induct with
 |case1 q=>rw[Q4];intro t ht;exact Or.inr ⟨t,ht,rfl⟩
 |case2 p h=>rw[Qcj];intro t ht;exact Or.inl ⟨t,ht,rfl⟩
 | case3 c m p d l q h ih=>
  intro t ht;rw[Q4,if_pos h]at ht;rcases List.mem_cons.1 ht with rfl|ht
  ·exact Or.inl ⟨_,by simp,rfl⟩
  ·rcases ih ht with⟨s,h1,h2⟩|h1
   ·exact Or.inl ⟨s,by simp[h1],h2⟩
   ·exact Or.inr h1
 | case4 c m p d l q h1 h2 ih=>
  intro t ht;rw[Q4,if_neg h1,if_pos h2]at ht;rcases List.mem_cons.1 ht with rfl|ht
  ·exact Or.inr ⟨_,by simp,rfl⟩
  ·rcases ih ht with h3|⟨s,h3,h4⟩
   ·exact Or.inl h3
   ·exact Or.inr ⟨s,by simp[h3],h4⟩
 |case5 c m p d l q h1 h2 h3 ih=>
  intro t ht;rw[Q4,if_neg h1,if_neg h2,if_pos h3]at ht;rcases ih ht with⟨s,h4,h5⟩|⟨s,h4,h5⟩
  ·exact Or.inl ⟨s,by simp[h4],h5⟩
  ·exact Or.inr ⟨s,by simp[h4],h5⟩
 | case6 c m p d l q h1 h2 h3 ih=>
  intro t ht;rw[Q4,if_neg h1,if_neg h2,if_neg h3]at ht;rcases List.mem_cons.1 ht with rfl|ht
  ·exact Or.inl ⟨(c,m),by simp,rfl⟩
  ·rcases ih ht with⟨s,h4,h5⟩|⟨s,h4,h5⟩
   ·exact Or.inl ⟨s,by simp[h4],h5⟩
   ·exact Or.inr ⟨s,by simp[h4],h5⟩
theorem Qpd{p q:List Tm}(hp:Can p)(hq:Can q):Can (Q4 p q):=fun t ht=>by
 rcases Qib ht with⟨s,h1,h2⟩|⟨s,h1,h2⟩
 ·rw[<-h2];exact hp s h1
 ·rw[<-h2];exact hq s h1
theorem Qajd:∀ {p q:List Tm},NZ p->NZ q->NZ (Q4 p q):=by
 intro p q;induction p,q using Q4.induct with
 |case1 q=>rw[Q4];exact fun _ h=>h
 |case2 p h=>rw[Qcj];exact fun h _=>h
 |case3 c m p d l q h ih=>intro hp hq;rw[Q4,if_pos h,NZ.cons];exact⟨(NZ.cons.1 hp).1,ih (NZ.cons.1 hp).2 hq⟩
 |case4 c m p d l q h1 h2 ih=>intro hp hq;rw[Q4,if_neg h1,if_pos h2,NZ.cons];exact⟨(NZ.cons.1 hq).1,ih hp (NZ.cons.1 hq).2⟩
 |case5 c m p d l q h1 h2 h3 ih=>intro hp hq;rw[Q4,if_neg h1,if_neg h2,if_pos h3];exact ih (NZ.cons.1 hp).2 (NZ.cons.1 hq).2
 |case6 c m p d l q h1 h2 h3 ih=>intro hp hq;rw[Q4,if_neg h1,if_neg h2,if_neg h3,NZ.cons];exact⟨h3,ih (NZ.cons.1 hp).2 (NZ.cons.1 hq).2⟩
theorem Q6c{a b c:List Int}(h:Qak a b=0)(h2:0<Qak b c):0<Qak a c:=by
 have e:∀i,eN a i=eN b i:=by
  intro i;have:=(Qmx a b _).1 h;by_cases hi:i<max a.length b.length
  ·exact this i hi
  ·rw[Qcs (by omega),Qcs (by omega)]
 rw[Q5v e (fun _=>rfl)];exact h2
theorem Qsu:∀ {p q:List Tm},Qbc p->Qbc q->Qbc (Q4 p q):=by
 intro p q;induction p,q using Q4.induct with
 |case1 q=>rw[Q4];exact fun _ h=>h
 |case2 p h=>rw[Qcj];exact fun h _=>h
 | case3 c m p d l q h ih=>
  intro hp hq;rw[Q4,if_pos h];refine⟨fun t ht=>?_,ih hp.2 hq⟩;rcases Qib ht with⟨s,h1,h2⟩|⟨s,h1,h2⟩
  ·rw[<-h2];exact hp.1 s h1
  ·rw[<-h2];rcases List.mem_cons.1 h1 with rfl|h1
   ·exact h
   ·exact Qfc h (hq.1 s h1)
 | case4 c m p d l q h1 h2 ih=>
  intro hp hq;rw[Q4,if_neg h1,if_pos h2];have h2':0<Qak l m:=by have:=Qia m l;omega
  refine⟨fun t ht=>?_,ih hp hq.2⟩;rcases Qib ht with⟨s,h3,h4⟩|⟨s,h3,h4⟩
  ·rw[<-h4];rcases List.mem_cons.1 h3 with rfl|h3
   ·exact h2'
   ·exact Qfc h2' (hp.1 s h3)
  ·rw[<-h4];exact hq.1 s h3
 |case5 c m p d l q h1 h2 h3 ih=>intro hp hq;rw[Q4,if_neg h1,if_neg h2,if_pos h3];exact ih hp.2 hq.2
 |case6 c m p d l q h1 h2 h3 ih=>
  intro hp hq;rw[Q4,if_neg h1,if_neg h2,if_neg h3];refine⟨fun t ht=>?_,ih hp.2 hq.2⟩;rcases Qib ht with⟨s,h4,h5⟩|⟨s,h4,h5⟩
  ·rw[<-h5];exact hp.1 s h4
  ·rw[<-h5];exact Q6c (b:=l) (by show Qak m l=0;omega) (hq.1 s h4)
theorem Qbt{p q:List Tm}(hp:Nrm p)(hq:Nrm q):Nrm (Q4 p q):=⟨Qpd hp.c hq.c,Qajd hp.z hq.z,Qsu hp.s hq.s⟩
def ind(m:List Int):List Int->Rat:=fun n=>if n=m then 1 else 0
theorem Qj3{m:List Int}:∀ {p:List Tm},(∀t∈p,t.2≠m)->pev (ind m) p=0
 | [],_=>rfl
 |t::p,h=>by rw[Qav,Qj3 (p:=p) (fun x hx=>h x (by simp[hx])),ind,if_neg (h t (by simp))];grind
theorem Qm2{a b:List Int}(h:0<Qak a b):b≠a:=by rintro rfl;rw[Qmy]at h;omega
theorem Qgo{t:Tm}{p:List Tm}(h:Qbc (t::p)):pev (ind t.2) (t::p)=t.1:=by rw[Qav,Qj3 (fun s hs=>Qm2 (h.1 s hs)),ind,if_pos rfl];grind
theorem Qfd:∀ {p q:List Tm},Nrm p->Nrm q->(∀φ,pev φ p=pev φ q)->p=q
 | [],[],_,_,_=>rfl
 | [],t::q,_,hq,h=>by have:=h (ind t.2);rw[Qgo hq.s,Qcq]at this;exact absurd this.symm (hq.z t (by simp))
 |t::p,[],hp,_,h=>by have:=h (ind t.2);rw[Qgo hp.s,Qcq]at this;exact absurd this (hp.z t (by simp))
 | s ::p,t::q,hp,hq,h=>by
  by_cases h1:0<Qak s.2 t.2
  ·have:=h (ind s.2);rw[Qgo hp.s,Qj3 (fun x hx=>?_)]at this
   ·exact absurd this (hp.z s (by simp))
   ·rcases List.mem_cons.1 hx with rfl|hx
    ·exact Qm2 h1
    ·exact Qm2 (Qfc h1 (hq.s.1 x hx))
  ·by_cases h2:Qak s.2 t.2<0
   ·have h2':0<Qak t.2 s.2:=by have:=Qia s.2 t.2;omega
    have:=h (ind t.2);rw[Qgo hq.s,Qj3 (fun x hx=>?_)]at this
    ·exact absurd this.symm (hq.z t (by simp))
    ·rcases List.mem_cons.1 hx with rfl|hx
     ·exact Qm2 h2'
     ·exact Qm2 (Qfc h2' (hp.s.1 x hx))
   ·have e:=Qo1 h1 h2 (hp.c s (by simp)) (hq.c t (by simp));have e2:=h (ind s.2);rw[Qgo hp.s,e,Qgo hq.s]at e2;have e3:s=t:=Prod.ext e2 e;subst e3;rw[Qfd hp.tail hq.tail (fun φ=>by have:=h φ;rw[Qav,Qav]at this;grind)]
theorem Q9r{φ:List Int->Rat}:∀(n:Nat)(l:List (List Tm)),l.length<=n->(∀p∈l,Can p)->Can (Qbn l)/\pev φ (Qbn l)=(l.map (pev φ)).sum:=by
 intro n;induction n with
 |zero=>intro l hl _;have:l=[]:=List.length_eq_zero_iff.1 (by omega);subst this;rw[Qbn];exact⟨Nrm.nil.c,rfl⟩
 | succ n ih=>
  intro l hl h
  match l,h with
  | [],_=>rw[Qbn];exact⟨Nrm.nil.c,rfl⟩
  | [p],h=>rw[Qbn];exact⟨h p (by simp),by simp;grind⟩
  |p::q::r,h=>
   rw[Qkh (by simp)];generalize hL:p::q::r=L at *
   have hlen:2<=L.length:=by rw[<-hL];simp
   obtain⟨a1,a2⟩:=ih (L.take (L.length/2)) (by rw[List.length_take];omega) (fun x hx=>h x (List.mem_of_mem_take hx));obtain⟨b1,b2⟩:=ih (L.drop (L.length/2)) (by rw[List.length_drop];omega) (fun x hx=>h x (List.mem_of_mem_drop hx));refine⟨Qpd a1 b1,?_⟩;rw[Qcz a1 b1,a2,b2,<-List.sum_append,<-List.map_append,List.take_append_drop]
theorem Qaeg:∀(n:Nat)(l:List (List Tm)),l.length<=n->(∀p∈l,Nrm p)->Nrm (Qbn l):=by
 intro n;induction n with
 |zero=>intro l hl _;have:l=[]:=List.length_eq_zero_iff.1 (by omega);subst this;rw[Qbn];exact Nrm.nil
 | succ n ih=>
  intro l hl h
  match l,h with
  | [],_=>rw[Qbn];exact Nrm.nil
  | [p],h=>rw[Qbn];exact h p (by simp)
  | p::q::r,h=>
   rw[Qkh (by simp)];generalize hL:p::q::r=L at *
   have hlen:2<=L.length:=by rw[<-hL];simp
   exact Qbt (ih (L.take (L.length/2)) (by rw[List.length_take];omega) (fun x hx=>h x (List.mem_of_mem_take hx)))
    (ih (L.drop (L.length/2)) (by rw[List.length_drop];omega) (fun x hx=>h x (List.mem_of_mem_drop hx)))
theorem Qlf(φ:List Int->Rat)(t:Tm):∀(p:List Tm),pev φ (Qad p t)=t.1*pev (fun m=>φ (Qay m t.2)) p
 | []=>by rw[Qad,List.filterMap_nil,Qcq,Qcq];grind
 | s::p=>by
  have ih:=Qlf φ t p;rw[Qad]at ih⊢;rw[List.filterMap_cons];by_cases h:s.1*t.1=0
  ·simp only[h,if_true,Qav];rw[ih];have:t.1*(s.1*φ (Qay s.2 t.2))=(s.1*t.1)*φ (Qay s.2 t.2):=by grind
   rw[Rat.mul_add,this,h];grind
  ·simp only[h,if_false,Qav];rw[ih];grind
theorem Qpe(p:List Tm)(t:Tm):Can (Qad p t):=by
 intro x hx;simp only[Qad,List.mem_filterMap]at hx;obtain⟨y,hy,h⟩:=hx;split at h
 ·cases h
 ·cases h;exact Qd8 _ _
theorem Q9s(p:List Tm)(t:Tm):NZ (Qad p t):=by
 intro x hx;simp only[Qad,List.mem_filterMap]at hx;obtain⟨y,hy,h⟩:=hx;split at h
 ·cases h
 ·rename_i h0;cases h;exact h0
theorem Qpy(t:Tm):∀(p:List Tm),Qbc p->Qbc (Qad p t)
 | [],_=>trivial
 | s ::p,hp=>by
  have ih:=Qpy t p hp.2;rw[Qad]at ih⊢;rw[List.filterMap_cons];split
  ·exact ih
  ·rename_i b hb;split at hb
   ·cases hb
   ·cases hb;refine⟨fun x hx=>?_,ih⟩;simp only[List.mem_filterMap]at hx;obtain⟨y,hy,h⟩:=hx;split at h
    ·cases h
    ·cases h;simp only[Qacq];exact hp.1 y hy
theorem Qpf{p:List Tm}(t:Tm)(hp:Qbc p):Nrm (Qad p t):=⟨Qpe _ _,Q9s _ _,Qpy t p hp⟩
theorem Qvd(φ:List Int->Rat)(q:List Tm):∀(p:List Tm),((p.map (Qad q)).map (pev φ)).sum=pev (fun m=>pev (fun n=>φ (Qay m n)) q) p
 | []=>rfl
 |t::p=>by rw[List.map_cons,List.map_cons,List.sum_cons,Qvd φ q p,Qlf,Qav];congr 2;exact Qch fun s _=>by rw[Qig]
theorem Qyk(φ:List Int->Rat)(p q:List Tm):pev φ (Qhy p q)=pev (fun m=>pev (fun n=>φ (Qay m n)) q) p:=by rw[Qhy,(Q9r (φ:=φ) _ _ (Nat.le_refl _) ?_).2,Qvd];intro x hx;obtain⟨t,_,rfl⟩:=List.mem_map.1 hx;exact Qpe _ _
theorem Qc0(φ:List Int->Rat)(p q:List Tm):pev φ (Qx p q)=pev (fun m=>pev (fun n=>φ (Qay m n)) q) p:=by
 unfold Qx;split
 ·rw[Qyk,Qmd (fun m n=>φ (Qay m n))];exact Qch fun s _=>Qch fun t _=>by rw[Qig]
 ·exact Qyk φ p q
theorem Qyl{p q:List Tm}(hq:Qbc q):Nrm (Qhy p q):=Qaeg _ _ (Nat.le_refl _) fun x hx=>by obtain⟨t,_,rfl⟩:=List.mem_map.1 hx;exact Qpf t hq
theorem Qam{p q:List Tm}(hp:Qbc p)(hq:Qbc q):Nrm (Qx p q):=by
 unfold Qx;split
 ·exact Qyl hp
 ·exact Qyl hq
theorem Q6d(φ:List Int->Rat){p:List Tm}(hp:Can p)(a:Rat):pev φ (Qcf p a)=a*pev φ p:=by
 unfold Qcf;split
 ·rename_i h;rw[h,Qcq];grind
 ·rw[Qlf];congr 1;exact Qch fun s hs=>by rw[Ql8 (hp s hs)]
theorem Qve{p:List Tm}(hp:Qbc p)(a:Rat):Nrm (Qcf p a):=by
 unfold Qcf;split
 ·exact Nrm.nil
 ·exact Qpf _ hp
theorem Qaeh(φ:List Int->Rat){p:List Tm}(hp:Can p):pev φ (Qi2 p)= -pev φ p:=by rw[Qi2,Q6d φ hp];grind
theorem Q1g(φ:List Int->Rat){p q:List Tm}(hp:Can p)(hq:Nrm q):pev φ (Qgc p q)=pev φ p-pev φ q:=by rw[Qgc,Qcz hp (show Can (Qi2 q)from(Qve hq.s _).c),Qaeh φ hq.c];grind
theorem Qpg{p q:List Tm}(hp:Nrm p)(hq:Nrm q):Nrm (Qgc p q):=Qbt hp (Qve hq.s _)
theorem Q9t{p q:List Tm}(hp:Nrm p)(hq:Nrm q):Q4 p q=Q4 q p:=
 Qfd (Qbt hp hq) (Qbt hq hp) fun φ=>by rw[Qcz hp.c hq.c,Qcz hq.c hp.c];grind
theorem Qvf{p q r:List Tm}(hp:Nrm p)(hq:Nrm q)(hr:Nrm r):Q4 (Q4 p q) r=Q4 p (Q4 q r):=
 Qfd (Qbt (Qbt hp hq) hr) (Qbt hp (Qbt hq hr)) fun φ=>by rw[Qcz (Qpd hp.c hq.c) hr.c,Qcz hp.c hq.c,Qcz hp.c (Qpd hq.c hr.c),Qcz hq.c hr.c];grind
theorem Qd9{p q:List Tm}(hp:Nrm p)(hq:Nrm q):Qx p q=Qx q p:=
 Qfd (Qam hp.s hq.s) (Qam hq.s hp.s) fun φ=>by rw[Qc0,Qc0,Qmd (fun m n=>φ (Qay m n))];exact Qch fun s _=>Qch fun t _=>by rw[Qig]
theorem Qhp{p q r:List Tm}(hp:Nrm p)(hq:Nrm q)(hr:Nrm r):Qx (Qx p q) r=Qx p (Qx q r):=
 Qfd (Qam (Qam hp.s hq.s).s hr.s) (Qam hp.s (Qam hq.s hr.s).s) fun φ=>by rw[Qc0,Qc0,Qc0];refine Qch fun s _=>?_;rw[Qc0 (fun n=>φ (Qay s.2 n))];exact Qch fun t _=>Qch fun u _=>by rw[Q5w]
theorem Qqz{p q r:List Tm}(hp:Nrm p)(hq:Nrm q)(hr:Nrm r):Qx (Q4 p q) r=Q4 (Qx p r) (Qx q r):=
 Qfd (Qam (Qsu hp.s hq.s) hr.s) (Qbt (Qam hp.s hr.s) (Qam hq.s hr.s)) fun φ=>by rw[Qc0,Qcz (Qam hp.s hr.s).c (Qam hq.s hr.s).c,Qc0,Qc0,Qcz hp.c hq.c]
theorem Qhq(a:Rat):Nrm (Qbe a):=by
 unfold Qbe;split
 ·exact Nrm.nil
 ·rename_i h;exact Nrm.one h (by simp)
theorem Q6e(φ:List Int->Rat)(a:Rat):pev φ (Qbe a)=a*φ []:=by
 unfold Qbe;split
 ·rename_i h;rw[h,Qcq];grind
 ·rw[Qav,Qcq];grind
theorem Qtq{p:List Tm}(hp:Nrm p):Qx (Qbe 1) p=p:=
 Qfd (Qam (Qhq 1).s hp.s) hp fun φ=>by
  rw[Qc0,Q6e];have:pev (fun n=>φ (Qay [] n)) p=pev φ p:=Qch fun s hs=>by rw[Qig,Ql8 (hp.c s hs)]
  rw[this];grind
def Qgz(p q:List Tm):List Tm:=q.foldl (fun out t=>Q4 out (Qad p t)) []
theorem Qym(p:List Tm)(hp:Nrm p):∀(q out:List Tm),Nrm out->Nrm (q.foldl (fun out t=>Q4 out (Qad p t)) out)/\
  ∀φ,pev φ (q.foldl (fun out t=>Q4 out (Qad p t)) out)=pev φ out+pev (fun m=>pev (fun n=>φ (Qay n m)) p) q
 | [],out,h=>⟨h,fun φ=>by rw[List.foldl_nil,Qcq];grind⟩
 |t::q,out,h=>by obtain⟨h1,h2⟩:=Qym p hp q (Q4 out (Qad p t)) (Qbt h (Qpf t hp.s));refine⟨h1,fun φ=>?_⟩;rw[List.foldl_cons,h2,Qcz h.c (Qpe _ _),Qlf,Qav];grind
theorem Qjo{p q:List Tm}(hp:Nrm p)(hq:Nrm q):Qgz p q=Qx p q:=by obtain⟨h1,h2⟩:=Qym p hp q [] Nrm.nil;refine Qfd h1 (Qam hp.s hq.s) fun φ=>?_;rw[Qgz,h2,Qc0,Qcq,Qmd (fun m n=>φ (Qay m n))];grind
variable {C : Ctx} {fr : Fr} {hp : HP} {w : World} {K R : Qg}
theorem Q2w{e by_ ty d:Nat}(h0:0<e):Qgq e by_ ty .nilS (.sl e []) d fr hp K=K (upd (Qa2 d fr) d (.ms d 0)) (Qv hp d ⟨e,ty,[],false⟩):=by have:=Qk8 (fr:=fr) (hp:=hp) (K:=K) (e:=e) (by_:=by_) (ty:=ty) (d:=d) (x:=.sl e []) (ys:=[]) rfl h0 (by simp) (by simp);simpa using this
def Qaf(p:List Tm):Bool:=decide (4000<p.length)||p.any fun t=>t.2.any fun x=>decide (1048576<x)
end Go.FW
namespace Go.FW
open Go
theorem Qw7{m:List Int}{c:Rat}:∀ {u v:List Tm},(∀t∈u,0<Qak t.2 m)->(∀t∈v,Qak t.2 m<0)->Q4 (u++v) [(c,m)]=u++(c,m)::v
 | [],[],_,_=>by rw[List.nil_append,Qez];rfl
 | [],t::v,_,hv=>by have h1:=hv t (by simp);rw[List.nil_append,Qki,if_neg (by show ¬0<Qak t.2 m;omega),if_pos (by exact h1),Qcj];rfl
 |t::u,v,hu,hv=>by rw[List.cons_append,Qki,if_pos (by exact hu t (by simp)),Qw7 (fun s hs=>hu s (by simp[hs])) hv];rfl
theorem Q37{m:List Int}{c d:Rat}:∀ {u v:List Tm},(∀t∈u,0<Qak t.2 m)->Q4 (u++(d,m)::v) [(c,m)]=u++(if d+c=0 then []else [(d+c,m)])++v
 | [],v,_=>by have h0:=Qmy m;rw[List.nil_append,Qki,if_neg (by show ¬0<Qak m m;omega),if_neg (by show ¬Qak m m<0;omega)];show(if d+c=0 then Q4 v []else(d+c,m)::Q4 v [])=_;rw[Qcj];split<;>rfl
 |t::u,v,hu=>by rw[List.cons_append,Qki,if_pos (by exact hu t (by simp)),Q37 (fun s hs=>hu s (by simp[hs]))];simp
def Qed(p:List Tm)(c:Rat)(m:List Int):List Tm:=Q4 p (if c=0 then []else [(c,m)])
theorem Q1h{p:List Tm}(hs:Qbc p):∀ {i:Nat} (h:i<p.length),∀t∈p.take i,0<Qak t.2 p[i].2:=by
 induction p with
 |nil=>intro i h;simp at h
 | cons s p ih=>
  intro i h t ht;cases i with
  |zero=>simp at ht
  |succ i=>
   simp only[List.take_succ_cons,List.mem_cons]at ht;have hi:i<p.length:=by simpa using h
   show 0<Qak t.2 p[i].2;rcases ht with rfl|ht
   ·exact hs.1 _ (List.getElem_mem hi)
   ·exact ih hs.2 hi t ht
theorem Q9u{c:Rat}{m:List Int}(hl:m.getLast? ≠some 0):Nrm (if c=0 then []else [(c,m)]):=by
 split
 ·exact Nrm.nil
 ·rename_i h;exact Nrm.one h hl
theorem Q9v{p:List Tm}{c:Rat}{m:List Int}(hp:Nrm p)(hl:m.getLast? ≠some 0):Nrm (Qed p c m):=Qbt hp (Q9u hl)
theorem Q9w{φ:List Int->Rat}{p:List Tm}{c:Rat}{m:List Int}(hp:Can p)(hl:m.getLast? ≠some 0):pev φ (Qed p c m)=pev φ p+c*φ m:=by
 rw[Qed,Qcz hp (Q9u hl).c];split
 ·rename_i h;rw[h,Qcq];grind
 ·rw[Qav,Qcq];grind
def Qax(p:List Tm):Nat->List Tm
 |0=>Qbe 1
 |n+1=>Qx (Qax p n) p
theorem Qeh{p:List Tm}(hp:Nrm p):∀n,Nrm (Qax p n)
 |0=>Qhq 1
 |n+1=>Qam (Qeh hp n).s hp.s
def Qlg{α:Type}(g:α->Bool)(l:List α):Int:=match l.findIdx? g with
 |some i=>i
 |none=> -1
theorem Qq0{α:Type}(g:α->Bool)(l:List α):decide (0<=Qlg g l)=l.any g:=by
 unfold Qlg;cases h:l.findIdx? g with
 |none=>rw[List.findIdx?_eq_none_iff]at h;symm;show l.any g=decide ((0:Int)<= -1);rw[show decide ((0:Int)<= -1)=false from rfl,List.any_eq_false];intro x hx;simp[h x hx]
 |some i=>obtain⟨hi,h1,_⟩:=List.findIdx?_eq_some_iff_getElem.1 h;symm;show l.any g=decide ((0:Int)<=(i:Int));rw[decide_eq_true (by omega),List.any_eq_true];exact⟨_,List.getElem_mem hi,h1⟩
theorem Qtr{α:Type}{g:α->Bool}{l:List α}{i:Nat}(hi:i<l.length)(h1:g l[i]=true)(h2:∀j (h:j<l.length),j<i->g l[j]=false):Qlg g l=i:=by unfold Qlg;rw[List.findIdx?_eq_some_iff_getElem.2 ⟨hi,h1,fun j hj=>by simp[h2 j (by omega) hj]⟩]
theorem Qph{α:Type}{g:α->Bool}{l:List α}(h2:∀j (h:j<l.length),g l[j]=false):Qlg g l= -1:=by unfold Qlg;rw[List.findIdx?_eq_none_iff.2 (fun x hx=>by obtain⟨j,hj,rfl⟩:=List.getElem_of_mem hx;exact h2 j hj)]
end Go.FW
