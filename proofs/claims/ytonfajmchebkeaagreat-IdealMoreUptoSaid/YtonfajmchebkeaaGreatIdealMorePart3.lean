/- Part 3 of the proof of IdealMore: C1, CI, C1b, N1, N2, N3, N4, N5, N6, N7, N8, N9, N10, N11, N12, N13, N14, N15, I1, R1, R2, FwUB, FwNA, FwNB, FwND, FwNE, FwNF, FwNG, FwNS, FwNT, FwQA, FwSD, FwSE, FwSF, FwSG, FwSH, FwSI, FwSJ, FwSK, FwSL, FwUA, FwSM, FwUC, FwVA. Own lemmas; no conditions. -/
import Derived.Test.YtonfajmchebkeaaGreatIdealMorePart2
import Derived.Test.YtonfajmchebkeaaGreatProg
set_option linter.unusedSimpArgs false
set_option linter.unnecessarySimpa false
set_option linter.unusedVariables false
namespace Go.Proofs.YtonfajmchebkeaaGreat
open Go Go.FW
set_option maxRecDepth 100000
theorem Qk:Tryz.prog.follows .mixedOrders=true:=by kernel_rfl
def Qzs:SFn:=⟨21,[.t 2],Zr (Zo (.mv 2 (.c .nilS)) .nil)<|Zr (Zm 4 0<|
 Zn 5 4<|
 Zm 3 5 .nil)<| .seq (.block 0<| .loop<| .seq (Zr (Zm 6 3<|
 Zk 7 .gtr 6 0<|
 Zm 8 7<|
 Zg 8 true (.mv 9 (.t 0))<|
 Zg 8 true (.mv 10 (.t 3))<|
 Zg 8 true (.bin 11 .sub false (.t 10) (.c (Zz 1)))<|
 Zg 8 true (.idx 12 1 (.t 9) (.t 11))<|
 Zg 8 true (.ld 13 1 false (.t 12))<|
 Zg 8 true (.bin 14 .eql false (.t 13) (.c (.int .u16 0)))<|
 Zo (.pick 15 (.t 8) (.t 14) (.c (.bool false))) .nil)<| .cond (.t 15) .skip (.exit 0))<| .block 1<| .rg (Zm 16 3<|
 Zk 17 .sub 16 1<|
 Zm 3 17 .nil))<|Zr (Zm 18 0<|
 Zm 19 3<|
 Zo (.sl 20 1 (.t 18) none (some (.t 19)) none)<|
 Zm 2 20 .nil) .ret⟩
theorem Q2o:Qe Tryz.prog Tryz.f240=some Qzs:=by kernel_rfl
def c231:SFn:=⟨16,[.t 2],Zr (Zo (.mv 2 (.c .nilS)) .nil)<|Zr (Zm 4 0<|
 Zq 5 false 240 [.t 4]<|
 Zm 0 5 .nil)<| .seq (Zr (Zm 6 0<|
 Zn 7 6<|
 Zk 8 .eql 7 0 .nil)<| .cond (.t 8) (Zr (Zo (.mv 2 (.c .nilS)) .nil) .ret) .skip)<|Zr (Zm 9 0<|
 Zn 10 9<|
 Zo (.mk 11 1 2 191 (.int .u16 0) (.t 10) (.t 10))<|
 Zm 3 11 .nil)<|Zr (Zm 12 3<|
 Zm 13 0<|
 Zo (.cpy 14 1 (.t 12) (.t 13)) .nil)<|Zr (Zm 15 3<|
 Zm 2 15 .nil) .ret⟩
theorem Qaf7:Qe Tryz.prog Tryz.f231=some c231:=by kernel_rfl
def c210:SFn:=⟨14,[.t 2],Zr (Zo (.mv 2 (.c .nilS)) .nil)<|Zr (Zo (.mv 3 (.c .nilS)) .nil)<| .seq (.block 0<| .loop<| .seq (Zr (Zm 4 0<|
 Zo (.bin 5 .gtr false (.t 4) (.c (.int .u64 0))) .nil)<| .cond (.t 5) .skip (.exit 0))<| .seq (.block 1<| .rg (Zm 8 3<|
 Zm 9 0<|
 Zo (.conv 10 .u16 (.t 9))<|
 Zo (.bs 11 1 191 [.t 10])<|
 Zo (.app 12 1 2 191 (.t 8) (.t 11))<|
 Zm 3 12 .nil))<| .rg (Zm 6 0<|
 Zo (.bin 7 .shr false (.t 6) (.c (.int .u64 16)))<|
 Zm 0 7 .nil))<|Zr (Zm 13 3<|
 Zm 2 13 .nil) .ret⟩
theorem Qaf8:Qe Tryz.prog Tryz.f210=some c210:=by kernel_rfl
def c232:SFn:=⟨28,[.t 2,.t 3],Zr (Zo (.mv 2 (.c (.int .u64 0)))<|
 Zo (.mv 3 (.c (.bool false))) .nil)<|Zr (Zm 7 0<|
 Zq 8 false 240 [.t 7]<|
 Zm 0 8 .nil)<| .seq (Zr (Zm 9 0<|
 Zn 10 9<|
 Zk 11 .gtr 10 4 .nil)<| .cond (.t 11) (Zr (Zo (.mv 2 (.c (.int .u64 0)))<|
 Zo (.mv 3 (.c (.bool false))) .nil) .ret) .skip)<|Zr (Zo (.mv 4 (.c (.int .u64 0))) .nil)<| .seq (Zr (Zm 12 0<|
 Zn 13 12<|
 Zc 14 0 .nil)<| .block 0<| .loop<|Zr (Zb 15 .lss 14 13 .nil)<| .seq (.cond (.t 15) .skip (.exit 0))<| .seq (.block 1<|Zr (Zm 16 14<|
 Zi 17 1 12 14<|
 Zl 18 1 17<|
 Zm 5 16<|
 Zm 6 18 .nil)<| .rg (Zm 19 4<|
 Zm 20 6<|
 Zo (.conv 21 .u64 (.t 20))<|
 Zm 22 5<|
 Zo (.bin 23 .mul false (.c (Zz 16)) (.t 22))<|
 Zb 24 .shl 21 23<|
 Zb 25 .or 19 24<|
 Zm 4 25 .nil))<| .rg (Zk 26 .add 14 1<|
 Zm 14 26 .nil))<|Zr (Zm 27 4<|
 Zm 2 27<|
 Zo (.mv 3 (.c (.bool true))) .nil) .ret⟩
theorem Qaf9:Qe Tryz.prog Tryz.f232=some c232:=by kernel_rfl
def c237:SFn:=⟨20,[.t 2],Zr (Zc 2 0 .nil)<|Zr (Zm 3 0<|
 Zq 4 false 240 [.t 3]<|
 Zm 0 4 .nil)<| .seq (Zr (Zm 5 0<|
 Zn 6 5<|
 Zk 7 .eql 6 0 .nil)<| .cond (.t 7) (Zr (Zc 2 0 .nil) .ret) .skip)<|Zr (Zm 8 0<|
 Zn 9 8<|
 Zk 10 .sub 9 1<|
 Zo (.bin 11 .mul false (.c (Zz 16)) (.t 10))<|
 Zm 12 0<|
 Zm 13 0<|
 Zn 14 13<|
 Zk 15 .sub 14 1<|
 Zi 16 1 12 15<|
 Zl 17 1 16<|
 Zq 18 false 254 [.t 17]<|
 Zb 19 .add 11 18<|
 Zm 2 19 .nil) .ret⟩
theorem Qaga:Qe Tryz.prog Tryz.f237=some c237:=by kernel_rfl
def c248:SFn:=⟨45,[.t 4],Zr (Zc 4 0 .nil)<|Zr (Zm 6 0<|
 Zq 7 false 240 [.t 6]<|
 Zm 8 1<|
 Zq 9 false 240 [.t 8]<|
 Zm 0 7<|
 Zm 1 9 .nil)<| .seq (Zr (Zm 10 0<|
 Zn 11 10<|
 Zm 12 1<|
 Zn 13 12<|
 Zb 14 .neq 11 13 .nil)<| .cond (.t 14) (.seq (Zr (Zm 15 0<|
 Zn 16 15<|
 Zm 17 1<|
 Zn 18 17<|
 Zb 19 .lss 16 18 .nil)<| .cond (.t 19) (Zr (Zc 4 (-1) .nil) .ret) .skip)<|Zr (Zc 4 1 .nil) .ret) .skip)<| .seq (Zr (Zm 20 0<|
 Zn 21 20<|
 Zk 22 .sub 21 1<|
 Zm 5 22 .nil)<| .block 0<| .loop<| .seq (Zr (Zm 23 5<|
 Zk 24 .geq 23 0 .nil)<| .cond (.t 24) .skip (.exit 0))<| .seq (.block 1<| .seq (Zr (Zm 27 0<|
 Zm 28 5<|
 Zi 29 1 27 28<|
 Zl 30 1 29<|
 Zm 31 1<|
 Zm 32 5<|
 Zi 33 1 31 32<|
 Zl 34 1 33<|
 Zb 35 .lss 30 34 .nil)<| .cond (.t 35) (Zr (Zc 4 (-1) .nil) .ret) .skip)<|Zr (Zm 36 0<|
 Zm 37 5<|
 Zi 38 1 36 37<|
 Zl 39 1 38<|
 Zm 40 1<|
 Zm 41 5<|
 Zi 42 1 40 41<|
 Zl 43 1 42<|
 Zb 44 .gtr 39 43 .nil)<| .cond (.t 44) (Zr (Zc 4 1 .nil) .ret) .skip)<| .rg (Zm 25 5<|
 Zk 26 .sub 25 1<|
 Zm 5 26 .nil))<|Zr (Zc 4 0 .nil) .ret⟩
theorem Qagb:Qe Tryz.prog Tryz.f248=some c248:=by kernel_rfl
def c256:SFn:=⟨64,[.t 4],Zr (Zo (.mv 4 (.c .nilS)) .nil)<|Zr (Zm 9 0<|
 Zq 10 false 240 [.t 9]<|
 Zm 11 1<|
 Zq 12 false 240 [.t 11]<|
 Zm 0 10<|
 Zm 1 12 .nil)<| .seq (Zr (Zm 13 0<|
 Zn 14 13<|
 Zm 15 1<|
 Zn 16 15<|
 Zb 17 .lss 14 16 .nil)<| .cond (.t 17) (.rg (Zm 18 1<|
 Zm 19 0<|
 Zm 0 18<|
 Zm 1 19 .nil)) .skip)<|Zr (Zm 20 0<|
 Zn 21 20<|
 Zm 22 0<|
 Zn 23 22<|
 Zk 24 .add 23 1<|
 Zo (.mk 25 1 2 191 (.int .u16 0) (.t 21) (.t 24))<|
 Zm 5 25 .nil)<|Zr (Zo (.mv 6 (.c (.int .u32 0))) .nil)<| .seq (Zr (Zm 26 0<|
 Zn 27 26<|
 Zc 28 0 .nil)<| .block 0<| .loop<|Zr (Zb 29 .lss 28 27 .nil)<| .seq (.cond (.t 29) .skip (.exit 0))<| .seq (.block 1<|Zr (Zm 30 28<|
 Zi 31 1 26 28<|
 Zl 32 1 31<|
 Zm 7 30<|
 Zm 8 32 .nil)<|Zr (Zm 33 6<|
 Zm 34 8<|
 Zo (.conv 35 .u32 (.t 34))<|
 Zb 36 .add 33 35<|
 Zm 6 36 .nil)<| .seq (Zr (Zm 37 7<|
 Zm 38 1<|
 Zn 39 38<|
 Zb 40 .lss 37 39 .nil)<| .cond (.t 40) (.rg (Zm 41 6<|
 Zm 42 1<|
 Zm 43 7<|
 Zi 44 1 42 43<|
 Zl 45 1 44<|
 Zo (.conv 46 .u32 (.t 45))<|
 Zb 47 .add 41 46<|
 Zm 6 47 .nil)) .skip)<|Zr (Zm 48 5<|
 Zm 49 7<|
 Zm 50 6<|
 Zo (.conv 51 .u16 (.t 50))<|
 Zi 52 1 48 49<|
 Zs 1 52 51 .nil)<| .rg (Zm 53 6<|
 Zo (.bin 54 .shr false (.t 53) (.c (.int .u64 16)))<|
 Zm 6 54 .nil))<| .rg (Zk 55 .add 28 1<|
 Zm 28 55 .nil))<| .seq (Zr (Zm 56 6<|
 Zo (.bin 57 .gtr false (.t 56) (.c (.int .u32 0))) .nil)<| .cond (.t 57) (.rg (Zm 58 5<|
 Zm 59 6<|
 Zo (.conv 60 .u16 (.t 59))<|
 Zo (.bs 61 1 191 [.t 60])<|
 Zo (.app 62 1 2 191 (.t 58) (.t 61))<|
 Zm 5 62 .nil)) .skip)<|Zr (Zm 63 5<|
 Zm 4 63 .nil) .ret⟩
theorem Qagc:Qe Tryz.prog Tryz.f256=some c256:=by kernel_rfl
def c257:SFn:=⟨56,[.t 4,.t 5],Zr (Zo (.mv 4 (.c .nilS))<|
 Zc 5 0 .nil)<| .seq (Zr (Zm 11 0<|
 Zm 12 1<|
 Zq 13 false 248 [.t 11,.t 12]<|
 Zk 14 .lss 13 0 .nil)<| .cond (.t 14) (Zr (Zo (.mv 4 (.c .nilS))<|
 Zc 5 2 .nil) .ret) .skip)<|Zr (Zm 15 0<|
 Zq 16 false 240 [.t 15]<|
 Zm 17 1<|
 Zq 18 false 240 [.t 17]<|
 Zm 0 16<|
 Zm 1 18 .nil)<|Zr (Zm 19 0<|
 Zn 20 19<|
 Zo (.mk 21 1 2 191 (.int .u16 0) (.t 20) (.t 20))<|
 Zm 6 21 .nil)<|Zr (Zo (.mv 7 (.c (.int .i32 0))) .nil)<| .seq (Zr (Zm 22 0<|
 Zn 23 22<|
 Zc 24 0 .nil)<| .block 0<| .loop<|Zr (Zb 25 .lss 24 23 .nil)<| .seq (.cond (.t 25) .skip (.exit 0))<| .seq (.block 1<|Zr (Zm 26 24<|
 Zi 27 1 22 24<|
 Zl 28 1 27<|
 Zm 8 26<|
 Zm 9 28 .nil)<|Zr (Zm 29 9<|
 Zo (.conv 30 .i32 (.t 29))<|
 Zm 31 7<|
 Zb 32 .sub 30 31<|
 Zm 10 32 .nil)<| .seq (Zr (Zm 33 8<|
 Zm 34 1<|
 Zn 35 34<|
 Zb 36 .lss 33 35 .nil)<| .cond (.t 36) (.rg (Zm 37 10<|
 Zm 38 1<|
 Zm 39 8<|
 Zi 40 1 38 39<|
 Zl 41 1 40<|
 Zo (.conv 42 .i32 (.t 41))<|
 Zb 43 .sub 37 42<|
 Zm 10 43 .nil)) .skip)<|Zr (Zo (.mv 7 (.c (.int .i32 0))) .nil)<| .seq (Zr (Zm 44 10<|
 Zo (.bin 45 .lss false (.t 44) (.c (.int .i32 0))) .nil)<| .cond (.t 45) (Zr (Zm 46 10<|
 Zo (.bin 47 .add false (.t 46) (.c (.int .i32 65536)))<|
 Zm 10 47 .nil)<| .rg (Zo (.mv 7 (.c (.int .i32 1))) .nil)) .skip)<| .rg (Zm 48 6<|
 Zm 49 8<|
 Zm 50 10<|
 Zo (.conv 51 .u16 (.t 50))<|
 Zi 52 1 48 49<|
 Zs 1 52 51 .nil))<| .rg (Zk 53 .add 24 1<|
 Zm 24 53 .nil))<|Zr (Zm 54 6<|
 Zq 55 false 240 [.t 54]<|
 Zm 4 55<|
 Zc 5 0 .nil) .ret⟩
theorem Qagd:Qe Tryz.prog Tryz.f257=some c257:=by kernel_rfl
def c208:SFn:=⟨79,[.t 4],Zr (Zo (.mv 4 (.c .nilS)) .nil)<|Zr (Zm 11 0<|
 Zq 12 false 240 [.t 11]<|
 Zm 13 1<|
 Zq 14 false 240 [.t 13]<|
 Zm 0 12<|
 Zm 1 14 .nil)<| .seq (Zr (Zm 15 0<|
 Zn 16 15<|
 Zk 17 .eql 16 0<|
 Zm 18 17<|
 Zg 18 false (.mv 19 (.t 1))<|
 Zg 18 false (.len 20 (.t 19))<|
 Zg 18 false (.bin 21 .eql false (.t 20) (.c (Zz 0)))<|
 Zo (.pick 22 (.t 18) (.c (.bool true)) (.t 21)) .nil)<| .cond (.t 22) (Zr (Zo (.mv 4 (.c .nilS)) .nil) .ret) .skip)<|Zr (Zm 23 0<|
 Zn 24 23<|
 Zm 25 1<|
 Zn 26 25<|
 Zb 27 .add 24 26<|
 Zo (.mk 28 1 2 191 (.int .u16 0) (.t 27) (.t 27))<|
 Zm 5 28 .nil)<| .seq (Zr (Zm 29 0<|
 Zn 30 29<|
 Zc 31 0 .nil)<| .block 0<| .loop<|Zr (Zb 32 .lss 31 30 .nil)<| .seq (.cond (.t 32) .skip (.exit 0))<| .seq (.block 1<|Zr (Zm 33 31<|
 Zi 34 1 29 31<|
 Zl 35 1 34<|
 Zm 6 33<|
 Zm 7 35 .nil)<|Zr (Zo (.mv 8 (.c (.int .u32 0))) .nil)<| .seq (Zr (Zm 36 1<|
 Zn 37 36<|
 Zc 38 0 .nil)<| .block 2<| .loop<|Zr (Zb 39 .lss 38 37 .nil)<| .seq (.cond (.t 39) .skip (.exit 2))<| .seq (.block 3<|Zr (Zm 40 38<|
 Zi 41 1 36 38<|
 Zl 42 1 41<|
 Zm 9 40<|
 Zm 10 42 .nil)<|Zr (Zm 43 8<|
 Zm 44 5<|
 Zm 45 6<|
 Zm 46 9<|
 Zb 47 .add 45 46<|
 Zi 48 1 44 47<|
 Zl 49 1 48<|
 Zo (.conv 50 .u32 (.t 49))<|
 Zm 51 7<|
 Zo (.conv 52 .u32 (.t 51))<|
 Zm 53 10<|
 Zo (.conv 54 .u32 (.t 53))<|
 Zb 55 .mul 52 54<|
 Zb 56 .add 50 55<|
 Zb 57 .add 43 56<|
 Zm 8 57 .nil)<|Zr (Zm 58 5<|
 Zm 59 6<|
 Zm 60 9<|
 Zb 61 .add 59 60<|
 Zm 62 8<|
 Zo (.conv 63 .u16 (.t 62))<|
 Zi 64 1 58 61<|
 Zs 1 64 63 .nil)<| .rg (Zm 65 8<|
 Zo (.bin 66 .shr false (.t 65) (.c (.int .u64 16)))<|
 Zm 8 66 .nil))<| .rg (Zk 67 .add 38 1<|
 Zm 38 67 .nil))<| .rg (Zm 68 5<|
 Zm 69 6<|
 Zm 70 1<|
 Zn 71 70<|
 Zb 72 .add 69 71<|
 Zm 73 8<|
 Zo (.conv 74 .u16 (.t 73))<|
 Zi 75 1 68 72<|
 Zs 1 75 74 .nil))<| .rg (Zk 76 .add 31 1<|
 Zm 31 76 .nil))<|Zr (Zm 77 5<|
 Zq 78 false 240 [.t 77]<|
 Zm 4 78 .nil) .ret⟩
theorem Qage:Qe Tryz.prog Tryz.f208=some c208:=by kernel_rfl
def c249:SFn:=⟨43,[.t 4,.t 5],Zr (Zo (.mv 4 (.c .nilS))<|
 Zo (.mv 5 (.c (.int .u16 0))) .nil)<|Zr (Zm 9 0<|
 Zn 10 9<|
 Zo (.mk 11 1 2 191 (.int .u16 0) (.t 10) (.t 10))<|
 Zm 6 11 .nil)<|Zr (Zo (.mv 7 (.c (.int .u32 0))) .nil)<| .seq (Zr (Zm 12 0<|
 Zn 13 12<|
 Zk 14 .sub 13 1<|
 Zm 8 14 .nil)<| .block 0<| .loop<| .seq (Zr (Zm 15 8<|
 Zk 16 .geq 15 0 .nil)<| .cond (.t 16) .skip (.exit 0))<| .seq (.block 1<|Zr (Zm 19 7<|
 Zo (.bin 20 .shl false (.t 19) (.c (.int .u64 16)))<|
 Zm 21 0<|
 Zm 22 8<|
 Zi 23 1 21 22<|
 Zl 24 1 23<|
 Zo (.conv 25 .u32 (.t 24))<|
 Zb 26 .or 20 25<|
 Zm 7 26 .nil)<|Zr (Zm 27 6<|
 Zm 28 8<|
 Zm 29 7<|
 Zm 30 1<|
 Zo (.conv 31 .u32 (.t 30))<|
 Zb 32 .quo 29 31<|
 Zo (.conv 33 .u16 (.t 32))<|
 Zi 34 1 27 28<|
 Zs 1 34 33 .nil)<| .rg (Zm 35 7<|
 Zm 36 1<|
 Zo (.conv 37 .u32 (.t 36))<|
 Zb 38 .rem 35 37<|
 Zm 7 38 .nil))<| .rg (Zm 17 8<|
 Zk 18 .sub 17 1<|
 Zm 8 18 .nil))<|Zr (Zm 39 6<|
 Zq 40 false 240 [.t 39]<|
 Zm 41 7<|
 Zo (.conv 42 .u16 (.t 41))<|
 Zm 4 40<|
 Zm 5 42 .nil) .ret⟩
theorem Qagf:Qe Tryz.prog Tryz.f249=some c249:=by kernel_rfl
def c233:SFn:=⟨71,[.t 4,.t 5,.t 6],Zr (Zo (.mv 4 (.c .nilS))<|
 Zo (.mv 5 (.c .nilS))<|
 Zc 6 0 .nil)<|Zr (Zm 12 0<|
 Zq 13 false 240 [.t 12]<|
 Zm 14 1<|
 Zq 15 false 240 [.t 14]<|
 Zm 0 13<|
 Zm 1 15 .nil)<| .seq (.block 0<|Zr (Zm 17 1<|
 Zn 18 17<|
 Zk 19 .eql 18 0<|
 Zm 16 19 .nil)<| .cond (.t 16) (Zr (Zo (.mv 4 (.c .nilS))<|
 Zo (.mv 5 (.c .nilS))<|
 Zc 6 3 .nil) .ret) (Zr (Zm 21 0<|
 Zm 22 1<|
 Zq 23 false 248 [.t 21,.t 22]<|
 Zk 24 .lss 23 0<|
 Zm 20 24 .nil)<| .cond (.t 20) (Zr (Zm 25 0<|
 Zq 26 false 231 [.t 25]<|
 Zo (.mv 4 (.c .nilS))<|
 Zm 5 26<|
 Zc 6 0 .nil) .ret) (Zr (Zm 28 1<|
 Zn 29 28<|
 Zk 30 .eql 29 1<|
 Zm 27 30 .nil)<| .cond (.t 27) (Zr (Zm 32 0<|
 Zm 33 1<|
 Zo (.idx 34 1 (.t 33) (.c (Zz 0)))<|
 Zl 35 1 34<|
 Zq 36 false 249 [.t 32,.t 35]<|
 Zm 31 36<|
 Zo (.ext 37 (.t 31) 0)<|
 Zo (.ext 38 (.t 31) 1)<|
 Zm 7 37<|
 Zm 8 38 .nil)<|Zr (Zm 39 7<|
 Zm 40 8<|
 Zo (.conv 41 .u64 (.t 40))<|
 Zq 42 false 210 [.t 41]<|
 Zm 4 39<|
 Zm 5 42<|
 Zc 6 0 .nil) .ret) .skip)))<|Zr (Zm 43 1<|
 Zm 44 1<|
 Zn 45 44<|
 Zk 46 .sub 45 1<|
 Zi 47 1 43 46<|
 Zl 48 1 47<|
 Zq 49 false 250 [.t 48]<|
 Zm 9 49 .nil)<|Zr (Zm 50 0<|
 Zm 51 9<|
 Zq 52 false 251 [.t 50,.t 51]<|
 Zo (.bs 53 1 191 [.c (.int .u16 0),.c (.int .u16 0)])<|
 Zo (.app 54 1 2 191 (.t 52) (.t 53))<|
 Zm 55 0<|
 Zn 56 55<|
 Zk 57 .add 56 1<|
 Zo (.sl 58 1 (.t 54) none (some (.t 57)) none)<|
 Zm 10 58 .nil)<|Zr (Zm 59 1<|
 Zm 60 9<|
 Zq 61 false 251 [.t 59,.t 60]<|
 Zm 11 61 .nil)<|Zr (Zm 62 10<|
 Zm 63 11<|
 Zq 64 false 252 [.t 62,.t 63]<|
 Zm 4 64 .nil)<|Zr (Zm 65 4<|
 Zm 66 10<|
 Zq 67 false 240 [.t 66]<|
 Zm 68 9<|
 Zo (.un 69 .neg (.t 68))<|
 Zq 70 false 251 [.t 67,.t 69]<|
 Zm 4 65<|
 Zm 5 70<|
 Zc 6 0 .nil) .ret⟩
theorem Qagg:Qe Tryz.prog Tryz.f233=some c233:=by kernel_rfl
def c260:SFn:=⟨31,[.t 6],Zr (Zo (.mv 6 (.c (.bool false))) .nil)<|Zr (Zl 7 1 0<|
 Zo (.bin 8 .geq false (.t 7) (.c (.int .u64 65536)))<|
 Zm 9 8<|
 Zg 9 false (.ld 10 1 false (.t 0))<|
 Zg 9 false (.ld 11 1 false (.t 1))<|
 Zg 9 false (.ld 12 1 false (.t 2))<|
 Zg 9 false (.bin 13 .sub false (.t 12) (.c (Zz 2)))<|
 Zg 9 false (.idx 14 1 (.t 11) (.t 13))<|
 Zg 9 false (.ld 15 1 false (.t 14))<|
 Zg 9 false (.conv 16 .u64 (.t 15))<|
 Zg 9 false (.bin 17 .mul false (.t 10) (.t 16))<|
 Zg 9 false (.ld 18 1 false (.t 3))<|
 Zg 9 false (.bin 19 .shl false (.t 18) (.c (.int .u64 16)))<|
 Zg 9 false (.ld 20 1 false (.t 4))<|
 Zg 9 false (.ld 21 1 false (.t 5))<|
 Zg 9 false (.ld 22 1 false (.t 2))<|
 Zg 9 false (.bin 23 .add false (.t 21) (.t 22))<|
 Zg 9 false (.bin 24 .sub false (.t 23) (.c (Zz 2)))<|
 Zg 9 false (.idx 25 1 (.t 20) (.t 24))<|
 Zg 9 false (.ld 26 1 false (.t 25))<|
 Zg 9 false (.conv 27 .u64 (.t 26))<|
 Zg 9 false (.bin 28 .or false (.t 19) (.t 27))<|
 Zg 9 false (.bin 29 .gtr false (.t 17) (.t 28))<|
 Zo (.pick 30 (.t 9) (.c (.bool true)) (.t 29))<|
 Zm 6 30 .nil) .ret⟩
theorem Qagh:Qe Tryz.prog Tryz.f260=some c260:=by kernel_rfl
def c261:SFn:=⟨54,[.t 6],Zr (Zo (.mv 6 (.c (.bool false))) .nil)<|Zr (Zo (.mv 7 (.c (.int .u32 0))) .nil)<|Zr (Zo (.mv 8 (.c (.int .i32 0))) .nil)<| .seq (Zr (Zm 11 0<|
 Zn 12 11<|
 Zc 13 0 .nil)<| .block 0<| .loop<|Zr (Zb 14 .lss 13 12 .nil)<| .seq (.cond (.t 14) .skip (.exit 0))<| .seq (.block 1<|Zr (Zm 15 13<|
 Zm 9 15 .nil)<| .seq (Zr (Zm 16 9<|
 Zm 17 1<|
 Zn 18 17<|
 Zb 19 .lss 16 18 .nil)<| .cond (.t 19) (.rg (Zm 20 7<|
 Zm 21 2<|
 Zm 22 1<|
 Zm 23 9<|
 Zi 24 1 22 23<|
 Zl 25 1 24<|
 Zo (.conv 26 .u32 (.t 25))<|
 Zb 27 .mul 21 26<|
 Zb 28 .add 20 27<|
 Zm 7 28 .nil)) .skip)<|Zr (Zm 29 0<|
 Zm 30 9<|
 Zi 31 1 29 30<|
 Zl 32 1 31<|
 Zo (.conv 33 .i32 (.t 32))<|
 Zm 34 7<|
 Zo (.conv 35 .u16 (.t 34))<|
 Zo (.conv 36 .i32 (.t 35))<|
 Zb 37 .sub 33 36<|
 Zm 38 8<|
 Zb 39 .sub 37 38<|
 Zm 10 39 .nil)<|Zr (Zm 40 7<|
 Zo (.bin 41 .shr false (.t 40) (.c (.int .u64 16)))<|
 Zm 7 41 .nil)<|Zr (Zo (.mv 8 (.c (.int .i32 0))) .nil)<| .seq (Zr (Zm 42 10<|
 Zo (.bin 43 .lss false (.t 42) (.c (.int .i32 0))) .nil)<| .cond (.t 43) (Zr (Zm 44 10<|
 Zo (.bin 45 .add false (.t 44) (.c (.int .i32 65536)))<|
 Zm 10 45 .nil)<| .rg (Zo (.mv 8 (.c (.int .i32 1))) .nil)) .skip)<| .rg (Zm 46 0<|
 Zm 47 9<|
 Zm 48 10<|
 Zo (.conv 49 .u16 (.t 48))<|
 Zi 50 1 46 47<|
 Zs 1 50 49 .nil))<| .rg (Zk 51 .add 13 1<|
 Zm 13 51 .nil))<|Zr (Zm 52 8<|
 Zo (.bin 53 .gtr false (.t 52) (.c (.int .i32 0)))<|
 Zm 6 53 .nil) .ret⟩
theorem Qagi:Qe Tryz.prog Tryz.f261=some c261:=by kernel_rfl
def c262:SFn:=⟨37,[],Zr (Zo (.mv 4 (.c (.int .u32 0))) .nil)<|Zr (Zm 6 0<|
 Zn 7 6<|
 Zc 8 0 .nil)<| .block 0<| .loop<|Zr (Zb 9 .lss 8 7 .nil)<| .seq (.cond (.t 9) .skip (.exit 0))<| .seq (.block 1<|Zr (Zm 10 8<|
 Zm 5 10 .nil)<|Zr (Zm 11 4<|
 Zm 12 0<|
 Zm 13 5<|
 Zi 14 1 12 13<|
 Zl 15 1 14<|
 Zo (.conv 16 .u32 (.t 15))<|
 Zb 17 .add 11 16<|
 Zm 4 17 .nil)<| .seq (Zr (Zm 18 5<|
 Zm 19 1<|
 Zn 20 19<|
 Zb 21 .lss 18 20 .nil)<| .cond (.t 21) (.rg (Zm 22 4<|
 Zm 23 1<|
 Zm 24 5<|
 Zi 25 1 23 24<|
 Zl 26 1 25<|
 Zo (.conv 27 .u32 (.t 26))<|
 Zb 28 .add 22 27<|
 Zm 4 28 .nil)) .skip)<|Zr (Zm 29 0<|
 Zm 30 5<|
 Zm 31 4<|
 Zo (.conv 32 .u16 (.t 31))<|
 Zi 33 1 29 30<|
 Zs 1 33 32 .nil)<| .rg (Zm 34 4<|
 Zo (.bin 35 .shr false (.t 34) (.c (.int .u64 16)))<|
 Zm 4 35 .nil))<| .rg (Zk 36 .add 8 1<|
 Zm 8 36 .nil)⟩
theorem Qagj:Qe Tryz.prog Tryz.f262=some c262:=by kernel_rfl
def c184:SFn:=⟨51,[.t 4],Zr (Zo (.mv 4 (.c .nilS)) .nil)<|Zr (Zm 12 0<|
 Zq 13 false 231 [.t 12]<|
 Zm 14 1<|
 Zq 15 false 231 [.t 14]<|
 Zm 0 13<|
 Zm 1 15 .nil)<| .seq (.block 0<| .loop<| .seq (Zr (Zm 16 1<|
 Zn 17 16<|
 Zk 18 .gtr 17 0 .nil)<| .cond (.t 18) .skip (.exit 0))<| .block 1<|Zr (Zm 20 0<|
 Zq 21 false 232 [.t 20]<|
 Zm 19 21<|
 Zo (.ext 22 (.t 19) 0)<|
 Zo (.ext 23 (.t 19) 1)<|
 Zm 5 22<|
 Zm 6 23 .nil)<|Zr (Zm 25 1<|
 Zq 26 false 232 [.t 25]<|
 Zm 24 26<|
 Zo (.ext 27 (.t 24) 0)<|
 Zo (.ext 28 (.t 24) 1)<|
 Zm 7 27<|
 Zm 8 28 .nil)<| .seq (Zr (Zm 29 6<|
 Zm 30 29<|
 Zg 30 true (.mv 31 (.t 8))<|
 Zo (.pick 32 (.t 30) (.t 31) (.c (.bool false))) .nil)<| .cond (.t 32) (.seq (.block 2<| .loop<| .seq (Zr (Zm 33 7<|
 Zo (.bin 34 .gtr false (.t 33) (.c (.int .u64 0))) .nil)<| .cond (.t 34) .skip (.exit 2))<| .block 3<| .rg (Zm 35 7<|
 Zm 36 5<|
 Zm 37 7<|
 Zb 38 .rem 36 37<|
 Zm 5 35<|
 Zm 7 38 .nil))<|Zr (Zm 39 5<|
 Zq 40 false 210 [.t 39]<|
 Zm 4 40 .nil) .ret) .skip)<|Zr (Zm 42 0<|
 Zm 43 1<|
 Zq 44 false 233 [.t 42,.t 43]<|
 Zm 41 44<|
 Zo (.ext 45 (.t 41) 0)<|
 Zo (.ext 46 (.t 41) 1)<|
 Zo (.ext 47 (.t 41) 2)<|
 Zm 9 45<|
 Zm 10 46<|
 Zm 11 47 .nil)<| .rg (Zm 48 1<|
 Zm 49 10<|
 Zm 0 48<|
 Zm 1 49 .nil))<|Zr (Zm 50 0<|
 Zm 4 50 .nil) .ret⟩
theorem Qagk:Qe Tryz.prog Tryz.f184=some c184:=by kernel_rfl
def Qse:SFn:=⟨78,[.t 4],Zr (Zo (.mv 4 (.c .nilS)) .nil)<|Zr (Zm 11 0<|
 Zq 12 false 240 [.t 11]<|
 Zm 0 12 .nil)<| .seq (Zr (Zm 13 1<|
 Zk 14 .lss 13 (-1048576)<|
 Zm 15 14<|
 Zg 15 false (.mv 16 (.t 1))<|
 Zg 15 false (.bin 17 .gtr false (.t 16) (.c (Zz 1048576)))<|
 Zo (.pick 18 (.t 15) (.c (.bool true)) (.t 17))<|
 Zm 19 18<|
 Zg 19 false (.mv 20 (.t 0))<|
 Zg 19 false (.len 21 (.t 20))<|
 Zg 19 false (.bin 22 .eql false (.t 21) (.c (Zz 0)))<|
 Zo (.pick 23 (.t 19) (.c (.bool true)) (.t 22)) .nil)<| .cond (.t 23) (Zr (Zo (.mv 4 (.c .nilS)) .nil) .ret) .skip)<| .seq (Zr (Zm 24 1<|
 Zk 25 .lss 24 0 .nil)<| .cond (.t 25) (Zr (Zm 26 0<|
 Zm 27 1<|
 Zo (.un 28 .neg (.t 27))<|
 Zq 29 false 259 [.t 26,.t 28]<|
 Zm 4 29 .nil) .ret) .skip)<|Zr (Zm 30 1<|
 Zk 31 .quo 30 16<|
 Zm 32 1<|
 Zk 33 .rem 32 16<|
 Zm 5 31<|
 Zm 6 33 .nil)<|Zr (Zm 34 0<|
 Zn 35 34<|
 Zm 36 5<|
 Zb 37 .add 35 36<|
 Zk 38 .add 37 1<|
 Zm 39 0<|
 Zn 40 39<|
 Zm 41 5<|
 Zb 42 .add 40 41<|
 Zk 43 .add 42 3<|
 Zo (.mk 44 1 2 191 (.int .u16 0) (.t 38) (.t 43))<|
 Zm 7 44 .nil)<| .seq (Zr (Zm 45 0<|
 Zn 46 45<|
 Zc 47 0 .nil)<| .block 0<| .loop<|Zr (Zb 48 .lss 47 46 .nil)<| .seq (.cond (.t 48) .skip (.exit 0))<| .seq (.block 1<|Zr (Zm 49 47<|
 Zi 50 1 45 47<|
 Zl 51 1 50<|
 Zm 8 49<|
 Zm 9 51 .nil)<|Zr (Zm 52 9<|
 Zo (.conv 53 .u32 (.t 52))<|
 Zm 54 6<|
 Zb 55 .shl 53 54<|
 Zm 10 55 .nil)<|Zr (Zm 56 7<|
 Zm 57 8<|
 Zm 58 5<|
 Zb 59 .add 57 58<|
 Zi 60 1 56 59<|
 Zl 61 1 60<|
 Zm 62 10<|
 Zo (.conv 63 .u16 (.t 62))<|
 Zb 64 .or 61 63<|
 Zi 65 1 56 59<|
 Zs 1 65 64 .nil)<| .rg (Zm 66 7<|
 Zm 67 8<|
 Zm 68 5<|
 Zb 69 .add 67 68<|
 Zk 70 .add 69 1<|
 Zm 71 10<|
 Zo (.bin 72 .shr false (.t 71) (.c (.int .u64 16)))<|
 Zo (.conv 73 .u16 (.t 72))<|
 Zi 74 1 66 70<|
 Zs 1 74 73 .nil))<| .rg (Zk 75 .add 47 1<|
 Zm 47 75 .nil))<|Zr (Zm 76 7<|
 Zq 77 false 240 [.t 76]<|
 Zm 4 77 .nil) .ret⟩
theorem Qvi:Qe Tryz.prog Tryz.f251=some Qse:=by kernel_rfl
def c259:SFn:=⟨63,[.t 4],Zr (Zo (.mv 4 (.c .nilS)) .nil)<|Zr (Zm 10 1<|
 Zk 11 .quo 10 16<|
 Zm 12 1<|
 Zk 13 .rem 12 16<|
 Zm 5 11<|
 Zm 6 13 .nil)<| .seq (Zr (Zm 14 5<|
 Zm 15 0<|
 Zn 16 15<|
 Zb 17 .geq 14 16 .nil)<| .cond (.t 17) (Zr (Zo (.mv 4 (.c .nilS)) .nil) .ret) .skip)<|Zr (Zm 18 0<|
 Zn 19 18<|
 Zm 20 5<|
 Zb 21 .sub 19 20<|
 Zo (.mk 22 1 2 191 (.int .u16 0) (.t 21) (.t 21))<|
 Zm 7 22 .nil)<| .seq (Zr (Zm 23 7<|
 Zn 24 23<|
 Zc 25 0 .nil)<| .block 0<| .loop<|Zr (Zb 26 .lss 25 24 .nil)<| .seq (.cond (.t 26) .skip (.exit 0))<| .seq (.block 1<|Zr (Zm 27 25<|
 Zm 8 27 .nil)<|Zr (Zm 28 0<|
 Zm 29 8<|
 Zm 30 5<|
 Zb 31 .add 29 30<|
 Zi 32 1 28 31<|
 Zl 33 1 32<|
 Zo (.conv 34 .u32 (.t 33))<|
 Zm 9 34 .nil)<| .seq (Zr (Zm 35 8<|
 Zm 36 5<|
 Zb 37 .add 35 36<|
 Zk 38 .add 37 1<|
 Zm 39 0<|
 Zn 40 39<|
 Zb 41 .lss 38 40 .nil)<| .cond (.t 41) (.rg (Zm 42 9<|
 Zm 43 0<|
 Zm 44 8<|
 Zm 45 5<|
 Zb 46 .add 44 45<|
 Zk 47 .add 46 1<|
 Zi 48 1 43 47<|
 Zl 49 1 48<|
 Zo (.conv 50 .u32 (.t 49))<|
 Zo (.bin 51 .shl false (.t 50) (.c (.int .u64 16)))<|
 Zb 52 .or 42 51<|
 Zm 9 52 .nil)) .skip)<| .rg (Zm 53 7<|
 Zm 54 8<|
 Zm 55 9<|
 Zm 56 6<|
 Zb 57 .shr 55 56<|
 Zo (.conv 58 .u16 (.t 57))<|
 Zi 59 1 53 54<|
 Zs 1 59 58 .nil))<| .rg (Zk 60 .add 25 1<|
 Zm 25 60 .nil))<|Zr (Zm 61 7<|
 Zq 62 false 240 [.t 61]<|
 Zm 4 62 .nil) .ret⟩
theorem Qagl:Qe Tryz.prog Tryz.f259=some c259:=by kernel_rfl
def c250:SFn:=⟨6,[.t 2],Zr (Zc 2 0 .nil)<|Zr (Zm 3 0<|
 Zq 4 false 254 [.t 3]<|
 Zo (.bin 5 .sub false (.c (Zz 16)) (.t 4))<|
 Zm 2 5 .nil) .ret⟩
theorem Qagm:Qe Tryz.prog Tryz.f250=some c250:=by kernel_rfl
end Go.Proofs.YtonfajmchebkeaaGreat
namespace Go.Proofs.YtonfajmchebkeaaGreat
open Go Go.FW
set_option maxRecDepth 100000
def c255:SFn:=⟨15,[.cell 4 2 true],Zr (Zo (.alloc 4 2 30 (.agg [.bool false,.nilS])) .nil)<|Zr (Zm 5 1<|
 Zq 6 false 231 [.t 5]<|
 Zm 1 6 .nil)<|Zr (Zm 7 0<|
 Zm 8 7<|
 Zg 8 true (.mv 9 (.t 1))<|
 Zg 8 true (.len 10 (.t 9))<|
 Zg 8 true (.bin 11 .gtr false (.t 10) (.c (Zz 0)))<|
 Zo (.pick 12 (.t 8) (.t 11) (.c (.bool false)))<|
 Zm 13 1<|
 Zo (.bld 14 [.bool false,.nilS] [(0,1,.t 12),(1,1,.t 13)])<|
 Zs 2 4 14 .nil) .ret⟩
theorem Qagn:Qe Tryz.prog Tryz.f255=some c255:=by kernel_rfl
def c209:SFn:=⟨13,[.cell 4 2 true],Zr (Zo (.alloc 4 2 30 (.agg [.bool false,.nilS])) .nil)<|Zr (Zm 5 0<|
 Zm 6 5<|
 Zg 6 true (.mv 7 (.t 1))<|
 Zg 6 true (.len 8 (.t 7))<|
 Zg 6 true (.bin 9 .gtr false (.t 8) (.c (Zz 0)))<|
 Zo (.pick 10 (.t 6) (.t 9) (.c (.bool false)))<|
 Zm 11 1<|
 Zo (.bld 12 [.bool false,.nilS] [(0,1,.t 10),(1,1,.t 11)])<|
 Zs 2 4 12 .nil) .ret⟩
theorem Qago:Qe Tryz.prog Tryz.f209=some c209:=by kernel_rfl
def c238:SFn:=⟨8,[.cell 2 2 true],Zr (Zo (.box 1 2 30 (.t 0))<|
 Zo (.alloc 2 2 30 (.agg [.bool false,.nilS])) .nil)<|Zr (Zf 3 0 1<|
 Zl 4 1 3<|
 Zf 5 1 1<|
 Zl 6 1 5<|
 Zq 7 false 255 [.t 4,.t 6]<|
 Zs 2 2 7 .nil) .ret⟩
theorem Qagp:Qe Tryz.prog Tryz.f238=some c238:=by kernel_rfl
def c154:SFn:=⟨16,[.cell 2 2 true],Zr (Zo (.alloc 2 2 30 (.agg [.bool false,.nilS])) .nil)<| .seq (Zr (Zm 3 0<|
 Zk 4 .lss 3 0 .nil)<| .cond (.t 4) (Zr (Zm 5 0<|
 Zk 6 .add 5 1<|
 Zo (.un 7 .neg (.t 6))<|
 Zo (.conv 8 .u64 (.t 7))<|
 Zo (.bin 9 .add false (.t 8) (.c (.int .u64 1)))<|
 Zq 10 false 210 [.t 9]<|
 Zq 11 false 209 [.c (.bool true),.t 10]<|
 Zs 2 2 11 .nil) .ret) .skip)<|Zr (Zm 12 0<|
 Zo (.conv 13 .u64 (.t 12))<|
 Zq 14 false 210 [.t 13]<|
 Zq 15 false 209 [.c (.bool false),.t 14]<|
 Zs 2 2 15 .nil) .ret⟩
theorem Qagq:Qe Tryz.prog Tryz.f154=some c154:=by kernel_rfl
def c236:SFn:=⟨11,[.t 2],Zr (Zo (.box 1 2 30 (.t 0))<|
 Zc 2 0 .nil)<| .seq (.block 0<|Zr (Zf 4 1 1<|
 Zl 5 1 4<|
 Zq 6 false 237 [.t 5]<|
 Zk 7 .eql 6 0<|
 Zm 3 7 .nil)<| .cond (.t 3) (Zr (Zc 2 0 .nil) .ret) (Zr (Zf 9 0 1<|
 Zl 10 1 9<|
 Zm 8 10 .nil)<| .cond (.t 8) (Zr (Zc 2 (-1) .nil) .ret) .skip))<|Zr (Zc 2 1 .nil) .ret⟩
theorem Qagr:Qe Tryz.prog Tryz.f236=some c236:=by kernel_rfl
def c241:SFn:=⟨35,[.t 4],Zr (Zo (.box 2 2 30 (.t 0))<|
 Zo (.box 3 2 30 (.t 1))<|
 Zc 4 0 .nil)<|Zr (Zh 8 2 2<|
 Zh 10 2 3<|
 Zq 9 true 236 [.t 8]<|
 Zq 11 true 236 [.t 10]<|
 Zm 5 9<|
 Zm 6 11 .nil)<|Zr (Zo (.mv 7 (.c (.fn 258 [] []))) .nil)<| .seq (.block 0<|Zr (Zm 13 5<|
 Zm 14 6<|
 Zb 15 .lss 13 14<|
 Zm 12 15 .nil)<| .cond (.t 12) (Zr (Zc 4 (-1) .nil) .ret) (Zr (Zm 17 5<|
 Zm 18 6<|
 Zb 19 .gtr 17 18<|
 Zm 16 19 .nil)<| .cond (.t 16) (Zr (Zc 4 1 .nil) .ret) (Zr (Zm 21 5<|
 Zk 22 .lss 21 0<|
 Zm 20 22 .nil)<| .cond (.t 20) (Zr (Zm 23 7<|
 Zf 24 1 3<|
 Zl 25 1 24<|
 Zf 26 1 2<|
 Zl 27 1 26<|
 Zo (.call (some 28) false (.t 23) [.t 25,.t 27])<|
 Zm 4 28 .nil) .ret) .skip)))<|Zr (Zm 29 7<|
 Zf 30 1 2<|
 Zl 31 1 30<|
 Zf 32 1 3<|
 Zl 33 1 32<|
 Zo (.call (some 34) false (.t 29) [.t 31,.t 33])<|
 Zm 4 34 .nil) .ret⟩
theorem Qags:Qe Tryz.prog Tryz.f241=some c241:=by kernel_rfl
def c258:SFn:=⟨8,[.t 4],Zr (Zc 4 0 .nil)<|Zr (Zm 5 0<|
 Zm 6 1<|
 Zq 7 false 248 [.t 5,.t 6]<|
 Zm 4 7 .nil) .ret⟩
theorem Qagt:Qe Tryz.prog Tryz.f258=some c258:=by kernel_rfl
def c239:SFn:=⟨40,[.cell 4 2 true],Zr (Zo (.box 2 2 30 (.t 0))<|
 Zo (.box 3 2 30 (.t 1))<|
 Zo (.alloc 4 2 30 (.agg [.bool false,.nilS])) .nil)<| .seq (Zr (Zf 7 0 2<|
 Zl 8 1 7<|
 Zf 9 0 3<|
 Zl 10 1 9<|
 Zo (.bin 11 .eql true (.t 8) (.t 10)) .nil)<| .cond (.t 11) (Zr (Zf 12 0 2<|
 Zl 13 1 12<|
 Zf 14 1 2<|
 Zl 15 1 14<|
 Zf 16 1 3<|
 Zl 17 1 16<|
 Zq 18 true 256 [.t 15,.t 17]<|
 Zq 19 true 209 [.t 13,.t 18]<|
 Zs 2 4 19 .nil) .ret) .skip)<| .seq (Zr (Zf 20 1 2<|
 Zl 21 1 20<|
 Zf 22 1 3<|
 Zl 23 1 22<|
 Zq 24 false 248 [.t 21,.t 23]<|
 Zk 25 .lss 24 0 .nil)<| .cond (.t 25) (.rg (Zh 26 2 3<|
 Zh 27 2 2<|
 Zs 2 2 26<|
 Zs 2 3 27 .nil)) .skip)<|Zr (Zf 29 1 2<|
 Zl 30 1 29<|
 Zf 31 1 3<|
 Zl 32 1 31<|
 Zq 33 false 257 [.t 30,.t 32]<|
 Zm 28 33<|
 Zo (.ext 34 (.t 28) 0)<|
 Zo (.ext 35 (.t 28) 1)<|
 Zm 5 34<|
 Zm 6 35 .nil)<|Zr (Zf 36 0 2<|
 Zl 37 1 36<|
 Zm 38 5<|
 Zq 39 false 209 [.t 37,.t 38]<|
 Zs 2 4 39 .nil) .ret⟩
theorem Qagu:Qe Tryz.prog Tryz.f239=some c239:=by kernel_rfl
def c206:SFn:=⟨16,[.cell 4 2 true],Zr (Zo (.box 2 2 30 (.t 0))<|
 Zo (.box 3 2 30 (.t 1))<|
 Zo (.alloc 4 2 30 (.agg [.bool false,.nilS])) .nil)<|Zr (Zf 5 0 2<|
 Zl 6 1 5<|
 Zf 7 0 3<|
 Zl 8 1 7<|
 Zo (.bin 9 .neq true (.t 6) (.t 8))<|
 Zf 10 1 2<|
 Zl 11 1 10<|
 Zf 12 1 3<|
 Zl 13 1 12<|
 Zq 14 true 208 [.t 11,.t 13]<|
 Zq 15 true 209 [.t 9,.t 14]<|
 Zs 2 4 15 .nil) .ret⟩
theorem Qagv:Qe Tryz.prog Tryz.f206=some c206:=by kernel_rfl
def c183:SFn:=⟨17,[.t 2],Zr (Zo (.mv 2 (.c (.bool false))) .nil)<|Zr (Zm 4 0<|
 Zn 5 4<|
 Zo (.bld 6 [Zz 0,.int .u16 0] [(0,1,.t 5)])<|
 Zo (.alloc 3 2 237 (.agg [Zz 0,.int .u16 0]))<|
 Zs 2 3 6 .nil)<| .seq (Zr (Zm 7 0<|
 Zn 8 7<|
 Zk 9 .gtr 8 0 .nil)<| .cond (.t 9) (.rg (Zm 10 0<|
 Zo (.idx 11 1 (.t 10) (.c (Zz 0)))<|
 Zl 12 1 11<|
 Zf 13 1 3<|
 Zs 1 13 12 .nil)) .skip)<|Zr (Zh 14 2 3<|
 Zo (.bld 15 [Zz 0,.int .u16 0] [(0,1,.c (Zz 1)),(1,1,.c (.int .u16 1))])<|
 Zo (.eqs 16 false (.t 14) (.t 15))<|
 Zm 2 16 .nil) .ret⟩
theorem Qagw:Qe Tryz.prog Tryz.f183=some c183:=by kernel_rfl
def c155:SFn:=⟨2,[.t 0],Zr (Zo (.mv 0 (.c .nilS)) .nil)<|Zr (Zo (.bs 1 1 191 [.c (.int .u16 1)])<|
 Zm 0 1 .nil) .ret⟩
theorem Qagx:Qe Tryz.prog Tryz.f155=some c155:=by kernel_rfl
def c204:SFn:=⟨52,[.cell 4 3 true],Zr (Zo (.box 2 2 30 (.t 0))<|
 Zo (.alloc 4 3 32 (.agg [.bool false,.nilS,.nilS])) .nil)<|Zr (Zm 6 1<|
 Zq 7 false 231 [.t 6]<|
 Zm 1 7 .nil)<|Zr (Zh 8 2 2<|
 Zq 9 false 238 [.t 8]<|
 Zs 2 2 9 .nil)<| .seq (Zr (Zm 10 1<|
 Zn 11 10<|
 Zk 12 .eql 11 0<|
 Zm 13 12<|
 Zg 13 false (.fld 14 1 (.t 2))<|
 Zg 13 false (.ld 15 1 false (.t 14))<|
 Zg 13 false (.len 16 (.t 15))<|
 Zg 13 false (.bin 17 .eql false (.t 16) (.c (Zz 0)))<|
 Zo (.pick 18 (.t 13) (.c (.bool true)) (.t 17)) .nil)<| .cond (.t 18) (Zr (Zq 19 false 155 []<|
 Zo (.bld 20 [.bool false,.nilS,.nilS] [(2,1,.t 19)])<|
 Zs 3 4 20 .nil) .ret) .skip)<| .seq (Zr (Zm 21 1<|
 Zq 22 false 183 [.t 21] .nil)<| .cond (.t 22) (Zr (Zh 23 2 2<|
 Zm 24 1<|
 Zo (.bld 25 [.bool false,.nilS,.nilS] [(0,2,.t 23),(2,1,.t 24)])<|
 Zs 3 4 25 .nil) .ret) .skip)<|Zr (Zf 26 1 2<|
 Zl 27 1 26<|
 Zm 28 1<|
 Zq 29 false 184 [.t 27,.t 28]<|
 Zm 5 29 .nil)<| .seq (Zr (Zm 30 5<|
 Zq 31 false 183 [.t 30]<|
 Zu 32 31 .nil)<| .cond (.t 32) (Zr (Zf 34 1 2<|
 Zl 35 1 34<|
 Zm 36 5<|
 Zq 37 false 233 [.t 35,.t 36]<|
 Zm 33 37<|
 Zo (.ext 38 (.t 33) 0)<|
 Zo (.ext 39 (.t 33) 1)<|
 Zo (.ext 40 (.t 33) 2)<|
 Zf 41 1 2<|
 Zs 1 41 38 .nil)<| .rg (Zm 43 1<|
 Zm 44 5<|
 Zq 45 false 233 [.t 43,.t 44]<|
 Zm 42 45<|
 Zo (.ext 46 (.t 42) 0)<|
 Zo (.ext 47 (.t 42) 1)<|
 Zo (.ext 48 (.t 42) 2)<|
 Zm 1 46 .nil)) .skip)<|Zr (Zh 49 2 2<|
 Zm 50 1<|
 Zo (.bld 51 [.bool false,.nilS,.nilS] [(0,2,.t 49),(2,1,.t 50)])<|
 Zs 3 4 51 .nil) .ret⟩
theorem Qagy:Qe Tryz.prog Tryz.f204=some c204:=by kernel_rfl
def c203:SFn:=⟨14,[.cell 2 2 true,.t 3],Zr (Zo (.box 1 3 32 (.t 0))<|
 Zo (.alloc 2 2 30 (.agg [.bool false,.nilS]))<|
 Zo (.mv 3 (.c .nilS)) .nil)<| .seq (Zr (Zf 4 2 1<|
 Zl 5 1 4<|
 Zq 6 false 237 [.t 5]<|
 Zk 7 .eql 6 0 .nil)<| .cond (.t 7) (Zr (Zo (.bld 8 [.bool false,.nilS] [])<|
 Zq 9 false 155 []<|
 Zs 2 2 8<|
 Zm 3 9 .nil) .ret) .skip)<|Zr (Zf 10 0 1<|
 Zh 11 2 10<|
 Zf 12 2 1<|
 .br (Zl 13 1 12<|
 Zs 2 2 11<|
 Zm 3 13 .nil) (Zs 2 2 11<|
 Zl 13 1 12<|
 Zm 3 13 .nil)) .ret⟩
theorem Qagz:Qe Tryz.prog Tryz.f203=some c203:=by kernel_rfl
def c207:SFn:=⟨5,[.cell 2 2 true],Zr (Zo (.alloc 2 2 30 (.agg [.bool false,.nilS])) .nil)<|Zr (Zm 3 0<|
 Zo (.bld 4 [.bool false,.nilS] [(1,1,.t 3)])<|
 Zs 2 2 4 .nil) .ret⟩
theorem Qag0:Qe Tryz.prog Tryz.f207=some c207:=by kernel_rfl
def c78:SFn:=⟨7,[.cell 2 3 true],Zr (Zo (.alloc 2 3 32 (.agg [.bool false,.nilS,.nilS])) .nil)<|Zr (Zm 3 0<|
 Zq 4 false 154 [.t 3]<|
 Zq 5 false 155 []<|
 Zo (.bld 6 [.bool false,.nilS,.nilS] [(0,2,.t 4),(2,1,.t 5)])<|
 Zs 3 2 6 .nil) .ret⟩
theorem Qale:Qe Tryz.prog Tryz.f78=some c78:=by kernel_rfl
def c202:SFn:=⟨12,[.t 2],Zr (Zo (.box 1 3 32 (.t 0))<|
 Zc 2 0 .nil)<|Zr (Zh 6 3 1<|
 Zq 7 false 203 [.t 6]<|
 Zm 5 7<|
 Zo (.ext 8 (.t 5) 0)<|
 Zo (.ext 9 (.t 5) 1)<|
 Zo (.alloc 3 2 30 (.agg [.bool false,.nilS]))<|
 Zs 2 3 8<|
 Zm 4 9 .nil)<|Zr (Zh 10 2 3<|
 Zq 11 false 236 [.t 10]<|
 Zm 2 11 .nil) .ret⟩
theorem Qag1:Qe Tryz.prog Tryz.f202=some c202:=by kernel_rfl
def c212:SFn:=⟨40,[.t 4],Zr (Zo (.box 2 3 32 (.t 0))<|
 Zo (.box 3 3 32 (.t 1))<|
 Zc 4 0 .nil)<|Zr (Zh 11 3 2<|
 Zh 13 3 3<|
 Zq 12 true 202 [.t 11]<|
 Zq 14 true 202 [.t 13]<|
 Zm 5 12<|
 Zm 6 14 .nil)<| .seq (Zr (Zm 15 5<|
 Zm 16 6<|
 Zb 17 .neq 15 16 .nil)<| .cond (.t 17) (.seq (Zr (Zm 18 5<|
 Zm 19 6<|
 Zb 20 .lss 18 19 .nil)<| .cond (.t 20) (Zr (Zc 4 (-1) .nil) .ret) .skip)<|Zr (Zc 4 1 .nil) .ret) .skip)<|Zr (Zh 22 3 2<|
 Zq 23 false 203 [.t 22]<|
 Zm 21 23<|
 Zo (.ext 24 (.t 21) 0)<|
 Zo (.ext 25 (.t 21) 1)<|
 Zo (.alloc 7 2 30 (.agg [.bool false,.nilS]))<|
 Zs 2 7 24<|
 Zm 8 25 .nil)<|Zr (Zh 27 3 3<|
 Zq 28 false 203 [.t 27]<|
 Zm 26 28<|
 Zo (.ext 29 (.t 26) 0)<|
 Zo (.ext 30 (.t 26) 1)<|
 Zo (.alloc 9 2 30 (.agg [.bool false,.nilS]))<|
 Zs 2 9 29<|
 Zm 10 30 .nil)<|Zr (Zh 31 2 7<|
 Zm 32 10<|
 Zh 35 2 9<|
 Zm 36 8<|
 Zq 33 true 207 [.t 32]<|
 Zq 34 true 206 [.t 31,.t 33]<|
 Zq 37 true 207 [.t 36]<|
 Zq 38 true 206 [.t 35,.t 37]<|
 Zq 39 true 241 [.t 34,.t 38]<|
 Zm 4 39 .nil) .ret⟩
theorem Qag2:Qe Tryz.prog Tryz.f212=some c212:=by kernel_rfl
def c205:SFn:=⟨17,[.cell 2 2 true],Zr (Zo (.alloc 2 2 30 (.agg [.bool false,.nilS])) .nil)<|Zr (Zo (.alloc 3 2 30 (.agg [.bool false,.nilS])) .nil)<| .seq (Zr (Zm 6 0<|
 Zn 7 6<|
 Zc 8 0 .nil)<| .block 0<| .loop<|Zr (Zb 9 .lss 8 7 .nil)<| .seq (.cond (.t 9) .skip (.exit 0))<| .seq (.block 1<|Zr (Zi 10 2 6 8<|
 Zh 11 2 10<|
 Zo (.alloc 5 2 30 (.agg [.bool false,.nilS]))<|
 Zs 2 5 11 .nil)<| .rg (Zh 12 2 3<|
 Zh 13 2 5<|
 Zq 14 false 239 [.t 12,.t 13]<|
 Zs 2 3 14 .nil))<| .rg (Zk 15 .add 8 1<|
 Zm 8 15 .nil))<|Zr (Zh 16 2 3<|
 Zs 2 2 16 .nil) .ret⟩
theorem Qag3:Qe Tryz.prog Tryz.f205=some c205:=by kernel_rfl
def c153:SFn:=⟨45,[.cell 4 3 true],Zr (Zo (.box 2 3 32 (.t 0))<|
 Zo (.box 3 3 32 (.t 1))<|
 Zo (.alloc 4 3 32 (.agg [.bool false,.nilS,.nilS])) .nil)<|Zr (Zh 10 3 2<|
 Zq 11 false 203 [.t 10]<|
 Zm 9 11<|
 Zo (.ext 12 (.t 9) 0)<|
 Zo (.ext 13 (.t 9) 1)<|
 Zo (.alloc 5 2 30 (.agg [.bool false,.nilS]))<|
 Zs 2 5 12<|
 Zm 6 13 .nil)<|Zr (Zh 15 3 3<|
 Zq 16 false 203 [.t 15]<|
 Zm 14 16<|
 Zo (.ext 17 (.t 14) 0)<|
 Zo (.ext 18 (.t 14) 1)<|
 Zo (.alloc 7 2 30 (.agg [.bool false,.nilS]))<|
 Zs 2 7 17<|
 Zm 8 18 .nil)<| .seq (Zr (Zm 19 6<|
 Zq 20 false 183 [.t 19]<|
 Zm 21 20<|
 Zg 21 true (.mv 22 (.t 8))<|
 Zg 21 true (.call (some 23) false (.c (.fn 183 [] [])) [.t 22])<|
 Zo (.pick 24 (.t 21) (.t 23) (.c (.bool false))) .nil)<| .cond (.t 24) (Zr (Zh 25 2 5<|
 Zh 26 2 7<|
 Zo (.bs 27 2 30 [.t 25,.t 26])<|
 Zq 28 false 205 [.t 27]<|
 Zm 29 6<|
 Zq 30 false 204 [.t 28,.t 29]<|
 Zs 3 4 30 .nil) .ret) .skip)<|Zr (Zh 31 2 5<|
 Zm 32 8<|
 Zh 35 2 7<|
 Zm 36 6<|
 Zm 41 6<|
 Zm 42 8<|
 Zq 33 true 207 [.t 32]<|
 Zq 34 true 206 [.t 31,.t 33]<|
 Zq 37 true 207 [.t 36]<|
 Zq 38 true 206 [.t 35,.t 37]<|
 Zo (.bs 39 2 30 [.t 34,.t 38])<|
 Zq 40 true 205 [.t 39]<|
 Zq 43 true 208 [.t 41,.t 42]<|
 Zq 44 true 204 [.t 40,.t 43]<|
 Zs 3 4 44 .nil) .ret⟩
theorem Qag4:Qe Tryz.prog Tryz.f153=some c153:=by kernel_rfl
def c223:SFn:=⟨26,[.cell 4 3 true],Zr (Zo (.box 2 3 32 (.t 0))<|
 Zo (.box 3 3 32 (.t 1))<|
 Zo (.alloc 4 3 32 (.agg [.bool false,.nilS,.nilS])) .nil)<|Zr (Zh 10 3 2<|
 Zq 11 false 203 [.t 10]<|
 Zm 9 11<|
 Zo (.ext 12 (.t 9) 0)<|
 Zo (.ext 13 (.t 9) 1)<|
 Zo (.alloc 5 2 30 (.agg [.bool false,.nilS]))<|
 Zs 2 5 12<|
 Zm 6 13 .nil)<|Zr (Zh 15 3 3<|
 Zq 16 false 203 [.t 15]<|
 Zm 14 16<|
 Zo (.ext 17 (.t 14) 0)<|
 Zo (.ext 18 (.t 14) 1)<|
 Zo (.alloc 7 2 30 (.agg [.bool false,.nilS]))<|
 Zs 2 7 17<|
 Zm 8 18 .nil)<|Zr (Zh 19 2 5<|
 Zh 20 2 7<|
 Zq 21 false 206 [.t 19,.t 20]<|
 Zm 22 6<|
 Zm 23 8<|
 Zq 24 false 208 [.t 22,.t 23]<|
 Zq 25 false 204 [.t 21,.t 24]<|
 Zs 3 4 25 .nil) .ret⟩
theorem Qag5:Qe Tryz.prog Tryz.f223=some c223:=by kernel_rfl
def c217:SFn:=⟨21,[.cell 4 3 true,.t 5],Zr (Zo (.box 2 2 30 (.t 0))<|
 Zo (.box 3 2 30 (.t 1))<|
 Zo (.alloc 4 3 32 (.agg [.bool false,.nilS,.nilS]))<|
 Zc 5 0 .nil)<| .seq (Zr (Zh 6 2 3<|
 Zq 7 false 236 [.t 6]<|
 Zk 8 .eql 7 0 .nil)<| .cond (.t 8) (Zr (Zo (.bld 9 [.bool false,.nilS,.nilS] [])<|
 Zs 3 4 9<|
 Zc 5 3 .nil) .ret) .skip)<|Zr (Zf 10 0 2<|
 Zl 11 1 10<|
 Zf 12 0 3<|
 Zl 13 1 12<|
 Zo (.bin 14 .neq true (.t 11) (.t 13))<|
 Zf 15 1 2<|
 Zl 16 1 15<|
 Zo (.bld 17 [.bool false,.nilS] [(0,1,.t 14),(1,1,.t 16)])<|
 Zf 18 1 3<|
 Zl 19 1 18<|
 Zq 20 false 204 [.t 17,.t 19]<|
 Zs 3 4 20<|
 Zc 5 0 .nil) .ret⟩
theorem Qag6:Qe Tryz.prog Tryz.f217=some c217:=by kernel_rfl
def c165:SFn:=⟨31,[.cell 4 3 true,.t 5],Zr (Zo (.box 2 3 32 (.t 0))<|
 Zo (.box 3 3 32 (.t 1))<|
 Zo (.alloc 4 3 32 (.agg [.bool false,.nilS,.nilS]))<|
 Zc 5 0 .nil)<|Zr (Zh 11 3 2<|
 Zq 12 false 203 [.t 11]<|
 Zm 10 12<|
 Zo (.ext 13 (.t 10) 0)<|
 Zo (.ext 14 (.t 10) 1)<|
 Zo (.alloc 6 2 30 (.agg [.bool false,.nilS]))<|
 Zs 2 6 13<|
 Zm 7 14 .nil)<|Zr (Zh 16 3 3<|
 Zq 17 false 203 [.t 16]<|
 Zm 15 17<|
 Zo (.ext 18 (.t 15) 0)<|
 Zo (.ext 19 (.t 15) 1)<|
 Zo (.alloc 8 2 30 (.agg [.bool false,.nilS]))<|
 Zs 2 8 18<|
 Zm 9 19 .nil)<|Zr (Zh 20 2 6<|
 Zm 21 9<|
 Zh 24 2 8<|
 Zm 25 7<|
 Zq 22 true 207 [.t 21]<|
 Zq 23 true 206 [.t 20,.t 22]<|
 Zq 26 true 207 [.t 25]<|
 Zq 27 true 206 [.t 24,.t 26]<|
 Zq 28 true 217 [.t 23,.t 27]<|
 Zo (.ext 29 (.t 28) 0)<|
 Zo (.ext 30 (.t 28) 1)<|
 Zs 3 4 29<|
 Zm 5 30 .nil) .ret⟩
theorem Qag7:Qe Tryz.prog Tryz.f165=some c165:=by kernel_rfl
end Go.Proofs.YtonfajmchebkeaaGreat
namespace Go.Proofs.YtonfajmchebkeaaGreat
open Go Go.FW
set_option maxRecDepth 100000
def c252:SFn:=⟨108,[.t 4],Zr (Zo (.box 2 1 28 (.t 0))<|
 Zo (.box 3 1 28 (.t 1))<|
 Zo (.mv 4 (.c .nilS)) .nil)<|Zr (Zl 12 1 3<|
 Zn 13 12<|
 Zo (.alloc 5 1 3 (Zz 0))<|
 Zs 1 5 13 .nil)<|Zr (Zl 14 1 2<|
 Zn 15 14<|
 Zl 16 1 5<|
 Zb 17 .sub 15 16<|
 Zo (.mk 18 1 2 191 (.int .u16 0) (.t 17) (.t 17))<|
 Zm 6 18 .nil)<| .seq (Zr (Zl 19 1 2<|
 Zn 20 19<|
 Zl 21 1 5<|
 Zb 22 .sub 20 21<|
 Zk 23 .sub 22 1<|
 Zo (.alloc 7 1 3 (Zz 0))<|
 Zs 1 7 23 .nil)<| .block 0<| .loop<| .seq (Zr (Zl 24 1 7<|
 Zk 25 .geq 24 0 .nil)<| .cond (.t 25) .skip (.exit 0))<| .seq (.block 1<|Zr (Zl 28 1 2<|
 Zl 29 1 7<|
 Zl 30 1 5<|
 Zb 31 .add 29 30<|
 Zi 32 1 28 31<|
 Zl 33 1 32<|
 Zo (.conv 34 .u64 (.t 33))<|
 Zo (.bin 35 .shl false (.t 34) (.c (.int .u64 16)))<|
 Zl 36 1 2<|
 Zl 37 1 7<|
 Zl 38 1 5<|
 Zb 39 .add 37 38<|
 Zk 40 .sub 39 1<|
 Zi 41 1 36 40<|
 Zl 42 1 41<|
 Zo (.conv 43 .u64 (.t 42))<|
 Zb 44 .or 35 43<|
 Zm 8 44 .nil)<|Zr (Zm 45 8<|
 Zl 46 1 3<|
 Zl 47 1 5<|
 Zk 48 .sub 47 1<|
 Zi 49 1 46 48<|
 Zl 50 1 49<|
 Zo (.conv 51 .u64 (.t 50))<|
 Zb 52 .quo 45 51<|
 Zm 53 8<|
 .br (Zl 54 1 3<|
 .br (Zl 55 1 5<|
 Zk 56 .sub 55 1<|
 Zi 57 1 54 56<|
 .br (Zl 58 1 57<|
 Zo (.conv 59 .u64 (.t 58))<|
 Zb 60 .rem 53 59<|
 .br (Zo (.alloc 9 1 138 (.int .u64 0))<|
 Zo (.alloc 10 1 138 (.int .u64 0))<|
 Zs 1 9 52<|
 Zs 1 10 60 .nil) (Zo (.alloc 10 1 138 (.int .u64 0))<|
 Zo (.alloc 9 1 138 (.int .u64 0))<|
 Zs 1 9 52<|
 Zs 1 10 60 .nil)) (.br (Zo (.alloc 9 1 138 (.int .u64 0))<|
 .br (Zl 58 1 57<|
 Zo (.conv 59 .u64 (.t 58))<|
 Zb 60 .rem 53 59<|
 Zo (.alloc 10 1 138 (.int .u64 0))<|
 Zs 1 9 52<|
 Zs 1 10 60 .nil) (Zo (.alloc 10 1 138 (.int .u64 0))<|
 .br (Zl 58 1 57<|
 Zo (.conv 59 .u64 (.t 58))<|
 Zb 60 .rem 53 59<|
 Zs 1 9 52<|
 Zs 1 10 60 .nil) (Zs 1 9 52<|
 Zl 58 1 57<|
 Zo (.conv 59 .u64 (.t 58))<|
 Zb 60 .rem 53 59<|
 Zs 1 10 60 .nil))) (Zo (.alloc 10 1 138 (.int .u64 0))<|
 .br (Zl 58 1 57<|
 Zo (.conv 59 .u64 (.t 58))<|
 Zb 60 .rem 53 59<|
 Zo (.alloc 9 1 138 (.int .u64 0))<|
 Zs 1 9 52<|
 Zs 1 10 60 .nil) (Zo (.alloc 9 1 138 (.int .u64 0))<|
 .br (Zl 58 1 57<|
 Zo (.conv 59 .u64 (.t 58))<|
 Zb 60 .rem 53 59<|
 Zs 1 9 52<|
 Zs 1 10 60 .nil) (Zs 1 9 52<|
 Zl 58 1 57<|
 Zo (.conv 59 .u64 (.t 58))<|
 Zb 60 .rem 53 59<|
 Zs 1 10 60 .nil))))) (.br (Zo (.alloc 9 1 138 (.int .u64 0))<|
 .br (Zl 55 1 5<|
 Zk 56 .sub 55 1<|
 Zi 57 1 54 56<|
 .br (Zl 58 1 57<|
 Zo (.conv 59 .u64 (.t 58))<|
 Zb 60 .rem 53 59<|
 Zo (.alloc 10 1 138 (.int .u64 0))<|
 Zs 1 9 52<|
 Zs 1 10 60 .nil) (Zo (.alloc 10 1 138 (.int .u64 0))<|
 .br (Zl 58 1 57<|
 Zo (.conv 59 .u64 (.t 58))<|
 Zb 60 .rem 53 59<|
 Zs 1 9 52<|
 Zs 1 10 60 .nil) (Zs 1 9 52<|
 Zl 58 1 57<|
 Zo (.conv 59 .u64 (.t 58))<|
 Zb 60 .rem 53 59<|
 Zs 1 10 60 .nil))) (Zo (.alloc 10 1 138 (.int .u64 0))<|
 .br (Zl 55 1 5<|
 Zk 56 .sub 55 1<|
 Zi 57 1 54 56<|
 .br (Zl 58 1 57<|
 Zo (.conv 59 .u64 (.t 58))<|
 Zb 60 .rem 53 59<|
 Zs 1 9 52<|
 Zs 1 10 60 .nil) (Zs 1 9 52<|
 Zl 58 1 57<|
 Zo (.conv 59 .u64 (.t 58))<|
 Zb 60 .rem 53 59<|
 Zs 1 10 60 .nil)) (Zs 1 9 52<|
 Zl 55 1 5<|
 Zk 56 .sub 55 1<|
 Zi 57 1 54 56<|
 Zl 58 1 57<|
 Zo (.conv 59 .u64 (.t 58))<|
 Zb 60 .rem 53 59<|
 Zs 1 10 60 .nil))) (Zo (.alloc 10 1 138 (.int .u64 0))<|
 .br (Zl 55 1 5<|
 Zk 56 .sub 55 1<|
 Zi 57 1 54 56<|
 .br (Zl 58 1 57<|
 Zo (.conv 59 .u64 (.t 58))<|
 Zb 60 .rem 53 59<|
 Zo (.alloc 9 1 138 (.int .u64 0))<|
 Zs 1 9 52<|
 Zs 1 10 60 .nil) (Zo (.alloc 9 1 138 (.int .u64 0))<|
 .br (Zl 58 1 57<|
 Zo (.conv 59 .u64 (.t 58))<|
 Zb 60 .rem 53 59<|
 Zs 1 9 52<|
 Zs 1 10 60 .nil) (Zs 1 9 52<|
 Zl 58 1 57<|
 Zo (.conv 59 .u64 (.t 58))<|
 Zb 60 .rem 53 59<|
 Zs 1 10 60 .nil))) (Zo (.alloc 9 1 138 (.int .u64 0))<|
 .br (Zl 55 1 5<|
 Zk 56 .sub 55 1<|
 Zi 57 1 54 56<|
 .br (Zl 58 1 57<|
 Zo (.conv 59 .u64 (.t 58))<|
 Zb 60 .rem 53 59<|
 Zs 1 9 52<|
 Zs 1 10 60 .nil) (Zs 1 9 52<|
 Zl 58 1 57<|
 Zo (.conv 59 .u64 (.t 58))<|
 Zb 60 .rem 53 59<|
 Zs 1 10 60 .nil)) (Zs 1 9 52<|
 Zl 55 1 5<|
 Zk 56 .sub 55 1<|
 Zi 57 1 54 56<|
 Zl 58 1 57<|
 Zo (.conv 59 .u64 (.t 58))<|
 Zb 60 .rem 53 59<|
 Zs 1 10 60 .nil))))) (.br (Zl 55 1 5<|
 Zk 56 .sub 55 1<|
 .br (Zl 54 1 3<|
 Zi 57 1 54 56<|
 .br (Zl 58 1 57<|
 Zo (.conv 59 .u64 (.t 58))<|
 Zb 60 .rem 53 59<|
 .br (Zo (.alloc 9 1 138 (.int .u64 0))<|
 Zo (.alloc 10 1 138 (.int .u64 0))<|
 Zs 1 9 52<|
 Zs 1 10 60 .nil) (Zo (.alloc 10 1 138 (.int .u64 0))<|
 Zo (.alloc 9 1 138 (.int .u64 0))<|
 Zs 1 9 52<|
 Zs 1 10 60 .nil)) (.br (Zo (.alloc 9 1 138 (.int .u64 0))<|
 .br (Zl 58 1 57<|
 Zo (.conv 59 .u64 (.t 58))<|
 Zb 60 .rem 53 59<|
 Zo (.alloc 10 1 138 (.int .u64 0))<|
 Zs 1 9 52<|
 Zs 1 10 60 .nil) (Zo (.alloc 10 1 138 (.int .u64 0))<|
 .br (Zl 58 1 57<|
 Zo (.conv 59 .u64 (.t 58))<|
 Zb 60 .rem 53 59<|
 Zs 1 9 52<|
 Zs 1 10 60 .nil) (Zs 1 9 52<|
 Zl 58 1 57<|
 Zo (.conv 59 .u64 (.t 58))<|
 Zb 60 .rem 53 59<|
 Zs 1 10 60 .nil))) (Zo (.alloc 10 1 138 (.int .u64 0))<|
 .br (Zl 58 1 57<|
 Zo (.conv 59 .u64 (.t 58))<|
 Zb 60 .rem 53 59<|
 Zo (.alloc 9 1 138 (.int .u64 0))<|
 Zs 1 9 52<|
 Zs 1 10 60 .nil) (Zo (.alloc 9 1 138 (.int .u64 0))<|
 .br (Zl 58 1 57<|
 Zo (.conv 59 .u64 (.t 58))<|
 Zb 60 .rem 53 59<|
 Zs 1 9 52<|
 Zs 1 10 60 .nil) (Zs 1 9 52<|
 Zl 58 1 57<|
 Zo (.conv 59 .u64 (.t 58))<|
 Zb 60 .rem 53 59<|
 Zs 1 10 60 .nil))))) (.br (Zo (.alloc 9 1 138 (.int .u64 0))<|
 .br (Zl 54 1 3<|
 Zi 57 1 54 56<|
 .br (Zl 58 1 57<|
 Zo (.conv 59 .u64 (.t 58))<|
 Zb 60 .rem 53 59<|
 Zo (.alloc 10 1 138 (.int .u64 0))<|
 Zs 1 9 52<|
 Zs 1 10 60 .nil) (Zo (.alloc 10 1 138 (.int .u64 0))<|
 .br (Zl 58 1 57<|
 Zo (.conv 59 .u64 (.t 58))<|
 Zb 60 .rem 53 59<|
 Zs 1 9 52<|
 Zs 1 10 60 .nil) (Zs 1 9 52<|
 Zl 58 1 57<|
 Zo (.conv 59 .u64 (.t 58))<|
 Zb 60 .rem 53 59<|
 Zs 1 10 60 .nil))) (Zo (.alloc 10 1 138 (.int .u64 0))<|
 .br (Zl 54 1 3<|
 Zi 57 1 54 56<|
 .br (Zl 58 1 57<|
 Zo (.conv 59 .u64 (.t 58))<|
 Zb 60 .rem 53 59<|
 Zs 1 9 52<|
 Zs 1 10 60 .nil) (Zs 1 9 52<|
 Zl 58 1 57<|
 Zo (.conv 59 .u64 (.t 58))<|
 Zb 60 .rem 53 59<|
 Zs 1 10 60 .nil)) (Zs 1 9 52<|
 Zl 54 1 3<|
 Zi 57 1 54 56<|
 Zl 58 1 57<|
 Zo (.conv 59 .u64 (.t 58))<|
 Zb 60 .rem 53 59<|
 Zs 1 10 60 .nil))) (Zo (.alloc 10 1 138 (.int .u64 0))<|
 .br (Zl 54 1 3<|
 Zi 57 1 54 56<|
 .br (Zl 58 1 57<|
 Zo (.conv 59 .u64 (.t 58))<|
 Zb 60 .rem 53 59<|
 Zo (.alloc 9 1 138 (.int .u64 0))<|
 Zs 1 9 52<|
 Zs 1 10 60 .nil) (Zo (.alloc 9 1 138 (.int .u64 0))<|
 .br (Zl 58 1 57<|
 Zo (.conv 59 .u64 (.t 58))<|
 Zb 60 .rem 53 59<|
 Zs 1 9 52<|
 Zs 1 10 60 .nil) (Zs 1 9 52<|
 Zl 58 1 57<|
 Zo (.conv 59 .u64 (.t 58))<|
 Zb 60 .rem 53 59<|
 Zs 1 10 60 .nil))) (Zo (.alloc 9 1 138 (.int .u64 0))<|
 .br (Zl 54 1 3<|
 Zi 57 1 54 56<|
 .br (Zl 58 1 57<|
 Zo (.conv 59 .u64 (.t 58))<|
 Zb 60 .rem 53 59<|
 Zs 1 9 52<|
 Zs 1 10 60 .nil) (Zs 1 9 52<|
 Zl 58 1 57<|
 Zo (.conv 59 .u64 (.t 58))<|
 Zb 60 .rem 53 59<|
 Zs 1 10 60 .nil)) (Zs 1 9 52<|
 Zl 54 1 3<|
 Zi 57 1 54 56<|
 Zl 58 1 57<|
 Zo (.conv 59 .u64 (.t 58))<|
 Zb 60 .rem 53 59<|
 Zs 1 10 60 .nil))))) (.br (Zo (.alloc 9 1 138 (.int .u64 0))<|
 .br (Zl 54 1 3<|
 .br (Zl 55 1 5<|
 Zk 56 .sub 55 1<|
 Zi 57 1 54 56<|
 .br (Zl 58 1 57<|
 Zo (.conv 59 .u64 (.t 58))<|
 Zb 60 .rem 53 59<|
 Zo (.alloc 10 1 138 (.int .u64 0))<|
 Zs 1 9 52<|
 Zs 1 10 60 .nil) (Zo (.alloc 10 1 138 (.int .u64 0))<|
 .br (Zl 58 1 57<|
 Zo (.conv 59 .u64 (.t 58))<|
 Zb 60 .rem 53 59<|
 Zs 1 9 52<|
 Zs 1 10 60 .nil) (Zs 1 9 52<|
 Zl 58 1 57<|
 Zo (.conv 59 .u64 (.t 58))<|
 Zb 60 .rem 53 59<|
 Zs 1 10 60 .nil))) (Zo (.alloc 10 1 138 (.int .u64 0))<|
 .br (Zl 55 1 5<|
 Zk 56 .sub 55 1<|
 Zi 57 1 54 56<|
 .br (Zl 58 1 57<|
 Zo (.conv 59 .u64 (.t 58))<|
 Zb 60 .rem 53 59<|
 Zs 1 9 52<|
 Zs 1 10 60 .nil) (Zs 1 9 52<|
 Zl 58 1 57<|
 Zo (.conv 59 .u64 (.t 58))<|
 Zb 60 .rem 53 59<|
 Zs 1 10 60 .nil)) (Zs 1 9 52<|
 Zl 55 1 5<|
 Zk 56 .sub 55 1<|
 Zi 57 1 54 56<|
 Zl 58 1 57<|
 Zo (.conv 59 .u64 (.t 58))<|
 Zb 60 .rem 53 59<|
 Zs 1 10 60 .nil))) (.br (Zl 55 1 5<|
 Zk 56 .sub 55 1<|
 .br (Zl 54 1 3<|
 Zi 57 1 54 56<|
 .br (Zl 58 1 57<|
 Zo (.conv 59 .u64 (.t 58))<|
 Zb 60 .rem 53 59<|
 Zo (.alloc 10 1 138 (.int .u64 0))<|
 Zs 1 9 52<|
 Zs 1 10 60 .nil) (Zo (.alloc 10 1 138 (.int .u64 0))<|
 .br (Zl 58 1 57<|
 Zo (.conv 59 .u64 (.t 58))<|
 Zb 60 .rem 53 59<|
 Zs 1 9 52<|
 Zs 1 10 60 .nil) (Zs 1 9 52<|
 Zl 58 1 57<|
 Zo (.conv 59 .u64 (.t 58))<|
 Zb 60 .rem 53 59<|
 Zs 1 10 60 .nil))) (Zo (.alloc 10 1 138 (.int .u64 0))<|
 .br (Zl 54 1 3<|
 Zi 57 1 54 56<|
 .br (Zl 58 1 57<|
 Zo (.conv 59 .u64 (.t 58))<|
 Zb 60 .rem 53 59<|
 Zs 1 9 52<|
 Zs 1 10 60 .nil) (Zs 1 9 52<|
 Zl 58 1 57<|
 Zo (.conv 59 .u64 (.t 58))<|
 Zb 60 .rem 53 59<|
 Zs 1 10 60 .nil)) (Zs 1 9 52<|
 Zl 54 1 3<|
 Zi 57 1 54 56<|
 Zl 58 1 57<|
 Zo (.conv 59 .u64 (.t 58))<|
 Zb 60 .rem 53 59<|
 Zs 1 10 60 .nil))) (Zo (.alloc 10 1 138 (.int .u64 0))<|
 .br (Zl 54 1 3<|
 .br (Zl 55 1 5<|
 Zk 56 .sub 55 1<|
 Zi 57 1 54 56<|
 .br (Zl 58 1 57<|
 Zo (.conv 59 .u64 (.t 58))<|
 Zb 60 .rem 53 59<|
 Zs 1 9 52<|
 Zs 1 10 60 .nil) (Zs 1 9 52<|
 Zl 58 1 57<|
 Zo (.conv 59 .u64 (.t 58))<|
 Zb 60 .rem 53 59<|
 Zs 1 10 60 .nil)) (Zs 1 9 52<|
 Zl 55 1 5<|
 Zk 56 .sub 55 1<|
 Zi 57 1 54 56<|
 Zl 58 1 57<|
 Zo (.conv 59 .u64 (.t 58))<|
 Zb 60 .rem 53 59<|
 Zs 1 10 60 .nil)) (.br (Zl 55 1 5<|
 Zk 56 .sub 55 1<|
 .br (Zl 54 1 3<|
 Zi 57 1 54 56<|
 .br (Zl 58 1 57<|
 Zo (.conv 59 .u64 (.t 58))<|
 Zb 60 .rem 53 59<|
 Zs 1 9 52<|
 Zs 1 10 60 .nil) (Zs 1 9 52<|
 Zl 58 1 57<|
 Zo (.conv 59 .u64 (.t 58))<|
 Zb 60 .rem 53 59<|
 Zs 1 10 60 .nil)) (Zs 1 9 52<|
 Zl 54 1 3<|
 Zi 57 1 54 56<|
 Zl 58 1 57<|
 Zo (.conv 59 .u64 (.t 58))<|
 Zb 60 .rem 53 59<|
 Zs 1 10 60 .nil)) (Zs 1 9 52<|
 .br (Zl 54 1 3<|
 Zl 55 1 5<|
 Zk 56 .sub 55 1<|
 Zi 57 1 54 56<|
 Zl 58 1 57<|
 Zo (.conv 59 .u64 (.t 58))<|
 Zb 60 .rem 53 59<|
 Zs 1 10 60 .nil) (Zl 55 1 5<|
 Zk 56 .sub 55 1<|
 Zl 54 1 3<|
 Zi 57 1 54 56<|
 Zl 58 1 57<|
 Zo (.conv 59 .u64 (.t 58))<|
 Zb 60 .rem 53 59<|
 Zs 1 10 60 .nil)))))) (Zo (.alloc 10 1 138 (.int .u64 0))<|
 .br (Zl 54 1 3<|
 .br (Zl 55 1 5<|
 Zk 56 .sub 55 1<|
 Zi 57 1 54 56<|
 .br (Zl 58 1 57<|
 Zo (.conv 59 .u64 (.t 58))<|
 Zb 60 .rem 53 59<|
 Zo (.alloc 9 1 138 (.int .u64 0))<|
 Zs 1 9 52<|
 Zs 1 10 60 .nil) (Zo (.alloc 9 1 138 (.int .u64 0))<|
 .br (Zl 58 1 57<|
 Zo (.conv 59 .u64 (.t 58))<|
 Zb 60 .rem 53 59<|
 Zs 1 9 52<|
 Zs 1 10 60 .nil) (Zs 1 9 52<|
 Zl 58 1 57<|
 Zo (.conv 59 .u64 (.t 58))<|
 Zb 60 .rem 53 59<|
 Zs 1 10 60 .nil))) (Zo (.alloc 9 1 138 (.int .u64 0))<|
 .br (Zl 55 1 5<|
 Zk 56 .sub 55 1<|
 Zi 57 1 54 56<|
 .br (Zl 58 1 57<|
 Zo (.conv 59 .u64 (.t 58))<|
 Zb 60 .rem 53 59<|
 Zs 1 9 52<|
 Zs 1 10 60 .nil) (Zs 1 9 52<|
 Zl 58 1 57<|
 Zo (.conv 59 .u64 (.t 58))<|
 Zb 60 .rem 53 59<|
 Zs 1 10 60 .nil)) (Zs 1 9 52<|
 Zl 55 1 5<|
 Zk 56 .sub 55 1<|
 Zi 57 1 54 56<|
 Zl 58 1 57<|
 Zo (.conv 59 .u64 (.t 58))<|
 Zb 60 .rem 53 59<|
 Zs 1 10 60 .nil))) (.br (Zl 55 1 5<|
 Zk 56 .sub 55 1<|
 .br (Zl 54 1 3<|
 Zi 57 1 54 56<|
 .br (Zl 58 1 57<|
 Zo (.conv 59 .u64 (.t 58))<|
 Zb 60 .rem 53 59<|
 Zo (.alloc 9 1 138 (.int .u64 0))<|
 Zs 1 9 52<|
 Zs 1 10 60 .nil) (Zo (.alloc 9 1 138 (.int .u64 0))<|
 .br (Zl 58 1 57<|
 Zo (.conv 59 .u64 (.t 58))<|
 Zb 60 .rem 53 59<|
 Zs 1 9 52<|
 Zs 1 10 60 .nil) (Zs 1 9 52<|
 Zl 58 1 57<|
 Zo (.conv 59 .u64 (.t 58))<|
 Zb 60 .rem 53 59<|
 Zs 1 10 60 .nil))) (Zo (.alloc 9 1 138 (.int .u64 0))<|
 .br (Zl 54 1 3<|
 Zi 57 1 54 56<|
 .br (Zl 58 1 57<|
 Zo (.conv 59 .u64 (.t 58))<|
 Zb 60 .rem 53 59<|
 Zs 1 9 52<|
 Zs 1 10 60 .nil) (Zs 1 9 52<|
 Zl 58 1 57<|
 Zo (.conv 59 .u64 (.t 58))<|
 Zb 60 .rem 53 59<|
 Zs 1 10 60 .nil)) (Zs 1 9 52<|
 Zl 54 1 3<|
 Zi 57 1 54 56<|
 Zl 58 1 57<|
 Zo (.conv 59 .u64 (.t 58))<|
 Zb 60 .rem 53 59<|
 Zs 1 10 60 .nil))) (Zo (.alloc 9 1 138 (.int .u64 0))<|
 .br (Zl 54 1 3<|
 .br (Zl 55 1 5<|
 Zk 56 .sub 55 1<|
 Zi 57 1 54 56<|
 .br (Zl 58 1 57<|
 Zo (.conv 59 .u64 (.t 58))<|
 Zb 60 .rem 53 59<|
 Zs 1 9 52<|
 Zs 1 10 60 .nil) (Zs 1 9 52<|
 Zl 58 1 57<|
 Zo (.conv 59 .u64 (.t 58))<|
 Zb 60 .rem 53 59<|
 Zs 1 10 60 .nil)) (Zs 1 9 52<|
 Zl 55 1 5<|
 Zk 56 .sub 55 1<|
 Zi 57 1 54 56<|
 Zl 58 1 57<|
 Zo (.conv 59 .u64 (.t 58))<|
 Zb 60 .rem 53 59<|
 Zs 1 10 60 .nil)) (.br (Zl 55 1 5<|
 Zk 56 .sub 55 1<|
 .br (Zl 54 1 3<|
 Zi 57 1 54 56<|
 .br (Zl 58 1 57<|
 Zo (.conv 59 .u64 (.t 58))<|
 Zb 60 .rem 53 59<|
 Zs 1 9 52<|
 Zs 1 10 60 .nil) (Zs 1 9 52<|
 Zl 58 1 57<|
 Zo (.conv 59 .u64 (.t 58))<|
 Zb 60 .rem 53 59<|
 Zs 1 10 60 .nil)) (Zs 1 9 52<|
 Zl 54 1 3<|
 Zi 57 1 54 56<|
 Zl 58 1 57<|
 Zo (.conv 59 .u64 (.t 58))<|
 Zb 60 .rem 53 59<|
 Zs 1 10 60 .nil)) (Zs 1 9 52<|
 .br (Zl 54 1 3<|
 Zl 55 1 5<|
 Zk 56 .sub 55 1<|
 Zi 57 1 54 56<|
 Zl 58 1 57<|
 Zo (.conv 59 .u64 (.t 58))<|
 Zb 60 .rem 53 59<|
 Zs 1 10 60 .nil) (Zl 55 1 5<|
 Zk 56 .sub 55 1<|
 Zl 54 1 3<|
 Zi 57 1 54 56<|
 Zl 58 1 57<|
 Zo (.conv 59 .u64 (.t 58))<|
 Zb 60 .rem 53 59<|
 Zs 1 10 60 .nil)))))))))<|Zr (Zo (.fn 61 260 [] [.t 9,.t 3,.t 5,.t 10,.t 2,.t 7])<|
 Zm 11 61 .nil)<| .seq (.block 2<| .loop<| .seq (Zr (Zl 62 1 10<|
 Zo (.bin 63 .lss false (.t 62) (.c (.int .u64 65536)))<|
 Zm 64 63<|
 Zg 64 true (.mv 65 (.t 11))<|
 Zg 64 true (.call (some 66) false (.t 65) [])<|
 Zo (.pick 67 (.t 64) (.t 66) (.c (.bool false))) .nil)<| .cond (.t 67) .skip (.exit 2))<| .block 3<|Zr (Zl 68 1 9<|
 Zo (.bin 69 .sub false (.t 68) (.c (.int .u64 1)))<|
 Zs 1 9 69 .nil)<| .rg (Zl 70 1 10<|
 Zl 71 1 3<|
 Zl 72 1 5<|
 Zk 73 .sub 72 1<|
 Zi 74 1 71 73<|
 Zl 75 1 74<|
 Zo (.conv 76 .u64 (.t 75))<|
 Zb 77 .add 70 76<|
 Zs 1 10 77 .nil))<| .seq (Zr (Zl 78 1 2<|
 Zl 79 1 7<|
 Zl 80 1 7<|
 Zl 81 1 5<|
 Zb 82 .add 80 81<|
 Zk 83 .add 82 1<|
 Zo (.sl 84 1 (.t 78) (some (.t 79)) (some (.t 83)) none)<|
 Zl 85 1 3<|
 Zl 86 1 9<|
 Zo (.conv 87 .u32 (.t 86))<|
 Zq 88 false 261 [.t 84,.t 85,.t 87] .nil)<| .cond (.t 88) (Zr (Zl 89 1 9<|
 Zo (.bin 90 .sub false (.t 89) (.c (.int .u64 1)))<|
 Zs 1 9 90 .nil)<| .rg (Zl 91 1 2<|
 Zl 92 1 7<|
 Zl 93 1 7<|
 Zl 94 1 5<|
 Zb 95 .add 93 94<|
 Zk 96 .add 95 1<|
 Zo (.sl 97 1 (.t 91) (some (.t 92)) (some (.t 96)) none)<|
 Zl 98 1 3<|
 Zq 99 false 262 [.t 97,.t 98] .nil)) .skip)<| .rg (Zm 100 6<|
 Zl 101 1 7<|
 Zl 102 1 9<|
 Zo (.conv 103 .u16 (.t 102))<|
 Zi 104 1 100 101<|
 Zs 1 104 103 .nil))<| .seq (Zr (Zl 105 1 7 .nil)<| .rg (Zo (.alloc 7 1 3 (Zz 0))<|
 Zs 1 7 105 .nil))<| .rg (Zl 26 1 7<|
 Zk 27 .sub 26 1<|
 Zs 1 7 27 .nil))<|Zr (Zm 106 6<|
 Zq 107 false 240 [.t 106]<|
 Zm 4 107 .nil) .ret⟩
theorem Qag8:Qe Tryz.prog Tryz.f252=some c252:=by kernel_rfl
end Go.Proofs.YtonfajmchebkeaaGreat
namespace Go.Proofs.YtonfajmchebkeaaGreat
open Go Go.FW
set_option linter.unusedSimpArgs false
set_option linter.unusedVariables false
set_option maxRecDepth 100000
theorem Qa7{l:List Nat}(hv:Qh l)(hl:l.length<2^42):Qd Tryz.prog 240 [PV.nat l] (· =PV.num (val l)):=by
 refine Qf Qk Tryz.func240 rfl Q2o (by simp[Qzs]) fun C hP=> ?_;simp only[Qzs,Zo,Zg,Zm,Zc,Zf,Zl,Zh,Zs,Zi,Zb,Zk,Zn,Zu,Zq,Zr,Zz]
 simp+decide (disch:=first|exact D0|fail) only[go_sem,↓reduceIte]
 refine Qe8 (fun m fr hp=>m<=l.length/\cut l m=dig (val l)/\fr 0=PV.nat l/\fr 3= .int .i64 m/\hp=hp0) l.length ?_ ?_
 ·exact⟨Nat.le_refl _,Qmx hv,rfl,rfl,rfl⟩
 rintro n fr _ ⟨hn,hc,h0,h3,rfl⟩
 simp+decide (disch:=first|exact D2 h0 h3|fail) only[go_sem,↓reduceIte,h0,h3]
 refine Qan (fun hg=> ?_) (fun hg=> ?_)
 ·simp+decide (disch:=first|omega|rfl|(simp+decide only[go_sem,↓reduceIte,h0,h3,Qkn,Qpk]<;>rfl)|fail) only[go_sem,↓reduceIte,h0,h3,Qkn,Qpk]
  obtain _|n:=n
  ·omega
  have e:((n+1:Nat):Int)-1=n:=by omega
  simp only[cut]at hc
  refine Qb (fun hz=> ?_) (fun hz=> ?_)
  ·rw[if_pos (by grind)]at hc
   simp+decide (disch:=first|exact D3 h0 h3 e|fail) only[go_sem,↓reduceIte,h0,h3,e]
   refine Qb8 (m:=n) (by omega) ⟨by omega,hc,?_⟩
   simp+decide (disch:=first|exact D3 h0 true_and and_true|fail) only[go_sem,↓reduceIte,h0,true_and,and_true]
  ·simp+decide (disch:=first|omega|rfl|(simp+decide only[go_sem,↓reduceIte,h0,h3,Qji]<;>rfl)|fail) only[go_sem,↓reduceIte,h0,h3,Qji]
   rw[if_neg (by grind)]at hc
   exact Qc (by simp[hc]) rfl
 ·obtain rfl:n=0:=by omega
  simp+decide (disch:=first|omega|rfl|(simp+decide only[go_sem,↓reduceIte,h0,h3,Qji]<;>rfl)|fail) only[go_sem,↓reduceIte,h0,h3,Qji]
  exact Qc (by simp[<-hc,cut]) rfl
theorem Qjs{l:List Nat}(hv:Qh l)(hl:l.length<2^42):Qd Tryz.prog 231 [PV.nat l] (· =PV.num (val l)):=by
 have hd:=Qar hv
 unfold nl at hd
 refine Qf Qk Tryz.func231 rfl Qaf7 (by simp[c231]) fun C hP=> ?_;simp only[c231,Zo,Zg,Zm,Zc,Zf,Zl,Zh,Zs,Zi,Zb,Zk,Zn,Zu,Zq,Zr,Zz]
 simp+decide (disch:=first|exact D0|fail) only[go_sem,↓reduceIte]
 refine Qa hP (Qa7 hv hl) rfl rfl rfl ?_
 simp+decide (disch:=first|exact D0|fail) only[go_sem,↓reduceIte]
 refine Qb (fun hz=> ?_) (fun hz=> ?_)
 ·simp+decide (disch:=first|exact D0|fail) only[go_sem,↓reduceIte]
  have:dig (val l)=[]:=List.length_eq_zero_iff.1 (by omega)
  exact Qev (by rw[PV.num,this];exact Qaki) rfl
 ·simp+decide (disch:=first|exact D0|fail) only[go_sem,↓reduceIte]
  rw[Qu2 rfl (by simp)]
  simp+decide (disch:=first|exact D0|fail) only[go_sem,↓reduceIte]
  exact Qql rfl (by simp[List.take_of_length_le])
theorem Qqw{n:Nat}(hn:n<18446744073709551616):Qd Tryz.prog 210 [.int .u64 n] (· =PV.num n):=by
 have hlen:=Qfw hn
 unfold nl at hlen
 refine Qf Qk Tryz.func210 rfl Qaf8 (by simp[c210]) fun C hP=> ?_;simp only[c210,Zo,Zg,Zm,Zc,Zf,Zl,Zh,Zs,Zi,Zb,Zk,Zn,Zu,Zq,Zr,Zz]
 simp+decide (disch:=first|exact D0|fail) only[go_sem,↓reduceIte]
 refine Qjj (fun m fr hp=>∃done:List Nat,dig n=done++dig m/\m<=n/\fr 0= .int .u64 m/\fr 3= .ms 12 done.length/\hp 12=some ⟨1,191,done.map fun(x:Nat)=> .int .u16 x,false⟩) n (Q6i 3 12 1 191 (by omega) ?_) ?_ ?_
 ·simp+decide (disch:=first|exact D0|fail) only[go_sem,↓reduceIte]
 ·refine⟨[],?_⟩
  simp+decide (disch:=first|omega|rfl|(simp+decide only[go_sem,↓reduceIte,List.nil_append,List.map_nil,List.length_nil,true_and,and_true,Nat.le_refl]<;>rfl)|fail) only[go_sem,↓reduceIte,List.nil_append,List.map_nil,List.length_nil,true_and,and_true,Nat.le_refl]
 rintro m fr hp ⟨done,hd,hm,h0,h3,hh⟩
 rw[hd,List.length_append]at hlen
 simp+decide (disch:=first|exact D1 h0|fail) only[go_sem,↓reduceIte,h0]
 refine Qb (fun hz=> ?_) (fun hz=> ?_)
 ·have hne:m≠0:=by omega
  have hd2:dig n=(done++[m%65536])++dig (m/65536):=by rw[hd,Qhr hne];simp
  simp+decide (disch:=first|exact D2 h0 h3|fail) only[go_sem,↓reduceIte,h0,h3]
  rw[Qr6 (xs:=done.map fun(x:Nat)=> .int .u16 x) (T1 hh) rfl (by omega) (by simp) (by omega) (by omega)]
  simp+decide (disch:=first|omega|rfl|(simp+decide only[go_sem,↓reduceIte,h0,h3,Qk7,Qpm]<;>rfl)|fail) only[go_sem,↓reduceIte,h0,h3,Qk7,Qpm]
  refine Qb8 (m:=m/65536) (by omega) ⟨done++[m%65536],hd2,by omega,?_⟩
  simp+decide (disch:=first|exact D3 h0 h3 hh|fail) only[go_sem,↓reduceIte,h0,h3,hh]
  simp
 ·obtain rfl:m=0:=by omega
  simp+decide (disch:=first|exact D1 h3|fail) only[go_sem,↓reduceIte,h3]
  exact Qql hh (by simp[PV.num,PV.nat,hd,Qa6,List.take_of_length_le])
end Go.Proofs.YtonfajmchebkeaaGreat
namespace Go.Proofs.YtonfajmchebkeaaGreat
open Go Go.FW
set_option linter.unusedSimpArgs false
set_option linter.unusedVariables false
set_option maxRecDepth 100000
theorem Qoh{a b:List Nat}(ha:Qh a)(hb:Qh b)(hla:a.length<2^40)(hlb:b.length<2^40):Qd Tryz.prog 248 [PV.nat a,PV.nat b] (· = .int .i64 (Qd5 (val a) (val b))):=by
 have hda:=Qar ha
 have hdb:=Qar hb
 have hnl1:= @Qyz (val a) (val b)
 have hnl2:= @Qyz (val b) (val a)
 have hla':=Qj (val a)
 have hlb':=Qj (val b)
 have hva:=Q2 (val a)
 have hvb:=Q2 (val b)
 unfold nl at hda hdb hnl1 hnl2
 refine Qf Qk Tryz.func248 rfl Qagb (by simp[c248]) fun C hP=> ?_;simp only[c248,Zo,Zg,Zm,Zc,Zf,Zl,Zh,Zs,Zi,Zb,Zk,Zn,Zu,Zq,Zr,Zz]
 simp+decide (disch:=first|exact D0|fail) only[go_sem,↓reduceIte]
 refine Qa hP (Qa7 ha (by omega)) rfl rfl rfl ?_
 simp+decide (disch:=first|exact D0|fail) only[go_sem,↓reduceIte]
 refine Qa hP (Qa7 hb (by omega)) rfl rfl rfl ?_
 simp+decide (disch:=first|exact D0|fail) only[go_sem,↓reduceIte]
 generalize val a=x at *
 generalize val b=y at *
 refine Qb (fun hz=> ?_) (fun hz=> ?_)
 ·simp+decide (disch:=first|exact D0|fail) only[go_sem,↓reduceIte]
  refine Qb (fun hz=> ?_) (fun hz=> ?_)
  ·simp+decide (disch:=first|exact D0|fail) only[go_sem,↓reduceIte]
   exact Qc (by rw[Qu3 (hnl1 (by omega))]) rfl
  ·simp+decide (disch:=first|exact D0|fail) only[go_sem,↓reduceIte]
   exact Qc (by rw[Qu4 (hnl2 (by omega))]) rfl
 simp+decide (disch:=first|exact D0|fail) only[go_sem,↓reduceIte]
 refine Qe8 (fun m fr hp=>m<=(dig x).length/\val ((dig x).drop m)=val ((dig y).drop m)/\fr 0=PV.num x/\fr 1=PV.num y/\fr 5= .int .i64 ((m:Int)-1)/\hp=hp0) (dig x).length ?_ ?_
 ·refine⟨Nat.le_refl _,?_,?_⟩
  ·rw[List.drop_of_length_le (Nat.le_refl _),List.drop_of_length_le (by omega)]
  ·simp+decide (disch:=first|exact D2 true_and and_true|fail) only[go_sem,↓reduceIte,true_and,and_true]
 rintro m fr _ ⟨hm,hd,h0,h1,h5,rfl⟩
 simp+decide (disch:=first|exact D3 h0 h1 h5|fail) only[go_sem,↓reduceIte,h0,h1,h5]
 refine Qb (fun hg=> ?_) (fun hg=> ?_)
 ·obtain _|m:=m
  ·omega
  have e:((m+1:Nat):Int)-1=m:=by omega
  have hm1:m<(dig x).length:=by omega
  have hm2:m<(dig y).length:=by omega
  simp+decide (disch:=first|exact D4 h0 h1 h5 e|fail) only[go_sem,↓reduceIte,h0,h1,h5,e]
  refine Qb (fun hq=> ?_) (fun hq=> ?_)
  ·simp+decide (disch:=first|exact D0|fail) only[go_sem,↓reduceIte]
   exact Qc (by rw[Qu3];have:=Qwc hla' hm1 hm2 (by omega) hd;omega) rfl
  simp+decide (disch:=first|exact D4 h0 h1 h5 e|fail) only[go_sem,↓reduceIte,h0,h1,h5,e]
  refine Qb (fun hq2=> ?_) (fun hq2=> ?_)
  ·simp+decide (disch:=first|exact D0|fail) only[go_sem,↓reduceIte]
   exact Qc (by rw[Qu4];have:=Qwc hlb' hm2 hm1 (by omega) hd.symm;omega) rfl
  simp+decide (disch:=first|exact D4 h0 h1 h5 e|fail) only[go_sem,↓reduceIte,h0,h1,h5,e]
  refine Qb8 (m:=m) (by omega) ⟨by omega,?_,?_⟩
  ·rw[Qcw hm1,Qcw hm2,hd];omega
  ·simp+decide (disch:=first|exact D4 h0 h1 true_and and_true|fail) only[go_sem,↓reduceIte,h0,h1,true_and,and_true]
 ·obtain rfl:m=0:=by omega
  simp+decide (disch:=first|exact D0|fail) only[go_sem,↓reduceIte]
  refine Qc ?_ rfl
  rw[Q2c]
  simp at hd;omega
end Go.Proofs.YtonfajmchebkeaaGreat
namespace Go.Proofs.YtonfajmchebkeaaGreat
open Go Go.FW
set_option linter.unusedSimpArgs false
set_option linter.unusedVariables false
set_option maxRecDepth 100000
theorem Qab7{a b:List Nat}(ha:Qh a)(hb:Qh b)(hla:a.length<2^40)(hlb:b.length<2^40):Qd Tryz.prog 256 [PV.nat a,PV.nat b] (· =PV.num (val a+val b)):=by
 have hda:=Qar ha
 have hdb:=Qar hb
 unfold nl at hda hdb
 refine Qf Qk Tryz.func256 rfl Qagc (by simp[c256]) fun C hP=> ?_;simp only[c256,Zo,Zg,Zm,Zc,Zf,Zl,Zh,Zs,Zi,Zb,Zk,Zn,Zu,Zq,Zr,Zz]
 simp+decide (disch:=first|exact D0|fail) only[go_sem,↓reduceIte]
 refine Qa hP (Qa7 ha (by omega)) rfl rfl rfl ?_
 simp+decide (disch:=first|exact D0|fail) only[go_sem,↓reduceIte]
 refine Qa hP (Qa7 hb (by omega)) rfl rfl rfl ?_
 simp+decide (disch:=first|exact D0|fail) only[go_sem,↓reduceIte]
 generalize val a=x0 at *
 generalize val b=y0 at *
 refine Qjl (fun fr hp=>∃x y,x+y=x0+y0/\(dig x).length<2^40/\(dig y).length<=(dig x).length/\fr 0=PV.num x/\fr 1=PV.num y/\hp=hp0) ?_ ?_
 ·refine Qb (fun hz=> ?_) (fun hz=> ?_)
  ·simp+decide (disch:=first|exact D0|fail) only[go_sem,↓reduceIte]
   refine⟨y0,x0,by omega,by omega,by omega,?_⟩
   simp+decide (disch:=first|exact D2 true_and and_true|fail) only[go_sem,↓reduceIte,true_and,and_true]
  ·simp+decide (disch:=first|exact D0|fail) only[go_sem,↓reduceIte]
   refine⟨x0,y0,by omega,by omega,by omega,?_⟩
   simp+decide (disch:=first|exact D2 true_and and_true|fail) only[go_sem,↓reduceIte,true_and,and_true]
 rintro fr _ ⟨x,y,hsum,hx,hy,h0,h1,rfl⟩
 rw[<-hsum]
 clear hsum hda hdb
 have hxl:=Qj x
 have hyl:=Qj y
 simp+decide (disch:=first|exact D2 h0 h1|fail) only[go_sem,↓reduceIte,h0,h1]
 refine Qe8 (fun m fr hp=>∃i c done,m=(dig x).length-i/\i<=(dig x).length/\c<=1/\done.length=i/\done++Qfi ((dig x).drop i) ((dig y).drop i) c=dig (x+y)/\
  fr 1=PV.num y/\fr 5= .ms 25 (dig x).length/\fr 6= .int .u32 c/\fr 26=PV.num x/\fr 27= .int .i64 (dig x).length/\fr 28= .int .i64 i/\hp=Qn hp0 25 ⟨1,191,Qa5 (done++List.replicate ((dig x).length-i) 0),false⟩) (dig x).length ?_ ?_
 ·refine⟨0,0,[],rfl,by omega,by omega,rfl,by simpa using Qaad hy,?_⟩
  simp+decide (disch:=first|omega|rfl|(simp+decide only[go_sem,↓reduceIte,h0,h1,true_and,and_true,Nat.sub_zero,List.nil_append]<;>rfl)|fail) only[go_sem,↓reduceIte,h0,h1,true_and,and_true,Nat.sub_zero,List.nil_append]
  simp
 rintro _ fr _ ⟨i,c,done,rfl,hi,hc,hdl,hd,h1,h5,h6,h26,h27,h28,rfl⟩
 simp+decide (disch:=first|exact D3 h26 h27 h28|fail) only[go_sem,↓reduceIte,h26,h27,h28]
 refine Qb (fun hg=> ?_) (fun hg=> ?_)
 ·have hi':i<(dig x).length:=by omega
  have hxi:=Qap hxl hi'
  rw[Q6v hi']at hd
  have hlen:=Qr8 (n:=(dig x).length-i) hdl (by omega:_=(dig x).length)
  simp+decide (disch:=first|exact D6 h1 h5 h6 h26 h27 h28|fail) only[go_sem,↓reduceIte,h1,h5,h6,h26,h27,h28]
  refine Qb (fun hq=> ?_) (fun hq=> ?_)
  ·have hq':i<(dig y).length:=by omega
   have hyi:=Qap hyl hq'
   rw[Qbn hq']at hd
   simp+decide (disch:=first|exact D6 h1 h5 h6 h26 h27 h28|fail) only[go_sem,↓reduceIte,h1,h5,h6,h26,h27,h28]
   refine Qb8 (m:=(dig x).length-(i+1)) (by omega) ⟨i+1,_,_,rfl,by omega,?_,?_,(List.append_cons ..).symm.trans hd,?_⟩
   ·omega
   ·simp[hdl]
   ·simp+decide (disch:=first|omega|rfl|(simp+decide only[go_sem,↓reduceIte,h1,h5,h6,h26,h27,h28,true_and,and_true,Qe9,Nat.sub_sub]<;>rfl)|fail) only[go_sem,↓reduceIte,h1,h5,h6,h26,h27,h28,true_and,and_true,Qe9,Nat.sub_sub]
  ·rw[Qbo (by omega)]at hd
   simp+decide (disch:=first|exact D6 h1 h5 h6 h26 h27 h28|fail) only[go_sem,↓reduceIte,h1,h5,h6,h26,h27,h28]
   refine Qb8 (m:=(dig x).length-(i+1)) (by omega) ⟨i+1,_,_,rfl,by omega,?_,?_,(List.append_cons ..).symm.trans hd,?_⟩
   ·omega
   ·simp[hdl]
   ·simp+decide (disch:=first|omega|rfl|(simp+decide only[go_sem,↓reduceIte,h1,h5,h6,h26,h27,h28,true_and,and_true,Qe9,Nat.sub_sub,Nat.add_zero]<;>rfl)|fail) only[go_sem,↓reduceIte,h1,h5,h6,h26,h27,h28,true_and,and_true,Qe9,Nat.sub_sub,Nat.add_zero]
 ·obtain rfl:i=(dig x).length:=by omega
  rw[List.drop_of_length_le (Nat.le_refl _),List.drop_of_length_le hy]at hd
  simp+decide (disch:=first|omega|rfl|(simp+decide only[go_sem,↓reduceIte,h5,h6,Nat.sub_self,List.replicate_zero,List.append_nil]<;>rfl)|fail) only[go_sem,↓reduceIte,h5,h6,Nat.sub_self,List.replicate_zero,List.append_nil]
  refine Qb (fun hq=> ?_) (fun hq=> ?_)
  ·simp+decide (disch:=first|exact D2 h5 h6|fail) only[go_sem,↓reduceIte,h5,h6]
   rw[Qr6 (xs:=Qa5 done) T0 rfl (by omega) (by simp[hdl]) (by omega) (by omega)]
   simp+decide (disch:=first|exact D1 h5|fail) only[go_sem,↓reduceIte,h5]
   refine Qql rfl ?_
   rw[Qfi,if_neg (by omega)]at hd
   rw[PV.num,<-hd]
   simp[Qa5,hdl,List.take_of_length_le]
   omega
  ·simp+decide (disch:=first|exact D1 h5|fail) only[go_sem,↓reduceIte,h5]
   refine Qql rfl ?_
   rw[Qfi,if_pos (by omega)]at hd
   rw[PV.num,<-hd]
   simp[Qa5,hdl,List.take_of_length_le]
end Go.Proofs.YtonfajmchebkeaaGreat
namespace Go.Proofs.YtonfajmchebkeaaGreat
open Go Go.FW
set_option linter.unusedSimpArgs false
set_option linter.unusedVariables false
set_option maxRecDepth 100000
theorem Qzt{a b:List Nat}(ha:Qh a)(hb:Qh b)(hla:a.length<2^40)(hlb:b.length<2^40)(hle:val b<=val a):Qd Tryz.prog 257 [PV.nat a,PV.nat b] (· = .tup [PV.num (val a-val b),.int .i64 0]):=by
 have hda:=Qar ha
 have hdb:=Qar hb
 have hnl:=Qbm hle
 unfold nl at hda hdb hnl
 refine Qf Qk Tryz.func257 rfl Qagd (by simp[c257]) fun C hP=> ?_;simp only[c257,Zo,Zg,Zm,Zc,Zf,Zl,Zh,Zs,Zi,Zb,Zk,Zn,Zu,Zq,Zr,Zz]
 simp+decide (disch:=first|exact D0|fail) only[go_sem,↓reduceIte]
 refine Qa hP (Qoh ha hb hla hlb) rfl rfl rfl ?_
 have hcmp:¬Qd5 (val a) (val b)<0:=by unfold Qd5;split<;>(try split)<;>omega
 simp+decide (disch:=first|exact D0|fail) only[go_sem,↓reduceIte]
 refine Qb (fun hz=>absurd hz hcmp) (fun hz=> ?_)
 simp+decide (disch:=first|exact D0|fail) only[go_sem,↓reduceIte]
 refine Qa hP (Qa7 ha (by omega)) rfl rfl rfl ?_
 simp+decide (disch:=first|exact D0|fail) only[go_sem,↓reduceIte]
 refine Qa hP (Qa7 hb (by omega)) rfl rfl rfl ?_
 simp+decide (disch:=first|exact D0|fail) only[go_sem,↓reduceIte]
 generalize val a=x at *
 generalize val b=y at *
 have hxl:=Qj x
 have hyl:=Qj y
 have Qco:=Qy1 (dig x) (dig y) 0 (by omega) hxl hyl hnl (by rw[Q2,Q2];exact hle)
 rw[Q2,Q2,Nat.add_zero]at Qco
 have hvl:=Qtc (dig x) (dig y) 0
 have hln:=Qq9 (dig x) (dig y) 0
 refine Qe8 (fun m fr hp=>∃i c done,m=(dig x).length-i/\i<=(dig x).length/\c<=1/\done.length=i/\done++Qhi ((dig x).drop i) ((dig y).drop i) c=Qhi (dig x) (dig y) 0/\
  fr 1=PV.num y/\fr 6= .ms 21 (dig x).length/\fr 7= .int .i32 (c:Nat)/\fr 22=PV.num x/\fr 23= .int .i64 (dig x).length/\fr 24= .int .i64 i/\hp=Qn hp0 21 ⟨1,191,Qa5 (done++List.replicate ((dig x).length-i) 0),false⟩) (dig x).length ?_ ?_
 ·refine⟨0,0,[],rfl,by omega,by omega,rfl,rfl,?_⟩
  simp+decide (disch:=first|omega|rfl|(simp+decide only[go_sem,↓reduceIte,true_and,and_true,Nat.sub_zero,List.nil_append]<;>rfl)|fail) only[go_sem,↓reduceIte,true_and,and_true,Nat.sub_zero,List.nil_append]
  simp
 rintro _ fr _ ⟨i,c,done,rfl,hi,hc,hdl,hd,h1,h6,h7,h22,h23,h24,rfl⟩
 simp+decide (disch:=first|exact D3 h22 h23 h24|fail) only[go_sem,↓reduceIte,h22,h23,h24]
 refine Qb (fun hg=> ?_) (fun hg=> ?_)
 ·have hi':i<(dig x).length:=by omega
  have hxi:=Qap hxl hi'
  rw[Q6w hi']at hd
  have hlen:=Qr8 (n:=(dig x).length-i) hdl (by omega:_=(dig x).length)
  simp+decide (disch:=first|exact D6 h1 h6 h7 h22 h23 h24|fail) only[go_sem,↓reduceIte,h1,h6,h7,h22,h23,h24]
  refine Qjl (fun fr hp=>fr 1=PV.num y/\fr 6= .ms 21 (dig x).length/\fr 8= .int .i64 i/\fr 10= .int .i32 ((dig x)[i]-(c:Int)-((dig y).getD i 0:Nat))/\(dig y).getD i 0<65536/\fr 22=PV.num x/\fr 23= .int .i64 (dig x).length/\fr 24= .int .i64 i/\hp=Qn hp0 21 ⟨1,191,Qa5 (done++List.replicate ((dig x).length-i) 0),false⟩) ?_ ?_
  ·refine Qb (fun hq=> ?_) (fun hq=> ?_)
   ·have hq':i<(dig y).length:=by omega
    have hyi:=Qap hyl hq'
    simp+decide (disch:=first|omega|rfl|(simp+decide only[go_sem,↓reduceIte,h1,h6,h7,h22,h23,h24,Qbn hq',true_and,and_true]<;>rfl)|fail) only[go_sem,↓reduceIte,h1,h6,h7,h22,h23,h24,Qbn hq',true_and,and_true]
    exact hyi
   ·simp+decide (disch:=first|omega|rfl|(simp+decide only[go_sem,↓reduceIte,h1,h6,h7,h22,h23,h24,true_and,and_true,Qbo (by omega:¬i<(dig y).length)]<;>rfl)|fail) only[go_sem,↓reduceIte,h1,h6,h7,h22,h23,h24,true_and,and_true,Qbo (by omega:¬i<(dig y).length)]
    simp
  clear h1 h6 h22 h23 h24
  rintro fr _ ⟨h1,h6,h8,h10,hyi,h22,h23,h24,rfl⟩
  generalize hw:(dig y).getD i 0=yi at *
  simp+decide (disch:=first|exact D1 h10|fail) only[go_sem,↓reduceIte,h10]
  refine Qjl (fun fr hp=>fr 1=PV.num y/\fr 6= .ms 21 (dig x).length/\fr 8= .int .i64 i/\fr 10= .int .i32 (((dig x)[i]+65536-c-yi)%65536:Nat)/\fr 7= .int .i32 ((if(dig x)[i]<c+yi then 1 else 0):Nat)/\fr 22=PV.num x/\fr 23= .int .i64 (dig x).length/\fr 24= .int .i64 i/\hp=Qn hp0 21 ⟨1,191,Qa5 (done++List.replicate ((dig x).length-i) 0),false⟩) ?_ ?_
  ·refine Qb (fun hq=> ?_) (fun hq=> ?_)
   ·rw[if_pos (by omega)]
    simp+decide (disch:=first|exact D9 h1 h6 h8 h10 h22 h23 h24 true_and and_true|fail) only[go_sem,↓reduceIte,h1,h6,h8,h10,h22,h23,h24,true_and,and_true]
    simp;omega
   ·rw[if_neg (by omega)]
    simp+decide (disch:=first|exact D9 h1 h6 h8 h10 h22 h23 h24 true_and and_true|fail) only[go_sem,↓reduceIte,h1,h6,h8,h10,h22,h23,h24,true_and,and_true]
    simp;omega
  clear h1 h6 h8 h10 h22 h23 h24
  rintro fr _ ⟨h1,h6,h8,h10,h7,h22,h23,h24,rfl⟩
  simp+decide (disch:=first|exact D8 h1 h6 h7 h8 h10 h22 h23 h24|fail) only[go_sem,↓reduceIte,h1,h6,h7,h8,h10,h22,h23,h24]
  refine Qb8 (m:=(dig x).length-(i+1)) (by omega) ⟨i+1,_,_,rfl,by omega,?_,?_,(List.append_cons ..).symm.trans hd,?_⟩
  ·split<;>omega
  ·simp[hdl]
  ·simp+decide (disch:=first|omega|rfl|(simp+decide only[go_sem,↓reduceIte,h1,h6,h7,h8,h10,h22,h23,h24,true_and,and_true,Qe9,Nat.sub_sub,Nat.mod_mod]<;>rfl)|fail) only[go_sem,↓reduceIte,h1,h6,h7,h8,h10,h22,h23,h24,true_and,and_true,Qe9,Nat.sub_sub,Nat.mod_mod]
 ·obtain rfl:i=(dig x).length:=by omega
  rw[List.drop_of_length_le (Nat.le_refl _),Qhi,List.append_nil]at hd
  simp+decide (disch:=first|omega|rfl|(simp+decide only[go_sem,↓reduceIte,h6,Nat.sub_self,List.replicate_zero,List.append_nil]<;>rfl)|fail) only[go_sem,↓reduceIte,h6,Nat.sub_self,List.replicate_zero,List.append_nil]
  rw[hd]
  refine Qgl hP (Qa7 hvl (by omega)) (Qk8 rfl hln.symm) rfl fun hp'=> ?_
  simp+decide (disch:=first|exact D0|fail) only[go_sem,↓reduceIte]
  exact Qc5 rfl rfl rfl (Qgm (by rw[show val (Qhi (dig x) (dig y) 0)=x-y by omega])) (Qz _)
end Go.Proofs.YtonfajmchebkeaaGreat
namespace Go.Proofs.YtonfajmchebkeaaGreat
open Go Go.FW
set_option linter.unusedSimpArgs false
set_option linter.unusedVariables false
set_option maxRecDepth 100000
theorem Qoi{a b:List Nat}(ha:Qh a)(hb:Qh b)(hla:a.length<2^40)(hlb:b.length<2^40):Qd Tryz.prog 208 [PV.nat a,PV.nat b] (· =PV.num (val a*val b)):=by
 have hda:=Qar ha
 have hdb:=Qar hb
 unfold nl at hda hdb
 refine Qf Qk Tryz.func208 rfl Qage (by simp[c208]) fun C hP=> ?_;simp only[c208,Zo,Zg,Zm,Zc,Zf,Zl,Zh,Zs,Zi,Zb,Zk,Zn,Zu,Zq,Zr,Zz]
 simp+decide (disch:=first|exact D0|fail) only[go_sem,↓reduceIte]
 refine Qa hP (Qa7 ha (by omega)) rfl rfl rfl ?_
 simp+decide (disch:=first|exact D0|fail) only[go_sem,↓reduceIte]
 refine Qa hP (Qa7 hb (by omega)) rfl rfl rfl ?_
 simp+decide (disch:=first|exact D0|fail) only[go_sem,↓reduceIte]
 generalize val a=x at *
 generalize val b=y at *
 have hxl:=Qj x
 have hyl:=Qj y
 refine Qaa (fun hz=> ?_) (fun hz=> ?_)
 ·simp+decide (disch:=first|exact D0|fail) only[go_sem,↓reduceIte]
  have:=Qc6 (by omega:(dig x).length=0)
  rw[Qb3]at this
  exact Qev (Qmz (by simp[this])) rfl
 simp+decide (disch:=first|exact D0|fail) only[go_sem,↓reduceIte]
 refine Qb (fun hz2=> ?_) (fun hz2=> ?_)
 ·simp+decide (disch:=first|exact D0|fail) only[go_sem,↓reduceIte]
  have:=Qc6 (by omega:(dig y).length=0)
  rw[Qb3]at this
  exact Qev (Qmz (by simp[this])) rfl
 simp+decide (disch:=first|exact D0|fail) only[go_sem,↓reduceIte]
 refine Qe8 (fun m fr hp=>∃i lo,m=(dig x).length-i/\i<=(dig x).length/\Qh lo/\lo.length=i+(dig y).length/\val lo=val ((dig x).take i)*val (dig y)/\
  fr 1=PV.num y/\fr 5= .ms 28 ((dig x).length+(dig y).length)/\fr 29=PV.num x/\fr 30= .int .i64 (dig x).length/\fr 31= .int .i64 i/\hp=Qn hp0 28 ⟨1,191,Qa5 (lo++List.replicate ((dig x).length-i) 0),false⟩) (dig x).length ?_ ?_
 ·refine⟨0,List.replicate (dig y).length 0,rfl,by omega,?_,by simp,by simp[Qwb,val],?_⟩
  ·intro z hz;rw[List.eq_of_mem_replicate hz];omega
  ·simp+decide (disch:=first|omega|rfl|(simp+decide only[go_sem,↓reduceIte,true_and,and_true,Nat.sub_zero]<;>rfl)|fail) only[go_sem,↓reduceIte,true_and,and_true,Nat.sub_zero]
   simp[Nat.add_comm]
 rintro _ fr _ ⟨i,lo,rfl,hi,hlo,hlol,hv,h1,h5,h29,h30,h31,rfl⟩
 simp+decide (disch:=first|exact D3 h29 h30 h31|fail) only[go_sem,↓reduceIte,h29,h30,h31]
 refine Qb (fun hg=> ?_) (fun hg=> ?_)
 ·have hi':i<(dig x).length:=by omega
  have hxi:=Qap hxl hi'
  have hstep:=Qaae hi' hlol hv
  have hlims:Qh (lo.take i++Qgb (lo.drop i) (dig y) (dig x)[i] 0):=Qbw.2 ⟨Qgv hlo i,Qte _ _ _ _ (by omega) hxi (Qh1 hlo i) hyl⟩
  have hlenr:(lo.take i++Qgb (lo.drop i) (dig y) (dig x)[i] 0).length=i+(dig y).length+1:=by
   rw[List.length_append,Qra _ _ _ _ (by simp[hlol])];simp;omega
  generalize hxx:(dig x)[i]=xi at *
  simp+decide (disch:=first|exact D6 h1 h5 h29 h30 h31 hxx|fail) only[go_sem,↓reduceIte,h1,h5,h29,h30,h31,hxx]
  refine Qe8 (fun m fr hp=>∃k c p rs,m=(dig y).length-k/\k<=(dig y).length/\c<65536/\Qh rs/\p.length=i+k/\rs.length=(dig y).length-k/\p++Qgb rs ((dig y).drop k) xi c=lo.take i++Qgb (lo.drop i) (dig y) xi 0/\
   fr 1=PV.num y/\fr 5= .ms 28 ((dig x).length+(dig y).length)/\fr 6= .int .i64 i/\fr 7= .int .u16 xi/\fr 8= .int .u32 c/\fr 29=PV.num x/\fr 30= .int .i64 (dig x).length/\fr 31= .int .i64 i/\fr 36=PV.num y/\fr 37= .int .i64 (dig y).length/\fr 38= .int .i64 k/\
   hp=Qn hp0 28 ⟨1,191,Qa5 (p++(rs++List.replicate ((dig x).length-i) 0)),false⟩) (dig y).length ?_ ?_
  ·refine⟨0,0,lo.take i,lo.drop i,rfl,by omega,by omega,Qh1 hlo i,by simp;omega,by simp;omega,rfl,?_⟩
   simp+decide (disch:=first|exact D7 h1 h5 h29 h30 h31 true_and and_true|fail) only[go_sem,↓reduceIte,h1,h5,h29,h30,h31,true_and,and_true]
   rw[<-List.append_assoc,List.take_append_drop]
   simp
  clear h1 h5 h29 h30 h31
  rintro _ fr _ ⟨k,c,p,rs,rfl,hk,hc,hrs,hpl,hrl,hinv,h1,h5,h6,h7,h8,h29,h30,h31,h36,h37,h38,rfl⟩
  simp+decide (disch:=first|exact D3 h36 h37 h38|fail) only[go_sem,↓reduceIte,h36,h37,h38]
  refine Qb (fun hq=> ?_) (fun hq=> ?_)
  ·have hk':k<(dig y).length:=by omega
   have hyk:=Qap hyl hk'
   rw[List.drop_eq_getElem_cons hk']at hinv
   generalize hyy:(dig y)[k]=yk at *
   obtain _|⟨r,rs⟩:=rs
   ·simp at hrl;omega
   rw[Qa0]at hrs
   have hr0:=hrs.1
   have hxy:=Qfs hxi hyk
   rw[Qgb]at hinv
   have hlt:i+k<(p++r::(rs++List.replicate ((dig x).length-i) 0)).length:=by simp;omega
   have hget:=Qqp hpl hlt
   simp+decide (disch:=first|omega|rfl|(simp+decide only[go_sem,↓reduceIte,h1,h5,h6,h7,h8,h36,h37,h38,hyy,List.cons_append,hget]<;>rfl)|fail) only[go_sem,↓reduceIte,h1,h5,h6,h7,h8,h36,h37,h38,hyy,List.cons_append,hget]
   refine Qb8 (m:=(dig y).length-(k+1)) (by omega) ⟨k+1,_,_,_,rfl,by omega,?_,hrs.2,?_,?_,(List.append_cons ..).symm.trans hinv,?_⟩
   ·omega
   ·simp[hpl];omega
   ·simp at hrl;omega
   ·simp+decide (disch:=first|omega|rfl|(simp+decide only[go_sem,↓reduceIte,h1,h5,h6,h7,h8,h29,h30,h31,h36,h37,h38,true_and,and_true,Qb9]<;>rfl)|fail) only[go_sem,↓reduceIte,h1,h5,h6,h7,h8,h29,h30,h31,h36,h37,h38,true_and,and_true,Qb9]
    simp
  ·obtain rfl:k=(dig y).length:=by omega
   obtain rfl:rs=[]:=List.length_eq_zero_iff.1 (by omega)
   rw[List.drop_of_length_le (Nat.le_refl _),Qgb]at hinv
   rotate_left
   ·intros;simp_all
   obtain⟨z,hz⟩:∃z,(dig x).length-i=z+1:=⟨(dig x).length-i-1,by omega⟩
   have hlt:i+(dig y).length<(p++0::(List.replicate z 0)).length:=by simp;omega
   simp+decide (disch:=first|omega|rfl|(simp+decide only[go_sem,↓reduceIte,h1,h5,h6,h8,h29,h30,h31,List.nil_append,hz,List.replicate_succ]<;>rfl)|fail) only[go_sem,↓reduceIte,h1,h5,h6,h8,h29,h30,h31,List.nil_append,hz,List.replicate_succ]
   refine Qb8 (m:=(dig x).length-(i+1)) (by omega) ⟨i+1,lo.take i++Qgb (lo.drop i) (dig y) xi 0,rfl,by omega,hlims,by omega,?_,?_⟩
   ·rw[hstep]
   ·simp+decide (disch:=first|omega|rfl|(simp+decide only[go_sem,↓reduceIte,h1,h5,h29,h30,h31,true_and,and_true,Qb9]<;>rfl)|fail) only[go_sem,↓reduceIte,h1,h5,h29,h30,h31,true_and,and_true,Qb9]
    rw[<-hinv,show(dig x).length-(i+1)=z by omega,Nat.mod_eq_of_lt hc]
    simp
 ·obtain rfl:i=(dig x).length:=by omega
  rw[List.take_length,Q2,Q2]at hv
  simp+decide (disch:=first|omega|rfl|(simp+decide only[go_sem,↓reduceIte,h5,Nat.sub_self,List.replicate_zero,List.append_nil]<;>rfl)|fail) only[go_sem,↓reduceIte,h5,Nat.sub_self,List.replicate_zero,List.append_nil]
  refine Qgl hP (Qa7 hlo (by omega)) (Qk8 rfl hlol.symm) rfl fun hp'=> ?_
  simp+decide (disch:=first|exact D0|fail) only[go_sem,↓reduceIte]
  exact Qc (by rw[hv]) rfl
end Go.Proofs.YtonfajmchebkeaaGreat
namespace Go.Proofs.YtonfajmchebkeaaGreat
open Go Go.FW
set_option linter.unusedSimpArgs false
set_option linter.unusedVariables false
set_option maxRecDepth 100000
theorem Qzu{pre w post v:List Nat}{j m:Nat}(hw:Qh w)(hv:Qh v)(hj:pre.length=j)(hm:w.length=m)(hle:v.length<=w.length)(hlen:(pre++(w++post)).length<2^43):
  Qko Tryz.prog 262 [.mso B0 j m,PV.nat v] 191 (Qa5 (pre++(w++post))) (fun r xs'=>r= .tup []/\xs'=Qa5 (pre++(Qgn w v 0++post))):=by
 simp only[List.length_append]at hlen
 refine Qlw Qk Tryz.func262 rfl Qagj (by simp[c262]) fun C hP=> ?_;simp only[c262,Zo,Zg,Zm,Zc,Zf,Zl,Zh,Zs,Zi,Zb,Zk,Zn,Zu,Zq,Zr,Zz]
 simp+decide (disch:=first|exact D0|fail) only[go_sem,↓reduceIte]
 refine Qe8 (fun k fr hp=>∃i c done,k=w.length-i/\i<=w.length/\c<=1/\done.length=i/\done++Qgn (w.drop i) (v.drop i) c=Qgn w v 0/\
  fr 0= .mso 1000000 j m/\fr 1=PV.nat v/\fr 4= .int .u32 c/\fr 7= .int .i64 m/\fr 8= .int .i64 i/\hp=Qn hp0 1000000 ⟨1,191,Qa5 ((pre++done)++(w.drop i++post)),false⟩) w.length ?_ ?_
 ·refine⟨0,0,[],rfl,by omega,by omega,rfl,rfl,?_⟩
  simp+decide (disch:=first|omega|rfl|(simp+decide only[go_sem,↓reduceIte,true_and,and_true,List.append_nil,List.drop_zero]<;>rfl)|fail) only[go_sem,↓reduceIte,true_and,and_true,List.append_nil,List.drop_zero]
  simp
 rintro _ fr _ ⟨i,c,done,rfl,hi,hc,hdl,hd,h0,h1,h4,h7,h8,rfl⟩
 simp+decide (disch:=first|exact D2 h7 h8|fail) only[go_sem,↓reduceIte,h7,h8]
 refine Qb (fun hg=> ?_) (fun hg=> ?_)
 ·have hi':i<w.length:=by omega
  have hwi:=Qap hw hi'
  rw[Q63 hi']at hd
  have hpl:(pre++done).length=j+i:=by simp[hj,hdl]
  rw[List.drop_eq_getElem_cons hi']
  generalize hww:w[i]=wi at *
  have hlt:j+i<((pre++done)++wi::(w.drop (i+1)++post)).length:=by simp;omega
  have hget:=Qqp hpl hlt
  simp+decide (disch:=first|omega|rfl|(simp+decide only[go_sem,↓reduceIte,h0,h1,h4,h7,h8,List.cons_append,hget]<;>rfl)|fail) only[go_sem,↓reduceIte,h0,h1,h4,h7,h8,List.cons_append,hget]
  refine Qb (fun hq=> ?_) (fun hq=> ?_)
  ·have hq':i<v.length:=by omega
   have hvi:=Qap hv hq'
   rw[Qbn hq']at hd
   simp+decide (disch:=first|omega|rfl|(simp+decide only[go_sem,↓reduceIte,h0,h1,h4,h7,h8,Qb9]<;>rfl)|fail) only[go_sem,↓reduceIte,h0,h1,h4,h7,h8,Qb9]
   refine Qb8 (m:=w.length-(i+1)) (by omega) ⟨i+1,_,_,rfl,by omega,?_,?_,(List.append_cons ..).symm.trans hd,?_⟩
   ·omega
   ·simp[hdl]
   ·simp+decide (disch:=first|omega|rfl|(simp+decide only[go_sem,↓reduceIte,h0,h1,h4,h7,h8,true_and,and_true,Qb9]<;>rfl)|fail) only[go_sem,↓reduceIte,h0,h1,h4,h7,h8,true_and,and_true,Qb9]
    simp
  ·rw[Qbo (by omega)]at hd
   simp+decide (disch:=first|omega|rfl|(simp+decide only[go_sem,↓reduceIte,h0,h1,h4,h7,h8,Qb9]<;>rfl)|fail) only[go_sem,↓reduceIte,h0,h1,h4,h7,h8,Qb9]
   refine Qb8 (m:=w.length-(i+1)) (by omega) ⟨i+1,_,_,rfl,by omega,?_,?_,(List.append_cons ..).symm.trans hd,?_⟩
   ·omega
   ·simp[hdl]
   ·simp+decide (disch:=first|omega|rfl|(simp+decide only[go_sem,↓reduceIte,h0,h1,h4,h7,h8,true_and,and_true,Qb9]<;>rfl)|fail) only[go_sem,↓reduceIte,h0,h1,h4,h7,h8,true_and,and_true,Qb9]
    simp
 ·obtain rfl:i=w.length:=by omega
  rw[List.drop_of_length_le (Nat.le_refl _),Qgn,List.append_nil]at hd
  simp+decide (disch:=first|exact D0|fail) only[go_sem,↓reduceIte]
  refine Qaky rfl (Qfa _) ?_ ⟨rfl,?_⟩
  ·simp[hdl]
  ·rw[List.drop_of_length_le (Nat.le_refl _),hd];simp
end Go.Proofs.YtonfajmchebkeaaGreat
namespace Go.Proofs.YtonfajmchebkeaaGreat
open Go Go.FW
set_option linter.unusedSimpArgs false
set_option linter.unusedVariables false
set_option maxRecDepth 100000
theorem Qxq{pre w post v:List Nat}{j m q:Nat}(hw:Qh w)(hv:Qh v)(hq:q<65536)(hj:pre.length=j)(hm:w.length=m)(hle:v.length<=w.length)(hlen:(pre++(w++post)).length<2^43):
  Qko Tryz.prog 261 [.mso B0 j m,PV.nat v,.int .u32 q] 191 (Qa5 (pre++(w++post))) (fun r xs'=>r= .bool (decide (0<(Qc7 w v q 0 0).2.2))/\xs'=Qa5 (pre++((Qc7 w v q 0 0).1++post))):=by
 simp only[List.length_append]at hlen
 refine Qlw Qk Tryz.func261 rfl Qagi (by simp[c261]) fun C hP=> ?_;simp only[c261,Zo,Zg,Zm,Zc,Zf,Zl,Zh,Zs,Zi,Zb,Zk,Zn,Zu,Zq,Zr,Zz]
 simp+decide (disch:=first|exact D0|fail) only[go_sem,↓reduceIte]
 refine Qe8 (fun k fr hp=>∃i c b done,k=w.length-i/\i<=w.length/\c<65536/\b<=1/\done.length=i/\done++(Qc7 (w.drop i) (v.drop i) q c b).1=(Qc7 w v q 0 0).1/\(Qc7 (w.drop i) (v.drop i) q c b).2=(Qc7 w v q 0 0).2/\
  fr 0= .mso 1000000 j m/\fr 1=PV.nat v/\fr 2= .int .u32 q/\fr 7= .int .u32 c/\fr 8= .int .i32 (b:Nat)/\fr 12= .int .i64 m/\fr 13= .int .i64 i/\hp=Qn hp0 1000000 ⟨1,191,Qa5 ((pre++done)++(w.drop i++post)),false⟩) w.length ?_ ?_
 ·refine⟨0,0,0,[],rfl,by omega,by omega,by omega,rfl,rfl,rfl,?_⟩
  simp+decide (disch:=first|omega|rfl|(simp+decide only[go_sem,↓reduceIte,true_and,and_true,List.append_nil,List.drop_zero]<;>rfl)|fail) only[go_sem,↓reduceIte,true_and,and_true,List.append_nil,List.drop_zero]
  simp
 rintro _ fr _ ⟨i,c,b,done,rfl,hi,hc,hb,hdl,hd,hd2,h0,h1,h2,h7,h8,h12,h13,rfl⟩
 simp+decide (disch:=first|exact D2 h12 h13|fail) only[go_sem,↓reduceIte,h12,h13]
 refine Qb (fun hg=> ?_) (fun hg=> ?_)
 ·have hi':i<w.length:=by omega
  have hwi:=Qap hw hi'
  rw[Q64 hi']at hd hd2
  simp only at hd hd2
  have hpl:(pre++done).length=j+i:=by simp[hj,hdl]
  rw[List.drop_eq_getElem_cons hi']
  generalize hww:w[i]=wi at *
  have hlt:j+i<((pre++done)++wi::(w.drop (i+1)++post)).length:=by simp;omega
  have hget:=Qqp hpl hlt
  simp+decide (disch:=first|omega|rfl|(simp+decide only[go_sem,↓reduceIte,h0,h1,h2,h7,h8,h12,h13,List.cons_append,hget]<;>rfl)|fail) only[go_sem,↓reduceIte,h0,h1,h2,h7,h8,h12,h13,List.cons_append,hget]
  refine Qjl (fun fr hp=>c+q*v.getD i 0<=4294967295/\fr 0= .mso 1000000 j m/\fr 1=PV.nat v/\fr 2= .int .u32 q/\fr 7= .int .u32 (c+q*v.getD i 0:Nat)/\fr 8= .int .i32 (b:Nat)/\fr 9= .int .i64 i/\fr 12= .int .i64 m/\fr 13= .int .i64 i/\hp=Qn hp0 1000000 ⟨1,191,Qa5 ((pre++done)++wi::(w.drop (i+1)++post)),false⟩) ?_ ?_
  ·refine Qb (fun hqv=> ?_) (fun hqv=> ?_)
   ·have hq':i<v.length:=by omega
    have hvi:=Qap hv hq'
    have hqv:=Qfs hq hvi
    simp+decide (disch:=first|omega|rfl|(simp+decide only[go_sem,↓reduceIte,h0,h1,h2,h7,h8,h12,h13,Qbn hq',true_and,and_true]<;>rfl)|fail) only[go_sem,↓reduceIte,h0,h1,h2,h7,h8,h12,h13,Qbn hq',true_and,and_true]
    omega
   ·simp+decide (disch:=first|omega|rfl|(simp+decide only[go_sem,↓reduceIte,h0,h1,h2,h7,h8,h12,h13,true_and,and_true,Qbo (by omega:¬i<v.length),Nat.mul_zero,Nat.add_zero]<;>rfl)|fail) only[go_sem,↓reduceIte,h0,h1,h2,h7,h8,h12,h13,true_and,and_true,Qbo (by omega:¬i<v.length),Nat.mul_zero,Nat.add_zero]
    omega
  clear h0 h1 h2 h7 h8 h12 h13
  rintro fr _ ⟨hc1,h0,h1,h2,h7,h8,h9,h12,h13,rfl⟩
  generalize c+q*v.getD i 0=c1 at *
  simp+decide (disch:=first|exact D9 h0 h1 h2 h7 h8 h9 h12 h13 hget|fail) only[go_sem,↓reduceIte,h0,h1,h2,h7,h8,h9,h12,h13,hget]
  refine Qjl (fun fr hp=>fr 0= .mso 1000000 j m/\fr 1=PV.nat v/\fr 2= .int .u32 q/\fr 7= .int .u32 (c1/65536:Nat)/\fr 8= .int .i32 ((if wi<c1%65536+b then 1 else 0):Nat)/\fr 9= .int .i64 i/\fr 10= .int .i32 ((wi+65536-c1%65536-b)%65536:Nat)/\fr 12= .int .i64 m/\fr 13= .int .i64 i/\hp=Qn hp0 1000000 ⟨1,191,Qa5 ((pre++done)++wi::(w.drop (i+1)++post)),false⟩) ?_ ?_
  ·refine Qb (fun hq=> ?_) (fun hq=> ?_)
   ·rw[if_pos (by omega)]
    simp+decide (disch:=first|exact D10 h0 h1 h2 h7 h8 h9 h12 h13 true_and and_true|fail) only[go_sem,↓reduceIte,h0,h1,h2,h7,h8,h9,h12,h13,true_and,and_true]
    simp;omega
   ·rw[if_neg (by omega)]
    simp+decide (disch:=first|exact D10 h0 h1 h2 h7 h8 h9 h12 h13 true_and and_true|fail) only[go_sem,↓reduceIte,h0,h1,h2,h7,h8,h9,h12,h13,true_and,and_true]
    simp;omega
  clear h0 h1 h2 h7 h8 h9 h12 h13
  rintro fr _ ⟨h0,h1,h2,h7,h8,h9,h10,h12,h13,rfl⟩
  simp+decide (disch:=first|omega|rfl|(simp+decide only[go_sem,↓reduceIte,h0,h1,h2,h7,h8,h9,h10,h12,h13,Qb9]<;>rfl)|fail) only[go_sem,↓reduceIte,h0,h1,h2,h7,h8,h9,h10,h12,h13,Qb9]
  refine Qb8 (m:=w.length-(i+1)) (by omega) ⟨i+1,c1/65536,_,_,rfl,by omega,by omega,?_,?_,(List.append_cons ..).symm.trans hd,hd2,?_⟩
  ·split<;>omega
  ·simp[hdl]
  ·simp+decide (disch:=first|omega|rfl|(simp+decide only[go_sem,↓reduceIte,h0,h1,h2,h7,h8,h9,h10,h12,h13,true_and,and_true,Qb9,Nat.mod_mod]<;>rfl)|fail) only[go_sem,↓reduceIte,h0,h1,h2,h7,h8,h9,h10,h12,h13,true_and,and_true,Qb9,Nat.mod_mod]
   simp
 ·obtain rfl:i=w.length:=by omega
  rw[List.drop_of_length_le (Nat.le_refl _),Qc7]at hd hd2
  simp only[List.append_nil]at hd
  simp+decide (disch:=first|exact D1 h8|fail) only[go_sem,↓reduceIte,h8]
  refine Q65 (p:= .bool (decide (0<(b:Int)))) rfl (Qfa _) ?_ T0 rfl ⟨?_,?_⟩
  ·simp[hdl]
  ·rw[<-hd2];simp
  ·rw[List.drop_of_length_le (Nat.le_refl _),hd];simp
end Go.Proofs.YtonfajmchebkeaaGreat
namespace Go.Proofs.YtonfajmchebkeaaGreat
open Go Go.FW
set_option linter.unusedSimpArgs false
set_option linter.unusedVariables false
set_option maxRecDepth 100000
theorem Qxr{v u:List Nat}{dg n r j:Nat}(hv:Qh v)(hu:Qh u)(hn:2<=n)(hnv:n=v.length)(hju:j+n<u.length)(hd:dg<4294967296)(hr:r<65536)(hul:u.length<2^43):
  Qd Tryz.prog 260 [.pt [.int .u64 dg],.pt [PV.nat v],.pt [.int .i64 n],.pt [.int .u64 r],.pt [PV.nat u],.pt [.int .i64 j]]
   (· = .bool (decide (65536<=dg∨r*65536+u.getD (j+n-2) 0<dg*v.getD (n-2) 0))):=by
 have h1:n-2<v.length:=by omega
 have h2:j+n-2<u.length:=by omega
 have hv1:=Qap hv h1
 have hu1:=Qap hu h2
 rw[Qbn h1,Qbn h2]
 refine Qf Qk Tryz.func260 rfl Qagh (by simp[c260]) fun C hP=> ?_;simp only[c260,Zo,Zg,Zm,Zc,Zf,Zl,Zh,Zs,Zi,Zb,Zk,Zn,Zu,Zq,Zr,Zz]
 simp+decide (disch:=first|exact D0|fail) only[go_sem,↓reduceIte]
 refine Qaa (fun hz=> ?_) (fun hz=> ?_)
 ·simp+decide (disch:=first|exact D0|fail) only[go_sem,↓reduceIte]
  exact Qc (by simp;omega) rfl
 ·have hd':dg<65536:=by omega
  have e1:(n:Int)-2=((n-2:Nat):Int):=by omega
  have e2:((j+n:Nat):Int)-2=((j+n-2:Nat):Int):=by omega
  generalize hvv:v[n-2]=vi at *
  generalize huu:u[j+n-2]=ui at *
  have hm:=Qfs hd' hv1
  simp+decide (disch:=first|omega|rfl|(simp+decide only[go_sem,↓reduceIte,e1,e2,hvv,huu,Qly,Qnx]<;>rfl)|fail) only[go_sem,↓reduceIte,e1,e2,hvv,huu,Qly,Qnx]
  exact Qc (congrArg PV.bool (decide_eq_decide.2 ⟨fun h=> .inr (by omega),fun h=>by rcases h with h|h<;>omega⟩)) rfl
end Go.Proofs.YtonfajmchebkeaaGreat
namespace Go.Proofs.YtonfajmchebkeaaGreat
open Go Go.FW
set_option linter.unusedSimpArgs false
set_option linter.unusedVariables false
set_option maxRecDepth 100000
theorem Q4n{l post:List Nat}(hv:Qh l)(hl:(l++post).length<2^43)(hlen:0<l.length):
  Qko Tryz.prog 240 [.mso B0 0 l.length] 191 (Qa5 (l++post)) (fun r xs'=>r= .mso B0 0 (nl (val l))/\xs'=Qa5 (l++post)):=by
 simp only[List.length_append]at hl
 have hlen2:l.length<=(l++post).length:=by simp
 refine Qlw Qk Tryz.func240 rfl Q2o (by simp[Qzs]) fun C hP=> ?_;simp only[Qzs,Zo,Zg,Zm,Zc,Zf,Zl,Zh,Zs,Zi,Zb,Zk,Zn,Zu,Zq,Zr,Zz]
 simp+decide (disch:=first|exact D0|fail) only[go_sem,↓reduceIte]
 refine Qe8 (fun m fr hp=>m<=l.length/\cut l m=dig (val l)/\fr 0= .mso 1000000 0 l.length/\fr 3= .int .i64 m/\hp=Qn hp0 1000000 ⟨1,191,Qa5 (l++post),false⟩) l.length ?_ ?_
 ·exact⟨Nat.le_refl _,Qmx hv,rfl,rfl,rfl⟩
 rintro n fr _ ⟨hn,hc,h0,h3,rfl⟩
 simp+decide (disch:=first|exact D2 h0 h3|fail) only[go_sem,↓reduceIte,h0,h3]
 refine Qan (fun hg=> ?_) (fun hg=> ?_)
 ·obtain _|n:=n
  ·omega
  have e:((n+1:Nat):Int)-1=n:=by omega
  have hlt:n<(l++post).length:=by simp;omega
  have hget:(l++post)[n]=l[n]:=by simp[List.getElem_append,show n<l.length by omega]
  simp+decide (disch:=first|exact D4 h0 h3 e hget|fail) only[go_sem,↓reduceIte,h0,h3,e,hget]
  simp only[cut]at hc
  refine Qb (fun hz=> ?_) (fun hz=> ?_)
  ·rw[if_pos (by grind)]at hc
   simp+decide (disch:=first|exact D3 h0 h3 e|fail) only[go_sem,↓reduceIte,h0,h3,e]
   refine Qb8 (m:=n) (by omega) ⟨by omega,hc,?_⟩
   simp+decide (disch:=first|exact D3 h0 true_and and_true|fail) only[go_sem,↓reduceIte,h0,true_and,and_true]
  ·rw[if_neg (by grind)]at hc
   have hnl:nl (val l)=n+1:=by rw[nl,<-hc];simp;omega
   simp+decide (disch:=first|exact D2 h0 h3|fail) only[go_sem,↓reduceIte,h0,h3]
   exact Q2d rfl (Qfa _) (by simp) (T1 hnl) ⟨rfl,rfl⟩
 ·obtain rfl:n=0:=by omega
  have hnl:nl (val l)=0:=by rw[nl,<-hc,cut];rfl
  simp+decide (disch:=first|exact D2 h0 h3|fail) only[go_sem,↓reduceIte,h0,h3]
  exact Q2d rfl (Qfa _) (by simp) (T1 hnl) ⟨rfl,rfl⟩
end Go.Proofs.YtonfajmchebkeaaGreat
namespace Go.Proofs.YtonfajmchebkeaaGreat
open Go Go.FW
set_option linter.unusedSimpArgs false
set_option linter.unusedVariables false
set_option maxRecDepth 100000
theorem Qmi{a:List Nat}{s:Nat}(ha:Qh a)(hla:a.length<2^40)(hs:s<=15)(hne:val a≠0):Qm0 Tryz.prog 251 [PV.nat a,.int .i64 s] 191 (fun ys=>ys=Qa5 (dig (val a*2^s))):=by
 have hda:=Qar ha
 unfold nl at hda
 have hnz:(dig (val a)).length≠0:=by
  intro h;exact hne (Qb3.1 (Qc6 h))
 refine Q61 Qk Tryz.func251 rfl Qvi (by simp[Qse]) fun C hP=> ?_;simp only[Qse,Zo,Zg,Zm,Zc,Zf,Zl,Zh,Zs,Zi,Zb,Zk,Zn,Zu,Zq,Zr,Zz]
 simp+decide (disch:=first|exact D0|fail) only[go_sem,↓reduceIte]
 refine Qa hP (Qa7 ha (by omega)) rfl rfl rfl ?_
 simp+decide (disch:=first|exact D0|fail) only[go_sem,↓reduceIte]
 generalize val a=x at *
 have hxl:=Qj x
 have e1:s/16=0:=Nat.div_eq_of_lt (by omega)
 have e2:s%16=s:=Nat.mod_eq_of_lt (by omega)
 refine Qaa (fun hz=>by omega) (fun hz=> ?_)
 simp+decide (disch:=first|exact D0|fail) only[go_sem,↓reduceIte]
 refine Qaa (fun hz=>by omega) (fun hz=> ?_)
 simp+decide (disch:=first|exact D0|fail) only[go_sem,↓reduceIte]
 refine Qb (fun hz=>by omega) (fun hz=> ?_)
 simp+decide (disch:=first|exact D0|fail) only[go_sem,↓reduceIte]
 refine Qb (fun hz=>by omega) (fun hz=> ?_)
 simp+decide (disch:=first|omega|rfl|(simp+decide only[go_sem,↓reduceIte,Ql0,Ql1,e1,e2]<;>rfl)|fail) only[go_sem,↓reduceIte,Ql0,Ql1,e1,e2]
 refine Qe8 (fun k fr hp=>∃i c done,k=(dig x).length-i/\i<=(dig x).length/\c<2^s/\done.length=i/\done++Qip s ((dig x).drop i) c=Qip s (dig x) 0/\
  fr 5= .int .i64 (0:Nat)/\fr 6= .int .i64 s/\fr 7= .ms 44 ((dig x).length+1)/\fr 45=PV.num x/\fr 46= .int .i64 (dig x).length/\fr 47= .int .i64 i/\
  hp=Qn hp0 44 ⟨1,191,Qa5 (done++c::List.replicate ((dig x).length-i) 0),false⟩) (dig x).length ?_ ?_
 ·refine⟨0,0,[],rfl,by omega,Nat.pow_pos (by omega),rfl,rfl,?_⟩
  simp+decide (disch:=first|omega|rfl|(simp+decide only[go_sem,↓reduceIte,true_and,and_true,List.nil_append,Nat.sub_zero]<;>rfl)|fail) only[go_sem,↓reduceIte,true_and,and_true,List.nil_append,Nat.sub_zero]
  simp[List.replicate_succ]
 rintro _ fr _ ⟨i,c,done,rfl,hi,hc,hdl,hd,h5,h6,h7,h45,h46,h47,rfl⟩
 simp+decide (disch:=first|exact D3 h45 h46 h47|fail) only[go_sem,↓reduceIte,h45,h46,h47]
 have hp15:2^s<=2^15:=Nat.pow_le_pow_right (by omega) hs
 refine Qb (fun hg=> ?_) (fun hg=> ?_)
 ·have hi':i<(dig x).length:=by omega
  have hxi:=Qap hxl hi'
  rw[List.drop_eq_getElem_cons hi',Qip]at hd
  generalize hxx:(dig x)[i]=xi at *
  obtain⟨z,hz⟩:∃z,(dig x).length-i=z+1:=⟨(dig x).length-i-1,by omega⟩
  have hlt:i<(done++c::List.replicate (z+1) 0).length:=by simp;omega
  have hget:=Qqp hdl hlt
  have hsp:=Qy8 (x:=xi) (show s<=16 by omega) hc
  have hcl:=Qwf (show s<=16 by omega) hxi
  have hl:=Qakz hs hxi
  simp+decide (disch:=first|omega|rfl|(simp+decide only[go_sem,↓reduceIte,h5,h6,h7,h45,h46,h47,hxx,hz,hget,Qu6,Q67,hsp.2,Qb9]<;>rfl)|fail) only[go_sem,↓reduceIte,h5,h6,h7,h45,h46,h47,hxx,hz,hget,Qu6,Q67,hsp.2,Qb9]
  have hset:∀v u,(done++v::List.replicate (z+1) 0).set (i+1) u=(done++[v])++u::List.replicate z 0:=fun v u=>by
   rw[List.append_cons,List.replicate_succ,Qb9 (by simp[hdl])]
  rw[Q6u (by simp;omega),hset,Nat.mod_eq_of_lt (by omega:xi*2^s/65536<65536)]
  simp+decide (disch:=first|exact D6 h5 h6 h7 h45 h46 h47|fail) only[go_sem,↓reduceIte,h5,h6,h7,h45,h46,h47]
  refine Qb8 (m:=(dig x).length-(i+1)) (by omega) ⟨i+1,xi*2^s/65536,done++[xi*2^s%65536+c],rfl,by omega,hcl,by simp[hdl],(List.append_cons ..).symm.trans hd,?_⟩
  simp+decide (disch:=first|exact D8 h5 h6 h7 h45 h46 h47 true_and and_true|fail) only[go_sem,↓reduceIte,h5,h6,h7,h45,h46,h47,true_and,and_true]
  rw[show(dig x).length-(i+1)=z by omega]
 ·obtain rfl:i=(dig x).length:=by omega
  rw[List.drop_of_length_le (Nat.le_refl _),Qip]at hd
  have hlim:=Qtk hs (dig x) 0 hxl (Nat.pow_pos (by omega))
  have hvs:=Qy7 s (dig x) 0
  have hln:=Qrd s (dig x) 0
  rw[Q2,Nat.add_zero]at hvs
  rw[<-hd]at hlim hvs hln
  have hnz2:x*2^s≠0:=Nat.mul_ne_zero hne (Nat.ne_of_gt (Nat.pow_pos (by omega)))
  simp+decide (disch:=first|omega|rfl|(simp+decide only[go_sem,↓reduceIte,h7,Nat.sub_self,List.replicate_zero]<;>rfl)|fail) only[go_sem,↓reduceIte,h7,Nat.sub_self,List.replicate_zero]
  have ht:=Q4n (l:=done++[c]) (post:=[]) hlim (by simp[hdl];omega) (by simp)
  rw[List.append_nil,hvs]at ht
  refine Qtf hP ht (β:=44) T0 (Qfa _) (by simp) (by simp[toB,hln]) rfl ?_
  rintro r xs' _ _ ⟨rfl,rfl⟩
  simp+decide (disch:=first|omega|rfl|(simp+decide only[go_sem,↓reduceIte,Qgy]<;>rfl)|fail) only[go_sem,↓reduceIte,Qgy]
  refine⟨4,44,nl (x*2^s),_,rfl,by simp+decide (disch:=first|exact D0|fail) only[go_sem,↓reduceIte],rfl,by simp+decide (disch:=first|exact D0|fail) only[go_sem,↓reduceIte];rfl,Qfa _,?_,?_⟩
  ·have:= @Qgw (x*2^s);omega
  ·rw[<-hvs,<-List.map_take,Qaaf hlim]
end Go.Proofs.YtonfajmchebkeaaGreat
namespace Go.Proofs.YtonfajmchebkeaaGreat
open Go Go.FW
set_option linter.unusedSimpArgs false
set_option linter.unusedVariables false
set_option maxRecDepth 100000
theorem Q4o{a:List Nat}{s:Nat}(ha:Qh a)(hla:a.length<2^42)(hs:s<=15):Qd Tryz.prog 259 [PV.nat a,.int .i64 s] (· =PV.num (val a/2^s)):=by
 have e1:s/16=0:=Nat.div_eq_of_lt (by omega)
 have e2:s%16=s:=Nat.mod_eq_of_lt (by omega)
 refine Qf Qk Tryz.func259 rfl Qagl (by simp[c259]) fun C hP=> ?_;simp only[c259,Zo,Zg,Zm,Zc,Zf,Zl,Zh,Zs,Zi,Zb,Zk,Zn,Zu,Zq,Zr,Zz]
 simp+decide (disch:=first|omega|rfl|(simp+decide only[go_sem,↓reduceIte,Ql0,Ql1,e1,e2]<;>rfl)|fail) only[go_sem,↓reduceIte,Ql0,Ql1,e1,e2]
 refine Qb (fun hz=> ?_) (fun hz=> ?_)
 ·have:a=[]:=List.length_eq_zero_iff.1 (by omega)
  subst this
  simp+decide (disch:=first|exact D0|fail) only[go_sem,↓reduceIte]
  exact Qev (Qmz (by simp[val])) rfl
 have e3:((a.length:Int)-((0:Nat):Int))=((a.length:Nat):Int):=by omega
 simp+decide (disch:=first|exact D1 e3|fail) only[go_sem,↓reduceIte,e3]
 refine Q6 (by repeat (first|exact Qx|exact Qp|exact Qq|exact Qr|exact Qt|apply Qo|apply Qw|apply Q4|apply Qac|apply Qad|apply Qm)) [(8,9),(25,60)] [] (fun k J hp=>∃i done,k=a.length-i/\i<=a.length/\done.length=i/\done++Qh4 s (a.drop i)=Qh4 s a/\J 25= .int .i64 i/\
  hp=Qn hp0 22 ⟨1,191,Qa5 (done++List.replicate (a.length-i) 0),false⟩) a.length ?_ ?_
 ·refine⟨0,[],rfl,by omega,rfl,rfl,?_⟩
  simp+decide (disch:=first|omega|rfl|(simp+decide only[go_sem,↓reduceIte,true_and,and_true,List.nil_append,Nat.sub_zero]<;>rfl)|fail) only[go_sem,↓reduceIte,true_and,and_true,List.nil_append,Nat.sub_zero]
  simp
 rintro _ J _ ⟨i,done,rfl,hi,hdl,hd,h25,rfl⟩
 simp+decide (disch:=first|exact D1 h25|fail) only[go_sem,↓reduceIte,h25]
 refine Qb (fun hg=> ?_) (fun hg=> ?_)
 ·have hi':i<a.length:=by omega
  have hai:=Qap ha hi'
  rw[Q7b hi']at hd
  generalize hxx:a[i]=xi at *
  have hlen:=Qr8 (n:=a.length-i) hdl (by omega:_=a.length)
  simp+decide (disch:=first|exact D2 h25 hxx|fail) only[go_sem,↓reduceIte,h25,hxx]
  refine Qb (fun hq=> ?_) (fun hq=> ?_)
  ·have hq':i+1<a.length:=by omega
   have haj:=Qap ha hq'
   rw[Qbn hq']at hd
   simp+decide (disch:=first|omega|rfl|(simp+decide only[go_sem,↓reduceIte,h25,Qlz,Qwe,Qqr]<;>rfl)|fail) only[go_sem,↓reduceIte,h25,Qlz,Qwe,Qqr]
   refine Qi (a.length-(i+1)) (by omega) ⟨i+1,_,rfl,by omega,by simp[hdl],(List.append_cons ..).symm.trans hd,?_⟩
   simp+decide (disch:=first|omega|rfl|(simp+decide only[go_sem,↓reduceIte,h25,true_and,and_true,Qe9,Nat.sub_sub]<;>rfl)|fail) only[go_sem,↓reduceIte,h25,true_and,and_true,Qe9,Nat.sub_sub]
  ·rw[Qbo (by omega),Nat.zero_mul,Nat.zero_add]at hd
   simp+decide (disch:=first|omega|rfl|(simp+decide only[go_sem,↓reduceIte,h25,Qqr]<;>rfl)|fail) only[go_sem,↓reduceIte,h25,Qqr]
   refine Qi (a.length-(i+1)) (by omega) ⟨i+1,_,rfl,by omega,by simp[hdl],(List.append_cons ..).symm.trans hd,?_⟩
   simp+decide (disch:=first|omega|rfl|(simp+decide only[go_sem,↓reduceIte,h25,true_and,and_true,Qe9,Nat.sub_sub]<;>rfl)|fail) only[go_sem,↓reduceIte,h25,true_and,and_true,Qe9,Nat.sub_sub]
 ·obtain rfl:i=a.length:=by omega
  rw[List.drop_of_length_le (Nat.le_refl _),Qh4,List.append_nil]at hd
  simp+decide (disch:=first|omega|rfl|(simp+decide only[go_sem,↓reduceIte,Nat.sub_self,List.replicate_zero,List.append_nil]<;>rfl)|fail) only[go_sem,↓reduceIte,Nat.sub_self,List.replicate_zero,List.append_nil]
  rw[hd]
  refine Qgl hP (Qa7 (Qtl s a) (by rw[Qmh];exact hla)) (Qk8 rfl (Qmh s a).symm) rfl fun hp'=> ?_
  simp+decide (disch:=first|exact D0|fail) only[go_sem,↓reduceIte]
  exact Qc (by rw[Qza (by omega) a ha]) rfl
theorem Q1e{x V d q:Nat}(hd:0<d)(h:q=V/d):(V%d*65536+x)/d+65536*q=(x+65536*V)/d/\(V%d*65536+x)%d=(x+65536*V)%d:=by
 subst h
 have e:x+65536*V=(V%d*65536+x)+d*(65536*(V/d)):=by
  have:=Nat.div_add_mod V d
  calc x+65536*V=x+65536*(d*(V/d)+V%d):=by rw[this]
   _=_:=by rw[Nat.mul_add,Nat.mul_left_comm];omega
 rw[e,Nat.add_mul_div_left _ _ hd,Nat.add_mul_mod_self_left]
 exact⟨rfl,rfl⟩
theorem Q1f{a:List Nat}{d:Nat}(ha:Qh a)(hla:a.length<2^42)(hd:0<d)(hd2:d<65536):Qd Tryz.prog 249 [PV.nat a,.int .u16 d] (· = .tup [PV.num (val a/d),.int .u16 (val a%d:Nat)]):=by
 refine Qf Qk Tryz.func249 rfl Qagf (by simp[c249]) fun C hP=> ?_;simp only[c249,Zo,Zg,Zm,Zc,Zf,Zl,Zh,Zs,Zi,Zb,Zk,Zn,Zu,Zq,Zr,Zz]
 simp+decide (disch:=first|exact D0|fail) only[go_sem,↓reduceIte]
 refine Q6 (by repeat (first|exact Qx|exact Qp|exact Qq|exact Qr|exact Qt|apply Qo|apply Qw|apply Q4|apply Qac|apply Qad|apply Qm)) [(7,8),(15,38)] [] (fun k J hp=>∃qs,k<=a.length/\qs.length=a.length-k/\Qh qs/\val qs=val (a.drop k)/d/\J 7= .int .u32 (val (a.drop k)%d:Nat)/\J 8= .int .i64 ((k:Int)-1)/\
  hp=Qn hp0 11 ⟨1,191,Qa5 (List.replicate k 0++qs),false⟩) a.length ?_ ?_
 ·refine⟨[],Nat.le_refl _,by simp,Qcx,by simp[val],?_⟩
  simp+decide (disch:=first|exact D2 true_and and_true|fail) only[go_sem,↓reduceIte,true_and,and_true]
  simp[val]
 rintro k J _ ⟨qs,hk,hql,hqs,hv,h7,h8,rfl⟩
 simp+decide (disch:=first|exact D2 h7 h8|fail) only[go_sem,↓reduceIte,h7,h8]
 have hr:=Nat.mod_lt (val (a.drop k)) hd
 refine Qb (fun hg=> ?_) (fun hg=> ?_)
 ·obtain _|n:=k
  ·omega
  have hn:n<a.length:=by omega
  have han:=Qap ha hn
  have e:((n+1:Nat):Int)-1=n:=by omega
  have hst:=Q1e (x:=a[n]) hd hv
  rw[<-Qcw hn]at hst
  have hlt:(val (a.drop (n+1))%d*65536+a[n])/d<65536:=by
   rw[Nat.div_lt_iff_lt_mul hd]
   have:(val (a.drop (n+1))%d+1)*65536<=d*65536:=Nat.mul_le_mul_right _ hr
   omega
  generalize hxx:a[n]=xn at *
  generalize val (a.drop (n+1))%d=r at *
  have hlen:n<(List.replicate (n+1) 0++qs).length:=by simp;omega
  simp+decide (disch:=first|omega|rfl|(simp+decide only[go_sem,↓reduceIte,h7,h8,e,hxx,Qlz,Qy6,Q2e,Qef]<;>rfl)|fail) only[go_sem,↓reduceIte,h7,h8,e,hxx,Qlz,Qy6,Q2e,Qef]
  refine Qi n (by omega) ⟨(r*65536+xn)/d::qs,by omega,?_,?_,?_,?_⟩
  ·simp;omega
  ·rw[Qa0];exact⟨hlt,hqs⟩
  ·rw[val,hst.1]
  ·simp+decide (disch:=first|exact D5 h7 h8 true_and and_true hst.2|fail) only[go_sem,↓reduceIte,h7,h8,true_and,and_true,hst.2]
   rw[Nat.mod_eq_of_lt hlt,List.replicate_succ',List.append_assoc,List.singleton_append,Qb9 (by simp)]
 ·obtain rfl:k=0:=by omega
  rw[List.drop_zero]at hv h7
  have hlt:=Nat.mod_lt (val a) hd
  simp+decide (disch:=first|omega|rfl|(simp+decide only[go_sem,↓reduceIte,h7,h8,List.replicate_zero,List.nil_append]<;>rfl)|fail) only[go_sem,↓reduceIte,h7,h8,List.replicate_zero,List.nil_append]
  refine Qgl hP (Qa7 hqs (by omega)) (Qk8 rfl (by omega)) rfl fun hp'=> ?_
  simp+decide (disch:=first|exact D1 h7|fail) only[go_sem,↓reduceIte,h7]
  refine Qc5 rfl rfl rfl (Qgm (by rw[hv])) (Qgm ?_)
  rw[Nat.mod_eq_of_lt (by omega)]
end Go.Proofs.YtonfajmchebkeaaGreat
namespace Go.Proofs.YtonfajmchebkeaaGreat
open Go Go.FW
set_option linter.unusedSimpArgs false
set_option linter.unusedVariables false
set_option maxRecDepth 100000
theorem Qtw{x:Nat}(h:x<65536):Qd Tryz.prog 254 [.int .u16 x] (· = .int .i64 (Lib.bitLen x:Nat)):=
 Q09 (by simp[Qnr];exact⟨rfl,by decide⟩) (fun w=>Q1g x w (by omega) (by omega)) (fun _ _=>Qv.int _ _)
theorem Qmj{x:Nat}(h:x<65536):Lib.bitLen x<=16:=Lib.bitLen_le x 16 (by omega) (by omega)
theorem Qoj{x:Nat}(h:x<65536)(h0:x≠0):1<=Lib.bitLen x:=by
 have:=Lib.bitLen_half x h0 (by omega);omega
theorem Q1h:Lib.bitLen 0=0:=by decide
theorem Q4p:∀(n x:Nat),Lib.bitLen x=n->x≠0->x<65536->2^n<=2*x/\x<2^n:=by
 intro n
 induction n with
 |zero=>intro x h h0 hx;have:=Qoj hx h0;omega
 | succ n ih=>
  intro x h h0 hx
  have e:=Lib.bitLen_half x h0 (by omega)
  by_cases h2:x/2=0
  ·have:x=1:=by omega
   subst this
   have:n=0:=by rw[h]at e;simp[Q1h]at e;exact e
   subst this;simp
  ·have:=ih (x/2) (by omega) h2 (by omega)
   rw[Nat.pow_succ];omega
theorem Qpb{x:Nat}(h:x<65536):Qd Tryz.prog 250 [.int .u16 x] (· = .int .i64 (16-Lib.bitLen x:Nat)):=by
 have:=Qmj h
 refine Qf Qk Tryz.func250 rfl Qagm (by simp[c250]) fun C hP=> ?_;simp only[c250,Zo,Zg,Zm,Zc,Zf,Zl,Zh,Zs,Zi,Zb,Zk,Zn,Zu,Zq,Zr,Zz]
 simp+decide (disch:=first|exact D0|fail) only[go_sem,↓reduceIte]
 refine Qa hP (Qtw h) rfl rfl rfl ?_
 simp+decide (disch:=first|exact D0|fail) only[go_sem,↓reduceIte]
 exact Qc (by congr 1;omega) rfl
theorem Qwr{a:List Nat}(ha:Qh a)(hla:a.length<2^40):Qd Tryz.prog 237 [PV.nat a] (fun r=>∃n:Nat,r= .int .i64 n/\(n=0↔val a=0)):=by
 have hd:=Qar ha
 unfold nl at hd
 refine Qf Qk Tryz.func237 rfl Qaga (by simp[c237]) fun C hP=> ?_;simp only[c237,Zo,Zg,Zm,Zc,Zf,Zl,Zh,Zs,Zi,Zb,Zk,Zn,Zu,Zq,Zr,Zz]
 simp+decide (disch:=first|exact D0|fail) only[go_sem,↓reduceIte]
 refine Qa hP (Qa7 ha (by omega)) rfl rfl rfl ?_
 simp+decide (disch:=first|exact D0|fail) only[go_sem,↓reduceIte]
 refine Qb (fun hz=> ?_) (fun hz=> ?_)
 ·simp+decide (disch:=first|exact D0|fail) only[go_sem,↓reduceIte]
  have:val a=0:=Qb3.1 (List.length_eq_zero_iff.1 (by omega))
  exact⟨rfl,_,Qz _,0,rfl,by simp[this]⟩
 ·have hne:val a≠0:=fun h=>by rw[h,Qa6]at hz;simp at hz
  have hlast:=Qr7 (val a)
  have hlx:=Qj (val a)
  generalize val a=x at *
  obtain⟨k,hk⟩:∃k,(dig x).length=k+1:=⟨(dig x).length-1,by omega⟩
  have hlt:k<(dig x).length:=by omega
  have hxk:=Qap hlx hlt
  have hnz:(dig x)[k]≠0:=by
   intro h;apply hlast
   rw[List.getLast?_eq_getElem?,hk,Nat.add_sub_cancel,List.getElem?_eq_getElem hlt,h]
  have e:((k+1:Nat):Int)-1=k:=by omega
  generalize hxx:(dig x)[k]=xi at *
  have hb:=Qmj hxk
  have hb1:=Qoj hxk hnz
  simp+decide (disch:=first|exact D3 hk e hxx|fail) only[go_sem,↓reduceIte,hk,e,hxx]
  refine Qa hP (Qtw hxk) rfl rfl rfl ?_
  have e2:(16:Int)*(k:Int)=((16*k:Nat):Int):=by omega
  simp+decide (disch:=first|exact D1 e2|fail) only[go_sem,↓reduceIte,e2]
  exact⟨rfl,_,Qz _,16*k+Lib.bitLen xi,rfl,by omega⟩
theorem Qan7(i:Nat):2^(16*i)=65536^i:=by rw[Nat.pow_mul]
theorem Qpv{a:List Nat}(ha:Qh a)(hla:a.length<2^40):Qd Tryz.prog 232 [PV.nat a] (· =if nl (val a)<=4 then .tup [.int .u64 (val a),.bool true]else .tup [.int .u64 0,.bool false]):=by
 have hd:=Qar ha
 unfold nl at hd
 refine Qf Qk Tryz.func232 rfl Qaf9 (by simp[c232]) fun C hP=> ?_;simp only[c232,Zo,Zg,Zm,Zc,Zf,Zl,Zh,Zs,Zi,Zb,Zk,Zn,Zu,Zq,Zr,Zz]
 simp+decide (disch:=first|exact D0|fail) only[go_sem,↓reduceIte]
 refine Qa hP (Qa7 ha (by omega)) rfl rfl rfl ?_
 simp+decide (disch:=first|exact D0|fail) only[go_sem,↓reduceIte]
 have hlx:=Qj (val a)
 have Qco:=Q2 (val a)
 unfold nl
 generalize val a=x at *
 refine Qb (fun hz=> ?_) (fun hz=> ?_)
 ·simp+decide (disch:=first|exact D0|fail) only[go_sem,↓reduceIte]
  rw[if_neg (by omega)]
  exact Qc5 rfl rfl rfl (Qz _) (Qz _)
 ·simp+decide (disch:=first|exact D0|fail) only[go_sem,↓reduceIte]
  rw[if_pos (by omega)]
  refine Q6 (by repeat (first|exact Qx|exact Qp|exact Qq|exact Qr|exact Qt|apply Qo|apply Qw|apply Q4|apply Qac|apply Qad|apply Qm)) [(4,6),(14,26)] [] (fun k J hp=>∃i,k=(dig x).length-i/\i<=(dig x).length/\J 14= .int .i64 i/\J 4= .int .u64 (val ((dig x).take i))/\hp=hp0) (dig x).length ?_ ?_
  ·refine⟨0,rfl,by omega,?_⟩
   simp+decide (disch:=first|omega|rfl|(simp+decide only[go_sem,↓reduceIte,true_and,and_true,List.take_zero]<;>rfl)|fail) only[go_sem,↓reduceIte,true_and,and_true,List.take_zero]
   simp[val]
  rintro _ J _ ⟨i,rfl,hi,h14,h4,rfl⟩
  simp+decide (disch:=first|exact D2 h14 h4|fail) only[go_sem,↓reduceIte,h14,h4]
  refine Qb (fun hg=> ?_) (fun hg=> ?_)
  ·have hi':i<(dig x).length:=by omega
   have hxi:=Qap hlx hi'
   have hts:=Qf5 hi'
   have hvt:=Qeb hlx i (by omega)
   generalize hxx:(dig x)[i]=xi at *
   have e2:(16:Int)*(i:Int)=((16*i:Nat):Int):=by omega
   have hb:xi*2^(16*i)+2^(16*i)<=18446744073709551616:=by
    have h3:2^(16*i)<=2^48:=Nat.pow_le_pow_right (by omega) (by omega)
    have:(xi+1)*2^(16*i)<=65536*2^48:=Nat.mul_le_mul (by omega) h3
    rw[Nat.add_mul]at this;omega
   have hpp:0<2^(16*i):=Nat.pow_pos (by omega)
   rw[<-Qan7]at hts hvt
   have hor:(val ((dig x).take i)|||xi*2^(16*i))=val ((dig x).take (i+1)):=by
    rw[Nat.or_comm,Qpo hvt,hts,Nat.mul_comm,Nat.add_comm]
   simp+decide (disch:=first|omega|rfl|(simp+decide only[go_sem,↓reduceIte,h14,h4,hxx,e2,Qu5,Qy5,hor]<;>rfl)|fail) only[go_sem,↓reduceIte,h14,h4,hxx,e2,Qu5,Qy5,hor]
   refine Qi ((dig x).length-(i+1)) (by omega) ⟨i+1,rfl,by omega,?_⟩
   simp+decide (disch:=first|exact D3 h14 true_and and_true|fail) only[go_sem,↓reduceIte,h14,true_and,and_true]
  ·obtain rfl:i=(dig x).length:=by omega
   rw[List.take_length,Qco]at h4
   simp+decide (disch:=first|exact D1 h4|fail) only[go_sem,↓reduceIte,h4]
   exact Qc5 rfl rfl rfl (Qz _) (Qz _)
end Go.Proofs.YtonfajmchebkeaaGreat
namespace Go.Proofs.YtonfajmchebkeaaGreat
open Go Go.FW
set_option linter.unusedSimpArgs false
set_option linter.unusedVariables false
set_option maxRecDepth 100000
set_option maxHeartbeats 2000000 in
theorem Q7t{u v ex:List Nat}(hu:Qh u)(hv:Qh v)(hn:2<=v.length)(hlt:v.length<u.length)(htop:32768<=v.getD (v.length-1) 0)(hinit:val (u.drop (u.length-v.length))<val v)(hul:u.length+ex.length<2^42):
  Qko Tryz.prog 252 [.mso B0 0 u.length,PV.nat v] 191 (Qa5 (u++ex)) (fun r xs'=>r=PV.num (val u/val v)/\∃l,xs'=Qa5 (l++ex)/\Qh l/\l.length=u.length/\val l=val u%val v):=by
 obtain⟨n,hnv⟩:∃n,v.length=n+2:=⟨v.length-2,by omega⟩
 have e1:(u.length:Int)-(v.length:Int)=((u.length-v.length:Nat):Int):=by omega
 have hvt:=Q2h hnv
 have hv0:=Qeb hv n (by omega)
 have hvlt:=Qf4 hv
 have hv1:=Qap hv (show n+1<v.length by omega)
 have hv2:=Qap hv (show n<v.length by omega)
 have hg1:v[n+1]'(by omega)=v.getD (n+1) 0:=(Qbn _).symm
 have hg2:v[n]'(by omega)=v.getD n 0:=(Qbn _).symm
 have htop':32768<=v.getD (n+1) 0:=by rw[hnv]at htop;exact htop
 rw[hg1]at hv1
 rw[hg2]at hv2
 rw[hnv]at hvlt
 have hvp:0<val v:=by
  rw[hvt]
  have:0<65536^n:=Nat.pow_pos (by omega)
  have:0<(v.getD (n+1) 0*65536+v.getD n 0)*65536^n:=Nat.mul_pos (by omega) this
  omega
 refine Qlw Qk Tryz.func252 rfl Qag8 (by simp[c252]) fun C hP=> ?_;simp only[c252,Zo,Zg,Zm,Zc,Zf,Zl,Zh,Zs,Zi,Zb,Zk,Zn,Zu,Zq,Zr,Zz]
 simp+decide (disch:=first|exact D1 e1|fail) only[go_sem,↓reduceIte,e1]
 refine Qzb (by repeat (first|exact Qx|exact Qp|exact Qq|exact Qr|exact Qt|apply Qo|apply Qw|apply Q4|apply Qac|apply Qad|apply Qm)) [(7,11),(24,105)] [7,9,10] (fun k J hp=>∃l qs,k+qs.length=u.length-v.length/\Qh l/\l.length=u.length/\Qh qs/\val (l.drop k)<val v/\val u=val l+val v*(65536^k*val qs)/\J 7= .mp 7 0 0/\
  hp 7=some ⟨1,3,[.int .i64 ((k:Int)-1)],false⟩/\hp 1000000=some ⟨1,191,Qa5 (l++ex),false⟩/\hp 18=some ⟨1,191,Qa5 (List.replicate k 0++qs),false⟩/\
  hp 3=some ⟨1,28,[PV.nat v],false⟩/\hp 5=some ⟨1,3,[.int .i64 v.length],false⟩) (u.length-v.length) ?_ ?_
 ·refine⟨u,[],rfl,hu,rfl,Qcx,hinit,by simp[val],?_⟩
  simp+decide (disch:=first|exact D2 true_and and_true|fail) only[go_sem,↓reduceIte,true_and,and_true]
  simp
 intro F hF
 have hF2:F 2= .rb 1000000 0 u.length:=by rw[hF];simp+decide (disch:=first|exact D0|fail) only[go_sem,↓reduceIte]
 have hF3:F 3= .mp 3 0 0:=by rw[hF];simp+decide (disch:=first|exact D0|fail) only[go_sem,↓reduceIte]
 have hF5:F 5= .mp 5 0 0:=by rw[hF];simp+decide (disch:=first|exact D0|fail) only[go_sem,↓reduceIte]
 have hF6:F 6= .ms 18 (u.length-v.length):=by rw[hF];simp+decide (disch:=first|exact D0|fail) only[go_sem,↓reduceIte]
 have hkF:∀β,[7,9,10].contains β=true->Qav β F=F:=fun β h=>by rw[hF];exact Qh6 h
 have hk9:=hkF 9 rfl
 have hk10:=hkF 10 rfl
 have hk7:=hkF 7 rfl
 have hkk:Qae [9,10] F=F:=by rw[hF];exact Qxo rfl
 clear hkF hF
 rintro k J h ⟨l,qs,hsum,hl,hll,hqs,hred,Qco,hJ7,hh7,hhB,hh18,hh3,hh5⟩
 simp+decide (disch:=first|exact D10 hJ7 hh7 hhB hh18 hh3 hh5 hF2 hF3 hF5 hF6|fail) only[go_sem,↓reduceIte,hJ7,hh7,hhB,hh18,hh3,hh5,hF2,hF3,hF5,hF6]
 refine Qb (fun hg=> ?_) (fun hg=> ?_)
 ·obtain _|j:=k
  ·omega
  have e2:((j+1:Nat):Int)-1=j:=by omega
  have e3:((n+2:Nat):Int)-1=((n+1:Nat):Int):=by omega
  have e4:((j+(n+2):Nat):Int)-1=((j+(n+1):Nat):Int):=by omega
  obtain⟨pre,w,post,hlw,hpl,hwl,hpre,hw,hpost,hpost0,hdj,hwlt,w0,hw0,hwv⟩:=Qak1 (n:=n) hl (by omega) (by omega) hred
  have hl2:=Qap hl (show j+(n+2)<l.length by omega)
  have hl1:=Qap hl (show j+(n+1)<l.length by omega)
  have hl0:=Qap hl (show j+n<l.length by omega)
  have hlel:(l++ex).length=u.length+ex.length:=by rw[List.length_append,hll]
  have hgl2:(l++ex)[j+(n+2)]'(by omega)=l.getD (j+(n+2)) 0:=by rw[List.getElem_append_left (by omega)];exact(Qbn _).symm
  have hgl1:(l++ex)[j+(n+1)]'(by omega)=l.getD (j+(n+1)) 0:=by rw[List.getElem_append_left (by omega)];exact(Qbn _).symm
  rw[<-Qbn (by omega)]at hl2 hl1
  have htk2:(Qa5 (l++ex)).take u.length=Qa5 l:=by rw[<-List.map_take,<-hll,List.take_left]
  have hlw2:l++ex=pre++(w++(post++ex)):=by rw[hlw];simp
  generalize l.getD (j+(n+2)) 0=w2 at *
  generalize l.getD (j+(n+1)) 0=w1 at *
  simp+decide (disch:=first|omega|rfl|(simp+decide only[go_sem,↓reduceIte,hJ7,hh7,hhB,hh18,hh3,hh5,hF2,hF3,hF5,hF6,hnv,e2,e3,e4,hgl2,hgl1,hg1,Qly,Qnx,Qkp,Qef]<;>rfl)|fail) only[go_sem,↓reduceIte,hJ7,hh7,hhB,hh18,hh3,hh5,hF2,hF3,hF5,hF6,hnv,e2,e3,e4,hgl2,hgl1,hg1,Qly,Qnx,Qkp,Qef]
  have hwl2:w.length=n+3:=hwl
  have hdigit:=Q38 hvt hwv hw0 (by rw[<-Qbn (show j+n<l.length by omega)]at hl0;omega) (by omega:0<v.getD (n+1) 0)
  have hhi:=Qaao hvt hwv hv0 hwlt (Nat.pow_pos (by omega))
  have hdm:=Nat.div_add_mod (w2*65536+w1) (v.getD (n+1) 0)
  have hdlt:(w2*65536+w1)/v.getD (n+1) 0<131072:=by rw[Nat.div_lt_iff_lt_mul (by omega)];omega
  have hrlt:=Nat.mod_lt (w2*65536+w1) (by omega:0<v.getD (n+1) 0)
  rw[Nat.mul_comm]at hdm
  generalize hd0:(w2*65536+w1)/v.getD (n+1) 0=d0 at *
  generalize hr0:(w2*65536+w1)%v.getD (n+1) 0=r0 at *
  have hcomm:∀(h:HP) v w,Qn (Qn h 10 v) 9 w=Qn (Qn h 9 w) 10 v:=fun h v w=>Q7e 10 9 (by decide) h v w
  refine Qafr (fun J=>J 7= .mp 7 0 0/\J 52= .int .u64 d0/\J 53= .int .u64 (w2*65536+w1:Nat)) (T3 hJ7 true_and and_true) ?_
  clear hJ7
  rintro J ⟨hJ7,hJ52,hJ53⟩
  refine Qaap (by repeat (first|exact Qx|exact Qp|exact Qq|exact Qr|exact Qt|apply Qo|apply Qw|apply Q4|apply Qac|apply Qad|apply Qm)) [9,10] (fun J2 hp2=>J2 7= .mp 7 0 0/\J2 9= .mp 9 0 0/\J2 10= .mp 10 0 0/\hp2=Qn (Qn h 9 ⟨1,138,[.int .u64 d0],false⟩) 10 ⟨1,138,[.int .u64 r0],false⟩) ?_ ?_
  ·intro F' hF'
   have hF'3:F' 3= .mp 3 0 0:=by rw[hF'];simp+decide (disch:=first|exact D1 hF3|fail) only[go_sem,↓reduceIte,hF3]
   have hF'5:F' 5= .mp 5 0 0:=by rw[hF'];simp+decide (disch:=first|exact D1 hF5|fail) only[go_sem,↓reduceIte,hF5]
   have hk9':Qav 9 F'=F':=by rw[hF'];exact Qh6 rfl
   have hk10':Qav 10 F'=F':=by rw[hF'];exact Qh6 rfl
   clear hF'
   repeat' (first|refine Qfx ?_ ?_|simp+decide (disch:=first|omega|rfl|(simp+decide only[go_sem,↓reduceIte,hJ7,hJ52,hJ53,hh3,hh5,hF'3,hF'5,hk9',hk10',hnv,e3,hg1,Qef]<;>rfl)|fail) only[go_sem,↓reduceIte,hJ7,hJ52,hJ53,hh3,hh5,hF'3,hF'5,hk9',hk10',hnv,e3,hg1,Qef])
   all_goals refine Qva (J:=_) ?_
   all_goals simp+decide (disch:=first|exact D5 hJ7 hr0 hcomm true_and and_true|fail) only[go_sem,↓reduceIte,hJ7,hr0,hcomm,true_and,and_true]
  clear hJ7 hJ52 hJ53 J
  rintro J _ ⟨hJ7,hJ9,hJ10,rfl⟩
  simp+decide (disch:=first|omega|rfl|(simp+decide only[go_sem,↓reduceIte,hJ7,hJ9,hJ10,hF2,hF3,hF5,hF6,caps,List.all_cons,List.all_nil,List.cons_append,List.nil_append,true_and]<;>rfl)|fail) only[go_sem,↓reduceIte,hJ7,hJ9,hJ10,hF2,hF3,hF5,hF6,caps,List.all_cons,List.all_nil,List.cons_append,List.nil_append,true_and]
  refine Qzb (by repeat (first|exact Qx|exact Qp|exact Qq|exact Qr|exact Qt|apply Qo|apply Qw|apply Q4|apply Qac|apply Qad|apply Qm)) [(62,77)] [] (fun m J hp=>∃d r,m=d/\d*v.getD (n+1) 0+r=w2*65536+w1/\val w<(d+1)*val v/\hp=Qn (Qn h 9 ⟨1,138,[.int .u64 d],false⟩) 10 ⟨1,138,[.int .u64 r],false⟩) d0 ?_ ?_
  ·exact⟨d0,r0,rfl,hdm,hdigit,rfl⟩
  intro F1 hF1
  have hE9:F1 9= .mp 9 0 0:=by rw[hF1,Qck];simp+decide (disch:=first|exact D1 hJ9|fail) only[go_sem,↓reduceIte,hJ9]
  have hE10:F1 10= .mp 10 0 0:=by rw[hF1,Qck];simp+decide (disch:=first|exact D1 hJ10|fail) only[go_sem,↓reduceIte,hJ10]
  have hE11:F1 11= .fn 260 [] [.mp 9 0 0,.mp 3 0 0,.mp 5 0 0,.mp 10 0 0,.rb 1000000 0 u.length,.mp 7 0 0]:=by rw[hF1,Qck];simp+decide (disch:=first|exact D0|fail) only[go_sem,↓reduceIte]
  have hE3:F1 3= .mp 3 0 0:=by rw[hF1,Qck];simp+decide (disch:=first|exact D1 hF3|fail) only[go_sem,↓reduceIte,hF3]
  have hE5:F1 5= .mp 5 0 0:=by rw[hF1,Qck];simp+decide (disch:=first|exact D1 hF5|fail) only[go_sem,↓reduceIte,hF5]
  rintro d J2 _ ⟨_,r,rfl,hdr,hdW,rfl⟩
  have hd17:d<131072:=by
   have:d*32768<=d*v.getD (n+1) 0:=Nat.mul_le_mul_left _ htop'
   omega
  simp+decide (disch:=first|exact D3 hE9 hE10 hE11|fail) only[go_sem,↓reduceIte,hE9,hE10,hE11]
  refine Q1a (by repeat (first|exact Qx|exact Qp|exact Qq|exact Qr|exact Qt|apply Qo|apply Qw|apply Q4|apply Qac|apply Qad|apply Qm)) [(62,67)] [] (fun J hp=>J 67= .bool (decide (r<65536/\(65536<=d∨r*65536+l.getD (j+n) 0<d*v.getD n 0)))/\hp=Qn (Qn h 9 ⟨1,138,[.int .u64 d],false⟩) 10 ⟨1,138,[.int .u64 r],false⟩) ?_ ?_
  ·refine Qan (fun hr=> ?_) (fun hr=> ?_)
   ·simp+decide (disch:=first|exact D3 hE9 hE10 hE11|fail) only[go_sem,↓reduceIte,hE9,hE10,hE11]
    refine Q62 hP (Qxr (dg:=d) (r:=r) (j:=j) hv hl hn rfl (by omega) (by omega) (by omega) (by omega)) (by simp+decide (disch:=first|omega|rfl|(simp+decide only[go_sem,↓reduceIte,Qcz,hhB,hh3,hh5,hh7,e2,List.append_nil,List.nil_append,List.getElem?_cons_zero,List.drop_zero,List.take_of_length_le]<;>rfl)|fail) only[go_sem,↓reduceIte,Qcz,hhB,hh3,hh5,hh7,e2,List.append_nil,List.nil_append,List.getElem?_cons_zero,List.drop_zero,List.take_of_length_le];simp only[List.drop_zero,htk2]) rfl rfl ?_
    simp+decide (disch:=first|exact D1 hnv|fail) only[go_sem,↓reduceIte,hnv]
    refine Qva ⟨?_,rfl⟩
    simp+decide (disch:=first|exact D0|fail) only[go_sem,↓reduceIte]
    rw[show j+(n+2)-2=j+n by omega,show n+2-2=n by omega]
    exact congrArg PV.bool (decide_eq_decide.2 ⟨fun h=>⟨by omega,h⟩,fun h=>h.2⟩)
   ·simp+decide (disch:=first|exact D3 hE9 hE10 hE11|fail) only[go_sem,↓reduceIte,hE9,hE10,hE11]
    refine Qva ⟨?_,rfl⟩
    simp+decide (disch:=first|exact D0|fail) only[go_sem,↓reduceIte]
    simp;omega
  rintro J3 _ ⟨h67,rfl⟩
  simp (disch:=decide) only[Qck,Qir]
  simp+decide (disch:=first|exact D1 h67|fail) only[go_sem,↓reduceIte,h67]
  refine Qb (fun ht=> ?_) (fun ht=> ?_)
  ·obtain⟨hr,ht⟩:=ht
   have hlt2:val w<d*val v:=by
    rcases ht with ht|ht
    ·exact Nat.lt_of_lt_of_le hwlt (Nat.mul_le_mul_right _ ht)
    ·exact Qaam hvt hwv hw0 hdr ht
   obtain _|d:=d
   ·omega
   have e5:((d+1:Nat):Int)-1=(d:Nat):=by omega
   simp+decide (disch:=first|exact D11 hE9 hE10 hE3 hE5 hh3 hh5 hnv e3 e5 hg1 hcomm|fail) only[go_sem,↓reduceIte,hE9,hE10,hE3,hE5,hh3,hh5,hnv,e3,e5,hg1,hcomm]
   refine Qi d (by omega) ⟨d,r+v.getD (n+1) 0,rfl,?_,hlt2,rfl⟩
   rw[Nat.add_mul]at hdr;omega
  have hd65:d<65536:=by
   apply Decidable.byContradiction
   intro hge
   apply ht
   refine⟨?_,.inl (by omega)⟩
   have:65536*v.getD (n+1) 0<=d*v.getD (n+1) 0:=Nat.mul_le_mul_right _ (by omega)
   omega
  have htest:¬r*65536+l.getD (j+n) 0<d*v.getD n 0:=by
   intro hlt3
   by_cases hr:r<65536
   ·exact ht ⟨hr,.inr hlt3⟩
   ·have:=Qfs hd65 hv2
    omega
  have e5:j+(n+2)+1-j=n+3:=by omega
  subst hF1
  simp (disch:=decide) only[Qck,hkk,Qir]
  simp+decide (disch:=first|exact D14 hJ7 hJ9 hJ10 hF2 hF3 hF5 hF6 hh3 hh5 hh7 hhB e2 hnv e5|fail) only[go_sem,↓reduceIte,hJ7,hJ9,hJ10,hF2,hF3,hF5,hF6,hh3,hh5,hh7,hhB,e2,hnv,e5]
  have hsq:=Qy4 w v d 0 0 hw (by omega) (by omega)
  have hcar:=Qtm w v d 0 0 (by omega) (by omega) hd65 hv
  have hsl:=Qtj w v d 0 0
  have hsln:=Qrc w v d 0 0
  have hwB:=Qf4 hw
  rw[hwl]at hsq hwB
  refine Qtf hP (Qxq (pre:=pre) (w:=w) (post:=post++ex) (j:=j) (m:=n+3) (q:=d) hw hv hd65 hpl hwl (by omega) (by rw[<-hlw2];omega)) (β:=1000000) (T2 hhB hlw2) (Qfa _) (by simp;omega) (by simp[toB,B0]) rfl ?_
  rintro _ _ _ _ ⟨rfl,rfl⟩
  generalize Qc7 w v d 0 0=sq at *
  obtain⟨⟨hsq,hb1⟩,hcar⟩:=And.intro hsq hcar
  have hSB:=Qf4 hsl
  rw[hsln,hwl]at hSB
  have hpll:pre.length+(w.length+post.length)=u.length:=by rw[<-hll,hlw];simp
  have hs18:j<(List.replicate (j+1) 0++qs).length:=by simp;omega
  have hvl2:val l=val pre+65536^j*val w:=by
   rw[hlw,Qcd,Qcd,hpost0,hpl,Nat.mul_zero,Nat.add_zero]
  simp+decide (disch:=first|omega|rfl|(simp+decide only[go_sem,↓reduceIte,Qgy,hJ7,hJ9,hJ10,hF2,hF3,hF5,hF6]<;>rfl)|fail) only[go_sem,↓reduceIte,Qgy,hJ7,hJ9,hJ10,hF2,hF3,hF5,hF6]
  refine Qb (fun hb=> ?_) (fun hb=> ?_)
  ·have hb2:sq.2.2=1:=by omega
   rw[hcar,hb2]at hsq
   obtain _|d:=d
   ·omega
   have heV:=Qaan hvt hwv hv0 (by omega) hd65 hdr htest
   obtain⟨k,hk⟩:=Qy3 sq.1 v 0 (by omega)
   have hrl:=Qti sq.1 v 0
   have hrln:=Qrb sq.1 v 0
   rw[hsln,hwl]at hk hrln
   have hrB:=Qf4 hrl
   rw[hrln]at hrB
   obtain⟨hR1,hR2⟩:=Qafs (B:=65536^(n+3)) (S:=val sq.1) (e:=d) (by omega) hSB heV (by omega) hrB hwB
   have e6:((d+1:Nat):Int)-1=(d:Nat):=by omega
   simp+decide (disch:=first|omega|rfl|(simp+decide only[go_sem,↓reduceIte,hJ7,hJ9,hJ10,hF2,hF3,hF5,hF6,hh3,hh5,hh7,hhB,e2,e6,hnv,e5]<;>rfl)|fail) only[go_sem,↓reduceIte,hJ7,hJ9,hJ10,hF2,hF3,hF5,hF6,hh3,hh5,hh7,hhB,e2,e6,hnv,e5]
   refine Qtf hP (Qzu (pre:=pre) (w:=sq.1) (post:=post++ex) (j:=j) (m:=n+3) hsl hv hpl (by omega) (by omega) (by simp;omega)) (β:=1000000) T0 (Qfa _) (by simp;omega) (by simp[toB,B0]) rfl ?_
   rintro _ _ _ _ ⟨rfl,rfl⟩
   have hback:=Qwg (q:=d) (R:=Qgn sq.1 v 0) hpl hpost0 Qco hvl2 hR2
   simp+decide (disch:=first|omega|rfl|(simp+decide only[go_sem,↓reduceIte,Qgy,hJ7,hJ9,hJ10,hF2,hF3,hF5,hF6,hh3,hh5,hh7,hhB,hh18,e2,e6,hnv,e5,Qqt,Nat.mod_eq_of_lt (by omega:d<65536),hk7]<;>rfl)|fail) only[go_sem,↓reduceIte,Qgy,hJ7,hJ9,hJ10,hF2,hF3,hF5,hF6,hh3,hh5,hh7,hhB,hh18,e2,e6,hnv,e5,Qqt,Nat.mod_eq_of_lt (by omega:d<65536),hk7]
   refine Qi j (by omega) ⟨pre++(Qgn sq.1 v 0++post),d::qs,by simp;omega,?_,?_,?_,?_,hback.2,?_⟩
   ·rw[Qbw,Qbw];exact⟨hpre,hrl,hpost⟩
   ·simp;omega
   ·rw[Qa0];exact⟨by omega,hqs⟩
   ·rw[hback.1];exact hR1
   ·simp+decide (disch:=first|omega|rfl|(simp+decide only[go_sem,↓reduceIte,hh3,hh5,true_and,and_true,hnv,List.append_assoc]<;>rfl)|fail) only[go_sem,↓reduceIte,hh3,hh5,true_and,and_true,hnv,List.append_assoc]
  ·have hb2:sq.2.2=0:=by omega
   rw[hcar,hb2]at hsq
   obtain⟨hR1,hR2⟩:=Qak3 (S:=val sq.1) (d:=d) (by omega) hdW
   have hback:=Qwg (q:=d) (R:=sq.1) hpl hpost0 Qco hvl2 hR2
   simp+decide (disch:=first|omega|rfl|(simp+decide only[go_sem,↓reduceIte,Qgy,hJ7,hJ9,hJ10,hF2,hF3,hF5,hF6,hh3,hh5,hh7,hhB,hh18,e2,hnv,e5,Qqt,Nat.mod_eq_of_lt hd65,hk7]<;>rfl)|fail) only[go_sem,↓reduceIte,Qgy,hJ7,hJ9,hJ10,hF2,hF3,hF5,hF6,hh3,hh5,hh7,hhB,hh18,e2,hnv,e5,Qqt,Nat.mod_eq_of_lt hd65,hk7]
   refine Qi j (by omega) ⟨pre++(sq.1++post),d::qs,by simp;omega,?_,?_,?_,?_,hback.2,?_⟩
   ·rw[Qbw,Qbw];exact⟨hpre,hsl,hpost⟩
   ·simp;omega
   ·rw[Qa0];exact⟨hd65,hqs⟩
   ·rw[hback.1];exact hR1
   ·simp+decide (disch:=first|omega|rfl|(simp+decide only[go_sem,↓reduceIte,hh3,hh5,true_and,and_true,hnv,List.append_assoc]<;>rfl)|fail) only[go_sem,↓reduceIte,hh3,hh5,true_and,and_true,hnv,List.append_assoc]
 ·obtain rfl:k=0:=by omega
  rw[List.drop_zero]at hred
  rw[Nat.pow_zero,Nat.one_mul]at Qco
  have hdiv:val u/val v=val qs:=by
   rw[Qco,Nat.add_mul_div_left _ _ hvp,Nat.div_eq_of_lt hred,Nat.zero_add]
  have hmod:val u%val v=val l:=by
   rw[Qco,Nat.add_mul_mod_self_left,Nat.mod_eq_of_lt hred]
  simp+decide (disch:=first|omega|rfl|(simp+decide only[go_sem,↓reduceIte,hJ7,hh7,hhB,hh18,hh3,hh5,hF2,hF3,hF5,hF6,List.replicate_zero,List.nil_append]<;>rfl)|fail) only[go_sem,↓reduceIte,hJ7,hh7,hhB,hh18,hh3,hh5,hF2,hF3,hF5,hF6,List.replicate_zero,List.nil_append]
  refine Qcj hP (Qa7 hqs (by omega)) (Qk8 (ty:=191) (fz:=false) (by simp+decide (disch:=first|omega|rfl|(simp+decide only[go_sem,↓reduceIte,hh18,List.replicate_zero,List.nil_append]<;>rfl)|fail) only[go_sem,↓reduceIte,hh18,List.replicate_zero,List.nil_append]) (by omega)) rfl ?_
  simp+decide (disch:=first|exact D0|fail) only[go_sem,↓reduceIte]
  refine Q65 (xs':=Qa5 (l++ex)) (p:=PV.num (val qs)) ?_ (Qfa _) (by simp;omega) T0 rfl ⟨by rw[hdiv],l,rfl,hl,hll,hmod.symm⟩
  show FW.Qaf h [18] 1000000=_
  simp only[FW.Qaf]
  rw[if_neg (by decide),hhB]
end Go.Proofs.YtonfajmchebkeaaGreat
namespace Go.Proofs.YtonfajmchebkeaaGreat
open Go Go.FW
set_option linter.unusedSimpArgs false
set_option linter.unusedVariables false
set_option maxRecDepth 100000
theorem Q4q{a:List Nat}{s:Nat}(ha:Qh a)(hla:a.length<2^40)(hs:s<=15):Qd Tryz.prog 251 [PV.nat a,.int .i64 (-(s:Int))] (· =PV.num (val a/2^s)):=by
 have hda:=Qar ha
 unfold nl at hda
 by_cases h0:val a=0
 ·refine Qf Qk Tryz.func251 rfl Qvi (by simp[Qse]) fun C hP=> ?_;simp only[Qse,Zo,Zg,Zm,Zc,Zf,Zl,Zh,Zs,Zi,Zb,Zk,Zn,Zu,Zq,Zr,Zz]
  simp+decide (disch:=first|exact D0|fail) only[go_sem,↓reduceIte]
  refine Qa hP (Qa7 ha (by omega)) rfl rfl rfl ?_
  simp+decide (disch:=first|exact D0|fail) only[go_sem,↓reduceIte]
  refine Qaa (fun hz=>by omega) (fun hz=> ?_)
  simp+decide (disch:=first|exact D0|fail) only[go_sem,↓reduceIte]
  refine Qaa (fun hz=>by omega) (fun hz=> ?_)
  simp+decide (disch:=first|exact D0|fail) only[go_sem,↓reduceIte]
  refine Qb (fun hz=> ?_) (fun hz=>absurd (by rw[h0,Qa6];rfl) hz)
  simp+decide (disch:=first|exact D0|fail) only[go_sem,↓reduceIte]
  exact Qev (Qmz (by simp[h0])) rfl
 by_cases hs0:s=0
 ·subst hs0
  have:=(Qmi (s:=0) ha hla (by omega) h0).toV
  rw[Nat.pow_zero,Nat.mul_one]at this
  rw[Nat.pow_zero,Nat.div_one]
  exact this
 have hnz:(dig (val a)).length≠0:=fun h=>h0 (Qb3.1 (Qc6 h))
 refine Qf Qk Tryz.func251 rfl Qvi (by simp[Qse]) fun C hP=> ?_;simp only[Qse,Zo,Zg,Zm,Zc,Zf,Zl,Zh,Zs,Zi,Zb,Zk,Zn,Zu,Zq,Zr,Zz]
 simp+decide (disch:=first|exact D0|fail) only[go_sem,↓reduceIte]
 refine Qa hP (Qa7 ha (by omega)) rfl rfl rfl ?_
 simp+decide (disch:=first|exact D0|fail) only[go_sem,↓reduceIte]
 refine Qaa (fun hz=>by omega) (fun hz=> ?_)
 simp+decide (disch:=first|exact D0|fail) only[go_sem,↓reduceIte]
 refine Qaa (fun hz=>by omega) (fun hz=> ?_)
 simp+decide (disch:=first|exact D0|fail) only[go_sem,↓reduceIte]
 refine Qb (fun hz=>by omega) (fun hz=> ?_)
 simp+decide (disch:=first|exact D0|fail) only[go_sem,↓reduceIte]
 refine Qb (fun hz=> ?_) (fun hz=>by omega)
 have e:(0:Int)- -(s:Int)=(s:Nat):=by omega
 simp+decide (disch:=first|exact D1 e|fail) only[go_sem,↓reduceIte,e]
 refine Qa hP (Q4o (Qj (val a)) (by omega) hs) rfl rfl rfl ?_
 simp+decide (disch:=first|omega|rfl|(simp+decide only[go_sem,↓reduceIte,Q2]<;>rfl)|fail) only[go_sem,↓reduceIte,Q2]
 exact Qc rfl rfl
theorem Q4r{x d:Nat}(hx:(dig x).length<2^42)(hd:0<d)(hd2:d<65536):Qd Tryz.prog 249 [PV.num x,.int .u16 d] (· = .tup [PV.num (x/d),.int .u16 (x%d:Nat)]):=by
 have:=Q1f (Qj x) hx hd hd2
 rwa[Q2]at this
theorem Qmk{a b:List Nat}(ha:Qh a)(hb:Qh b)(hla:a.length<2^38)(hlb:b.length<2^38):Qd Tryz.prog 233 [PV.nat a,PV.nat b]
  (· =if val b=0 then .tup [PV.num 0,PV.num 0,.int .i64 3]else .tup [PV.num (val a/val b),PV.num (val a%val b),.int .i64 0]):=by
 have hda:=Qar ha
 have hdb:=Qar hb
 unfold nl at hda hdb
 refine Qf Qk Tryz.func233 rfl Qagg (by simp[c233]) fun C hP=> ?_;simp only[c233,Zo,Zg,Zm,Zc,Zf,Zl,Zh,Zs,Zi,Zb,Zk,Zn,Zu,Zq,Zr,Zz]
 simp+decide (disch:=first|exact D0|fail) only[go_sem,↓reduceIte]
 refine Qa hP (Qa7 ha (by omega)) rfl rfl rfl ?_
 simp+decide (disch:=first|exact D0|fail) only[go_sem,↓reduceIte]
 refine Qa hP (Qa7 hb (by omega)) rfl rfl rfl ?_
 simp+decide (disch:=first|exact D0|fail) only[go_sem,↓reduceIte]
 have hxl:=Qj (val a)
 have hyl:=Qj (val b)
 have hxv:=Q2 (val a)
 have hyv:=Q2 (val b)
 have hylast:=Qr7 (val b)
 generalize val a=x at *
 generalize val b=y at *
 refine Qb (fun hz=> ?_) (fun hz=> ?_)
 ·have hy0:y=0:=Qb3.1 (Qc6 (by omega))
  simp+decide (disch:=first|exact D0|fail) only[go_sem,↓reduceIte]
  rw[if_pos hy0]
  exact Qpn rfl rfl rfl rfl Qin Qin (Qz _)
 have hy0:y≠0:=fun h=>by rw[h,Qa6]at hz;simp at hz
 rw[if_neg hy0]
 simp+decide (disch:=first|exact D0|fail) only[go_sem,↓reduceIte]
 refine Qa hP (Qoh hxl hyl (by omega) (by omega)) rfl rfl rfl ?_
 simp+decide (disch:=first|exact D2 hxv hyv|fail) only[go_sem,↓reduceIte,hxv,hyv]
 refine Qb (fun hc=> ?_) (fun hc=> ?_)
 ·have hlt:x<y:=by
   unfold Qd5 at hc;split at hc
   ·assumption
   ·split at hc<;>omega
  simp+decide (disch:=first|exact D0|fail) only[go_sem,↓reduceIte]
  refine Qa hP (Qjs hxl (by omega)) rfl rfl rfl ?_
  simp+decide (disch:=first|exact D1 hxv|fail) only[go_sem,↓reduceIte,hxv]
  exact Qpn rfl rfl rfl rfl (Qmz (Nat.div_eq_of_lt hlt)) (Qgm (by rw[Nat.mod_eq_of_lt hlt])) (Qz _)
 have hge:y<=x:=by
  unfold Qd5 at hc;split at hc<;>omega
 simp+decide (disch:=first|exact D0|fail) only[go_sem,↓reduceIte]
 refine Qb (fun h1=> ?_) (fun h1=> ?_)
 ·obtain⟨d,hd⟩:∃d,dig y=[d]:=by
   match h:dig y,h1 with
   | [d],_=>exact⟨d,rfl⟩
   | [],h1=>simp at h1
   |_::_::_,h1=>simp at h1;omega
  have hyd:y=d:=by rw[<-hyv,hd];simp[val]
  have hd1:d<65536:=by rw[hd]at hyl;exact hyl d (by simp)
  simp+decide (disch:=first|omega|rfl|(simp+decide only[go_sem,↓reduceIte,hd,List.map_cons,List.map_nil,List.length_cons,List.length_nil]<;>rfl)|fail) only[go_sem,↓reduceIte,hd,List.map_cons,List.map_nil,List.length_cons,List.length_nil]
  refine Qa hP (Q4r (x:=x) (d:=d) (by omega) (by omega) hd1) (by rw[PV.num];rfl) rfl rfl ?_
  have hm:x%d<18446744073709551616:=by have:=Nat.mod_lt x (show 0<d by omega);omega
  simp+decide (disch:=first|exact D0|fail) only[go_sem,↓reduceIte]
  refine Qa hP (Qqw hm) rfl rfl rfl ?_
  simp+decide (disch:=first|exact D0|fail) only[go_sem,↓reduceIte]
  rw[hyd]
  exact Qpn rfl rfl rfl rfl (Qz _) (Qz _) (Qz _)
 obtain⟨n,hn⟩:∃n,(dig y).length=n+2:=⟨(dig y).length-2,by omega⟩
 obtain⟨m,hm⟩:∃m,(dig x).length=m+2:=by
  have:=Qbm hge
  unfold nl at this
  exact⟨(dig x).length-2,by omega⟩
 have e1:((n+2:Nat):Int)-1=((n+1:Nat):Int):=by omega
 have hlast:(dig y)[n+1]'(by omega)≠0:=by
  intro h;apply hylast
  have:(dig y).getLast? =some ((dig y)[n+1]'(by omega)):=by
   rw[List.getLast?_eq_getElem?,show(dig y).length-1=n+1 by omega];exact List.getElem?_eq_getElem _
  rw[this,h]
 have hy1:=Qap hyl (show n+1<(dig y).length by omega)
 have hdyv:val (dig y)=y:=Q2 y
 generalize hyi:(dig y)[n+1]'(by omega)=yi at *
 have hbl:=Qmj hy1
 have hbp:=Qoj hy1 hlast
 obtain⟨htp,htp2⟩:=Q4p _ yi rfl hlast hy1
 obtain⟨s,hs,hs15⟩:∃s,16-Lib.bitLen yi=s/\s<=15:=⟨_,rfl,by omega⟩
 simp+decide (disch:=first|exact D3 hn e1 hyi|fail) only[go_sem,↓reduceIte,hn,e1,hyi]
 refine Qa hP (Qpb hy1) rfl rfl rfl ?_
 simp+decide (disch:=first|exact D1 hs|fail) only[go_sem,↓reduceIte,hs]
 have hso:=Qmi (a:=dig x) (s:=s) hxl (by omega) hs15 (by rw[hxv];omega)
 refine Qakx hP hso rfl rfl rfl (by decide) ?_
 rintro _ _ rfl
 rw[hxv]
 have hDl:(dig (x*2^s)).length<=m+3:=by
  have h1:=Qb1 x (2^s)
  have h2:nl (2^s)<=1:=Qgg.2 (by have:2^s<=2^15:=Nat.pow_le_pow_right (by omega) hs15;omega)
  unfold nl at h1 h2;omega
 have hDl2:m+2<=(dig (x*2^s)).length:=by
  have:=Qbm (show x<=x*2^s from Nat.le_mul_of_pos_right _ (Nat.pow_pos (by omega)))
  unfold nl at this;omega
 simp+decide (disch:=first|exact D1 hm|fail) only[go_sem,↓reduceIte,hm]
 rw[Qnv (ys:=Qa5 [0,0]) (xs:=Qa5 (dig (x*2^s))) (by simp+decide (disch:=first|omega|rfl|(simp+decide only[go_sem,↓reduceIte,Qdh]<;>rfl)|fail) only[go_sem,↓reduceIte,Qdh];rfl) T0 (by omega) (by simp) (by simp;omega) (by simp;omega)]
 rw[List.take_of_length_le (by simp),<-List.map_append]
 simp+decide (disch:=first|omega|rfl|(simp+decide only[go_sem,↓reduceIte,hm,List.length_cons,List.length_nil]<;>rfl)|fail) only[go_sem,↓reduceIte,hm,List.length_cons,List.length_nil]
 have hsoy:=(Qmi (a:=dig y) (s:=s) hyl (by omega) hs15 (by rw[hyv];omega)).toV
 rw[hyv]at hsoy
 refine Qa hP hsoy rfl rfl rfl ?_
 obtain⟨g1,g2⟩:=Q7h hs15 (by rw[show 16-s=Lib.bitLen yi by omega];exact htp) (by rw[show 16-s=Lib.bitLen yi by omega];exact htp2)
 obtain⟨hYl,hYt,hYge⟩:=Q1b hn hyi g1 g2
 have hnm:n<=m:=by have:=Qbm hge;unfold nl at this;omega
 obtain⟨u,ex,hu1,hu2,hu3,hu4,hu5,hu6⟩:=Q1c (s:=s) hm hs15 hnm hYge
 have hdm1:x*2^s/(y*2^s)=x/y:=Nat.mul_div_mul_right _ _ (Nat.pow_pos (by omega))
 have hdm2:x*2^s%(y*2^s)=x%y*2^s:=Nat.mul_mod_mul_right _ _ _
 rw[hu1]
 simp+decide (disch:=first|exact D0|fail) only[go_sem,↓reduceIte]
 have hlg:=Q7t (u:=u) (v:=dig (y*2^s)) (ex:=ex) hu3 (Qj _) (by omega) (by omega) (by rw[hYl];exact hYt) (by rw[hYl,hu2,Q2];exact hu6) (by omega)
 rw[hu2,hu4,Q2,hdm1,hdm2]at hlg
 refine Qtf hP hlg (β:=52) T0 (Qfa _) (by simp;omega) (by simp[toB]) rfl ?_
 rintro _ _ _ _ ⟨rfl,l,rfl,hl1,hl2,hl3⟩
 have e5:IntKind.i64.wrap (0-(s:Int))= -(s:Int):=by rw[Qhh (by omega) (by omega)];omega
 have htk:(Qa5 (l++ex)).take (m+2+1)=Qa5 l:=by rw[<-List.map_take,show m+2+1=l.length by omega,List.take_left]
 simp+decide (disch:=first|omega|rfl|(simp+decide only[go_sem,↓reduceIte,Qgy]<;>rfl)|fail) only[go_sem,↓reduceIte,Qgy]
 refine Qcj hP (Qa7 hl1 (by omega)) (by simp[Q8,Qay,isY,Qn,<-List.map_append,htk]) rfl ?_
 simp+decide (disch:=first|exact D1 e5|fail) only[go_sem,↓reduceIte,e5]
 rw[hl3]
 have hsb:=Q4q (a:=dig (x%y*2^s)) (s:=s) (Qj _) (by have:=Qbm (show x%y*2^s<=x*2^s from Nat.mul_le_mul_right _ (Nat.mod_le _ _));unfold nl at this;omega) hs15
 rw[Q2,Nat.mul_div_cancel _ (Nat.pow_pos (by omega))]at hsb
 refine Qa hP hsb rfl rfl rfl ?_
 simp+decide (disch:=first|exact D0|fail) only[go_sem,↓reduceIte]
 exact Qpn rfl rfl rfl rfl (Qz _) (Qz _) (Qz _)
end Go.Proofs.YtonfajmchebkeaaGreat
namespace Go.Proofs.YtonfajmchebkeaaGreat
open Go Go.FW
set_option linter.unusedSimpArgs false
set_option linter.unusedVariables false
set_option maxRecDepth 100000
theorem Qab8{a b:List Nat}(ha:Qh a)(hb:Qh b)(hla:a.length<2^38)(hlb:b.length<2^38):Qd Tryz.prog 184 [PV.nat a,PV.nat b] (· =PV.num (Nat.gcd (val a) (val b))):=by
 have hda:=Qar ha
 have hdb:=Qar hb
 unfold nl at hda hdb
 refine Qf Qk Tryz.func184 rfl Qagk (by simp[c184]) fun C hP=> ?_;simp only[c184,Zo,Zg,Zm,Zc,Zf,Zl,Zh,Zs,Zi,Zb,Zk,Zn,Zu,Zq,Zr,Zz]
 simp+decide (disch:=first|exact D0|fail) only[go_sem,↓reduceIte]
 refine Qa hP (Qjs ha (by omega)) rfl rfl rfl ?_
 simp+decide (disch:=first|exact D0|fail) only[go_sem,↓reduceIte]
 refine Qa hP (Qjs hb (by omega)) rfl rfl rfl ?_
 simp+decide (disch:=first|exact D0|fail) only[go_sem,↓reduceIte]
 refine Q6 (by repeat (first|exact Qx|exact Qp|exact Qq|exact Qr|exact Qt|apply Qo|apply Qw|apply Q4|apply Qac|apply Qad|apply Qm)) [(0,1),(4,11),(16,49)] [] (fun m J hp=>∃x y,m=y/\Nat.gcd x y=Nat.gcd (val a) (val b)/\(dig x).length<2^38/\(dig y).length<2^38/\J 0=PV.num x/\J 1=PV.num y/\hp=hp0) (val b) ?_ ?_
 ·refine⟨val a,val b,rfl,rfl,by omega,by omega,?_⟩
  simp+decide (disch:=first|exact D2 true_and and_true|fail) only[go_sem,↓reduceIte,true_and,and_true]
 rintro y J _ ⟨x,_,rfl,hg,hx,hy,h0,h1,rfl⟩
 generalize Nat.gcd (val a) (val b)=g at *
 simp+decide (disch:=first|exact D2 h0 h1|fail) only[go_sem,↓reduceIte,h0,h1]
 refine Qb (fun hc=> ?_) (fun hc=> ?_)
 ·have hy0:y≠0:=fun h=>by rw[h,Qa6]at hc;simp at hc
  have hmod:(dig (x%y)).length<2^38:=by
   have:=Qbm (Nat.le_of_lt (Nat.mod_lt x (Nat.pos_of_ne_zero hy0)));unfold nl at this;omega
  simp+decide (disch:=first|exact D2 h0 h1|fail) only[go_sem,↓reduceIte,h0,h1]
  refine Qa hP (Qpv (Qj x) (by omega)) rfl rfl rfl ?_
  simp+decide (disch:=first|exact D2 h0 h1|fail) only[go_sem,↓reduceIte,h0,h1]
  rw[Q2]
  by_cases hs1:nl x<=4
  ·have hxs:=Qlv.1 hs1
   rw[if_pos hs1]
   simp+decide (disch:=first|exact D2 h0 h1|fail) only[go_sem,↓reduceIte,h0,h1]
   refine Qa hP (Qpv (Qj y) (by omega)) rfl rfl rfl ?_
   rw[Q2]
   by_cases hs2:nl y<=4
   ·have hys:=Qlv.1 hs2
    rw[if_pos hs2]
    simp+decide (disch:=first|exact D2 h0 h1|fail) only[go_sem,↓reduceIte,h0,h1]
    refine Q6 (by repeat (first|exact Qx|exact Qp|exact Qq|exact Qr|exact Qt|apply Qo|apply Qw|apply Q4|apply Qac|apply Qad|apply Qm)) [(5,5),(7,7),(33,38)] [] (fun m J hp=>∃p q,m=q/\Nat.gcd p q=g/\p<18446744073709551616/\q<18446744073709551616/\J 5= .int .u64 p/\J 7= .int .u64 q/\hp=hp0) y ?_ ?_
    ·refine⟨x,y,rfl,hg,hxs,hys,?_⟩
     simp+decide (disch:=first|exact D2 true_and and_true|fail) only[go_sem,↓reduceIte,true_and,and_true]
    rintro q J2 _ ⟨p,_,rfl,hg2,hp1,hp2,h5,h7,rfl⟩
    simp+decide (disch:=first|exact D2 h5 h7|fail) only[go_sem,↓reduceIte,h5,h7]
    refine Qb (fun hq=> ?_) (fun hq=> ?_)
    ·have hq0:0<q:=by omega
     simp+decide (disch:=first|omega|rfl|(simp+decide only[go_sem,↓reduceIte,h5,h7,Qef]<;>rfl)|fail) only[go_sem,↓reduceIte,h5,h7,Qef]
     refine Qi (p%q) (Nat.mod_lt _ hq0) ⟨q,p%q,rfl,?_,hp2,?_,?_⟩
     ·rw[<-hg2,Nat.gcd_comm p q,Nat.gcd_rec q p,Nat.gcd_comm]
     ·have:=Nat.mod_lt p hq0;omega
     ·simp+decide (disch:=first|exact D2 true_and and_true|fail) only[go_sem,↓reduceIte,true_and,and_true]
    ·obtain rfl:q=0:=by omega
     simp+decide (disch:=first|exact D2 h5 h7|fail) only[go_sem,↓reduceIte,h5,h7]
     refine Qa hP (Qqw hp1) rfl rfl rfl ?_
     simp+decide (disch:=first|exact D0|fail) only[go_sem,↓reduceIte]
     exact Qc (by rw[<-hg2,Nat.gcd_zero_right]) rfl
   ·rw[if_neg hs2]
    simp+decide (disch:=first|exact D2 h0 h1|fail) only[go_sem,↓reduceIte,h0,h1]
    refine Qa hP (Qmk (Qj x) (Qj y) (by omega) (by omega)) rfl rfl rfl ?_
    rw[Q2,Q2,if_neg hy0]
    simp+decide (disch:=first|exact D2 h0 h1|fail) only[go_sem,↓reduceIte,h0,h1]
    refine Qi (x%y) (Nat.mod_lt _ (Nat.pos_of_ne_zero hy0)) ⟨y,x%y,rfl,?_,hy,hmod,?_⟩
    ·rw[<-hg,Nat.gcd_comm x y,Nat.gcd_rec y x,Nat.gcd_comm]
    ·simp+decide (disch:=first|exact D2 true_and and_true|fail) only[go_sem,↓reduceIte,true_and,and_true]
  ·rw[if_neg hs1]
   simp+decide (disch:=first|exact D2 h0 h1|fail) only[go_sem,↓reduceIte,h0,h1]
   refine Qa hP (Qpv (Qj y) (by omega)) rfl rfl rfl ?_
   obtain⟨r1,r2,hr⟩:∃r1 r2,(if nl (val (dig y))<=4 then PV.tup [.int .u64 (val (dig y)),.bool true]else .tup [.int .u64 0,.bool false])= .tup [.int .u64 r1,.bool r2]:=by
    split<;>exact⟨_,_,rfl⟩
   rw[hr]
   simp+decide (disch:=first|exact D2 h0 h1|fail) only[go_sem,↓reduceIte,h0,h1]
   refine Qa hP (Qmk (Qj x) (Qj y) (by omega) (by omega)) rfl rfl rfl ?_
   rw[Q2,Q2,if_neg hy0]
   simp+decide (disch:=first|exact D2 h0 h1|fail) only[go_sem,↓reduceIte,h0,h1]
   refine Qi (x%y) (Nat.mod_lt _ (Nat.pos_of_ne_zero hy0)) ⟨y,x%y,rfl,?_,hy,hmod,?_⟩
   ·rw[<-hg,Nat.gcd_comm x y,Nat.gcd_rec y x,Nat.gcd_comm]
   ·simp+decide (disch:=first|exact D2 true_and and_true|fail) only[go_sem,↓reduceIte,true_and,and_true]
 ·have hy0:y=0:=Qb3.1 (Qc6 (by omega))
  subst hy0
  simp+decide (disch:=first|exact D1 h0|fail) only[go_sem,↓reduceIte,h0]
  exact Qc (by rw[<-hg,Nat.gcd_zero_right]) rfl
end Go.Proofs.YtonfajmchebkeaaGreat
namespace Go.Proofs.YtonfajmchebkeaaGreat
open Go Go.FW
set_option linter.unusedSimpArgs false
set_option linter.unusedVariables false
set_option maxRecDepth 100000
theorem Qf7(n:Bool)(x:Nat):Qd Tryz.prog 209 [.bool n,PV.num x] (· =PV.zz (if n then -(x:Int)else x)):=by
 refine Qf Qk Tryz.func209 rfl Qago (by simp[c209]) fun C hP=> ?_;simp only[c209,Zo,Zg,Zm,Zc,Zf,Zl,Zh,Zs,Zi,Zb,Zk,Zn,Zu,Zq,Zr,Zz]
 simp+decide (disch:=first|exact D0|fail) only[go_sem,↓reduceIte]
 refine Qgu (fun hn=> ?_) (fun hn=> ?_)
 all_goals
  simp+decide (disch:=first|exact D0|fail) only[go_sem,↓reduceIte]
  refine Qbc ?_
  simp+decide (disch:=first|exact D0|fail) only[go_sem,↓reduceIte]
  exact Qc (by rw[<-Qvc,hn];simp) rfl
theorem Q7u{n:Bool}{a:List Nat}(ha:Qh a)(hla:a.length<2^42):Qd Tryz.prog 255 [.bool n,PV.nat a] (· =PV.zz (zv n a)):=by
 refine Qf Qk Tryz.func255 rfl Qagn (by simp[c255]) fun C hP=> ?_;simp only[c255,Zo,Zg,Zm,Zc,Zf,Zl,Zh,Zs,Zi,Zb,Zk,Zn,Zu,Zq,Zr,Zz]
 simp+decide (disch:=first|exact D0|fail) only[go_sem,↓reduceIte]
 refine Qa hP (Qjs ha hla) rfl rfl rfl ?_
 simp+decide (disch:=first|exact D0|fail) only[go_sem,↓reduceIte]
 refine Qgu (fun hn=> ?_) (fun hn=> ?_)
 all_goals
  simp+decide (disch:=first|exact D0|fail) only[go_sem,↓reduceIte]
  refine Qbc ?_
  simp+decide (disch:=first|exact D0|fail) only[go_sem,↓reduceIte]
  exact Qc (by have:=Qvc n (val a);rw[hn]at this;subst hn;simpa[zv]using this) rfl
theorem Q1i{n:Bool}{a:List Nat}(ha:Qh a)(hla:a.length<2^42):Qd Tryz.prog 238 [PV.zi n a] (· =PV.zz (zv n a)):=by
 refine Qf Qk Tryz.func238 rfl Qagp (by simp[c238]) fun C hP=> ?_;simp only[c238,Zo,Zg,Zm,Zc,Zf,Zl,Zh,Zs,Zi,Zb,Zk,Zn,Zu,Zq,Zr,Zz]
 simp+decide (disch:=first|exact D0|fail) only[go_sem,↓reduceIte]
 refine Qa hP (Q7u ha hla) rfl rfl rfl ?_
 simp+decide (disch:=first|exact D0|fail) only[go_sem,↓reduceIte]
 refine Qbc ?_
 simp+decide (disch:=first|exact D0|fail) only[go_sem,↓reduceIte]
 exact Qc rfl rfl
theorem Qi9{n:Bool}{a:List Nat}(ha:Qh a)(hla:a.length<2^40):Qd Tryz.prog 236 [PV.zi n a] (· = .int .i64 (sgn (zv n a))):=by
 refine Qf Qk Tryz.func236 rfl Qagr (by simp[c236]) fun C hP=> ?_;simp only[c236,Zo,Zg,Zm,Zc,Zf,Zl,Zh,Zs,Zi,Zb,Zk,Zn,Zu,Zq,Zr,Zz]
 simp+decide (disch:=first|exact D0|fail) only[go_sem,↓reduceIte]
 refine Qcs hP (Qwr ha hla) rfl rfl rfl ?_
 rintro _ ⟨k,rfl,hk⟩
 simp+decide (disch:=first|exact D0|fail) only[go_sem,↓reduceIte]
 rw[Qzc]
 refine Qb (fun hz=> ?_) (fun hz=> ?_)
 ·simp+decide (disch:=first|exact D0|fail) only[go_sem,↓reduceIte]
  rw[if_pos (hk.1 (by omega))]
  exact Qc rfl rfl
 ·rw[if_neg (fun h=>hz (by rw[hk.2 h];rfl))]
  simp+decide (disch:=first|exact D0|fail) only[go_sem,↓reduceIte]
  refine Qjh (fun hn=> ?_) (fun hn=> ?_)
  ·simp+decide (disch:=first|exact D0|fail) only[go_sem,↓reduceIte]
   exact Qc (by simp[hn]) rfl
  ·simp+decide (disch:=first|exact D0|fail) only[go_sem,↓reduceIte]
   exact Qc (by simp[hn]) rfl
theorem Qrk{a b:List Nat}(ha:Qh a)(hb:Qh b)(hla:a.length<2^40)(hlb:b.length<2^40):Qd Tryz.prog 258 [PV.nat a,PV.nat b] (· = .int .i64 (Qd5 (val a) (val b))):=by
 refine Qf Qk Tryz.func258 rfl Qagt (by simp[c258]) fun C hP=> ?_;simp only[c258,Zo,Zg,Zm,Zc,Zf,Zl,Zh,Zs,Zi,Zb,Zk,Zn,Zu,Zq,Zr,Zz]
 simp+decide (disch:=first|exact D0|fail) only[go_sem,↓reduceIte]
 refine Qa hP (Qoh ha hb hla hlb) rfl rfl rfl ?_
 simp+decide (disch:=first|exact D0|fail) only[go_sem,↓reduceIte]
 exact Qc rfl rfl
theorem Q4s{n m:Bool}{a b:List Nat}(ha:Qh a)(hb:Qh b)(hla:a.length<2^40)(hlb:b.length<2^40):Qd Tryz.prog 241 [PV.zi n a,PV.zi m b] (· = .int .i64 (Qbz (zv n a) (zv m b))):=by
 have hx:=Qzc n a
 have hy:=Qzc m b
 refine Qf Qk Tryz.func241 rfl Qags (by simp[c241]) fun C hP=> ?_;simp only[c241,Zo,Zg,Zm,Zc,Zf,Zl,Zh,Zs,Zi,Zb,Zk,Zn,Zu,Zq,Zr,Zz]
 simp+decide (disch:=first|exact D0|fail) only[go_sem,↓reduceIte]
 refine Qa hP (Qi9 ha hla) rfl rfl rfl ?_
 simp+decide (disch:=first|exact D0|fail) only[go_sem,↓reduceIte]
 refine Qa hP (Qi9 hb hlb) rfl rfl rfl ?_
 simp+decide (disch:=first|exact D0|fail) only[go_sem,↓reduceIte]
 refine Qb (fun hs=> ?_) (fun hs=> ?_)
 ·simp+decide (disch:=first|exact D0|fail) only[go_sem,↓reduceIte]
  exact Qc (by rw[Qafw hs]) rfl
 simp+decide (disch:=first|exact D0|fail) only[go_sem,↓reduceIte]
 refine Qb (fun hs2=> ?_) (fun hs2=> ?_)
 ·simp+decide (disch:=first|exact D0|fail) only[go_sem,↓reduceIte]
  exact Qc (by rw[Qafx hs2]) rfl
 have he:sgn (zv n a)=sgn (zv m b):=by omega
 simp+decide (disch:=first|exact D0|fail) only[go_sem,↓reduceIte]
 refine Qb (fun hs3=> ?_) (fun hs3=> ?_)
 ·simp+decide (disch:=first|exact D0|fail) only[go_sem,↓reduceIte]
  refine Qa hP (Qrk hb ha hlb hla) rfl rfl rfl ?_
  simp+decide (disch:=first|exact D0|fail) only[go_sem,↓reduceIte]
  exact Qc (by rw[Qafy (Qm2.1 hs3) (Qm2.1 (he▸hs3))]) rfl
 ·simp+decide (disch:=first|exact D0|fail) only[go_sem,↓reduceIte]
  refine Qa hP (Qrk ha hb hla hlb) rfl rfl rfl ?_
  simp+decide (disch:=first|exact D0|fail) only[go_sem,↓reduceIte]
  exact Qc (by rw[Qafz (fun h=>hs3 (Qm2.2 h)) (fun h=>hs3 (he▸Qm2.2 h))]) rfl
theorem Qtx{n m:Bool}{a b:List Nat}(ha:Qh a)(hb:Qh b)(hla:a.length<2^40)(hlb:b.length<2^40):Qd Tryz.prog 239 [PV.zi n a,PV.zi m b] (· =PV.zz (zv n a+zv m b)):=by
 refine Qf Qk Tryz.func239 rfl Qagu (by simp[c239]) fun C hP=> ?_;simp only[c239,Zo,Zg,Zm,Zc,Zf,Zl,Zh,Zs,Zi,Zb,Zk,Zn,Zu,Zq,Zr,Zz]
 simp+decide (disch:=first|exact D0|fail) only[go_sem,↓reduceIte]
 refine Qjh (fun hnm=> ?_) (fun hnm=> ?_)
 ·have hnm:n=m:=by simpa using hnm
  subst hnm
  simp+decide (disch:=first|exact D0|fail) only[go_sem,↓reduceIte]
  refine Qa hP (Qab7 ha hb hla hlb) rfl rfl rfl ?_
  simp+decide (disch:=first|exact D0|fail) only[go_sem,↓reduceIte]
  refine Qa hP (Qf7 n (val a+val b)) rfl rfl rfl ?_
  simp+decide (disch:=first|exact D0|fail) only[go_sem,↓reduceIte]
  refine Qbc ?_
  simp+decide (disch:=first|exact D0|fail) only[go_sem,↓reduceIte]
  exact Qc (congrArg PV.zz (by unfold zv;split<;>simp<;>omega)) rfl
 have hnm:n= !m:=by cases n<;>cases m<;>simp_all
 subst hnm
 simp+decide (disch:=first|exact D0|fail) only[go_sem,↓reduceIte]
 refine Qa hP (Qoh ha hb hla hlb) rfl rfl rfl ?_
 simp+decide (disch:=first|exact D0|fail) only[go_sem,↓reduceIte]
 refine Qb (fun hc=> ?_) (fun hc=> ?_)
 ·rw[Qn2]at hc
  simp+decide (disch:=first|exact D0|fail) only[go_sem,↓reduceIte]
  refine Qa hP (Qzt hb ha hlb hla (by omega)) rfl rfl rfl ?_
  simp+decide (disch:=first|exact D0|fail) only[go_sem,↓reduceIte]
  refine Qa hP (Qf7 m (val b-val a)) rfl rfl rfl ?_
  simp+decide (disch:=first|exact D0|fail) only[go_sem,↓reduceIte]
  refine Qbc ?_
  simp+decide (disch:=first|exact D0|fail) only[go_sem,↓reduceIte]
  exact Qc (congrArg PV.zz (by unfold zv;cases m<;>simp<;>omega)) rfl
 ·rw[Qn2]at hc
  simp+decide (disch:=first|exact D0|fail) only[go_sem,↓reduceIte]
  refine Qa hP (Qzt ha hb hla hlb (by omega)) rfl rfl rfl ?_
  simp+decide (disch:=first|exact D0|fail) only[go_sem,↓reduceIte]
  refine Qa hP (Qf7 (!m) (val a-val b)) rfl rfl rfl ?_
  simp+decide (disch:=first|exact D0|fail) only[go_sem,↓reduceIte]
  refine Qbc ?_
  simp+decide (disch:=first|exact D0|fail) only[go_sem,↓reduceIte]
  exact Qc (congrArg PV.zz (by unfold zv;cases m<;>simp<;>omega)) rfl
theorem Qd7{n m:Bool}{a b:List Nat}(ha:Qh a)(hb:Qh b)(hla:a.length<2^40)(hlb:b.length<2^40):Qd Tryz.prog 206 [PV.zi n a,PV.zi m b] (· =PV.zz (zv n a*zv m b)):=by
 refine Qf Qk Tryz.func206 rfl Qagv (by simp[c206]) fun C hP=> ?_;simp only[c206,Zo,Zg,Zm,Zc,Zf,Zl,Zh,Zs,Zi,Zb,Zk,Zn,Zu,Zq,Zr,Zz]
 simp+decide (disch:=first|exact D0|fail) only[go_sem,↓reduceIte]
 refine Qa hP (Qoi ha hb hla hlb) rfl rfl rfl ?_
 simp+decide (disch:=first|exact D0|fail) only[go_sem,↓reduceIte]
 refine Qa hP (Qf7 (!(n==m)) (val a*val b)) rfl rfl rfl ?_
 simp+decide (disch:=first|exact D0|fail) only[go_sem,↓reduceIte]
 refine Qbc ?_
 simp+decide (disch:=first|exact D0|fail) only[go_sem,↓reduceIte]
 exact Qc (congrArg PV.zz (by unfold zv;cases n<;>cases m<;>simp[Int.neg_mul,Int.mul_neg])) rfl
end Go.Proofs.YtonfajmchebkeaaGreat
namespace Go.Proofs.YtonfajmchebkeaaGreat
open Go Go.FW
set_option linter.unusedSimpArgs false
set_option linter.unusedVariables false
set_option maxRecDepth 100000
theorem Qsf{a:List Nat}(hl:a.length<2^43):Qd Tryz.prog 183 [PV.nat a] (· = .bool (decide (a=[1]))):=by
 refine Qf Qk Tryz.func183 rfl Qagw (by simp[c183]) fun C hP=> ?_;simp only[c183,Zo,Zg,Zm,Zc,Zf,Zl,Zh,Zs,Zi,Zb,Zk,Zn,Zu,Zq,Zr,Zz]
 simp+decide (disch:=first|exact D0|fail) only[go_sem,↓reduceIte]
 refine Qb (fun hz=> ?_) (fun hz=> ?_)
 ·obtain⟨x,xs,rfl⟩:∃x xs,a=x::xs:=by
   match a,hz with
   |x::xs,_=>exact⟨x,xs,rfl⟩
  simp+decide (disch:=first|omega|rfl|(simp+decide only[go_sem,↓reduceIte,List.map_cons,List.getElem_cons_zero]<;>rfl)|fail) only[go_sem,↓reduceIte,List.map_cons,List.getElem_cons_zero]
  refine Qc (congrArg PV.bool ?_) rfl
  rw[<-Bool.decide_and]
  exact decide_eq_decide.2 ⟨fun⟨h1,h2⟩=>by
   have:xs=[]:=List.length_eq_zero_iff.1 (by omega)
   subst this;congr 1;omega,fun h=>by
   injection h with h1 h2;subst h1 h2;simp⟩
 ·have:a=[]:=List.length_eq_zero_iff.1 (by omega)
  subst this
  simp+decide (disch:=first|exact D0|fail) only[go_sem,↓reduceIte]
  exact Qc rfl rfl
theorem Qrl(x:Nat):(dig x=[1])↔x=1:=⟨fun h=>by have:=Q2 x;rw[h]at this;simpa[val]using this.symm,fun h=>by rw[h,Qgx]⟩
theorem Q2p{x:Nat}(hl:(dig x).length<2^43):Qd Tryz.prog 183 [PV.num x] (· = .bool (decide (x=1))):=by
 have:=Qsf hl
 rwa[decide_eq_decide.2 (Qrl x)]at this
theorem Ql4:Qd Tryz.prog 155 [] (· =PV.nat [1]):=by
 refine Qf Qk Tryz.func155 rfl Qagx (by simp[c155]) fun C hP=> ?_;simp only[c155,Zo,Zg,Zm,Zc,Zf,Zl,Zh,Zs,Zi,Zb,Zk,Zn,Zu,Zq,Zr,Zz]
 simp+decide (disch:=first|exact D0|fail) only[go_sem,↓reduceIte]
 exact Qc rfl rfl
theorem Qty{x y:Nat}(hx:(dig x).length<2^38)(hy:(dig y).length<2^38)(h0:y≠0):Qd Tryz.prog 233 [PV.num x,PV.num y] (· = .tup [PV.num (x/y),PV.num (x%y),.int .i64 0]):=by
 have:=Qmk (Qj x) (Qj y) hx hy
 rwa[Q2,Q2,if_neg h0]at this
theorem Qag9{x y:Nat}(hx:(dig x).length<2^38)(hy:(dig y).length<2^38):Qd Tryz.prog 184 [PV.num x,PV.num y] (· =PV.num (Nat.gcd x y)):=by
 have:=Qab8 (Qj x) (Qj y) hx hy
 rwa[Q2,Q2]at this
theorem Qpw{n:Bool}{a d:List Nat}(ha:Qh a)(hd:Qh d)(hla:a.length<2^38)(hld:d.length<2^38):Qd Tryz.prog 204 [PV.zi n a,PV.nat d] (· =PV.rat (rv n a d)):=by
 have hna:=Qar ha
 have hnd:=Qar hd
 rw[<-Qbg n a]at hna
 unfold rv
 unfold nl at hna hnd
 refine Qf Qk Tryz.func204 rfl Qagy (by simp[c204]) fun C hP=> ?_;simp only[c204,Zo,Zg,Zm,Zc,Zf,Zl,Zh,Zs,Zi,Zb,Zk,Zn,Zu,Zq,Zr,Zz]
 simp+decide (disch:=first|exact D0|fail) only[go_sem,↓reduceIte]
 refine Qa hP (Qjs hd (by omega)) rfl rfl rfl ?_
 simp+decide (disch:=first|exact D0|fail) only[go_sem,↓reduceIte]
 refine Qa hP (Q1i ha (by omega)) rfl rfl rfl ?_
 simp+decide (disch:=first|exact D0|fail) only[go_sem,↓reduceIte]
 generalize zv n a=z at *
 generalize val d=D at *
 have hlen:∀x:Nat,((dig x).length:Int)=0↔x=0:=fun x=>by
  rw[<-Qb3,<-List.length_eq_zero_iff];omega
 have fin0:∀ {fr:Fr} {hp:HP},(D=0∨z=0)->Qu1 (· =PV.rat (mkRat z D)) (.agg [.bool false,.nilS,PV.nat [1]]):=fun h=>by
  rw[Qre h];exact Qev Q2j rfl
 refine Qaa (fun hz=> ?_) (fun hz=> ?_)
 ·simp+decide (disch:=first|exact D0|fail) only[go_sem,↓reduceIte]
  refine Qa hP Ql4 rfl rfl rfl ?_
  simp+decide (disch:=first|exact D0|fail) only[go_sem,↓reduceIte]
  refine Qbc ?_
  simp+decide (disch:=first|exact D0|fail) only[go_sem,↓reduceIte]
  exact fin0 (fr:=fr0) (hp:=hp0) (.inl ((hlen _).1 hz))
 simp+decide (disch:=first|exact D0|fail) only[go_sem,↓reduceIte]
 refine Qb (fun hz2=> ?_) (fun hz2=> ?_)
 ·simp+decide (disch:=first|exact D0|fail) only[go_sem,↓reduceIte]
  refine Qa hP Ql4 rfl rfl rfl ?_
  simp+decide (disch:=first|exact D0|fail) only[go_sem,↓reduceIte]
  refine Qbc ?_
  simp+decide (disch:=first|exact D0|fail) only[go_sem,↓reduceIte]
  exact fin0 (fr:=fr0) (hp:=hp0) (.inr (Int.natAbs_eq_zero.1 ((hlen _).1 hz2)))
 have hD:D≠0:=fun h=>hz ((hlen _).2 h)
 simp+decide (disch:=first|exact D0|fail) only[go_sem,↓reduceIte]
 refine Qa hP (Q2p (by omega)) rfl rfl rfl ?_
 simp+decide (disch:=first|exact D0|fail) only[go_sem,↓reduceIte]
 refine Qb (fun h1=> ?_) (fun h1=> ?_)
 ·subst h1
  simp+decide (disch:=first|exact D0|fail) only[go_sem,↓reduceIte]
  refine Qbc ?_
  simp+decide (disch:=first|exact D0|fail) only[go_sem,↓reduceIte]
  exact Qc (by rw[<-Qan5];simp only[Qgx]) rfl
 simp+decide (disch:=first|exact D0|fail) only[go_sem,↓reduceIte]
 refine Qa hP (Qag9 (by omega) (by omega)) rfl rfl rfl ?_
 have hg0:Nat.gcd z.natAbs D≠0:=fun h=>hD (Nat.eq_zero_of_gcd_eq_zero_right h)
 have hgl:(dig (Nat.gcd z.natAbs D)).length<2^38:=by
  have:=Qbm (Nat.gcd_le_right z.natAbs (Nat.pos_of_ne_zero hD));unfold nl at this;omega
 have hfin:=Q7k (z:=z) hD
 generalize Nat.gcd z.natAbs D=g at *
 simp+decide (disch:=first|exact D0|fail) only[go_sem,↓reduceIte]
 refine Qa hP (Q2p (by omega)) rfl rfl rfl ?_
 simp+decide (disch:=first|exact D0|fail) only[go_sem,↓reduceIte]
 refine Qjh (fun h2=> ?_) (fun h2=> ?_)
 ·simp+decide (disch:=first|exact D0|fail) only[go_sem,↓reduceIte]
  refine Qa hP (Qty (by omega) hgl hg0) rfl rfl rfl ?_
  simp+decide (disch:=first|exact D0|fail) only[go_sem,↓reduceIte]
  refine Qa hP (Qty (by omega) hgl hg0) rfl rfl rfl ?_
  simp+decide (disch:=first|exact D0|fail) only[go_sem,↓reduceIte]
  refine Qbc ?_
  simp+decide (disch:=first|exact D0|fail) only[go_sem,↓reduceIte]
  exact Qc hfin rfl
 ·have:g=1:=by simpa using h2
  subst this
  rw[Nat.div_one,Nat.div_one]at hfin
  simp+decide (disch:=first|exact D0|fail) only[go_sem,↓reduceIte]
  refine Qbc ?_
  simp+decide (disch:=first|exact D0|fail) only[go_sem,↓reduceIte]
  exact Qc hfin rfl
theorem Qe1(a:List Nat):Qd Tryz.prog 207 [PV.nat a] (· =PV.zi false a):=by
 refine Qf Qk Tryz.func207 rfl Qag0 (by simp[c207]) fun C hP=> ?_;simp only[c207,Zo,Zg,Zm,Zc,Zf,Zl,Zh,Zs,Zi,Zb,Zk,Zn,Zu,Zq,Zr,Zz]
 simp+decide (disch:=first|exact D0|fail) only[go_sem,↓reduceIte]
 refine Qbc ?_
 simp+decide (disch:=first|exact D0|fail) only[go_sem,↓reduceIte]
 exact Qc rfl rfl
def Qalf(k:Nat)(q:Rat)(r:PV):Prop:=∃n a d,r= .tup [PV.zi n a,PV.nat d]/\Qh a/\Qh d/\a.length<=k/\d.length<=k/\val d≠0/\rv n a d=q
theorem Qd8{n:Bool}{a d:List Nat}{k:Nat}(ha:Qh a)(hd:Qh d)(hk:1<=k)(hla:a.length<=k)(hld:d.length<=k)(hk2:k<2^38):Qd Tryz.prog 203 [PV.rr n a d] (Qalf k (rv n a d)):=by
 refine Qf Qk Tryz.func203 rfl Qagz (by simp[c203]) fun C hP=> ?_;simp only[c203,Zo,Zg,Zm,Zc,Zf,Zl,Zh,Zs,Zi,Zb,Zk,Zn,Zu,Zq,Zr,Zz]
 simp+decide (disch:=first|exact D0|fail) only[go_sem,↓reduceIte]
 refine Qcs hP (Qwr hd (by omega)) rfl rfl rfl ?_
 rintro _ ⟨b,rfl,hb⟩
 simp+decide (disch:=first|exact D0|fail) only[go_sem,↓reduceIte]
 refine Qb (fun hz=> ?_) (fun hz=> ?_)
 ·have h0:val d=0:=hb.1 (by omega)
  simp+decide (disch:=first|exact D0|fail) only[go_sem,↓reduceIte]
  refine Qa hP Ql4 rfl rfl rfl ?_
  simp+decide (disch:=first|exact D0|fail) only[go_sem,↓reduceIte]
  refine Qh7 ?_
  simp+decide (disch:=first|exact D0|fail) only[go_sem,↓reduceIte]
  refine⟨⟨rfl,rfl⟩,.tup [PV.zi false [],PV.nat [1]],⟨⟨rfl,trivial,trivial⟩,Qz _,trivial⟩,false,[],[1],rfl,Qcx,by intro x hx;simp at hx;omega,by simp,by simpa using hk,by simp[val],?_⟩
  unfold rv;rw[h0,Rat.mkRat_zero];rfl
 ·have h0:val d≠0:=fun h=>hz (by rw[hb.2 h];rfl)
  simp+decide (disch:=first|exact D0|fail) only[go_sem,↓reduceIte]
  refine Qfx ?_ ?_
  all_goals
   simp+decide (disch:=first|exact D0|fail) only[go_sem,↓reduceIte]
   refine Qh7 ?_
   simp+decide (disch:=first|exact D0|fail) only[go_sem,↓reduceIte]
   exact⟨⟨rfl,rfl⟩,.tup [PV.zi n a,PV.nat d],⟨Qz _,Qz _,trivial⟩,n,a,d,rfl,ha,hd,hla,hld,h0,rfl⟩
theorem Qab9{z:Int}{m:Bool}{b:List Nat}(hb:Qh b)(hla:nl z.natAbs<2^40)(hlb:b.length<2^40):Qd Tryz.prog 239 [PV.zz z,PV.zi m b] (· =PV.zz (z+zv m b)):=by
 have:=Qtx (n:=decide (z<0)) (a:=dig z.natAbs) (m:=m) (Qj _) hb hla hlb
 rwa[Qfy]at this
theorem Qzv{n m:Bool}{a b:List Nat}(ha:Qh a)(hb:Qh b)(hla:a.length<2^39)(hlb:b.length<2^39):Qd Tryz.prog 205 [.sl 2 [PV.zi n a,PV.zi m b]] (· =PV.zz (zv n a+zv m b)):=by
  have hna:=Qar ha
  rw[<-Qbg n a]at hna
  refine Qf Qk Tryz.func205 rfl Qag3 (by simp[c205]) fun C hP=> ?_;simp only[c205,Zo,Zg,Zm,Zc,Zf,Zl,Zh,Zs,Zi,Zb,Zk,Zn,Zu,Zq,Zr,Zz]
  simp+decide (disch:=first|exact D0|fail) only[go_sem,↓reduceIte]
  refine Q6 (by repeat (first|exact Qx|exact Qp|exact Qq|exact Qr|exact Qt|apply Qo|apply Qw|apply Q4|apply Qac|apply Qad|apply Qm)) [(5,5),(8,15)] [5] (fun k J hp=>∃i,k=2-i/\i<=2/\J 8= .int .i64 (i:Nat)/\hp 2=some ⟨2,30,[.agg [.bool false,.nilS]],false⟩/\hp 3=some ⟨2,30,[if i=0 then .agg [.bool false,.nilS]else if i=1 then PV.zz (zv n a)else PV.zz (zv n a+zv m b)],false⟩) 2 ?_ ?_
  · refine⟨0,rfl,by omega,?_⟩
    simp+decide (disch:=first|exact D0|fail) only[go_sem,↓reduceIte]
    simp
  rintro _ J h ⟨i,rfl,hi,h8,hh2,hh3⟩
  simp+decide (disch:=first|exact D1 h8|fail) only[go_sem,↓reduceIte,h8]
  refine Qb (fun hg=> ?_) (fun hg=> ?_)
  · have hi2 : i = 0 ∨ i = 1 := by have:i<2:=by omega
                                   omega
    rcases hi2 with rfl|rfl
    · have h8':J 8= .int .i64 0:=h8
      simp+decide (disch:=first|exact D3 h8' hh2 hh3|fail) only[go_sem,↓reduceIte,h8',hh2,hh3]
      refine Qa hP ((Qtx (n:=false) (a:=[]) (m:=n) (b:=a) Qcx ha (by simp) (by omega)).le (args':=[.agg [.bool false,.nilS],PV.zi n a]) ⟨⟨rfl,trivial,trivial⟩,Qz _,trivial⟩) rfl rfl rfl ?_
      simp+decide (disch:=first|exact D3 h8' hh2 hh3|fail) only[go_sem,↓reduceIte,h8',hh2,hh3]
      refine Qi 1 (by omega) ⟨1,rfl,by omega,?_⟩
      simp+decide (disch:=first|exact D2 hh2 hh3|fail) only[go_sem,↓reduceIte,hh2,hh3]
      simp[zv,val]
    · rw[if_neg (by omega),if_pos rfl]at hh3
      have h8':J 8= .int .i64 1:=h8
      simp+decide (disch:=first|exact D3 h8' hh2 hh3|fail) only[go_sem,↓reduceIte,h8',hh2,hh3]
      refine Qa hP (Qab9 (z:=zv n a) hb (by omega) (by omega)) rfl rfl rfl ?_
      simp+decide (disch:=first|exact D3 h8' hh2 hh3|fail) only[go_sem,↓reduceIte,h8',hh2,hh3]
      refine Qi 0 (by omega) ⟨2,rfl,by omega,?_⟩
      simp+decide (disch:=first|exact D2 hh2 hh3|fail) only[go_sem,↓reduceIte,hh2,hh3]
      simp
  · obtain rfl:i=2:=by simp at hg;omega
    rw[if_neg (by omega),if_neg (by omega)]at hh3
    simp+decide (disch:=first|exact D3 h8 hh2 hh3|fail) only[go_sem,↓reduceIte,h8,hh2,hh3]
    refine Qbc ?_
    simp+decide (disch:=first|exact D2 hh2 hh3|fail) only[go_sem,↓reduceIte,hh2,hh3]
    exact Qc rfl rfl
end Go.Proofs.YtonfajmchebkeaaGreat
namespace Go.Proofs.YtonfajmchebkeaaGreat
open Go Go.FW
set_option linter.unusedSimpArgs false
set_option linter.unusedVariables false
set_option maxRecDepth 100000
theorem Qkb{z:Int}{d:List Nat}(hd:Qh d)(hz:nl z.natAbs<2^38)(hld:d.length<2^38):Qd Tryz.prog 204 [PV.zz z,PV.nat d] (· =PV.rat (mkRat z (val d))):=by
 have:=Qpw (n:=decide (z<0)) (Qj z.natAbs) hd hz hld
 rwa[rv,Qfy]at this
theorem Q7v{x y:Int}(hx:nl x.natAbs<2^39)(hy:nl y.natAbs<2^39):Qd Tryz.prog 205 [.sl 2 [PV.zz x,PV.zz y]] (· =PV.zz (x+y)):=by
 have:=Qzv (n:=decide (x<0)) (m:=decide (y<0)) (Qj x.natAbs) (Qj y.natAbs) hx hy
 rwa[Qfy,Qfy]at this
theorem Qaca{x y:Int}(hx:nl x.natAbs<2^40)(hy:nl y.natAbs<2^40):Qd Tryz.prog 241 [PV.zz x,PV.zz y] (· = .int .i64 (Qbz x y)):=by
 have:=Q4s (n:=decide (x<0)) (m:=decide (y<0)) (Qj x.natAbs) (Qj y.natAbs) hx hy
 rwa[Qfy,Qfy]at this
structure Raw(k:Nat)(n:Bool)(a d:List Nat):Prop where
 la:Qh a
 ld:Qh d
 sa:a.length<=k
 sd:d.length<=k
 k1:1<=k
theorem Qcq{q:Rat}{k:Nat}(h:rs q<=k):Raw k (decide (q.num<0)) (dig q.num.natAbs) (dig q.den):=by
 have:=Qzd q
 unfold rs nl at *
 exact⟨Qj _,Qj _,by omega,by omega,by omega⟩
theorem Raw.rs{n:Bool}{a d:List Nat}{k:Nat}(h:Raw k n a d):FW.rs (rv n a d)<=k:=Qak8 (k:=k) (n:=k) h.la h.ld h.sa h.sd h.k1
theorem Qws{n m:Bool}{a d b c:List Nat}{k:Nat}(hp:Raw k n a d)(hq:Raw k m b c)(hk:k<2^36):Qd Tryz.prog 153 [PV.rr n a d,PV.rr m b c] (· =PV.rat (rv n a d+rv m b c)):=by
 refine Qf Qk Tryz.func153 rfl Qag4 (by simp[c153]) fun C hP=> ?_;simp only[c153,Zo,Zg,Zm,Zc,Zf,Zl,Zh,Zs,Zi,Zb,Zk,Zn,Zu,Zq,Zr,Zz]
 simp+decide (disch:=first|exact D0|fail) only[go_sem,↓reduceIte]
 refine Qcs hP (Qd8 hp.la hp.ld hp.k1 hp.sa hp.sd (by omega)) rfl rfl rfl ?_
 rintro _ ⟨n',a',d',rfl,g1,g2,g3,g4,g5,g6⟩
 simp+decide (disch:=first|exact D0|fail) only[go_sem,↓reduceIte]
 refine Qcs hP (Qd8 hq.la hq.ld hq.k1 hq.sa hq.sd (by omega)) rfl rfl rfl ?_
 rintro _ ⟨m',b',c',rfl,e1,e2,e3,e4,e5,e6⟩
 simp+decide (disch:=first|exact D0|fail) only[go_sem,↓reduceIte]
 refine Qa hP (Qsf (by omega)) rfl rfl rfl ?_
 have key:=Rat.mkRat_add_mkRat (zv n' a') (zv m' b') g5 e5
 have hza:nl (zv n' a').natAbs<=k:=by rw[Qbg];exact Nat.le_trans (Qar g1) g3
 have hzb:nl (zv m' b').natAbs<=k:=by rw[Qbg];exact Nat.le_trans (Qar e1) e3
 have hvd:nl (val d')<=k:=Nat.le_trans (Qar g2) g4
 have hvc:nl (val c')<=k:=Nat.le_trans (Qar e2) e4
 rw[<-g6,<-e6]
 unfold rv
 rw[key]
 simp+decide (disch:=first|exact D0|fail) only[go_sem,↓reduceIte]
 refine Qan (fun h1=> ?_) (fun h1=> ?_)
 ·simp+decide (disch:=first|exact D0|fail) only[go_sem,↓reduceIte]
  refine Qa hP (Qsf (by omega)) rfl rfl rfl ?_
  simp+decide (disch:=first|exact D0|fail) only[go_sem,↓reduceIte]
  refine Qb (fun h2=> ?_) (fun h2=> ?_)
  ·subst h1 h2
   simp+decide (disch:=first|exact D0|fail) only[go_sem,↓reduceIte]
   refine Qcj hP (Qzv (n:=n') (m:=m') g1 e1 (by omega) (by omega)) U0 rfl ?_
   simp+decide (disch:=first|exact E0|fail) only[go_sem,↓reduceIte,Q7,List.contains_cons,List.contains_nil,List.flatMap_cons,List.flatMap_nil,List.append_nil]
   have hs:=Qf6 (zv n' a') (zv m' b')
   refine Qa hP (Qkb g2 (by omega) (by omega)) rfl rfl rfl ?_
   simp+decide (disch:=first|exact E0|fail) only[go_sem,↓reduceIte,Q7,List.contains_cons,List.contains_nil,List.flatMap_cons,List.flatMap_nil,List.append_nil]
   refine Qbc ?_
   simp+decide (disch:=first|exact E0|fail) only[go_sem,↓reduceIte,Q7,List.contains_cons,List.contains_nil,List.flatMap_cons,List.flatMap_nil,List.append_nil]
   exact Qc (congrArg PV.rat (by simp[val])) rfl
  ·simp+decide (disch:=first|exact D0|fail) only[go_sem,↓reduceIte]
   refine Qa hP (Qe1 _) rfl rfl rfl ?_
   simp+decide (disch:=first|exact D0|fail) only[go_sem,↓reduceIte]
   refine Qa hP (Qd7 (n:=n') (m:=false) g1 e2 (by omega) (by omega)) rfl rfl rfl ?_
   simp+decide (disch:=first|exact D0|fail) only[go_sem,↓reduceIte]
   refine Qa hP (Qe1 _) rfl rfl rfl ?_
   simp+decide (disch:=first|exact D0|fail) only[go_sem,↓reduceIte]
   refine Qa hP (Qd7 (n:=m') (m:=false) e1 g2 (by omega) (by omega)) rfl rfl rfl ?_
   rw[Qgo,Qgo]
   have h3:=Qa2 (zv n' a') (val c')
   have h4:=Qa2 (zv m' b') (val d')
   have h5:=Qf6 (zv n' a'*(val c':Int)) (zv m' b'*(val d':Int))
   have h6:=Qb1 (val d') (val c')
   rw[Int.natAbs_natCast]at h3 h4
   simp+decide (disch:=first|exact D0|fail) only[go_sem,↓reduceIte]
   refine Qcj hP (Q7v (x:=zv n' a'*(val c':Int)) (y:=zv m' b'*(val d':Int)) (by omega) (by omega)) U0 rfl ?_
   simp+decide (disch:=first|exact E0|fail) only[go_sem,↓reduceIte,Q7,List.contains_cons,List.contains_nil,List.flatMap_cons,List.flatMap_nil,List.append_nil]
   refine Qa hP (Qoi g2 e2 (by omega) (by omega)) rfl rfl rfl ?_
   simp+decide (disch:=first|exact E0|fail) only[go_sem,↓reduceIte,Q7,List.contains_cons,List.contains_nil,List.flatMap_cons,List.flatMap_nil,List.append_nil]
   refine Qa hP (Qkb (z:=zv n' a'*(val c':Int)+zv m' b'*(val d':Int)) (Qj _) (by omega) (by show nl _<_;omega)) rfl rfl rfl ?_
   simp+decide (disch:=first|exact E0|fail) only[go_sem,↓reduceIte,Q7,List.contains_cons,List.contains_nil,List.flatMap_cons,List.flatMap_nil,List.append_nil]
   refine Qbc ?_
   simp+decide (disch:=first|exact E0|fail) only[go_sem,↓reduceIte,Q7,List.contains_cons,List.contains_nil,List.flatMap_cons,List.flatMap_nil,List.append_nil]
   exact Qc (by rw[Q2]) rfl
 · simp+decide (disch:=first|exact D0|fail) only[go_sem,↓reduceIte]
   refine Qa hP (Qe1 _) rfl rfl rfl ?_
   simp+decide (disch:=first|exact D0|fail) only[go_sem,↓reduceIte]
   refine Qa hP (Qd7 (n:=n') (m:=false) g1 e2 (by omega) (by omega)) rfl rfl rfl ?_
   simp+decide (disch:=first|exact D0|fail) only[go_sem,↓reduceIte]
   refine Qa hP (Qe1 _) rfl rfl rfl ?_
   simp+decide (disch:=first|exact D0|fail) only[go_sem,↓reduceIte]
   refine Qa hP (Qd7 (n:=m') (m:=false) e1 g2 (by omega) (by omega)) rfl rfl rfl ?_
   rw[Qgo,Qgo]
   have h3:=Qa2 (zv n' a') (val c')
   have h4:=Qa2 (zv m' b') (val d')
   have h5:=Qf6 (zv n' a'*(val c':Int)) (zv m' b'*(val d':Int))
   have h6:=Qb1 (val d') (val c')
   rw[Int.natAbs_natCast]at h3 h4
   simp+decide (disch:=first|exact D0|fail) only[go_sem,↓reduceIte]
   refine Qcj hP (Q7v (x:=zv n' a'*(val c':Int)) (y:=zv m' b'*(val d':Int)) (by omega) (by omega)) U0 rfl ?_
   simp+decide (disch:=first|exact E0|fail) only[go_sem,↓reduceIte,Q7,List.contains_cons,List.contains_nil,List.flatMap_cons,List.flatMap_nil,List.append_nil]
   refine Qa hP (Qoi g2 e2 (by omega) (by omega)) rfl rfl rfl ?_
   simp+decide (disch:=first|exact E0|fail) only[go_sem,↓reduceIte,Q7,List.contains_cons,List.contains_nil,List.flatMap_cons,List.flatMap_nil,List.append_nil]
   refine Qa hP (Qkb (z:=zv n' a'*(val c':Int)+zv m' b'*(val d':Int)) (Qj _) (by omega) (by show nl _<_;omega)) rfl rfl rfl ?_
   simp+decide (disch:=first|exact E0|fail) only[go_sem,↓reduceIte,Q7,List.contains_cons,List.contains_nil,List.flatMap_cons,List.flatMap_nil,List.append_nil]
   refine Qbc ?_
   simp+decide (disch:=first|exact E0|fail) only[go_sem,↓reduceIte,Q7,List.contains_cons,List.contains_nil,List.flatMap_cons,List.flatMap_nil,List.append_nil]
   exact Qc (by rw[Q2]) rfl
end Go.Proofs.YtonfajmchebkeaaGreat
namespace Go.FW
open Go
variable {C : Ctx} {fr : Fr} {hp : HP} {R : Qg}
end Go.FW
namespace Go.FW
open Go
variable {C : Ctx} {ρ : Nat -> Option Nat} {fr fr' : Fr} {hp : HP} {w : World} {K R : Qg}
theorem Qbs.known{p:PV}{v:Value}(h:Qbs C ρ hp w p v):∀γ∈p.sref1,hp γ≠none:=by
 intro γ hγ
 cases p with
 |mso β o n=>simp[PV.sref1]at hγ;subst hγ;obtain⟨_,hb,h1,_⟩:=h;simp[h1]
 |nso β o n=>simp[PV.sref1]at hγ;subst hγ;obtain⟨_,hb,b,cap,h1,_⟩:=h;simp[h1]
 |np β o n=>cases h
 |_=>cases hγ
theorem Qbh.known{p:PV}{v:Value}(h:Qbh C ρ hp w p v):(∀γ∈p.ref1,hp γ≠none)/\∀γ∈p.nref1,hp γ≠none:=by
 cases p with
 |mp β i o=>obtain⟨b,hb,h1,h2,_⟩:=h;simp[PV.ref1,PV.nref1,h2]
 |mso β o n=>obtain⟨hb,h1,_⟩:=h;simp[PV.ref1,PV.nref1,h1]
 |rb β o n=>obtain⟨b,u,_,_,_,_,hb,h1,_⟩:=h;simp[PV.ref1,PV.nref1,h1]
 |np γ i o=>obtain⟨_,b,hb,h1,h2,_⟩:=h;simp[PV.ref1,PV.nref1,h2]
 |nso γ o n=>obtain⟨_,hb,b,cap,h1,_⟩:=h;simp[PV.ref1,PV.nref1,h1]
 |_=>exact⟨(fun γ hγ=>by cases hγ),(fun γ hγ=>by cases hγ)⟩
theorem Ql.known{p:PV}{v:Value}(h:Ql C ρ hp w p v):(∀γ∈p.refs,hp γ≠none)/\∀γ∈p.sref,hp γ≠none:=by
 cases p with
 |mp β i o=>obtain⟨b,hb,h1,h2,_⟩:=h;simp[PV.refs,PV.sref,h2]
 |mso β o n=>obtain⟨hb,h1,_⟩:=h;simp[PV.refs,PV.sref,h1]
 |rb β o n=>obtain⟨b,u,_,_,_,_,hb,h1,_⟩:=h;simp[PV.refs,PV.sref,h1]
 |np γ i o=>obtain⟨_,b,hb,h1,h2,_⟩:=h;simp[PV.refs,PV.sref,h2]
 |nso γ o n=>obtain⟨_,hb,b,cap,h1,_⟩:=h;simp[PV.refs,PV.sref,h1]
 |rag cs=>
  obtain⟨vs,_,_,h2⟩:=h
  refine⟨fun γ hγ=>(by cases hγ),fun γ hγ=> ?_⟩
  obtain⟨x,hx,hγ⟩:=List.mem_flatMap.1 hγ
  obtain⟨i,hi⟩:=List.getElem?_of_mem hx
  exact(h2 i x hi).known γ hγ
 | nst β e ty xs=>
  obtain⟨_,_,b,hb,cur,cap,_,g2,_,_,_,_,_,_,_,_,h11⟩:=h
  refine⟨fun γ hγ=>(by cases hγ),fun γ hγ=> ?_⟩
  rcases List.mem_cons.1 hγ with rfl|hγ
  ·simp[g2]
  ·obtain⟨x,hx,hγ⟩:=List.mem_flatMap.1 hγ
   obtain⟨y,hy,hγ⟩:=List.mem_flatMap.1 hγ
   obtain⟨i,hi⟩:=List.getElem?_of_mem hx
   obtain⟨j,hj⟩:=List.getElem?_of_mem hy
   exact(h11 i x hi j y hj).known γ hγ
 | fn f first cap=>
  obtain⟨fv,cv,_,_,_,h3,h4⟩:=h
  have g:∀(l:List PV)(u:Array Value),(∀(i:Nat)(x:PV),l[i]? =some x->Qbh C ρ hp w x (u.getD i undef))->(∀γ∈l.flatMap PV.ref1,hp γ≠none)/\∀γ∈l.flatMap PV.nref1,hp γ≠none:=by
   intro l u hl
   refine⟨fun γ hγ=> ?_,fun γ hγ=> ?_⟩<;>
   ·obtain⟨x,hx,hγ⟩:=List.mem_flatMap.1 hγ
    obtain⟨i,hi⟩:=List.getElem?_of_mem hx
    first|exact(hl i x hi).known.1 γ hγ|exact(hl i x hi).known.2 γ hγ
  refine⟨fun γ hγ=> ?_,fun γ hγ=> ?_⟩
  ·rcases List.mem_append.1 hγ with hγ|hγ
   ·exact(g first fv h3).1 γ hγ
   ·exact(g cap cv h4).1 γ hγ
  ·rcases List.mem_append.1 hγ with hγ|hγ
   ·exact(g first fv h3).2 γ hγ
   ·exact(g cap cv h4).2 γ hγ
 |_=>exact⟨(fun γ hγ=>by cases hγ),(fun γ hγ=>by cases hγ)⟩
def isN(β:Nat):Bool:=decide (2000000<=β)
def isS(β:Nat):Bool:=isN β||decide (β<1000000)
theorem Qan8{β:Nat}(h:isS β=false):isN β=false:=by simp[isS]at h;exact h.1
def Qer:PV->PV
 | .nst _ _ _ _| .rag _=> .undef
 |p=>if p.refs.any isN||p.sref.any isS then .undef else p
def Qdm(F:Fr):Fr:=fun s=>Qer (F s)
def Cln(p:PV):Prop:=(∀β∈p.refs,isN β=false)/\(∀β∈p.sref,isS β=false)/\(∀γ e ty xs,p≠ .nst γ e ty xs)/\∀cs,p≠ .rag cs
theorem Qacb(p:PV):Cln (Qer p):=by
 have h0:Cln .undef:=⟨(fun β h=>by cases h),(fun β h=>by cases h),(fun _ _ _ _ h=>by cases h),(fun _ h=>by cases h)⟩
 unfold Qer
 split
 ·exact h0
 ·exact h0
 ·rename_i hn hn2
  split
  ·exact h0
  ·rename_i h
   simp only[Bool.or_eq_true,not_or,Bool.not_eq_true,List.any_eq_false]at h
   exact⟨fun β hβ=>by simpa using h.1 β hβ,fun β hβ=>by simpa using h.2 β hβ,fun γ e ty xs=>hn γ e ty xs,hn2⟩
theorem Cln.kill{p:PV}(h:Cln p){B:List Nat}:Cln (if p.refs.any B.contains then .undef else p):=by
 split
 ·exact⟨(fun β h=>by cases h),(fun β h=>by cases h),(fun _ _ _ _ h=>by cases h),(fun _ h=>by cases h)⟩
 ·exact h
theorem Qwt{β:Nat}{p:PV}(h:∀γ∈p.refs,γ≠β):Qam β p=p:=by
 unfold Qam
 rw[if_neg]
 intro hc
 exact h β (by simpa using hc) rfl
theorem Q7w{β:Nat}{p:PV}(h:∀γ∈p.sref1,γ≠β):Qdr β p=p:=by
 cases p with
 |mso γ o n=>simp only[Qdr];rw[if_neg (h γ (by simp[PV.sref1]))]
 |nso γ o n=>simp only[Qdr];rw[if_neg (h γ (by simp[PV.sref1]))]
 |_=>rfl
theorem Q7x{β:Nat}{p:PV}(h:∀γ∈p.refs,γ≠β)(h2:∀γ∈p.sref,γ≠β)(h3:∀γ e ty xs,p≠ .nst γ e ty xs):Qbk β p=p:=by
 cases p with
 |nst γ e ty xs=>exact absurd rfl (h3 _ _ _ _)
 |rag cs=>
  simp only[Qbk]
  congr 1
  conv=>rhs;rw[<-List.map_id cs]
  exact List.map_congr_left fun x hx=>Q7w fun γ hγ=>h2 γ (List.mem_flatMap.2 ⟨x,hx,hγ⟩)
 |nso γ o n=>simp only[Qbk];rw[if_neg (h2 γ (by simp[PV.sref]))]
 |np γ i o=>simp only[Qbk];rw[if_neg (h2 γ (by simp[PV.sref]))]
 |fn f first cap=>
  simp only[Qbk]
  rw[if_neg,Qwt h]
  intro hc
  exact h2 β (by simpa[PV.sref]using hc) rfl
 |_=>exact Qwt h
theorem Q7y{β γ:Nat}(h:2000000<=β)(h2:isN γ=false):γ≠β:=by
 simp[isN]at h2;omega
abbrev bse(B:List Nat)(F:Fr):Fr:=Qae B (Qdm F)
theorem Qm4(B:List Nat)(F:Fr)(s:Nat):Cln (bse B F s):=(Qacb (F s)).kill
theorem Qwu{β:Nat}{B:List Nat}{F:Fr}(h:2000000<=β):Qem β (bse B F)=bse B F:=by
 funext s
 have hc:=Qm4 B F s
 exact Q7x (fun γ hγ=>Q7y h (hc.1 γ hγ)) (fun γ hγ=>Q7y h (Qan8 (hc.2.1 γ hγ))) hc.2.2.1
theorem Qwv{γ:Nat}{B:List Nat}{F:Fr}:Qd0 γ (bse B F)=bse B F:=by
 funext s
 have hc:=Qm4 B F s
 show Qdz γ (bse B F s)=_
 generalize bse B F s=p at *
 cases p with
 |nst γ' e ty xs=>exact absurd rfl (hc.2.2.1 _ _ _ _)
 |_=>rfl
theorem Q7z{W:List (Nat×Nat)}{β:Nat}{J F:Fr}:Qem β (ovr W J F)=ovr W (Qem β J) (Qem β F):=by
 funext s;unfold Qem ovr;split<;>rfl
theorem Q70{W:List (Nat×Nat)}{β:Nat}{J F:Fr}:Qd0 β (ovr W J F)=ovr W (Qd0 β J) (Qd0 β F):=by
 funext s;unfold Qd0 ovr;split<;>rfl
theorem Q71{β d:Nat}{F:Fr}{v:PV}:Qem β (upd F d v)=upd (Qem β F) d (Qbk β v):=by
 funext s;unfold Qem upd;split<;>rfl
theorem Q72{β d:Nat}{F:Fr}{v:PV}:Qd0 β (upd F d v)=upd (Qd0 β F) d (Qdz β v):=by
 funext s;unfold Qd0 upd;split<;>rfl
theorem Qacc{β:Nat}{F:Fr}{s:Nat}:Qem β F s=Qbk β (F s):=rfl
theorem Qacd{β:Nat}{F:Fr}{s:Nat}:Qd0 β F s=Qdz β (F s):=rfl
theorem Qaha(W:List (Nat×Nat))(B:List Nat):Fle fr (ovr W fr (bse B fr)):=fun s=>by
 unfold ovr bse Qae
 split
 ·exact .inl rfl
 ·split
  ·exact .inr rfl
  ·unfold Qdm Qer
   split
   ·exact .inr rfl
   ·exact .inr rfl
   ·split
    ·exact .inr rfl
    ·exact .inl rfl
theorem Qld{sk:List It}{x:SC}(hok:Qdw R sk)(W:List (Nat×Nat))(B:List Nat)(I:Nat->Fr->HP->Prop)(m0:Nat)(h0:I m0 fr hp)
  (h:∀m J hp,I m J hp->vc C R (.c x:: .el (Qoc W (bse B fr) I m)::sk) (ovr W J (bse B fr)) hp):vc C R (.c (.loop x)::sk) fr hp:=by
 refine Qjj (fun m fr' hp'=>∃J,fr'=ovr W J (bse B fr)/\I m J hp') m0 (Qaha W B).wk ⟨fr,rfl,h0⟩ ?_
 rintro m _ hp' ⟨J,rfl,hI⟩
 refine Qk9 hok.1 _ _ _ _ _ _ (Nat.le_refl _) (.c x (.el ?_ hok.2)) (Fle.refl _) (h m J hp' hI)
 rintro f f' hp2 hf ⟨J2,hp3,m2,e2,hl,h2⟩
 exact Qr5 hl (hf.wk.trans e2) ⟨J2,rfl,h2⟩
def Qeo(l:List (Nat×Nat)):List PV:=l.map fun x=> .mso x.1 0 x.2
def Qan9(d:Nat)(S:List Nat)(γ n:Nat)(x:PV)(fr:Fr):Fr:=fun s=>if s=γ then x else if S.contains s then .nso γ 0 n else Qam d (fr s)
theorem Qzw{tmps:Array Value}(h:Qab C ρ fr hp tmps w){β b:Nat}{hb:HB}{l:List Nat}(hB:isY β=false)(hβ:hp β=some hb)(hl:β∈l)(hρ:ρ β=some b):¬Xof C ρ (Qaf hp l) b:=by
 have hblk:=(h.own β hb hβ).blk
 rw[hρ]at hblk
 rintro(hx|⟨γ,hg,h1,h2,h3⟩)
 ·exact Ctx.cls_notX hblk.1 (Qsw hB) hx
 ·obtain⟨hg0,g1,_,_,_,_,g6⟩:=Qg6 h1
  have:=h.inj γ β b (by simp[g1]) (by simp[hβ]) h3 hρ
  subst this
  exact g6 h2 hl
theorem Qeg.snap{tmps:Array Value}(h:Qab C ρ fr hp tmps w){β o n:Nat}{v:Value}{l:List Nat}{hb:HB}(hr:Qeg ρ hp w β o n v)(hB:isY β=false)(hl:β∈l)(hβ:hp β=some hb):Qv w (Xof C ρ (Qaf hp l)) (.sl hb.e ((hb.xs.drop o).take n)) v:=by
 obtain⟨hb',g1,g2,g3⟩:=hr
 rw[hβ]at g1;cases g1
 rcases g3 with⟨g3,rfl,rfl,rfl⟩|⟨b,cap,g3,rfl,g5,g6⟩
 ·simp only[List.take_zero];exact .slE _ _ _ (Nat.zero_le _)
 ·have hown:=h.own β hb hβ
  have hblk:=hown.blk
  rw[g3]at hblk
  obtain⟨_,hlt,cur,cap',c1,c2,c3,c4,c5⟩:=hblk
  obtain⟨cur',ty',d1,d2⟩:=g5
  rw[c1]at d1;cases d1
  have hcc:o+cap=cap':=by
   rw[c2]at d2
   exact(Nat.eq_of_mul_eq_mul_right hown.epos d2).symm
  subst hcc
  have hlen:((hb.xs.drop o).take n).length=n:=by simp;omega
  have hget:∀(i:Nat)(x:PV),((hb.xs.drop o).take n)[i]? =some x->i<n/\hb.xs[o+i]? =some x:=fun i x hx=>by
   have hi:i<n:=by have:=(List.getElem?_eq_some_iff.1 hx).1;omega
   rw[List.getElem?_take_of_lt hi,List.getElem?_drop]at hx
   exact⟨hi,hx⟩
  have:=Qv.sl (w:=w) (X:=Xof C ρ (Qaf hp l)) hb.e ((hb.xs.drop o).take n) b (o*hb.e) cap (fun i j=>cur.getD ((o+i)*hb.e+j) undef) (Qzw h hB hβ hl g3) hlt (by omega) (by omega)
   (fun i x hx=>(hown.len _ x (hget i x hx).2).1)
   (fun i hi j hj=>by
    rw[hlen]at hi
    have:=Qfg (i:=o+i) (e:=hb.e) (o:=0) (j:=j) (n:=hb.e) (cap:=o+cap) (by omega) (by omega) hj
    rw[Nat.add_zero]at this
    rw[show o*hb.e+i*hb.e+j=(o+i)*hb.e+j by rw[Nat.add_mul]]
    exact Qbl c1 (by rw[c2];exact this))
   (fun i x hx j y hy=>(c5 _ x (hget i x hx).2 j y hy).freeze)
  rwa[hlen]at this
def Qpx(R:Qg):Qg:=fun fr hp=>∃fr' hp',Wk fr hp fr' hp'/\R fr' hp'
theorem Qfl{hp':HP}(hw:Wk fr hp fr' hp')(h:R fr' hp'):Qpx R fr hp:=⟨fr',hp',hw,h⟩
theorem Qahb:KM (Qpx R) (Qpx R):=by
 rintro f f' hp hf ⟨fr',hp',h1,h2⟩
 exact⟨fr',hp',hf.wk.trans h1,h2⟩
theorem Qr:Qdw (Qpx R) []:=⟨Qahb,.nil⟩
theorem Qahc{d γ m i:Nat}{k:IntKind}(h:i<m)(he:(hp γ).map (·.e)=some 1):Qeq 1 (.nso γ 0 m) (.int k (i:Int)) d fr hp K=K (upd fr d (.np γ i 0)) hp:=by
 have e:(0:Int)<=(i:Int):=by omega
 simp[Qeq,e,h,he]
theorem Qahd{d γ o m:Nat}:Qjx (.nso γ o m) d fr hp K=K (upd fr d (.int .i64 m)) hp:=rfl
theorem Qahe{e by_ ty ty' d β γ n:Nat}{xs:List PV}{y:PV}{fz:Bool}(hb:hp β=some ⟨e,ty,xs,false⟩)(hy:hp γ=some ⟨e,ty',[y],fz⟩)(h0:0<e)(hn:n=xs.length)(h1:(n+1)*by_<=140737488355328)(h2:n+1<=9223372036854775807)(hB:2000000<=β):
  Qd2 e by_ ty (.ms β n) (.ms γ 1) d fr hp K=K (upd (Qem β fr) d (.ms β (n+1))) (Qn hp β ⟨e,ty,xs++[y],false⟩):=by
 subst hn
 have b1:isB β=true:=by simp[isB];omega
 have b2:isY β=false:=by simp[isY];omega
 simp[Qd2,Qdh,hy,hb,h0,b1,b2,h1,h2]
theorem Qml{α:Type}{f:α->PV}{y:α}{e by_ ty ty' d β γ n:Nat}{xs:List α}{fz:Bool}(hb:hp β=some ⟨e,ty,xs.map f,false⟩)(hy:hp γ=some ⟨e,ty',[f y],fz⟩)(h0:0<e)(hn:n=xs.length)(h1:(n+1)*by_<=140737488355328)(h2:n+1<=9223372036854775807)(hB:2000000<=β):
  Qd2 e by_ ty (.ms β n) (.ms γ 1) d fr hp K=K (upd (Qem β fr) d (.ms β (n+1))) (Qn hp β ⟨e,ty,(xs++[y]).map f,false⟩):=by
 rw[Qahe hb hy h0 (by simp[hn]) h1 h2 hB];simp
theorem Q73{β γ o n:Nat}(h:γ≠β):Qbk β (.nso γ o n)= .nso γ o n:=by simp only[Qbk];rw[if_neg h]
theorem Qace{β γ o n:Nat}(h:γ≠β):Qbk β (.np γ o n)= .np γ o n:=by simp only[Qbk];rw[if_neg h]
theorem Qaoa:
  (∀(β:Nat)(k:IntKind)(n:Int),Qbk β (.int k n)= .int k n)/\
  (∀(β:Nat)(b:Bool),Qbk β (.bool b)= .bool b)/\
  (∀(β e:Nat)(xs:List PV),Qbk β (.sl e xs)= .sl e xs)/\
  (∀(β:Nat)(cs:List PV),Qbk β (.agg cs)= .agg cs)/\
  (∀(β:Nat)(cs:List PV),Qbk β (.pt cs)= .pt cs)/\
  (∀(β:Nat),Qbk β .nilS= .nilS)/\
  (∀(β:Nat),Qbk β .undef= .undef)/\
  (∀(γ:Nat)(k:IntKind)(n:Int),Qdz γ (.int k n)= .int k n)/\
  (∀(γ:Nat)(b:Bool),Qdz γ (.bool b)= .bool b)/\
  (∀(γ e:Nat)(xs:List PV),Qdz γ (.sl e xs)= .sl e xs)/\
  (∀(γ:Nat)(cs:List PV),Qdz γ (.agg cs)= .agg cs)/\
  (∀(γ:Nat)(cs:List PV),Qdz γ (.pt cs)= .pt cs)/\
  (∀(γ:Nat),Qdz γ .nilS= .nilS)/\
  (∀(γ:Nat),Qdz γ .undef= .undef)/\
  (∀(γ β o n:Nat),Qdz γ (.mso β o n)= .mso β o n)/\
  (∀(γ β o n:Nat),Qdz γ (.mp β o n)= .mp β o n)/\
  (∀(γ β o n:Nat),Qdz γ (.rb β o n)= .rb β o n)/\
  (∀(γ β o n:Nat),Qdz γ (.nso β o n)= .nso β o n)/\
  (∀(γ β o n:Nat),Qdz γ (.np β o n)= .np β o n)/\
  (∀(β γ o n:Nat),Qam β (.nso γ o n)= .nso γ o n)/\
  (∀(β γ o n:Nat),Qam β (.np γ o n)= .np γ o n)/\
  (∀(β γ e ty:Nat)(xs:List PV),Qam β (.nst γ e ty xs)= .nst γ e ty xs)/\
  (∀(β:Nat),Qam β .undef= .undef)/\
  (∀(β:Nat)(cs:List PV),Qam β (.pt cs)= .pt cs):=by
 refine⟨?_,?_,?_,?_,?_,?_,?_,?_,?_,?_,?_,?_,?_,?_,?_,?_,?_,?_,?_,?_,?_,?_,?_,?_⟩<;>intros<;>rfl
theorem Qacf(β γ o n:Nat):Qbk β (.mso γ o n)=if γ=β then .undef else .mso γ o n:=Qyw β γ o n
theorem Qacg(β γ o n:Nat):Qbk β (.mp γ o n)=if γ=β then .undef else .mp γ o n:=Qyx β γ o n
end Go.FW
namespace Go.FW
open Go
variable {C : Ctx} {ρ : Nat -> Option Nat} {fr fr' : Fr} {hp : HP} {w : World} {K R : Qg}
theorem Qahf{F:Fr}{s:Nat}:Qdm F s=Qer (F s):=rfl
theorem Qaob:
  (∀(k:IntKind)(n:Int),Qer (.int k n)= .int k n)/\
  (∀(b:Bool),Qer (.bool b)= .bool b)/\
  (∀(e:Nat)(xs:List PV),Qer (.sl e xs)= .sl e xs)/\
  (∀(cs:List PV),Qer (.agg cs)= .agg cs)/\
  (∀(cs:List PV),Qer (.pt cs)= .pt cs)/\
  (Qer .nilS= .nilS)/\(Qer .undef= .undef)/\
  (∀(β o n:Nat),Qer (.mso β o n)=if isN β then .undef else .mso β o n)/\
  (∀(β o n:Nat),Qer (.mp β o n)=if isN β then .undef else .mp β o n)/\
  (∀(β o n:Nat),Qer (.rb β o n)=if isN β then .undef else .rb β o n)/\
  (∀(β o n:Nat),Qer (.nso β o n)=if isS β then .undef else .nso β o n)/\
  (∀(β o n:Nat),Qer (.np β o n)=if isS β then .undef else .np β o n):=by
 refine⟨fun _ _=>rfl,fun _=>rfl,fun _ _=>rfl,fun _=>rfl,fun _=>rfl,rfl,rfl,?_,?_,?_,?_,?_⟩<;>intros<;>simp[Qer,PV.refs,PV.sref]
theorem Qalg{β:Nat}:isS β=(isN β||decide (β<1000000)):=rfl
theorem Qalh{β:Nat}:isN β=decide (2000000<=β):=rfl
theorem Qach{d γ n:Nat}{S:List Nat}{x:PV}{s:Nat}:Qan9 d S γ n x fr s=if s=γ then x else if S.contains s then .nso γ 0 n else Qam d (fr s):=rfl
theorem Qahg{by_ ty d:Nat}{k k':IntKind}{n c:Nat}(h2:n<=c)(h3:by_*c<=281474976710656)(h4:c<=9223372036854775807):
  mkK 1 by_ ty .nilS (.int k (n:Int)) (.int k' (c:Int)) d fr hp K=K (upd (Qav d fr) d (.ms d n)) (Qn hp d ⟨1,ty,List.replicate n .nilS,false⟩):=by
 rw[Qx3 (e:=1) (by omega) rfl (by omega) (by omega) (by omega) (by omega)];rfl
theorem Qali{k c:Nat}(h:c<3000000):(3000000+k=c)=False:=by simp;omega
theorem Qahh{k c:Nat}(h:c<3000000):(c=3000000+k)=False:=by simp;omega
theorem Qalj{k j:Nat}:(3000000+k=3000000+j)=(k=j):=by simp
attribute [go_sem] Qali Qahh Qalj Qahg Qach Q7z Q70 Q71 Q72 Qacc Qacd Qwu Qwv Qaoa Qacf Qacg Q73 Qace Qahc Qahd Qahf Qaob Qalg Qalh
end Go.FW
namespace Go.FW
open Go
variable {C C' : Ctx} {ρ ρ' : Nat -> Option Nat} {fr fr' : Fr} {hp hp' : HP} {w : World} {K R : Qg}
theorem Qkc{sk:List It}{r:RT}{fr0:Fr}{hp0:HP}(hw:Wk fr hp fr0 hp0)(h:vc C R (.o r::sk) fr0 hp0):vc C R (.o (.wk r)::sk) fr hp:=by rw[Qs5];exact⟨fr0,hp0,hw,h⟩
def rn1(σ:Nat->Nat):PV->PV
 | .mp β i o=> .mp (σ β) i o
 | .mso β o n=> .mso (σ β) o n
 | .rb β o n=> .rb (σ β) o n
 | .np β i o=> .np (σ β) i o
 | .nso β o n=> .nso (σ β) o n
 |p=>p
def rnP(σ:Nat->Nat):PV->PV
 | .fn f a b=> .fn f (a.map (rn1 σ)) (b.map (rn1 σ))
 | .rag cs=> .rag (cs.map (rn1 σ))
 | .nst γ e ty xs=> .nst (σ γ) e ty (xs.map fun x=>Qep (x.ncells.map (rn1 σ)))
 |p=>rn1 σ p
structure Rn1(σ:Nat->Nat)(ρ ρ':Nat->Option Nat)(hp hp':HP)(β:Nat):Prop where
 r:ρ' (σ β)=ρ β
 h:∀hb,hp β=some hb->∃hb2,hp' (σ β)=some hb2/\hb2.e=hb.e/\hb2.ty=hb.ty/\hb2.xs=hb.xs
 b:isB β=true->isB (σ β)=true
theorem Qv.rn1{X:Nat->Prop}{σ:Nat->Nat}{p:PV}{v:Value}(h:Qv w X p v):FW.rn1 σ p=p:=by cases h<;>rfl
theorem Qeg.ren{σ:Nat->Nat}{β o n:Nat}{v:Value}(h:Qeg ρ hp w β o n v)(hr:Rn1 σ ρ ρ' hp hp' β):Qeg ρ' hp' w (σ β) o n v:=by
 obtain⟨hb,h1,h2,h3⟩:=h
 obtain⟨hb',k1,k2,k3,k4⟩:=hr.h hb h1
 refine⟨hb',k1,by rw[k4];exact h2,?_⟩
 rw[hr.r,k2];exact h3
theorem Qij.ren{σ:Nat->Nat}{γ o n:Nat}{v:Value}(h:Qij ρ hp w γ o n v)(hr:Rn1 σ ρ ρ' hp hp' γ):Qij ρ' hp' w (σ γ) o n v:=by
 obtain⟨h0,hb,b,cap,h1,h2,h3⟩:=h
 obtain⟨hb',k1,k2,k3,k4⟩:=hr.h hb h1
 exact⟨hr.b h0,hb',b,cap,k1,by rw[hr.r];exact h2,by rw[k2];exact h3⟩
theorem Qv.sub{X X':Nat->Prop}{p:PV}{v:Value}(h:Qv w X p v)(hX:∀b,X' b->X b):Qv w X' p v:=h.mono (fun _ _ _=>rfl) (fun b _ hn hx=>hn (hX b hx)) (Nat.le_refl _)
theorem Qbs.ren{σ:Nat->Nat}{p:PV}{v:Value}(h:Qbs C ρ hp w p v)(hX:∀b,Xof C' ρ' hp' b->Xof C ρ hp b)(hr:∀β∈p.sref1,Rn1 σ ρ ρ' hp hp' β):Qbs C' ρ' hp' w (rn1 σ p) v:=by
 cases p with
 |undef=>trivial
 |mso β o n=>exact⟨(hr β (by simp[PV.sref1])).b h.1,h.2.ren (hr β (by simp[PV.sref1]))⟩
 |nso γ o n=>exact Qij.ren h (hr γ (by simp[PV.sref1]))
 |mp=>cases h
 |rb=>cases h
 |np=>cases h
 |_=>exact Qv.sub h hX
theorem Qbh.ren{σ:Nat->Nat}{p:PV}{v:Value}(h:Qbh C ρ hp w p v)(hX:∀b,Xof C' ρ' hp' b->Xof C ρ hp b)(hr:∀β∈p.ref1++p.nref1,Rn1 σ ρ ρ' hp hp' β):Qbh C' ρ' hp' w (rn1 σ p) v:=by
 cases p with
 |mp β i o=>
  have hq:=hr β (by simp[PV.ref1])
  obtain⟨b,hb,h1,h2,h3⟩:=h
  obtain⟨hb',k1,k2,k3,k4⟩:=hq.h hb h2
  exact⟨b,hb',by rw[hq.r];exact h1,k1,by rw[k2];exact h3⟩
 |mso β o n=>exact Qeg.ren h (hr β (by simp[PV.ref1]))
 |rb β o n=>
  obtain⟨b,u,h1,h2,h3,h4,h5⟩:=h
  exact⟨b,u,h1,h2,fun hx=>h3 (hX b hx),h4,h5.ren (hr β (by simp[PV.ref1]))⟩
 |np γ i o=>
  have hq:=hr γ (by simp[PV.ref1,PV.nref1])
  obtain⟨h0,b,hb,h1,h2,h3⟩:=h
  obtain⟨hb',k1,k2,k3,k4⟩:=hq.h hb h2
  exact⟨hq.b h0,b,hb',by rw[hq.r];exact h1,k1,by rw[k2];exact h3⟩
 |nso γ o n=>exact Qij.ren h (hr γ (by simp[PV.ref1,PV.nref1]))
 |_=>exact Qv.sub h hX
theorem Qrm{cs:List PV}(h:∀c∈cs,(∀ds,c≠ .agg ds)/\∀ds,c≠ .rag ds):(Qep cs).ncells=cs:=by
 match cs,h with
 | [],_=>rfl
 | [c],h=>
  obtain⟨h1,h2⟩:=h c (by simp)
  cases c with
  |agg ds=>exact absurd rfl (h1 ds)
  |rag ds=>exact absurd rfl (h2 ds)
  |_=>rfl
 |c::d::cs,_=>
  simp only[Qep,Qgs]
  split<;>rfl
theorem Qbs.one{p:PV}{v:Value}(h:Qbs C ρ hp w p v):(∀ds,p≠ .agg ds)/\∀ds,p≠ .rag ds:=by
 refine⟨fun ds e=> ?_,fun ds e=> ?_⟩<;>subst e<;>cases h
theorem Ql.ren{σ:Nat->Nat}{p:PV}{v:Value}(h:Ql C ρ hp w p v)(hX:∀b,Xof C' ρ' hp' b->Xof C ρ hp b)(hr:∀β∈p.refs++p.sref,Rn1 σ ρ ρ' hp hp' β):Ql C' ρ' hp' w (rnP σ p) v:=by
 have hV:∀q u,Qv w (Xof C ρ hp) q u->Qv w (Xof C' ρ' hp') q u:=fun q u hq=>Qv.sub hq hX
 cases p with
 |undef=>trivial
 |mp β i o=>exact Qbh.ren (w:=w) (p:= .mp β i o) h hX (by simpa[PV.refs,PV.sref,PV.ref1,PV.nref1]using hr)
 |mso β o n=>exact Qbh.ren (w:=w) (p:= .mso β o n) h hX (by simpa[PV.refs,PV.sref,PV.ref1,PV.nref1]using hr)
 |rb β o n=>exact Qbh.ren (w:=w) (p:= .rb β o n) h hX (by simpa[PV.refs,PV.sref,PV.ref1,PV.nref1]using hr)
 |np γ i o=>exact Qbh.ren (w:=w) (p:= .np γ i o) h hX (by simpa[PV.refs,PV.sref,PV.ref1,PV.nref1]using hr)
 |nso γ o n=>exact Qbh.ren (w:=w) (p:= .nso γ o n) h hX (by simpa[PV.refs,PV.sref,PV.ref1,PV.nref1]using hr)
 |rag cs=>
  obtain⟨vs,rfl,h1,h2⟩:=h
  refine⟨vs,rfl,by simpa using h1,fun i x hi=> ?_⟩
  simp only[List.getElem?_map,Option.map_eq_some_iff]at hi
  obtain⟨y,hy,rfl⟩:=hi
  exact(h2 i y hy).ren hX fun β hβ=>hr β (List.mem_append_right _ (List.mem_flatMap.2 ⟨y,List.mem_of_getElem? hy,hβ⟩))
 | nst γ e ty xs=>
  obtain⟨h0,he,b,hb,cur,cap,h1,h2,h3,h4,h5,h6,h7,h8,h9,h10,h11⟩:=h
  have hq:=hr γ (by simp[PV.sref])
  have key:∀(i:Nat)(x:PV),xs[i]? =some x->∀(j:Nat)(y:PV),x.ncells[j]? =some y->Qbs C' ρ' hp' w (rn1 σ y) (cur.getD (i*e+j) undef):=fun i x hx j y hy=>
   (h11 i x hx j y hy).ren hX fun β hβ=>hr β (List.mem_append_right _ (List.mem_cons_of_mem _ (List.mem_flatMap.2 ⟨x,List.mem_of_getElem? hx,List.mem_flatMap.2 ⟨y,List.mem_of_getElem? hy,hβ⟩⟩)))
  have hnc:∀(i:Nat)(x:PV),xs[i]? =some x->(Qep (x.ncells.map (rn1 σ))).ncells=x.ncells.map (rn1 σ):=fun i x hx=>by
   refine Qrm fun c hc=> ?_
   obtain⟨y,hy,rfl⟩:=List.mem_map.1 hc
   obtain⟨j,hj⟩:=List.getElem?_of_mem hy
   exact(key i x hx j y hj).one
  obtain⟨hb',k1,k2,k3,k4⟩:=hq.h hb h2
  refine⟨hq.b h0,he,b,hb',cur,cap,by rw[hq.r];exact h1,k1,by rw[k4];exact h3,by rw[k2];exact h4,by rw[k3];exact h5,h6,h7,by simpa using h8,h9,fun i x hx=> ?_,fun i x hx j y hy=> ?_⟩
  ·simp only[List.getElem?_map,Option.map_eq_some_iff]at hx
   obtain⟨x0,hx0,rfl⟩:=hx
   rw[hnc i x0 hx0,List.length_map];exact h10 i x0 hx0
  ·simp only[List.getElem?_map,Option.map_eq_some_iff]at hx
   obtain⟨x0,hx0,rfl⟩:=hx
   rw[hnc i x0 hx0,List.getElem?_map,Option.map_eq_some_iff]at hy
   obtain⟨y0,hy0,rfl⟩:=hy
   exact key i x0 hx0 j y0 hy0
 | fn f first cap=>
  obtain⟨fv,cv,rfl,h1,h2,h3,h4⟩:=h
  have hm:∀(l:List PV)(x:PV),x∈l->∀β∈x.ref1++x.nref1,β∈l.flatMap PV.ref1++l.flatMap PV.nref1:=fun l x hx β hβ=>by
   rcases List.mem_append.1 hβ with hβ|hβ
   ·exact List.mem_append_left _ (List.mem_flatMap.2 ⟨x,hx,hβ⟩)
   ·exact List.mem_append_right _ (List.mem_flatMap.2 ⟨x,hx,hβ⟩)
  refine⟨fv,cv,rfl,by simpa using h1,by simpa using h2,fun i x hi=> ?_,fun i x hi=> ?_⟩
  ·simp only[List.getElem?_map,Option.map_eq_some_iff]at hi
   obtain⟨y,hy,rfl⟩:=hi
   refine(h3 i y hy).ren hX fun β hβ=>hr β ?_
   have:=hm first y (List.mem_of_getElem? hy) β hβ
   simp only[PV.refs,PV.sref,List.mem_append]at this⊢
   rcases this with h|h
   ·exact .inl (.inl h)
   ·exact .inr (.inl h)
  ·simp only[List.getElem?_map,Option.map_eq_some_iff]at hi
   obtain⟨y,hy,rfl⟩:=hi
   refine(h4 i y hy).ren hX fun β hβ=>hr β ?_
   have:=hm cap y (List.mem_of_getElem? hy) β hβ
   simp only[PV.refs,PV.sref,List.mem_append]at this⊢
   rcases this with h|h
   ·exact .inl (.inr h)
   ·exact .inr (.inr h)
 |agg cs=>exact Qcu.move (p:= .agg cs) h hV
 |tup cs=>exact Qcu.move (p:= .tup cs) h hV
 |_=>exact hV _ _ h
theorem Qalk(σ τ:Nat->Nat)(h1:∀β hb,hp β=some hb->hp' (σ β)=some hb/\τ (σ β)=β)(h2:∀γ hb,hp' γ=some hb->hp (τ γ)=some hb/\σ (τ γ)=γ)
  (hB:∀β,hp β≠none->isB β=true->isB (σ β)=true) (hY:∀β,hp β≠none->isY (σ β)=isY β/\(isY β=true->σ β=β)) (hf:∀s,fr' s=rnP σ (fr s)∨fr' s= .undef):Wk fr hp fr' hp':=by
 rintro C tmps w ⟨ρ,hs⟩
 obtain⟨ρ',hρ⟩:∃f:Nat->Option Nat,f=fun γ=>if hp' γ=none then none else ρ (τ γ):=⟨_,rfl⟩
 have hr:∀β,hp β≠none->Rn1 σ ρ ρ' hp hp' β:=fun β hβ=>by
  obtain⟨hb,hq⟩:=Option.ne_none_iff_exists'.1 hβ
  obtain⟨a1,a2⟩:=h1 β hb hq
  refine⟨?_,(fun hb hq=>⟨hb,(h1 β hb hq).1,rfl,rfl,rfl⟩),hB β hβ⟩
  rw[hρ];simp only[]
  rw[if_neg (by rw[a1];simp),a2]
 have hb':∀γ hb,hp' γ=some hb->ρ' γ=ρ (τ γ):=fun γ hb hq=>by rw[hρ];simp only[];rw[if_neg (by rw[hq];simp)]
 have hX:∀b,Xof C ρ' hp' b->Xof C ρ hp b:=by
  rintro b (hx|⟨γ,hg,g1,g2,g3⟩)
  ·exact .inl hx
  ·rw[hb' γ hg g1]at g3
   exact .inr ⟨τ γ,hg,(h2 γ hg g1).1,g2,g3⟩
 refine⟨ρ',hs.sz,hs.ext,hs.keep,fun γ hb hγ=> ?_,fun γ δ b g1 g2 g3 g4=> ?_,fun i=> ?_⟩
 ·obtain⟨a1,a2⟩:=h2 γ hb hγ
  obtain⟨q1,q2,q3,q4,q5⟩:=hs.own (τ γ) hb a1
  obtain⟨y1,y2⟩:=hY (τ γ) (by simp[a1])
  rw[a2]at y1 y2
  refine⟨q1,q2,?_,fun hy=> ?_,fun hR=> ?_⟩
  rotate_left
  rotate_left
  ·have hy:isY γ=true:=by simp[isR]at hR;simp[isY];omega
   have e:=y2 (by rw[<-y1];exact hy)
   exact q5 (by rw[<-e];exact hR)
  ·rw[hb' γ hb hγ]
   cases hq:ρ (τ γ)with
   |none=>rw[hq]at q3;exact q3
   |some b=>
    rw[hq]at q3
    refine⟨?_,q3.2.1,q3.2.2.move rfl rfl rfl rfl fun q u hq=>Qv.sub hq hX⟩
    have:=q3.1
    unfold Ctx.cls at this⊢
    rw[y1]
    split at this
    ·rename_i hy;rw[if_pos hy,y2 hy];exact this
    ·rename_i hy;rw[if_neg hy];exact this
  ·rw[hb' γ hb hγ,q4 (by rw[<-y1];exact hy),<-y2 (by rw[<-y1];exact hy)]
 ·obtain⟨x1,k1⟩:=Option.ne_none_iff_exists'.1 g1
  obtain⟨x2,k2⟩:=Option.ne_none_iff_exists'.1 g2
  rw[hb' γ x1 k1]at g3;rw[hb' δ x2 k2]at g4
  have:=hs.inj (τ γ) (τ δ) b (by rw[(h2 γ x1 k1).1];simp) (by rw[(h2 δ x2 k2).1];simp) g3 g4
  rw[<-(h2 γ x1 k1).2,<-(h2 δ x2 k2).2,this]
 ·have hsl:=hs.slots i
  rcases hf i with e|e
  ·rw[e]
   exact hsl.ren hX fun β hβ=>hr β (by
    rcases List.mem_append.1 hβ with h|h
    ·exact hsl.known.1 β h
    ·exact hsl.known.2 β h)
  ·rw[e];trivial
def mvN(β δ x:Nat):Nat:=if x=β then δ else x
def mvF(β δ:Nat)(fr:Fr):Fr:=fun s=>rnP (mvN β δ) (fr s)
def mvH(β δ:Nat)(hp:HP):HP:=fun x=>if x=δ then hp β else if x=β then none else hp x
theorem Qtz(β δ:Nat)(hδ:hp δ=none)(h2:2000000<=δ)(hY:isY β=false)(hne:β≠δ):Wk fr hp (mvF β δ fr) (mvH β δ hp):=by
 have bδ:isB δ=true:=by simp[isB];omega
 have yδ:isY δ=false:=by simp[isY];omega
 refine Qalk (mvN β δ) (fun y=>if y=δ then β else y) (fun x hb hx=> ?_) (fun y hb hy=> ?_) (fun x hx hb=> ?_) (fun x hx=> ?_) (fun s=> .inl rfl)
 ·unfold mvN mvH
  by_cases e:x=β
  ·subst e;simp[hx]
  ·have e2:x≠δ:=fun e2=>by rw[e2,hδ]at hx;cases hx
   simp[e,e2,hx]
 ·unfold mvH at hy
  unfold mvN
  by_cases e:y=δ
  ·subst e;simp at hy;simp[hy]
  ·rw[if_neg e]at hy
   by_cases e2:y=β
   ·rw[if_pos e2]at hy;cases hy
   ·rw[if_neg e2]at hy;simp[e,e2,hy]
 ·unfold mvN;split
  ·exact bδ
  ·exact hb
 ·unfold mvN;split
  ·rename_i e;subst e;rw[yδ,hY];simp
  ·simp
theorem Qall{β δ x:Nat}:mvH β δ hp x=if x=δ then hp β else if x=β then none else hp x:=rfl
theorem Qalm{β δ s:Nat}:mvF β δ fr s=rnP (mvN β δ) (fr s):=rfl
theorem Qaln{β δ x:Nat}:mvN β δ x=if x=β then δ else x:=rfl
theorem Qahi{β δ d:Nat}{v:PV}:mvF β δ (upd fr d v)=upd (mvF β δ fr) d (rnP (mvN β δ) v):=by
 funext s;unfold mvF upd;split<;>rfl
theorem Qahj{W:List (Nat×Nat)}{β δ:Nat}{J F:Fr}:mvF β δ (ovr W J F)=ovr W (mvF β δ J) (mvF β δ F):=by
 funext s;unfold mvF ovr;split<;>rfl
theorem Qalo{σ:Nat->Nat}{p:PV}(h:∀β∈p.ref1++p.nref1,σ β=β):rn1 σ p=p:=by
 cases p with
 |mp β=>simp only[rn1];rw[h β (by simp[PV.ref1])]
 |mso β=>simp only[rn1];rw[h β (by simp[PV.ref1])]
 |rb β=>simp only[rn1];rw[h β (by simp[PV.ref1])]
 |np β=>simp only[rn1];rw[h β (by simp[PV.ref1,PV.nref1])]
 |nso β=>simp only[rn1];rw[h β (by simp[PV.ref1,PV.nref1])]
 |_=>rfl
theorem Qahk{σ:Nat->Nat}{p:PV}(h:Cln p)(hσ:∀β∈p.refs++p.sref,σ β=β):rnP σ p=p:=by
 have hm:∀(l:List PV),(∀β∈l.flatMap PV.ref1++l.flatMap PV.nref1,σ β=β)->l.map (rn1 σ)=l:=fun l hl=>by
  conv=>rhs;rw[<-List.map_id l]
  refine List.map_congr_left fun x hx=>Qalo fun β hβ=>hl β ?_
  rcases List.mem_append.1 hβ with hβ|hβ
  ·exact List.mem_append_left _ (List.mem_flatMap.2 ⟨x,hx,hβ⟩)
  ·exact List.mem_append_right _ (List.mem_flatMap.2 ⟨x,hx,hβ⟩)
 cases p with
 |nst γ e ty xs=>exact absurd rfl (h.2.2.1 _ _ _ _)
 |rag cs=>exact absurd rfl (h.2.2.2 _)
 | fn f a b=>
  simp only[rnP]
  rw[hm a,hm b]
  ·intro β hβ;refine hσ β ?_
   simp only[PV.refs,PV.sref,List.mem_append]at hβ⊢
   rcases hβ with h|h
   ·exact .inl (.inr h)
   ·exact .inr (.inr h)
  ·intro β hβ;refine hσ β ?_
   simp only[PV.refs,PV.sref,List.mem_append]at hβ⊢
   rcases hβ with h|h
   ·exact .inl (.inl h)
   ·exact .inr (.inl h)
 |mp β=>simp only[rnP,rn1];rw[hσ β (by simp[PV.refs])]
 |mso β=>simp only[rnP,rn1];rw[hσ β (by simp[PV.refs])]
 |rb β=>simp only[rnP,rn1];rw[hσ β (by simp[PV.refs])]
 |np β=>simp only[rnP,rn1];rw[hσ β (by simp[PV.refs,PV.sref])]
 |nso β=>simp only[rnP,rn1];rw[hσ β (by simp[PV.refs,PV.sref])]
 |_=>rfl
theorem Qaci{B:List Nat}{F:Fr}{s β:Nat}(h:β∈(bse B F s).refs):B.contains β=false:=by
 cases hq:B.contains β with
 |false=>rfl
 |true=>
  unfold bse Qae at h
  split at h
  ·cases h
  ·rename_i hn;exact absurd (List.any_eq_true.2 ⟨β,h,hq⟩) hn
theorem Qahl{B:List Nat}{F:Fr}{β δ:Nat}(hβ:B.contains β=true∨2000000<=β)(hβ2:β<1000000∨2000000<=β):mvF β δ (bse B F)=bse B F:=by
 funext s
 have hc:=Qm4 B F s
 refine Qahk hc fun x hx=>if_neg fun e=> ?_
 subst e
 rcases hβ with hβ|hβ
 ·rcases List.mem_append.1 hx with h|h
  ·rw[Qaci h]at hβ;cases hβ
  ·have h1:=hc.2.1 x h
   simp[isS,isN]at h1;omega
 ·rcases List.mem_append.1 hx with h|h
  ·have:=hc.1 x h;simp[isN]at this;omega
  ·have:=hc.2.1 x h;simp[isS,isN]at this;omega
end Go.FW
namespace Go.FW
open Go
variable {C C' : Ctx} {ρ ρ' : Nat -> Option Nat} {fr fr' : Fr} {hp hp' : HP} {w : World} {K R : Qg}
def Qes(γ:Nat):PV->PV
 | .mso β o n=>if β=γ then .nso γ o n else .mso β o n
 | .mp β i o=>if β=γ then .np γ i o else .mp β i o
 | .rb β o n=>if β=γ then .undef else .rb β o n
 |p=>p
def Qdx(γ:Nat):PV->PV
 | .fn f a b=>Qam γ (.fn f a b)
 | .rag cs=> .rag (cs.map (Qes γ))
 | .nst γ' e ty xs=>if γ'=γ then .undef else .nst γ' e ty (xs.map fun x=>Qep (x.ncells.map (Qes γ)))
 |p=>Qes γ p
def Q4t(γ:Nat)(x:PV)(fr:Fr):Fr:=fun s=>if s=γ then x else Qdx γ (fr s)
theorem Qzx {γ e ty:Nat} {xs:List PV} {fz:Bool} (hγ:hp γ=some ⟨e,ty,xs,fz⟩) (h0:xs≠[]) (h2:2000000<=γ) (hd:∀x∈xs,x.ncells=x.cells):Wk fr hp (Q4t γ (.nst γ e ty xs) fr) (Qn hp γ ⟨e,ty,[],fz⟩):=by
 rintro C tmps w ⟨ρ,hs⟩
 have bγ:isB γ=true:=by simp[isB];omega
 have hown:=hs.own γ _ hγ
 have hblk:=hown.blk
 obtain⟨b,hρ⟩:∃b,ρ γ=some b:=by
  cases hq:ρ γ with
  |none=>rw[hq]at hblk;exact absurd hblk h0
  |some b=>exact⟨b,rfl⟩
 rw[hρ]at hblk
 obtain⟨b1,b2,cur,cap,c1,c2,c3,c4,c5⟩:=hblk
 have epos:=hown.epos
 obtain⟨hp',hpE⟩:∃f,f=Qn hp γ ⟨e,ty,[],fz⟩:=⟨_,rfl⟩
 rw[<-hpE]
 have pγ:hp' γ=some ⟨e,ty,[],fz⟩:=by rw[hpE];simp[Qn]
 have po:∀β,β≠γ->hp' β=hp β:=fun β hβ=>by rw[hpE];simp[Qn,hβ]
 have hX:Xof C ρ hp'=Xof C ρ hp:=by
  funext c;apply propext
  constructor
  ·rintro(hx|⟨β,hb,g1,g2,g3⟩)
   ·exact .inl hx
   ·by_cases hβ:β=γ
    ·subst hβ;rw[pγ]at g1;cases g1;exact .inr ⟨β,_,hγ,g2,g3⟩
    ·rw[po β hβ]at g1;exact .inr ⟨β,hb,g1,g2,g3⟩
  ·rintro(hx|⟨β,hb,g1,g2,g3⟩)
   ·exact .inl hx
   ·by_cases hβ:β=γ
    ·subst hβ;rw[hγ]at g1;cases g1;exact .inr ⟨β,_,pγ,g2,g3⟩
    ·exact .inr ⟨β,hb,by rw[po β hβ];exact g1,g2,g3⟩
 have hst:Qjy w w (Xof C ρ hp) (Xof C ρ hp'):=by rw[hX];exact⟨fun _ _ _=>rfl,fun _ _ hn=>hn,Nat.le_refl _⟩
 have c0:∀β,β≠γ->Cnd ρ ρ hp hp' w w β:=fun β hβ=>⟨rfl,fun hb hq=>⟨hb,by rw[po β hβ];exact hq,rfl,Nat.le_refl _,fun _ _ _ h=>h,fun h=>⟨h,rfl,fun _ _=>rfl⟩⟩⟩
 have toS:∀ {o n:Nat} {v:Value},Qeg ρ hp w γ o n v->Qij ρ hp' w γ o n v:=by
  rintro o n v ⟨hb,g1,g2,g3⟩
  rw[hγ]at g1;cases g1
  rcases g3 with⟨g3,_⟩|⟨b',cp,g3,g4,g5,g6⟩
  ·rw[hρ]at g3;cases g3
  ·rw[hρ]at g3;cases g3
   refine⟨bγ,_,b,cp,pγ,hρ,g4,g5,g6,?_⟩
   obtain⟨cur',ty',d1,d2⟩:=g5
   rw[c1]at d1;cases d1
   have:cap=o+cp:=Nat.eq_of_mul_eq_mul_right epos (by rw[<-c2,<-d2])
   simp only at g2 c3
   omega
 have cell:∀ {p:PV} {v:Value},Qbs C ρ hp w p v->Qbs C ρ hp' w (Qes γ p) v:=by
  intro p v h
  cases p with
  |mso β o n=>
   by_cases hβ:β=γ
   ·subst hβ;simp only[Qes,if_true];exact toS h.2
   ·simp only[Qes,if_neg hβ];exact Qbs.move (p:= .mso β o n) h hst fun x hx=>by simp[PV.sref1]at hx;subst hx;exact(c0 _ hβ).weak
  | nso β o n=>
   by_cases hβ:β=γ
   ·obtain⟨_,hb,b',cp,k1,k2,k3,k4,k5,k6⟩:=h
    subst hβ
    rw[hγ]at k1;cases k1
    exact⟨bγ,_,b',cp,pγ,k2,k3,k4,k5,k6⟩
   ·exact Qbs.move (p:= .nso β o n) h hst fun x hx=>by simp[PV.sref1]at hx;subst hx;exact(c0 _ hβ).weak
  |mp=>cases h
  |rb=>cases h
  |np=>cases h
  |undef=>trivial
  |_=>exact Qbs.move h hst (fun x hx=>by cases hx)
 refine⟨ρ,hs.sz,hs.ext,hs.keep,fun β hb hβ=> ?_,fun β δ c g1 g2 g3 g4=> ?_,fun i=> ?_⟩
 ·by_cases hq:β=γ
  ·subst hq
   rw[pγ]at hβ;cases hβ
   refine⟨epos,(fun i x hx=>by simp at hx),?_,hown.fix,hown.ro⟩
   rw[hρ]
   exact⟨b1,b2,cur,cap,c1,c2,Nat.zero_le _,c4,fun i x hx=>by simp at hx⟩
  ·rw[po β hq]at hβ
   obtain⟨q1,q2,q3,q4,q5⟩:=hs.own β hb hβ
   refine⟨q1,q2,?_,q4,q5⟩
   cases hr:ρ β with
   |none=>rw[hr]at q3;exact q3
   |some c=>rw[hr]at q3;exact⟨q3.1,q3.2.1,q3.2.2.move rfl rfl rfl rfl hst.rc⟩
 ·have f:∀β,hp' β≠none->hp β≠none:=fun β hβ=>by
   by_cases hq:β=γ
   ·subst hq;simp[hγ]
   ·rwa[po β hq]at hβ
  exact hs.inj β δ c (f β g1) (f δ g2) g3 g4
 ·have hsl:=hs.slots i
  show Ql C ρ hp' w (Q4t γ (.nst γ e ty xs) fr i) _
  unfold Q4t
  split
  ·refine⟨bγ,epos,b,_,cur,cap,hρ,pγ,rfl,rfl,rfl,c1,c2,c3,c4,fun k x hx=> ?_,fun k x hx j y hy=> ?_⟩
   ·rw[hd x (List.mem_of_getElem? hx)];exact(hown.len k x hx).1
   ·rw[hd x (List.mem_of_getElem? hx)]at hy
    have:=c5 k x hx j y hy
    have h3:Qv w (Xof C ρ hp') y (cur.getD (k*e+j) undef):=by rw[hX];exact this
    cases y with
    |undef=>trivial
    |mso=>cases h3
    |nso=>cases h3
    |_=>exact h3
  ·generalize fr i=p at hsl
   cases p with
   |mso β o n=>
    by_cases hβ:β=γ
    ·subst hβ;simp only[Qdx,Qes,if_true];exact toS hsl
    ·simp only[Qdx,Qes,if_neg hβ];exact Ql.moveC hsl hst (fun x hx=>by simp[PV.refs]at hx;subst hx;exact(c0 _ hβ).o) (fun x hx=>by cases hx)
   | mp β k o=>
    by_cases hβ:β=γ
    ·subst hβ
     simp only[Qdx,Qes,if_true]
     obtain⟨b',hb,g1,g2,g3⟩:=hsl
     rw[hγ]at g2;cases g2
     exact⟨bγ,b',_,g1,pγ,g3⟩
    ·simp only[Qdx,Qes,if_neg hβ];exact Ql.moveC hsl hst (fun x hx=>by simp[PV.refs]at hx;subst hx;exact(c0 _ hβ).o) (fun x hx=>by cases hx)
   |rb β o n=>
    by_cases hβ:β=γ
    ·simp only[Qdx,Qes,if_pos hβ];trivial
    ·simp only[Qdx,Qes,if_neg hβ];exact Ql.moveC hsl hst (fun x hx=>by simp[PV.refs]at hx;subst hx;exact(c0 _ hβ).o) (fun x hx=>by cases hx)
   | np β k o=>
    by_cases hβ:β=γ
    ·subst hβ
     obtain⟨_,b',hb,g1,g2,g3⟩:=hsl
     rw[hγ]at g2;cases g2
     exact⟨bγ,b',_,g1,pγ,g3⟩
    ·refine Ql.moveC (p:= .np β k o) hsl hst (fun x hx=>by cases hx) (fun x hx=> ?_)
     have e1:x=β:=by simpa[PV.sref]using hx
     rw[e1];exact c0 _ hβ
   |nso β o n=>exact cell (p:= .nso β o n) hsl
   |rag cs=>
    obtain⟨vs,e1,h1,h3⟩:=hsl
    refine⟨vs,e1,by simpa using h1,fun k x hk=> ?_⟩
    simp only[List.getElem?_map,Option.map_eq_some_iff]at hk
    obtain⟨y,hy,rfl⟩:=hk
    exact cell (h3 k y hy)
   | nst β e' ty' ys=>
    simp only[Qdx]
    split
    ·trivial
    ·rename_i hβ
     obtain⟨k0,he,b',hb,cur',cap',k1,k2,k3,k4,k5,k6,k7,k8,k9,k10,k11⟩:=hsl
     have hnc:∀(k:Nat)(x:PV),ys[k]? =some x->(Qep (x.ncells.map (Qes γ))).ncells=x.ncells.map (Qes γ):=fun k x hx=>by
      refine Qrm fun c hc=> ?_
      obtain⟨y,hy,rfl⟩:=List.mem_map.1 hc
      obtain⟨j,hj⟩:=List.getElem?_of_mem hy
      exact(cell (k11 k x hx j y hj)).one
     refine⟨k0,he,b',hb,cur',cap',k1,by rw[po β hβ];exact k2,k3,k4,k5,k6,k7,by simpa using k8,k9,fun k x hx=> ?_,fun k x hx j y hy=> ?_⟩
     ·simp only[List.getElem?_map,Option.map_eq_some_iff]at hx
      obtain⟨x0,hx0,rfl⟩:=hx
      rw[hnc k x0 hx0,List.length_map];exact k10 k x0 hx0
     ·simp only[List.getElem?_map,Option.map_eq_some_iff]at hx
      obtain⟨x0,hx0,rfl⟩:=hx
      rw[hnc k x0 hx0,List.getElem?_map,Option.map_eq_some_iff]at hy
      obtain⟨y0,hy0,rfl⟩:=hy
      exact cell (k11 k x0 hx0 j y0 hy0)
   | fn f a c=>
    simp only[Qdx,Qam]
    split
    ·trivial
    ·rename_i hn
     have hn':γ ∉ (PV.fn f a c).refs:=by simpa using hn
     by_cases hm:γ∈(PV.fn f a c).sref
     ·
      obtain⟨fv,cv,g1,g2,g3,g4,g5⟩:=hsl
      have cap1:∀ {x:PV} {v:Value},γ ∉ x.ref1->Qbh C ρ hp w x v->Qbh C ρ hp' w x v:=by
       intro x v hx h
       cases x with
       | np β k o=>
        by_cases hβ:β=γ
        ·subst hβ
         obtain⟨_,b',hb,k1,k2,k3⟩:=h
         rw[hγ]at k2;cases k2
         exact⟨bγ,b',_,k1,pγ,k3⟩
        ·exact Qbh.move (p:= .np β k o) h hst (fun x hx=>by cases hx) (fun x hx=>by simp[PV.nref1]at hx;subst hx;exact(c0 _ hβ).weak)
       |nso β o n=>
        exact cell (p:= .nso β o n) h
       |mp β k o=>exact Qbh.move (p:= .mp β k o) h hst (fun x hx'=>by simp[PV.ref1]at hx' hx;subst hx';exact(c0 _ (fun e=>hx e.symm)).o) (fun x hx=>by cases hx)
       |mso β k o=>exact Qbh.move (p:= .mso β k o) h hst (fun x hx'=>by simp[PV.ref1]at hx' hx;subst hx';exact(c0 _ (fun e=>hx e.symm)).o) (fun x hx=>by cases hx)
       |rb β k o=>exact Qbh.move (p:= .rb β k o) h hst (fun x hx'=>by simp[PV.ref1]at hx' hx;subst hx';exact(c0 _ (fun e=>hx e.symm)).o) (fun x hx=>by cases hx)
       |_=>exact Qbh.move h hst (fun x hx=>by cases hx) (fun x hx=>by cases hx)
      exact⟨fv,cv,g1,g2,g3,fun k x hk=>cap1 (fun hx=>hn' (Qik hk γ hx)) (g4 k x hk),fun k x hk=>cap1 (fun hx=>hn' (Qk0 hk γ hx)) (g5 k x hk)⟩
     ·exact Ql.moveC hsl hst (fun x hx=>(c0 x (fun e=>hn' (e▸hx))).o) (fun x hx=>c0 x (fun e=>hm (e▸hx)))
   |_=>exact Ql.moveC hsl hst (fun x hx=>by cases hx) (fun x hx=>by cases hx)
theorem Qzy{γ e ty:Nat}{xs xs':List PV}(D:Nat->Option (Nat×Nat))(hfr:fr γ= .nst γ e ty xs)(hD:∀δ x,D δ=some x->hp δ=none/\2000000<=δ/\0<x.1)(hl:xs'.length=xs.length)
  (hx:∀(i:Nat)(x x':PV),xs[i]? =some x->xs'[i]? =some x'->x'.ncells.length=x.ncells.length/\∀(j:Nat)(y y':PV),x.ncells[j]? =some y->x'.ncells[j]? =some y'->y'=y∨(y= .nilS/\∃δ z,D δ=some z/\y'= .mso δ 0 0)):
  Wk fr hp (upd fr γ (.nst γ e ty xs')) (fun δ=>match D δ with|some x=>some ⟨x.1,x.2,[],false⟩|none=>hp δ):=by
 rintro C tmps w ⟨ρ,hs⟩
 obtain⟨hp',hpE⟩:∃f:HP,f=fun δ=>match D δ with|some x=>some ⟨x.1,x.2,[],false⟩|none=>hp δ:=⟨_,rfl⟩
 obtain⟨ρ',hρE⟩:∃f:Nat->Option Nat,f=fun δ=>if(D δ).isSome then none else ρ δ:=⟨_,rfl⟩
 rw[<-hpE]
 have pD:∀δ x,D δ=some x->hp' δ=some ⟨x.1,x.2,[],false⟩/\ρ' δ=none:=fun δ x hδ=>by rw[hpE,hρE];simp[hδ]
 have po:∀δ,D δ=none->hp' δ=hp δ/\ρ' δ=ρ δ:=fun δ hδ=>by rw[hpE,hρE];simp[hδ]
 have hk:∀β,hp β≠none->D β=none:=fun β hβ=>by
  cases hq:D β with
  |none=>rfl
  |some x=>exact absurd (hD β x hq).1 hβ
 have hX:∀c,Xof C ρ' hp' c->Xof C ρ hp c:=by
  rintro c (h|⟨β,hb,g1,g2,g3⟩)
  ·exact .inl h
  ·cases hq:D β with
   |none=>rw[(po β hq).1]at g1;rw[(po β hq).2]at g3;exact .inr ⟨β,hb,g1,g2,g3⟩
   |some x=>rw[(pD β x hq).2]at g3;cases g3
 have hst:Qjy w w (Xof C ρ hp) (Xof C ρ' hp'):=⟨fun _ _ _=>rfl,fun c _ hn h=>hn (hX c h),Nat.le_refl _⟩
 have c0:∀β,hp β≠none->Cnd ρ ρ' hp hp' w w β:=fun β hβ=>⟨(po β (hk β hβ)).2,fun hb hq=>⟨hb,by rw[(po β (hk β hβ)).1];exact hq,rfl,Nat.le_refl _,fun _ _ _ h=>h,fun h=>⟨h,rfl,fun _ _=>rfl⟩⟩⟩
 refine⟨ρ',hs.sz,hs.ext,hs.keep,fun β hb hβ=> ?_,fun β δ c g1 g2 g3 g4=> ?_,fun i=> ?_⟩
 ·cases hq:D β with
  |some x=>
   rw[(pD β x hq).1]at hβ;cases hβ
   obtain⟨_,d2,d3⟩:=hD β x hq
   refine⟨d3,(fun i x hx=>by simp at hx),?_,(fun h=>by simp[isY]at h;omega),fun h=>by simp[isR]at h;omega⟩
   rw[(pD β x hq).2]
  |none=>
   rw[(po β hq).1]at hβ
   obtain⟨q1,q2,q3,q4,q5⟩:=hs.own β hb hβ
   refine⟨q1,q2,?_,(by rw[(po β hq).2];exact q4),q5⟩
   rw[(po β hq).2]
   cases hr:ρ β with
   |none=>rw[hr]at q3;exact q3
   |some c=>rw[hr]at q3;exact⟨q3.1,q3.2.1,q3.2.2.move rfl rfl rfl rfl hst.rc⟩
 ·have f:∀β,hp' β≠none->∀c,ρ' β=some c->hp β≠none/\ρ β=some c:=fun β hβ c hc=>by
   cases hq:D β with
   |none=>rw[(po β hq).1]at hβ;rw[(po β hq).2]at hc;exact⟨hβ,hc⟩
   |some x=>rw[(pD β x hq).2]at hc;cases hc
  exact hs.inj β δ c (f β g1 c g3).1 (f δ g2 c g4).1 (f β g1 c g3).2 (f δ g2 c g4).2
 ·have hkn:=(hs.slots i).known
  have old:Ql C ρ' hp' w (fr i) (tmps.getD i undef):=(hs.slots i).moveC hst (fun β hβ=>(c0 β (hkn.1 β hβ)).o) (fun β hβ=>c0 β (hkn.2 β hβ))
  unfold upd
  split
  ·rename_i hi;subst hi
   rw[hfr]at old
   obtain⟨k0,he,b',hb,cur',cap',k1,k2,k3,k4,k5,k6,k7,k8,k9,k10,k11⟩:=old
   have hget:∀(k:Nat)(x':PV),xs'[k]? =some x'->∃x,xs[k]? =some x:=fun k x' hk'=>by
    have:k<xs.length:=by have:=(List.getElem?_eq_some_iff.1 hk').1;omega
    exact⟨_,List.getElem?_eq_getElem this⟩
   refine⟨k0,he,b',hb,cur',cap',k1,k2,k3,k4,k5,k6,k7,by omega,k9,fun k x' hk'=> ?_,fun k x' hk' j y' hy'=> ?_⟩
   ·obtain⟨x,hxk⟩:=hget k x' hk'
    rw[(hx k x x' hxk hk').1];exact k10 k x hxk
   ·obtain⟨x,hxk⟩:=hget k x' hk'
    obtain⟨l1,l2⟩:=hx k x x' hxk hk'
    have hj:j<x.ncells.length:=by have:=(List.getElem?_eq_some_iff.1 hy').1;omega
    have hy:=List.getElem?_eq_getElem hj
    have hr:=k11 k x hxk j _ hy
    rcases l2 j _ y' hy hy' with e1|⟨e1,δ,z,e2,e3⟩
    ·rw[e1];exact hr
    ·rw[e1]at hr
     obtain⟨_,d2,_⟩:=hD δ z e2
     rw[e3]
     have hv:cur'.getD (k*e+j) undef= .slice none 0 0:=by
      generalize cur'.getD (k*e+j) undef=u at hr
      cases hr;rfl
     exact⟨by simp[isB];omega,_,(pD δ z e2).1,Nat.le_refl _,.inl ⟨(pD δ z e2).2,hv,rfl,rfl⟩⟩
  ·exact old
def mkA:List PV->PV
 | [c]=>c
 |cs=> .agg cs
def dsn(fr:Fr)(hp:HP):Nat->PV->PV
 |0,p=>p
 | k+1,p=>match p with
  | .mso β o n=>match hp β with
   |some hb=> .sl hb.e ((hb.xs.drop o).take n)
   |none=> .undef
  | .nso γ o n=>match fr γ with
   | .nst _ e _ xs=> .sl e (((xs.drop o).take n).map fun x=>mkA (x.ncells.map (dsn fr hp k)))
   |_=> .undef
  |p=>p
def rch(fr:Fr):Nat->PV->List Nat
 |0,_=>[]
 | k+1,p=>match p with
  | .mso β _ _=>[β]
  | .nso γ o n=>match fr γ with
   | .nst _ _ _ xs=>γ::(((xs.drop o).take n).flatMap fun x=>x.ncells.flatMap (rch fr k))
   |_=>[]
  |_=>[]
def okD(fr:Fr):Nat->PV->Prop
 |0,p=>match p with
  | .undef| .mso _ _ _| .nso _ _ _=>False
  |_=>True
 | k+1,p=>match p with
  | .undef=>False
  | .mso β _ _=>isY β=false
  | .nso γ o n=>match fr γ with
   | .nst γ' _ _ xs=>γ'=γ/\isY γ=false/\o+n<=xs.length/\∀x∈(xs.drop o).take n,∀c∈x.ncells,okD fr k c
   |_=>False
  |_=>True
theorem Qahm{tmps:Array Value}(h:Qab C ρ fr hp tmps w){β b:Nat}{hb:HB}{l:List Nat}(hB:isY β=false)(hβ:hp β=some hb)(hl:β∈l)(hρ:ρ β=some b):¬Xof C ρ (Qaf hp l) b:=by
 have hblk:=(h.own β hb hβ).blk
 rw[hρ]at hblk
 rintro(hx|⟨γ,hg,h1,h2,h3⟩)
 ·exact Ctx.cls_notX hblk.1 (Qsw hB) hx
 ·obtain⟨hg0,g1,_,_,_,_,g6⟩:=Qg6 h1
  have:=h.inj γ β b (by simp[g1]) (by simp[hβ]) h3 hρ
  subst this
  exact g6 h2 hl
theorem Q74{cs:List PV}(h:∀c∈cs,c.cells=[c]):(mkA cs).cells=cs:=by
 match cs,h with
 | [],_=>rfl
 | [c],h=>exact h c (by simp)
 |_::_::_,_=>rfl
theorem Qvj{tmps:Array Value}(h:Qab C ρ fr hp tmps w){l:List Nat}:∀(k:Nat) {p:PV} {v:Value},Qbs C ρ hp w p v->okD fr k p->(∀β∈rch fr k p,β∈l)->Qv w (Xof C ρ (Qaf hp l)) (dsn fr hp k p) v
 |0,p,v,hr,ho,_=>by
  cases p with
  |undef=>cases ho
  |mso=>cases ho
  |nso=>cases ho
  |_=>exact Qv.freeze hr
 | k +1,p,v,hr,ho,hl=>by
  cases p with
  |undef=>cases ho
  |mso β o n=>
   obtain⟨hb,hβ⟩:∃hb,hp β=some hb:=by obtain⟨_,hb,h1,_⟩:=hr;exact⟨hb,h1⟩
   have:=Qeg.snap h hr.2 ho (hl β (by simp[rch])) hβ
   simp only[dsn,hβ];exact this
  | nso γ o n=>
   simp only[okD]at ho
   split at ho
   ·rename_i γ' e ty xs hγ
    obtain⟨rfl,hY,ho1,ho2⟩:=ho
    have hsl:=h.slots γ'
    rw[hγ]at hsl
    obtain⟨k0,he,b,hb,cur,cap,k1,k2,k3,k4,k5,k6,k7,k8,k9,k10,k11⟩:=hsl
    obtain⟨_,hb2,b2,cap2,g1,g2,rfl,g4,g5,g6⟩:=hr
    rw[k2]at g1;cases g1
    rw[k1]at g2;cases g2
    have hmem:γ'∈l:=hl γ' (by simp[rch,hγ])
    have hX:=Qahm (l:=l) h hY k2 hmem k1
    have hlt:=(Array.getElem?_eq_some_iff.1 k6).1
    obtain⟨cur',ty',d1,d2⟩:=g4
    rw[k6]at d1;cases d1
    rw[k4]at d2
    have hcc:cap=o+cap2:=Nat.eq_of_mul_eq_mul_right he (by rw[<-k7,<-d2])
    have key:∀i (x:PV),((xs.drop o).take n)[i]? =some x->i<n/\xs[o+i]? =some x:=fun i x hx=>by
     have hi:i<n:=by have:=(List.getElem?_eq_some_iff.1 hx).1;simp at this;omega
     rw[List.getElem?_take_of_lt hi,List.getElem?_drop]at hx
     exact⟨hi,hx⟩
    have cel:∀i (x:PV),((xs.drop o).take n)[i]? =some x->∀j (y:PV),x.ncells[j]? =some y->Qv w (Xof C ρ (Qaf hp l)) (dsn fr hp k y) (cur.getD ((o+i)*e+j) undef):=fun i x hx j y hy=>by
     have hxm:=List.mem_of_getElem? hx
     refine Qvj h k (k11 (o+i) x (key i x hx).2 j y hy) (ho2 x hxm y (List.mem_of_getElem? hy)) fun β hβ=>hl β ?_
     simp only[rch,hγ]
     exact List.mem_cons_of_mem _ (List.mem_flatMap.2 ⟨x,hxm,List.mem_flatMap.2 ⟨y,List.mem_of_getElem? hy,hβ⟩⟩)
    have hnc:∀i (x:PV),((xs.drop o).take n)[i]? =some x->(mkA (x.ncells.map (dsn fr hp k))).cells=x.ncells.map (dsn fr hp k):=fun i x hx=>by
     refine Q74 fun c hc=> ?_
     obtain⟨y,hy,rfl⟩:=List.mem_map.1 hc
     obtain⟨j,hj⟩:=List.getElem?_of_mem hy
     exact(cel i x hx j y hj).oneCell.2.2
    simp only[dsn,hγ]
    have hlen:(((xs.drop o).take n).map fun x=>mkA (x.ncells.map (dsn fr hp k))).length=n:=by simp;omega
    have:=Qv.sl (w:=w) (X:=Xof C ρ (Qaf hp l)) e (((xs.drop o).take n).map fun x=>mkA (x.ncells.map (dsn fr hp k))) b (o*hb.e) cap2 (fun i j=>cur.getD ((o+i)*e+j) undef) hX hlt (by omega) (by omega)
     (fun i x hx=>by
      simp only[List.getElem?_map,Option.map_eq_some_iff]at hx
      obtain⟨x0,hx0,rfl⟩:=hx
      rw[hnc i x0 hx0,List.length_map];exact k10 _ x0 (key i x0 hx0).2)
     (fun i hi j hj=>by
      rw[hlen]at hi
      rw[k4]
      have:=Qfg (i:=o+i) (e:=e) (o:=0) (j:=j) (n:=e) (cap:=cap) (by omega) (by omega) hj
      rw[Nat.add_zero]at this
      rw[show o*e+i*e+j=(o+i)*e+j by rw[Nat.add_mul]]
      exact Qbl k6 (by rw[k7];exact this))
     (fun i x hx j y hy=>by
      simp only[List.getElem?_map,Option.map_eq_some_iff]at hx
      obtain⟨x0,hx0,rfl⟩:=hx
      rw[hnc i x0 hx0,List.getElem?_map,Option.map_eq_some_iff]at hy
      obtain⟨y0,hy0,rfl⟩:=hy
      exact cel i x0 hx0 j y0 hy0)
    rw[hlen]at this
    exact this
   ·exact ho.elim
  |_=>exact Qv.freeze hr
def dsnP(fr:Fr)(hp:HP)(k:Nat):PV->PV
 | .rag cs=> .agg (cs.map (dsn fr hp k))
 |p=>dsn fr hp k p
def rchP(fr:Fr)(k:Nat):PV->List Nat
 | .rag cs=>cs.flatMap (rch fr k)
 |p=>rch fr k p
def okDP(fr:Fr)(k:Nat):PV->Prop
 | .rag cs=>∀c∈cs,okD fr k c
 | .nso γ o n=>okD fr k (.nso γ o n)
 |_=>False
theorem Qalr(s k:Nat)(ho:okDP fr k (fr s)):Wk fr hp (upd fr s (dsnP fr hp k (fr s))) (Qaf hp (rchP fr k (fr s))):=by
 rintro C tmps w ⟨ρ,hs⟩
 have hf:=hs.freeze (rchP fr k (fr s))
 refine⟨ρ,hf.sz,hf.ext,hf.keep,hf.own,hf.inj,fun i=> ?_⟩
 unfold upd
 split
 ·rename_i hi;subst hi
  have hsl:=hs.slots i
  generalize hp0:fr i=p at *
  cases p with
  |rag cs=>
   obtain⟨vs,e1,h1,h2⟩:=hsl
   refine⟨vs,e1,by simpa using h1,fun j x hj=> ?_⟩
   simp only[List.getElem?_map,Option.map_eq_some_iff]at hj
   obtain⟨y,hy,rfl⟩:=hj
   exact Qvj hs k (h2 j y hy) (ho y (List.mem_of_getElem? hy)) fun β hβ=>List.mem_flatMap.2 ⟨y,List.mem_of_getElem? hy,hβ⟩
  |nso γ o n=>
   have:=Qvj (l:=rch fr k (.nso γ o n)) hs k (p:= .nso γ o n) hsl ho (fun β hβ=>hβ)
   exact Ql.ofData (Qai.of_c this)
  |_=>cases ho
 ·exact hf.slots i
end Go.FW
namespace Go.FW
open Go
variable {C : Ctx} {ρ : Nat -> Option Nat} {fr fr' : Fr} {hp hp' : HP} {w w' : World} {K R : Qg}
def argG(args:List PV)(G:Fr):Fr:=fun s=>if s<1000000 then(args[s]?).getD .undef else G s
def retH(rs:List RV)(Post:PV->Fr->HP->Prop):Qg:=fun fr hp=>∃fr' hp',Wk fr hp fr' hp'/\
 (Qdv rs (fun r=>Post r fr' (Qaf hp' (rs.flatMap (lr fr')))) fr' hp'∨∃s,rs=[.t s]/\Post (fr' s) fr' hp')
theorem Qahn{rs:List RV}{Post:PV->Fr->HP->Prop}:KM (retH rs Post) (retH rs Post):=by
 rintro f f' hp hf ⟨fr',hp',h1,h2⟩
 exact⟨fr',hp',hf.wk.trans h1,h2⟩
theorem Qt{rs:List RV}{Post:PV->Fr->HP->Prop}:Qdw (retH rs Post) []:=⟨Qahn,.nil⟩
structure Q4u(C:Ctx)(hp:HP)(hp0:HP)(gv:Nat->Option Nat):Prop where
 g:∀β γ,gv β=some γ->∃hb,hp γ=some hb/\isB β=true/\(isR β=true->hp0 β=some ⟨hb.e,hb.ty,hb.xs,true⟩)/\(isR β=false->hp0 β=some hb/\hb.fz=false/\isB γ=true/\(isY β=false->isY γ=false))
 a:∀β,hp0 β≠none->∃γ,gv β=some γ
 i:∀β β' γ,gv β=some γ->gv β'=some γ->β=β'
def gn(gv:Nat->Option Nat):Nat->Option Nat:=fun β=>if isR β=true then none else gv β
theorem Qaho{gv:Nat->Option Nat}{β γ:Nat}(h:gn gv β=some γ):isR β=false/\gv β=some γ:=by
 unfold gn at h
 split at h
 ·cases h
 ·rename_i hr;exact⟨by simpa using hr,h⟩
theorem Q4u.n{C:Ctx}{hp hp0:HP}{gv:Nat->Option Nat}(hh:Q4u C hp hp0 gv)(β γ:Nat)(h:gn gv β=some γ):∃hb,hp0 β=some hb/\hp γ=some hb/\hb.fz=false/\isB β=true/\isB γ=true/\(isY β=false->isY γ=false):=by
 obtain⟨hr,h⟩:=Qaho h
 obtain⟨hb,h1,h2,_,h4⟩:=hh.g β γ h
 obtain⟨k1,k2,k3,k4⟩:=h4 hr
 exact⟨hb,k1,h1,k2,h2,k3,k4⟩
theorem Q4u.s{C:Ctx}{hp hp0:HP}{gv:Nat->Option Nat}(hh:Q4u C hp hp0 gv)(β γ:Nat)(h:gv β=some γ):∃hb hb',hp γ=some hb/\hp0 β=some hb'/\hb'.e=hb.e/\hb'.ty=hb.ty/\hb'.xs=hb.xs/\(hb'.fz=false->hb=hb'/\isR β=false)/\(isR β=true->hb'.fz=true)/\isB β=true:=by
 obtain⟨hb,h1,h2,h3,h4⟩:=hh.g β γ h
 cases hr:isR β with
 |true=>exact⟨hb,_,h1,h3 hr,rfl,rfl,rfl,(fun h=>by cases h),fun _=>rfl,h2⟩
 |false=>
  obtain⟨k1,k2,_⟩:=h4 hr
  exact⟨hb,hb,h1,k1,rfl,rfl,rfl,(fun _=>⟨rfl,rfl⟩),(fun h=>by cases h),h2⟩
end Go.FW
namespace Go.FW
open Go
variable {C : Ctx} {ρ : Nat -> Option Nat} {fr fr' : Fr} {hp hp' : HP} {w w' : World} {K R : Qg}
def Qok(r:PV):Prop:=(r.refs=[]/\r.sref=[])/\∀σ,rnP σ r=r
def dieP(nm:Nat->Bool)(p:PV):PV:=if(p.refs++p.sref).any nm then .undef else p
def dieF(nm:Nat->Bool)(fr:Fr):Fr:=fun s=>dieP nm (fr s)
def exH(nm ex:Nat->Bool)(H hp:HP):HP:=fun x=>if ex x then H x else if nm x then none else hp x
def exF(S:List Nat)(F fr:Fr):Fr:=fun s=>if S.contains s then F s else fr s
end Go.FW
namespace Go.FW
open Go
variable {C : Ctx} {ρ : Nat -> Option Nat} {fr fr' : Fr} {hp : HP} {w : World} {K R : Qg}
theorem Qacm{B:List Nat}{F:Fr}{β δ:Nat}(hβ:B.contains β=true)(h2:β<1000000):mvF β δ (bse B F)=bse B F:=Qahl (.inl hβ) (.inl h2)
theorem rnPs:
  (∀(σ:Nat->Nat)(k:IntKind)(n:Int),rnP σ (.int k n)= .int k n)/\
  (∀(σ:Nat->Nat)(b:Bool),rnP σ (.bool b)= .bool b)/\
  (∀(σ:Nat->Nat)(e:Nat)(xs:List PV),rnP σ (.sl e xs)= .sl e xs)/\
  (∀(σ:Nat->Nat)(cs:List PV),rnP σ (.agg cs)= .agg cs)/\
  (∀(σ:Nat->Nat)(cs:List PV),rnP σ (.tup cs)= .tup cs)/\
  (∀(σ:Nat->Nat)(cs:List PV),rnP σ (.pt cs)= .pt cs)/\
  (∀(σ:Nat->Nat),rnP σ .nilS= .nilS)/\
  (∀(σ:Nat->Nat),rnP σ .undef= .undef)/\
  (∀(σ:Nat->Nat)(β o n:Nat),rnP σ (.mso β o n)= .mso (σ β) o n)/\
  (∀(σ:Nat->Nat)(β o n:Nat),rnP σ (.mp β o n)= .mp (σ β) o n)/\
  (∀(σ:Nat->Nat)(β o n:Nat),rnP σ (.nso β o n)= .nso (σ β) o n)/\
  (∀(σ:Nat->Nat)(β o n:Nat),rnP σ (.np β o n)= .np (σ β) o n)/\
  (∀(σ:Nat->Nat)(cs:List PV),rnP σ (.rag cs)= .rag (cs.map (rn1 σ))):=by
 refine⟨?_,?_,?_,?_,?_,?_,?_,?_,?_,?_,?_,?_,?_⟩<;>intros<;>rfl
theorem rn1s:
  (∀(σ:Nat->Nat)(k:IntKind)(n:Int),rn1 σ (.int k n)= .int k n)/\
  (∀(σ:Nat->Nat)(b:Bool),rn1 σ (.bool b)= .bool b)/\
  (∀(σ:Nat->Nat)(e:Nat)(xs:List PV),rn1 σ (.sl e xs)= .sl e xs)/\
  (∀(σ:Nat->Nat),rn1 σ .nilS= .nilS)/\
  (∀(σ:Nat->Nat),rn1 σ .undef= .undef)/\
  (∀(σ:Nat->Nat)(β o n:Nat),rn1 σ (.mso β o n)= .mso (σ β) o n)/\
  (∀(σ:Nat->Nat)(β o n:Nat),rn1 σ (.nso β o n)= .nso (σ β) o n):=by
 refine⟨?_,?_,?_,?_,?_,?_,?_⟩<;>intros<;>rfl
theorem Qaoc:
  (∀(γ:Nat)(k:IntKind)(n:Int),Qdx γ (.int k n)= .int k n)/\
  (∀(γ:Nat)(b:Bool),Qdx γ (.bool b)= .bool b)/\
  (∀(γ e:Nat)(xs:List PV),Qdx γ (.sl e xs)= .sl e xs)/\
  (∀(γ:Nat)(cs:List PV),Qdx γ (.agg cs)= .agg cs)/\
  (∀(γ:Nat)(cs:List PV),Qdx γ (.tup cs)= .tup cs)/\
  (∀(γ:Nat)(cs:List PV),Qdx γ (.pt cs)= .pt cs)/\
  (∀(γ:Nat),Qdx γ .nilS= .nilS)/\
  (∀(γ:Nat),Qdx γ .undef= .undef)/\
  (∀(γ β o n:Nat),Qdx γ (.mso β o n)=if β=γ then .nso γ o n else .mso β o n)/\
  (∀(γ β o n:Nat),Qdx γ (.mp β o n)=if β=γ then .np γ o n else .mp β o n)/\
  (∀(γ β o n:Nat),Qdx γ (.nso β o n)= .nso β o n)/\
  (∀(γ β o n:Nat),Qdx γ (.np β o n)= .np β o n):=by
 refine⟨?_,?_,?_,?_,?_,?_,?_,?_,?_,?_,?_,?_⟩<;>intros<;>rfl
theorem Qahp{γ s:Nat}{x:PV}:Q4t γ x fr s=if s=γ then x else Qdx γ (fr s):=rfl
theorem Qahq{args:List PV}{G:Fr}{s:Nat}:argG args G s=if s<1000000 then(args[s]?).getD .undef else G s:=rfl
theorem Qahr{nm:Nat->Bool}{s:Nat}:dieF nm fr s=dieP nm (fr s):=rfl
theorem Qahs{nm:Nat->Bool}{p:PV}:dieP nm p=if(p.refs++p.sref).any nm then .undef else p:=rfl
theorem Qals{nm ex:Nat->Bool}{H:HP}{x:Nat}:exH nm ex H hp x=if ex x then H x else if nm x then none else hp x:=rfl
theorem Qalt{S:List Nat}{F:Fr}{s:Nat}:exF S F fr s=if S.contains s then F s else fr s:=rfl
attribute [go_sem] Qahi Qahj Qalm Qaln Qall Qacm rnPs rn1s Qaoc Qahp Qahq Qahr Qahs Qals Qalt
end Go.FW
namespace Go.FW
open Go
variable {C : Ctx} {ρ : Nat -> Option Nat} {fr fr' : Fr} {hp : HP} {w : World} {K R : Qg}
theorem Qaht{σ:Nat->Nat}{p:PV}(h:p= .nilS∨∃β n,p= .ms β n)(hσ:∀β n,p= .ms β n->σ β=β):Qep (p.ncells.map (rn1 σ))=p:=by
 rcases h with rfl|⟨β,n,rfl⟩
 ·rfl
 ·have:=hσ β n rfl
  simp[PV.ncells,PV.cells,rn1,Qep,this]
def Qej(B n w:Nat)(π:Nat->Nat):List (Nat×Nat):=(List.range n).map fun r=>(B+π r,w)
theorem Qzz{B n w r:Nat}{π:Nat->Nat}(h:r<(Qej B n w π).length):(Qej B n w π)[r]=(B+π r,w):=by simp[Qej]
def Qmm{α:Type}(p:α->PV)(f:Nat->α)(w:Nat):List PV:=(List.range w).map fun c=>p (f c)
theorem Q1j{α:Type}(p:α->PV)(f:Nat->α)(w:Nat):(Qmm p f w).length=w:=by simp[Qmm]
theorem Qacn{α:Type}{p:α->PV}{f:Nat->α}{w c:Nat}(h:c<(Qmm p f w).length):(Qmm p f w)[c]=p (f c):=by simp[Qmm]
theorem Qaod{by_ ty d:Nat}{k k':IntKind}{n c:Nat}(h2:n<=c)(h3:by_*c<=281474976710656)(h4:c<=9223372036854775807):
  mkK 3 by_ ty (.agg [.bool false,.nilS,.nilS]) (.int k (n:Int)) (.int k' (c:Int)) d fr hp K=K (upd (Qav d fr) d (.ms d n)) (Qn hp d ⟨3,ty,List.replicate n (.agg [.bool false,.nilS,.nilS]),false⟩):=by
 rw[Qx3 (e:=3) (by omega) rfl (by omega) (by omega) (by omega) (by omega)];rfl
attribute [go_sem] Qaod
end Go.FW
namespace Go.FW
open Go
def pev(φ:List Int->Rat):List Tm->Rat
 | []=>0
 |t::p=>t.1*φ t.2+pev φ p
theorem Qce(φ:List Int->Rat):pev φ []=0:=rfl
theorem Qat(φ:List Int->Rat)(t:Tm)(p:List Tm):pev φ (t::p)=t.1*φ t.2+pev φ p:=rfl
theorem Qt0(φ:List Int->Rat):∀(p q:List Tm),pev φ (p++q)=pev φ p+pev φ q
 | [],q=>by rw[List.nil_append,Qce];grind
 |t::p,q=>by rw[List.cons_append,Qat,Qat,Qt0 φ p q];grind
theorem Qdg{φ ψ:List Int->Rat}:∀ {p:List Tm},(∀t∈p,φ t.2=ψ t.2)->pev φ p=pev ψ p
 | [],_=>rfl
 |t::p,h=>by
  rw[Qat,Qat,h t (by simp),Qdg (p:=p) (fun x hx=>h x (by simp[hx]))]
theorem Q2q(φ ψ:List Int->Rat):∀(p:List Tm),pev (fun m=>φ m+ψ m) p=pev φ p+pev ψ p
 | []=>by simp only[Qce];grind
 |t::p=>by simp only[Qat];rw[Q2q φ ψ p];grind
theorem Qsg(c:Rat)(φ:List Int->Rat):∀(p:List Tm),pev (fun m=>c*φ m) p=c*pev φ p
 | []=>by simp only[Qce];grind
 |t::p=>by simp only[Qat];rw[Qsg c φ p];grind
theorem Qsh:∀(p:List Tm),pev (fun _=>0) p=0
 | []=>rfl
 |t::p=>by simp only[Qat];rw[Qsh p];grind
theorem Qol(ψ:List Int->List Int->Rat)(q:List Tm):∀(p:List Tm),pev (fun m=>pev (fun n=>ψ m n) q) p=pev (fun n=>pev (fun m=>ψ m n) p) q
 | []=>by simp only[Qce];rw[Qsh]
 |t::p=>by
  simp only[Qat]
  rw[Qol ψ q p,Q2q (fun n=>t.1*ψ t.2 n),Qsg]
def Can(p:List Tm):Prop:=∀t∈p,t.2.getLast? ≠some 0
def NZ(p:List Tm):Prop:=∀t∈p,t.1≠0
structure Nrm(p:List Tm):Prop where
 c:Can p
 z:NZ p
 s:Qbe p
theorem Can.cons{t:Tm}{p:List Tm}:Can (t::p)↔t.2.getLast? ≠some 0/\Can p:=by simp[Can]
theorem NZ.cons{t:Tm}{p:List Tm}:NZ (t::p)↔t.1≠0/\NZ p:=by simp[NZ]
theorem Nrm.nil:Nrm []:=⟨by simp[Can],by simp[NZ],trivial⟩
theorem Nrm.tail{t:Tm}{p:List Tm}(h:Nrm (t::p)):Nrm p:=⟨(Can.cons.1 h.c).2,(NZ.cons.1 h.z).2,h.s.2⟩
theorem Nrm.one{t:Tm}(h:t.1≠0)(hm:t.2.getLast? ≠some 0):Nrm [t]:=⟨by simpa[Can]using hm,by simpa[NZ]using h,⟨by simp,trivial⟩⟩
theorem PVd.nrm{p:List Tm}(h:PVd p):Nrm p:=⟨fun t ht=>Qri (h.t t ht).m,fun t ht=>(h.t t ht).c,h.s⟩
theorem Qle{φ:List Int->Rat}:∀ {p q:List Tm},Can p->Can q->pev φ (Qy p q)=pev φ p+pev φ q:=by
 intro p q
 induction p,q using Qy.induct with
 |case1 q=>rw[Qy,Qce];intros;grind
 |case2 p h=>rw[Qca,Qce];intros;grind
 |case3 c m p d l q h ih=>
  intro hp hq
  rw[Qy,if_pos h,Qat,Qat,ih (Can.cons.1 hp).2 hq];grind
 |case4 c m p d l q h1 h2 ih=>
  intro hp hq
  rw[Qy,if_neg h1,if_pos h2,Qat,ih hp (Can.cons.1 hq).2,Qat φ (d,l)];grind
 |case5 c m p d l q h1 h2 h3 ih=>
  intro hp hq
  have e:=Qoa h1 h2 (Can.cons.1 hp).1 (Can.cons.1 hq).1
  rw[Qy,if_neg h1,if_neg h2,if_pos h3,ih (Can.cons.1 hp).2 (Can.cons.1 hq).2,Qat,Qat]
  subst e
  have:c*φ m+d*φ m=0:=by rw[<-Rat.add_mul,h3];grind
  grind
 |case6 c m p d l q h1 h2 h3 ih=>
  intro hp hq
  have e:=Qoa h1 h2 (Can.cons.1 hp).1 (Can.cons.1 hq).1
  rw[Qy,if_neg h1,if_neg h2,if_neg h3,Qat,ih (Can.cons.1 hp).2 (Can.cons.1 hq).2,Qat,Qat]
  subst e
  grind
theorem Qf1:∀ {p q:List Tm} {t:Tm},t∈Qy p q->(∃s∈p,s.2=t.2)∨(∃s∈q,s.2=t.2):=by
 intro p q
 induction p,q using Qy.induct with
 |case1 q=>rw[Qy];intro t ht;exact Or.inr ⟨t,ht,rfl⟩
 |case2 p h=>rw[Qca];intro t ht;exact Or.inl ⟨t,ht,rfl⟩
 | case3 c m p d l q h ih=>
  intro t ht
  rw[Qy,if_pos h]at ht
  rcases List.mem_cons.1 ht with rfl|ht
  ·exact Or.inl ⟨_,by simp,rfl⟩
  ·rcases ih ht with⟨s,h1,h2⟩|h1
   ·exact Or.inl ⟨s,by simp[h1],h2⟩
   ·exact Or.inr h1
 | case4 c m p d l q h1 h2 ih=>
  intro t ht
  rw[Qy,if_neg h1,if_pos h2]at ht
  rcases List.mem_cons.1 ht with rfl|ht
  ·exact Or.inr ⟨_,by simp,rfl⟩
  ·rcases ih ht with h3|⟨s,h3,h4⟩
   ·exact Or.inl h3
   ·exact Or.inr ⟨s,by simp[h3],h4⟩
 |case5 c m p d l q h1 h2 h3 ih=>
  intro t ht
  rw[Qy,if_neg h1,if_neg h2,if_pos h3]at ht
  rcases ih ht with⟨s,h4,h5⟩|⟨s,h4,h5⟩
  ·exact Or.inl ⟨s,by simp[h4],h5⟩
  ·exact Or.inr ⟨s,by simp[h4],h5⟩
 | case6 c m p d l q h1 h2 h3 ih=>
  intro t ht
  rw[Qy,if_neg h1,if_neg h2,if_neg h3]at ht
  rcases List.mem_cons.1 ht with rfl|ht
  ·exact Or.inl ⟨(c,m),by simp,rfl⟩
  ·rcases ih ht with⟨s,h4,h5⟩|⟨s,h4,h5⟩
   ·exact Or.inl ⟨s,by simp[h4],h5⟩
   ·exact Or.inr ⟨s,by simp[h4],h5⟩
theorem Qz0{p q:List Tm}(hp:Can p)(hq:Can q):Can (Qy p q):=fun t ht=>by
 rcases Qf1 ht with⟨s,h1,h2⟩|⟨s,h1,h2⟩
 ·rw[<-h2];exact hp s h1
 ·rw[<-h2];exact hq s h1
theorem Qahu:∀ {p q:List Tm},NZ p->NZ q->NZ (Qy p q):=by
 intro p q
 induction p,q using Qy.induct with
 |case1 q=>rw[Qy];exact fun _ h=>h
 |case2 p h=>rw[Qca];exact fun h _=>h
 |case3 c m p d l q h ih=>
  intro hp hq
  rw[Qy,if_pos h,NZ.cons]
  exact⟨(NZ.cons.1 hp).1,ih (NZ.cons.1 hp).2 hq⟩
 |case4 c m p d l q h1 h2 ih=>
  intro hp hq
  rw[Qy,if_neg h1,if_pos h2,NZ.cons]
  exact⟨(NZ.cons.1 hq).1,ih hp (NZ.cons.1 hq).2⟩
 |case5 c m p d l q h1 h2 h3 ih=>
  intro hp hq
  rw[Qy,if_neg h1,if_neg h2,if_pos h3]
  exact ih (NZ.cons.1 hp).2 (NZ.cons.1 hq).2
 |case6 c m p d l q h1 h2 h3 ih=>
  intro hp hq
  rw[Qy,if_neg h1,if_neg h2,if_neg h3,NZ.cons]
  exact⟨h3,ih (NZ.cons.1 hp).2 (NZ.cons.1 hq).2⟩
theorem Q4v{a b c:List Int}(h:Qah a b=0)(h2:0<Qah b c):0<Qah a c:=by
 have e:∀i,eN a i=eN b i:=by
  intro i
  have:=(Qjp a b _).1 h
  by_cases hi:i<max a.length b.length
  ·exact this i hi
  ·rw[Qds (by omega),Qds (by omega)]
 rw[Q4g e (fun _=>rfl)];exact h2
theorem Qrn:∀ {p q:List Tm},Qbe p->Qbe q->Qbe (Qy p q):=by
 intro p q
 induction p,q using Qy.induct with
 |case1 q=>rw[Qy];exact fun _ h=>h
 |case2 p h=>rw[Qca];exact fun h _=>h
 | case3 c m p d l q h ih=>
  intro hp hq
  rw[Qy,if_pos h]
  refine⟨fun t ht=> ?_,ih hp.2 hq⟩
  rcases Qf1 ht with⟨s,h1,h2⟩|⟨s,h1,h2⟩
  ·rw[<-h2];exact hp.1 s h1
  ·rw[<-h2]
   rcases List.mem_cons.1 h1 with rfl|h1
   ·exact h
   ·exact Qdf h (hq.1 s h1)
 | case4 c m p d l q h1 h2 ih=>
  intro hp hq
  rw[Qy,if_neg h1,if_pos h2]
  have h2':0<Qah l m:=by have:=Qc8 m l;omega
  refine⟨fun t ht=> ?_,ih hp hq.2⟩
  rcases Qf1 ht with⟨s,h3,h4⟩|⟨s,h3,h4⟩
  ·rw[<-h4]
   rcases List.mem_cons.1 h3 with rfl|h3
   ·exact h2'
   ·exact Qdf h2' (hp.1 s h3)
  ·rw[<-h4];exact hq.1 s h3
 |case5 c m p d l q h1 h2 h3 ih=>
  intro hp hq
  rw[Qy,if_neg h1,if_neg h2,if_pos h3]
  exact ih hp.2 hq.2
 |case6 c m p d l q h1 h2 h3 ih=>
  intro hp hq
  rw[Qy,if_neg h1,if_neg h2,if_neg h3]
  refine⟨fun t ht=> ?_,ih hp.2 hq.2⟩
  rcases Qf1 ht with⟨s,h4,h5⟩|⟨s,h4,h5⟩
  ·rw[<-h5];exact hp.1 s h4
  ·rw[<-h5];exact Q4v (b:=l) (by show Qah m l=0;omega) (hq.1 s h4)
theorem Qlf{p q:List Tm}(hp:Nrm p)(hq:Nrm q):Nrm (Qy p q):=⟨Qz0 hp.c hq.c,Qahu hp.z hq.z,Qrn hp.s hq.s⟩
def ind(m:List Int):List Int->Rat:=fun n=>if n=m then 1 else 0
theorem Qg8{m:List Int}:∀ {p:List Tm},(∀t∈p,t.2≠m)->pev (ind m) p=0
 | [],_=>rfl
 |t::p,h=>by
  rw[Qat,Qg8 (p:=p) (fun x hx=>h x (by simp[hx])),ind,if_neg (h t (by simp))];grind
theorem Ql5{a b:List Int}(h:0<Qah a b):b≠a:=by rintro rfl;rw[Ql3]at h;omega
theorem Qf8{t:Tm}{p:List Tm}(h:Qbe (t::p)):pev (ind t.2) (t::p)=t.1:=by
 rw[Qat,Qg8 (fun s hs=>Ql5 (h.1 s hs)),ind,if_pos rfl];grind
theorem Qex:∀ {p q:List Tm},Nrm p->Nrm q->(∀φ,pev φ p=pev φ q)->p=q
 | [],[],_,_,_=>rfl
 | [],t::q,_,hq,h=>by
  have:=h (ind t.2)
  rw[Qf8 hq.s,Qce]at this
  exact absurd this.symm (hq.z t (by simp))
 |t::p,[],hp,_,h=>by
  have:=h (ind t.2)
  rw[Qf8 hp.s,Qce]at this
  exact absurd this (hp.z t (by simp))
 | s ::p,t::q,hp,hq,h=>by
  by_cases h1:0<Qah s.2 t.2
  ·have:=h (ind s.2)
   rw[Qf8 hp.s,Qg8 (fun x hx=> ?_)]at this
   ·exact absurd this (hp.z s (by simp))
   ·rcases List.mem_cons.1 hx with rfl|hx
    ·exact Ql5 h1
    ·exact Ql5 (Qdf h1 (hq.s.1 x hx))
  ·by_cases h2:Qah s.2 t.2<0
   ·have h2':0<Qah t.2 s.2:=by have:=Qc8 s.2 t.2;omega
    have:=h (ind t.2)
    rw[Qf8 hq.s,Qg8 (fun x hx=> ?_)]at this
    ·exact absurd this.symm (hq.z t (by simp))
    ·rcases List.mem_cons.1 hx with rfl|hx
     ·exact Ql5 h2'
     ·exact Ql5 (Qdf h2' (hp.s.1 x hx))
   ·have e:=Qoa h1 h2 (hp.c s (by simp)) (hq.c t (by simp))
    have e2:=h (ind s.2)
    rw[Qf8 hp.s,e,Qf8 hq.s]at e2
    have e3:s=t:=Prod.ext e2 e
    subst e3
    rw[Qex hp.tail hq.tail (fun φ=>by have:=h φ;rw[Qat,Qat]at this;grind)]
theorem Q75{φ:List Int->Rat}:∀(n:Nat)(l:List (List Tm)),l.length<=n->(∀p∈l,Can p)->Can (Qba l)/\pev φ (Qba l)=(l.map (pev φ)).sum:=by
 intro n
 induction n with
 |zero=>
  intro l hl _
  have:l=[]:=List.length_eq_zero_iff.1 (by omega)
  subst this
  rw[Qba];exact⟨Nrm.nil.c,rfl⟩
 | succ n ih=>
  intro l hl h
  match l,h with
  | [],_=>rw[Qba];exact⟨Nrm.nil.c,rfl⟩
  | [p],h=>rw[Qba];exact⟨h p (by simp),by simp;grind⟩
  |p::q::r,h=>
   rw[Qjq (by simp)]
   generalize hL:p::q::r=L at *
   have hlen:2<=L.length:=by rw[<-hL];simp
   obtain⟨a1,a2⟩:=ih (L.take (L.length/2)) (by rw[List.length_take];omega) (fun x hx=>h x (List.mem_of_mem_take hx))
   obtain⟨b1,b2⟩:=ih (L.drop (L.length/2)) (by rw[List.length_drop];omega) (fun x hx=>h x (List.mem_of_mem_drop hx))
   refine⟨Qz0 a1 b1,?_⟩
   rw[Qle a1 b1,a2,b2,<-List.sum_append,<-List.map_append,List.take_append_drop]
theorem Qaco:∀(n:Nat)(l:List (List Tm)),l.length<=n->(∀p∈l,Nrm p)->Nrm (Qba l):=by
 intro n
 induction n with
 |zero=>
  intro l hl _
  have:l=[]:=List.length_eq_zero_iff.1 (by omega)
  subst this
  rw[Qba];exact Nrm.nil
 | succ n ih=>
  intro l hl h
  match l,h with
  | [],_=>rw[Qba];exact Nrm.nil
  | [p],h=>rw[Qba];exact h p (by simp)
  | p::q::r,h=>
   rw[Qjq (by simp)]
   generalize hL:p::q::r=L at *
   have hlen:2<=L.length:=by rw[<-hL];simp
   exact Qlf (ih (L.take (L.length/2)) (by rw[List.length_take];omega) (fun x hx=>h x (List.mem_of_mem_take hx)))
    (ih (L.drop (L.length/2)) (by rw[List.length_drop];omega) (fun x hx=>h x (List.mem_of_mem_drop hx)))
theorem Qkd(φ:List Int->Rat)(t:Tm):∀(p:List Tm),pev φ (Q3 p t)=t.1*pev (fun m=>φ (Qak m t.2)) p
 | []=>by rw[Q3,List.filterMap_nil,Qce,Qce];grind
 | s::p=>by
  have ih:=Qkd φ t p
  rw[Q3]at ih⊢
  rw[List.filterMap_cons]
  by_cases h:s.1*t.1=0
  ·simp only[h,if_true,Qat]
   rw[ih]
   have:t.1*(s.1*φ (Qak s.2 t.2))=(s.1*t.1)*φ (Qak s.2 t.2):=by grind
   rw[Rat.mul_add,this,h];grind
  ·simp only[h,if_false,Qat]
   rw[ih];grind
theorem Qom(p:List Tm)(t:Tm):Can (Q3 p t):=by
 intro x hx
 simp only[Q3,List.mem_filterMap]at hx
 obtain⟨y,hy,h⟩:=hx
 split at h
 ·cases h
 ·cases h;exact Qe0 _ _
theorem Q76(p:List Tm)(t:Tm):NZ (Q3 p t):=by
 intro x hx
 simp only[Q3,List.mem_filterMap]at hx
 obtain⟨y,hy,h⟩:=hx
 split at h
 ·cases h
 ·rename_i h0;cases h;exact h0
theorem Qo7(t:Tm):∀(p:List Tm),Qbe p->Qbe (Q3 p t)
 | [],_=>trivial
 | s ::p,hp=>by
  have ih:=Qo7 t p hp.2
  rw[Q3]at ih⊢
  rw[List.filterMap_cons]
  split
  ·exact ih
  ·rename_i b hb
   split at hb
   ·cases hb
   ·cases hb
    refine⟨fun x hx=> ?_,ih⟩
    simp only[List.mem_filterMap]at hx
    obtain⟨y,hy,h⟩:=hx
    split at h
    ·cases h
    ·cases h
     simp only[Qla]
     exact hp.1 y hy
theorem Qon{p:List Tm}(t:Tm)(hp:Qbe p):Nrm (Q3 p t):=⟨Qom _ _,Q76 _ _,Qo7 t p hp⟩
theorem Qt1(φ:List Int->Rat)(q:List Tm):∀(p:List Tm),((p.map (Q3 q)).map (pev φ)).sum=pev (fun m=>pev (fun n=>φ (Qak m n)) q) p
 | []=>rfl
 |t::p=>by
  rw[List.map_cons,List.map_cons,List.sum_cons,Qt1 φ q p,Qkd,Qat]
  congr 2
  exact Qdg fun s _=>by rw[Qdq]
theorem Qww(φ:List Int->Rat)(p q:List Tm):pev φ (Qgh p q)=pev (fun m=>pev (fun n=>φ (Qak m n)) q) p:=by
 rw[Qgh,(Q75 (φ:=φ) _ _ (Nat.le_refl _) ?_).2,Qt1]
 intro x hx
 obtain⟨t,_,rfl⟩:=List.mem_map.1 hx
 exact Qom _ _
theorem Qb4(φ:List Int->Rat)(p q:List Tm):pev φ (Qu p q)=pev (fun m=>pev (fun n=>φ (Qak m n)) q) p:=by
 unfold Qu
 split
 ·rw[Qww,Qol (fun m n=>φ (Qak m n))]
  exact Qdg fun s _=>Qdg fun t _=>by rw[Qdq]
 ·exact Qww φ p q
theorem Qwx{p q:List Tm}(hq:Qbe q):Nrm (Qgh p q):=Qaco _ _ (Nat.le_refl _) fun x hx=>by
 obtain⟨t,_,rfl⟩:=List.mem_map.1 hx
 exact Qon t hq
theorem Qa1{p q:List Tm}(hp:Qbe p)(hq:Qbe q):Nrm (Qu p q):=by
 unfold Qu
 split
 ·exact Qwx hp
 ·exact Qwx hq
theorem Qia(φ:List Int->Rat){p:List Tm}(hp:Can p)(a:Rat):pev φ (Qal p a)=a*pev φ p:=by
 unfold Qal
 split
 ·rename_i h;rw[h,Qce];grind
 ·rw[Qkd]
  congr 1
  exact Qdg fun s hs=>by rw[Qn6 (hp s hs)]
theorem Qe2{p:List Tm}(hp:Qbe p)(a:Rat):Nrm (Qal p a):=by
 unfold Qal
 split
 ·exact Nrm.nil
 ·exact Qon _ hp
theorem Qacp(φ:List Int->Rat){p:List Tm}(hp:Can p):pev φ (Qob p)= -pev φ p:=by
 rw[Qob,Qia φ hp];grind
theorem Qoo(φ:List Int->Rat){p q:List Tm}(hp:Can p)(hq:Nrm q):pev φ (Qlb p q)=pev φ p-pev φ q:=by
 rw[Qlb,Qle hp (show Can (Qob q)from(Qe2 hq.s _).c),Qacp φ hq.c];grind
theorem Qsi{p q:List Tm}(hp:Nrm p)(hq:Nrm q):Nrm (Qlb p q):=Qlf hp (Qe2 hq.s _)
theorem Q77{p q:List Tm}(hp:Nrm p)(hq:Nrm q):Qu p q=Qu q p:=
 Qex (Qa1 hp.s hq.s) (Qa1 hq.s hp.s) fun φ=>by
  rw[Qb4,Qb4,Qol (fun m n=>φ (Qak m n))]
  exact Qdg fun s _=>Qdg fun t _=>by rw[Qdq]
theorem Qt2{p q r:List Tm}(hp:Nrm p)(hq:Nrm q)(hr:Nrm r):Qu (Qu p q) r=Qu p (Qu q r):=
 Qex (Qa1 (Qa1 hp.s hq.s).s hr.s) (Qa1 hp.s (Qa1 hq.s hr.s).s) fun φ=>by
  rw[Qb4,Qb4,Qb4]
  refine Qdg fun s _=> ?_
  rw[Qb4 (fun n=>φ (Qak s.2 n))]
  exact Qdg fun t _=>Qdg fun u _=>by rw[Q4h]
theorem Q78{p q r:List Tm}(hp:Nrm p)(hq:Nrm q)(hr:Nrm r):Qu (Qy p q) r=Qy (Qu p r) (Qu q r):=
 Qex (Qa1 (Qrn hp.s hq.s) hr.s) (Qlf (Qa1 hp.s hr.s) (Qa1 hq.s hr.s)) fun φ=>by
  rw[Qb4,Qle (Qa1 hp.s hr.s).c (Qa1 hq.s hr.s).c,Qb4,Qb4,Qle hp.c hq.c]
theorem Qib(a:Rat):Nrm (Qbj a):=by
 unfold Qbj
 split
 ·exact Nrm.nil
 ·rename_i h;exact Nrm.one h (by simp)
def Qg9(p q:List Tm):List Tm:=q.foldl (fun out t=>Qy out (Q3 p t)) []
theorem Qwy(p:List Tm)(hp:Nrm p):∀(q out:List Tm),Nrm out->Nrm (q.foldl (fun out t=>Qy out (Q3 p t)) out)/\
  ∀φ,pev φ (q.foldl (fun out t=>Qy out (Q3 p t)) out)=pev φ out+pev (fun m=>pev (fun n=>φ (Qak n m)) p) q
 | [],out,h=>⟨h,fun φ=>by rw[List.foldl_nil,Qce];grind⟩
 |t::q,out,h=>by
  obtain⟨h1,h2⟩:=Qwy p hp q (Qy out (Q3 p t)) (Qlf h (Qon t hp.s))
  refine⟨h1,fun φ=> ?_⟩
  rw[List.foldl_cons,h2,Qle h.c (Qom _ _),Qkd,Qat];grind
theorem Qacq{p q:List Tm}(hp:Nrm p)(hq:Nrm q):Qg9 p q=Qu p q:=by
 obtain⟨h1,h2⟩:=Qwy p hp q [] Nrm.nil
 refine Qex h1 (Qa1 hp.s hq.s) fun φ=> ?_
 rw[Qg9,h2,Qb4,Qce,Qol (fun m n=>φ (Qak m n))]
 grind
end Go.FW
namespace Go.FW
open Go
variable {C : Ctx} {fr : Fr} {hp : HP} {w : World} {K R : Qg}
theorem Q1k{e by_ ty d:Nat}(h0:0<e):Qd2 e by_ ty .nilS (.sl e []) d fr hp K=K (upd (Qav d fr) d (.ms d 0)) (Qn hp d ⟨e,ty,[],false⟩):=by
 have:=Qnu (fr:=fr) (hp:=hp) (K:=K) (e:=e) (by_:=by_) (ty:=ty) (d:=d) (x:= .sl e []) (ys:=[]) rfl h0 (by simp) (by simp)
 simpa using this
end Go.FW
namespace Go.FW
open Go
theorem Qvk{m:List Int}{c:Rat}:∀ {u v:List Tm},(∀t∈u,0<Qah t.2 m)->(∀t∈v,Qah t.2 m<0)->Qy (u++v) [(c,m)]=u++(c,m)::v
 | [],[],_,_=>by rw[List.nil_append,Qei];rfl
 | [],t::v,_,hv=>by
  have h1:=hv t (by simp)
  rw[List.nil_append,Qjr,if_neg (by show ¬0<Qah t.2 m;omega),if_pos (by exact h1),Qca];rfl
 |t::u,v,hu,hv=>by
  rw[List.cons_append,Qjr,if_pos (by exact hu t (by simp)),Qvk (fun s hs=>hu s (by simp[hs])) hv];rfl
theorem Q2r{m:List Int}{c d:Rat}:∀ {u v:List Tm},(∀t∈u,0<Qah t.2 m)->Qy (u++(d,m)::v) [(c,m)]=u++(if d+c=0 then []else [(d+c,m)])++v
 | [],v,_=>by
  have h0:=Ql3 m
  rw[List.nil_append,Qjr,if_neg (by show ¬0<Qah m m;omega),if_neg (by show ¬Qah m m<0;omega)]
  show(if d+c=0 then Qy v []else(d+c,m)::Qy v [])=_
  rw[Qca]
  split<;>rfl
 |t::u,v,hu=>by
  rw[List.cons_append,Qjr,if_pos (by exact hu t (by simp)),Q2r (fun s hs=>hu s (by simp[hs]))];simp
def Qic(p:List Tm)(c:Rat)(m:List Int):List Tm:=Qy p (if c=0 then []else [(c,m)])
theorem Qz1{p:List Tm}(hs:Qbe p):∀ {i:Nat} (h:i<p.length),∀t∈p.take i,0<Qah t.2 p[i].2:=by
 induction p with
 |nil=>intro i h;simp at h
 | cons s p ih=>
  intro i h t ht
  cases i with
  |zero=>simp at ht
  |succ i=>
   simp only[List.take_succ_cons,List.mem_cons]at ht
   have hi:i<p.length:=by simpa using h
   show 0<Qah t.2 p[i].2
   rcases ht with rfl|ht
   ·exact hs.1 _ (List.getElem_mem hi)
   ·exact ih hs.2 hi t ht
end Go.FW
namespace Go.FW
open Go
end Go.FW
namespace Go.FW
open Go
end Go.FW
namespace Go.FW
open Go
def qpow(a:Rat):Nat->Rat
 |0=>1
 |n+1=>qpow a n*a
def mevN(vs:List Rat)(m:List Int):Nat->Rat
 |0=>1
 |n+1=>mevN vs m n*qpow (vs.getD n 0) (eN m n).toNat
def mev(vs:List Rat)(m:List Int):Rat:=mevN vs m m.length
end Go.FW
namespace Go.FW
open Go
end Go.FW
namespace Go.FW
open Go
theorem Q4w{B B':List Nat}{F:Fr}(h:(B'.all B.contains)=true):Qae B' (Qae B F)=Qae B F:=by
 funext s
 rw[Qpq B']
 split
 ·rename_i h1
  rw[Qpq B]at h1⊢
  split
  ·rfl
  ·rename_i h2
   rw[if_neg h2]at h1
   exfalso
   apply h2
   rw[List.any_eq_true]at h1⊢
   obtain⟨x,hx,hb⟩:=h1
   rw[List.all_eq_true]at h
   exact⟨x,hx,h x (List.contains_iff_mem.1 hb)⟩
 ·rfl
theorem Q4x{W:List (Nat×Nat)}{B:List Nat}{J F:Fr}:Qae B (ovr W J F)=ovr W (Qae B J) (Qae B F):=by
 funext s;unfold Qae ovr;split<;>rfl
theorem Q1l{V W:List (Nat×Nat)}{B B':List Nat}{X Z F:Fr}(h:Qsc V W=true)(hB:(B'.all B.contains)=true):ovr V X (Qae B' (ovr W Z (Qae B F)))=ovr W (ovr V X (Qae B' Z)) (Qae B F):=by
 rw[Q4x,Q4w hB,Qir h]
section
variable {C : Ctx} {fr : Fr} {hp : HP} {w : World} {K R : Qg}
end
def Q4y(m:List Int)(v:Nat):List Int:=Qi8 (m.set v 0)
def Qt3(p:List Tm)(v:Nat)(n:Int):List Tm:=p.filterMap fun t=>if eN t.2 v=n then some (t.1,Q4y t.2 v)else none
theorem Q79{p:List Tm}{v:Nat}{n:Int}{t:Tm}(h:t∈Qt3 p v n):∃s∈p,eN s.2 v=n/\t=(s.1,Q4y s.2 v):=by
 simp only[Qt3,List.mem_filterMap]at h
 obtain⟨s,h1,h2⟩:=h
 split at h2
 ·rename_i h3;cases h2;exact⟨s,h1,h3,rfl⟩
 ·cases h2
end Go.FW
namespace Go.FW
open Go
def hor(p:List Tm)(v:Nat)(q:List Tm)(top:Nat):Nat->List Tm
 |0=>Qt3 p v top
 |k+1=>Qy (Qu (hor p v q top k) q) (Qt3 p v ((top:Int)-(k+1)))
end Go.FW
namespace Go.FW
open Go
def Qco(vs:List Rat)(v:Nat)(b:Rat)(n:Int):List Tm->Rat
 | []=>0
 |t::p=>(if n<=eN t.2 v then t.1*mev vs (Q4y t.2 v)*qpow b (eN t.2 v-n).toNat else 0)+Qco vs v b n p
def ML(n:Nat)(p:List Tm):Prop:=∀t∈p,t.2.length<=n
theorem ML.padd{n:Nat}{p q:List Tm}(hp:ML n p)(hq:ML n q):ML n (Qy p q):=fun t ht=>by
 rcases Qf1 ht with⟨s,h1,h2⟩|⟨s,h1,h2⟩
 ·rw[<-h2];exact hp s h1
 ·rw[<-h2];exact hq s h1
theorem Qop(a b:List Int):(Qak a b).length<=max a.length b.length:=by
 have:=Qfj (Qfb (· + ·) a b)
 rwa[Qbu]at this
theorem Qgz{p:List Tm}{t x:Tm}(h:x∈Q3 p t):∃s∈p,x.2=Qak s.2 t.2:=by
 simp only[Q3,List.mem_filterMap]at h
 obtain⟨y,hy,h⟩:=h
 split at h
 ·cases h
 ·cases h;exact⟨y,hy,rfl⟩
theorem Qacs:∀(n:Nat)(l:List (List Tm)),l.length<=n->∀ {t:Tm},t∈Qba l->∃p∈l,∃s∈p,s.2=t.2:=by
 intro n
 induction n with
 |zero=>
  intro l hl t ht
  have:l=[]:=List.length_eq_zero_iff.1 (by omega)
  subst this
  rw[Qba]at ht;cases ht
 | succ n ih=>
  intro l hl t ht
  match l,ht with
  | [],ht=>rw[Qba]at ht;cases ht
  | [p],ht=>rw[Qba]at ht;exact⟨p,by simp,t,ht,rfl⟩
  | p::q::r,ht=>
   rw[Qjq (by simp)]at ht
   generalize hL:p::q::r=L at *
   have hlen:2<=L.length:=by rw[<-hL];simp
   rcases Qf1 ht with⟨s,h1,h2⟩|⟨s,h1,h2⟩
   ·obtain⟨p',hp',s',hs',e⟩:=ih _ (by rw[List.length_take];omega) h1
    exact⟨p',List.mem_of_mem_take hp',s',hs',e.trans h2⟩
   ·obtain⟨p',hp',s',hs',e⟩:=ih _ (by rw[List.length_drop];omega) h1
    exact⟨p',List.mem_of_mem_drop hp',s',hs',e.trans h2⟩
theorem Qoq{p q:List Tm}{t:Tm}(h:t∈Qu p q):∃a∈p,∃b∈q,t.2=Qak a.2 b.2:=by
 have main:∀ {p q:List Tm},t∈Qgh p q->∃a∈p,∃b∈q,t.2=Qak a.2 b.2:=fun {p q} h=>by
  obtain⟨x,hx,s,hs,e⟩:=Qacs _ _ (Nat.le_refl _) h
  obtain⟨a,ha,rfl⟩:=List.mem_map.1 hx
  obtain⟨b,hb,e2⟩:=Qgz hs
  exact⟨a,ha,b,hb,by rw[<-e,e2,Qdq]⟩
 unfold Qu at h
 split at h
 ·obtain⟨a,ha,b,hb,e⟩:=main h
  exact⟨b,hb,a,ha,by rw[e,Qdq]⟩
 ·exact main h
theorem ML.pmul{n:Nat}{p q:List Tm}(hp:ML n p)(hq:ML n q):ML n (Qu p q):=fun t ht=>by
 obtain⟨a,ha,b,hb,e⟩:=Qoq ht
 have:=Qop a.2 b.2
 have:=hp a ha
 have:=hq b hb
 rw[e];omega
theorem ML.coefN{n:Nat}{p:List Tm}(hp:ML n p)(v:Nat)(k:Int):ML n (Qt3 p v k):=fun t ht=>by
 obtain⟨s,h1,_,rfl⟩:=Q79 ht
 have:=Qfj (s.2.set v 0)
 rw[List.length_set]at this
 exact Nat.le_trans this (hp s h1)
theorem ML.hor{n:Nat}{p q:List Tm}(hp:ML n p)(hq:ML n q)(v top:Nat):∀k,ML n (hor p v q top k)
 |0=>hp.coefN v _
 |k+1=>((ML.hor hp hq v top k).pmul hq).padd (hp.coefN v _)
end Go.FW
namespace Go.FW
open Go
def Qmn(a:List Int):Nat->Int
 |0=>0
 |n+1=>Qmn a n+eN a n
theorem Qwz(a:List Int):∀n,n<=a.length->Qmn a n=(a.take n).sum
 |0,_=>by simp[Qmn]
 |n+1,h=>by
  rw[Qmn,Qwz a n (by omega),List.take_succ_eq_append_getElem (by omega),List.sum_append,Qc0 (by omega)];simp
theorem Qahv(a:List Int)(k:Nat):Qmn a (a.length+k)=Qa3 a:=by
 induction k with
 |zero=>rw[Nat.add_zero,Qwz a _ (Nat.le_refl _),List.take_length];rfl
 |succ k ih=>rw[<-Nat.add_assoc,Qmn,ih,Qds (by omega)];omega
theorem Qvl{a:List Int}{n:Nat}(h:a.length<=n):Qmn a n=Qa3 a:=by
 obtain⟨k,rfl⟩:∃k,n=a.length+k:=⟨n-a.length,by omega⟩
 exact Qahv a k
theorem Qsj(a b:List Int):Qa3 (Qak a b)=Qa3 a+Qa3 b:=by
 rw[<-Qvl (Qop a b),<-Qvl (a:=a) (n:=max a.length b.length) (by omega),<-Qvl (a:=b) (n:=max a.length b.length) (by omega)]
 generalize max a.length b.length=n
 induction n with
 |zero=>rfl
 |succ n ih=>rw[Qmn,Qmn,Qmn,ih,Qdt];omega
theorem Qz2(o:Int)(a b:List Int):Qa9 o b a= -Qa9 o a b:=by
 unfold Qa9
 by_cases h:o=1/\Qa3 a≠Qa3 b
 ·rw[if_pos h,if_pos ⟨h.1,fun e=>h.2 e.symm⟩,Qzk]
 ·rw[if_neg h,if_neg (fun h'=>h ⟨h'.1,fun e=>h'.2 e.symm⟩),Qc8]
theorem Qqx(o:Int){a b:List Int}:0<Qa9 o a b↔(o=1/\Qa3 b<Qa3 a)∨((o=1->Qa3 a=Qa3 b)/\0<Qah a b):=by
 unfold Qa9
 by_cases h:o=1/\Qa3 a≠Qa3 b
 ·rw[if_pos h,Qaf0]
  constructor
  ·intro h';exact .inl ⟨h.1,h'⟩
  ·rintro(h'|h')
   ·exact h'.2
   ·exact absurd (h'.1 h.1) h.2
 ·rw[if_neg h]
  constructor
  ·intro h'
   refine .inr ⟨fun ho=> ?_,h'⟩
   apply Decidable.byContradiction;intro hn;exact h ⟨ho,hn⟩
  ·rintro(h'|h')
   ·exact absurd ⟨h'.1,by omega⟩ h
   ·exact h'.2
theorem Qke{o:Int}{a b c:List Int}(h1:0<Qa9 o a b)(h2:0<Qa9 o b c):0<Qa9 o a c:=by
 rw[Qqx]at *
 by_cases ho:o=1
 ·rcases h1 with h1|h1<;>rcases h2 with h2|h2
  ·exact .inl ⟨ho,by omega⟩
  ·have:=h2.1 ho;exact .inl ⟨ho,by omega⟩
  ·have:=h1.1 ho;exact .inl ⟨ho,by omega⟩
  ·have:=h1.1 ho;have:=h2.1 ho;exact .inr ⟨fun _=>by omega,Qdf h1.2 h2.2⟩
 ·rcases h1 with h1|h1
  ·exact absurd h1.1 ho
  ·rcases h2 with h2|h2
   ·exact absurd h2.1 ho
   ·exact .inr ⟨fun h=>absurd h ho,Qdf h1.2 h2.2⟩
theorem Qz3(o:Int)(a b c:List Int):0<Qa9 o (Qak a c) (Qak b c)↔0<Qa9 o a b:=by
 rw[Qqx,Qqx,Qla,Qsj,Qsj]
 constructor
 ·rintro(h|h)
  ·exact .inl ⟨h.1,by omega⟩
  ·exact .inr ⟨fun ho=>by have:=h.1 ho;omega,h.2⟩
 ·rintro(h|h)
  ·exact .inl ⟨h.1,by omega⟩
  ·exact .inr ⟨fun ho=>by have:=h.1 ho;omega,h.2⟩
theorem Qz4(o:Int){a b:List Int}(ha:a.getLast? ≠some 0)(hb:b.getLast? ≠some 0)(h:a≠b):0<Qa9 o a b∨0<Qa9 o b a:=by
 have e:=Qz2 o a b
 by_cases h1:0<Qa9 o a b
 ·exact .inl h1
 ·by_cases h2:0<Qa9 o b a
  ·exact .inr h2
  ·exfalso
   have h0:Qa9 o a b=0:=by omega
   unfold Qa9 at h0
   split at h0
   ·rename_i h3;rw[Q2m]at h0;exact h3.2 h0
   ·exact h ((Qqv ha hb).1 h0)
theorem Ql6(o:Int)(a:List Int):¬0<Qa9 o a a:=by
 have:=Qz2 o a a;omega
theorem Qw0{o:Int}:∀ {p:List Tm} {t:Tm},Can p->t.2.getLast? ≠some 0->(∀x∈p,¬0<Qa9 o x.2 (Qh9 o t p).2)/\¬0<Qa9 o t.2 (Qh9 o t p).2
 | [],t,_,_=>⟨by simp,Ql6 o _⟩
 | s ::p,t,hc,ht=>by
  have hs:=(Can.cons.1 hc).1
  have e:Qh9 o t (s::p)=Qh9 o (if 0<Qa9 o s.2 t.2 then s else t) p:=rfl
  obtain⟨h1,h2⟩:=Qw0 (o:=o) (p:=p) (t:=if 0<Qa9 o s.2 t.2 then s else t) (Can.cons.1 hc).2 (by split;exact hs;exact ht)
  rw[e]
  generalize hL:Qh9 o (if 0<Qa9 o s.2 t.2 then s else t) p=L at *
  by_cases h:0<Qa9 o s.2 t.2
  ·rw[if_pos h]at h2
   refine⟨fun x hx=> ?_,fun h3=>h2 (Qke h h3)⟩
   rcases List.mem_cons.1 hx with rfl|hx
   ·exact h2
   ·exact h1 x hx
  ·rw[if_neg h]at h2
   refine⟨fun x hx h3=> ?_,h2⟩
   rcases List.mem_cons.1 hx with rfl|hx
   ·by_cases hxt:x.2=t.2
    ·rw[hxt]at h3;exact h2 h3
    ·rcases Qz4 o hs ht hxt with h4|h4
     ·exact h h4
     ·exact h2 (Qke h4 h3)
   ·exact h1 x hx h3
theorem Qt4(o:Int):∀(p:List Tm)(t:Tm),Qh9 o t p=t∨Qh9 o t p∈p
 | [],t=>Or.inl rfl
 | s::p,t=>by
  have h:=Qt4 o p (if 0<Qa9 o s.2 t.2 then s else t)
  have e:Qh9 o t (s::p)=Qh9 o (if 0<Qa9 o s.2 t.2 then s else t) p:=rfl
  rw[e]
  rcases h with h|h
  ·rw[h];split
   ·right;simp
   ·left;rfl
  ·right;simp[h]
theorem Qor{l:List Tm}(hs:Qbe l){a b:Tm}(ha:a∈l)(hb:b∈l)(e:a.2=b.2):a=b:=by
 induction l with
 |nil=>cases ha
 |cons c l ih=>
  rcases List.mem_cons.1 ha with h1|h1<;>rcases List.mem_cons.1 hb with h2|h2
  ·rw[h1,h2]
  ·subst h1;exact absurd e.symm (Ql5 (hs.1 b h2))
  ·subst h2;exact absurd e (Ql5 (hs.1 a h1))
  ·exact ih hs.2 h1 h2
def plt(o:Int)(p:List Tm):Tm:=Qh9 o (p.headD (0,[])) p
theorem Qiw{o:Int}{p:List Tm}(hp:Nrm p)(h0:p≠[]):plt o p∈p/\∀x∈p,x≠plt o p->0<Qa9 o (plt o p).2 x.2:=by
 obtain⟨t,p',rfl⟩:=List.exists_cons_of_ne_nil h0
 have hm:plt o (t::p')∈t::p':=by
  rcases Qt4 o (t::p') t with h|h
  ·show Qh9 o t (t::p')∈_;rw[h];simp
  ·exact h
 refine⟨hm,fun x hx hne=> ?_⟩
 obtain⟨h1,_⟩:=Qw0 (o:=o) (p:=t::p') (t:=t) hp.c (hp.c t (by simp))
 have h2:=h1 x hx
 have hd:x.2≠(plt o (t::p')).2:=fun e=>hne (by
  exact Qor hp.s hx hm e)
 rcases Qz4 o (hp.c x hx) (hp.c _ hm) hd with h|h
 ·exact absurd h h2
 ·exact h
theorem Qhk{φ:List Int->Rat}:∀ {p:List Tm} {x:Tm},Qbe p->x∈p->(∀t∈p,t≠x->φ t.2=0)->pev φ p=x.1*φ x.2
 | [],x,_,hx,_=>by cases hx
 | t::p,x,hs,hx,h=>by
  have hz:∀ {l:List Tm},(∀s∈l,φ s.2=0)->pev φ l=0:=by
   intro l
   induction l with
   |nil=>intro _;rfl
   |cons s l ih=>intro hl;rw[Qat,hl s (by simp),ih (fun y hy=>hl y (by simp[hy]))];grind
  by_cases htx:t=x
  ·subst htx
   rw[Qat,hz (fun s hs'=>h s (by simp[hs']) (fun e=>Ql5 (hs.1 s hs') (by rw[e])))];grind
  ·have hx':x∈p:=by
    rcases List.mem_cons.1 hx with h1|h1
    ·exact absurd h1.symm htx
    ·exact h1
   rw[Qat,h t (by simp) htx,Qhk hs.2 hx' (fun s hs'=>h s (by simp[hs']))];grind
theorem Q2s{o:Int}{p q:List Tm}(hp:Nrm p)(hq:Nrm q)(h1:p≠[])(h2:q≠[]):Qu p q≠[]/\plt o (Qu p q)=((plt o p).1*(plt o q).1,Qak (plt o p).2 (plt o q).2):=by
 obtain⟨a1,a2⟩:=Qiw (o:=o) hp h1
 obtain⟨b1,b2⟩:=Qiw (o:=o) hq h2
 generalize plt o p=A at *
 generalize plt o q=B at *
 have hn:=Qa1 hp.s hq.s
 have key:∀a∈p,∀b∈q,(a≠A∨b≠B)->0<Qa9 o (Qak A.2 B.2) (Qak a.2 b.2):=fun a ha b hb hab=>by
  have hB:b=B∨0<Qa9 o (Qak A.2 B.2) (Qak A.2 b.2):=by
   by_cases e:b=B
   ·exact .inl e
   ·right
    rw[Qdq A.2 B.2,Qdq A.2 b.2,Qz3];exact b2 b hb e
  have hA:a=A∨0<Qa9 o (Qak A.2 b.2) (Qak a.2 b.2):=by
   by_cases e:a=A
   ·exact .inl e
   ·right;rw[Qz3];exact a2 a ha e
  rcases hA with hA|hA
  ·rcases hB with hB|hB
   ·subst hA hB;rcases hab with h|h<;>exact absurd rfl h
   ·subst hA;exact hB
  ·rcases hB with hB|hB
   ·subst hB;exact hA
   ·exact Qke hB hA
 have hne:∀a∈p,∀b∈q,(a≠A∨b≠B)->Qak a.2 b.2≠Qak A.2 B.2:=fun a ha b hb hab e=>by
  have:=key a ha b hb hab
  rw[e]at this;exact Ql6 o _ this
 have hco:pev (ind (Qak A.2 B.2)) (Qu p q)=A.1*B.1:=by
  rw[Qb4,Qhk hp.s a1 (fun t ht hta=> ?_)]
  ·rw[Qhk hq.s b1 (fun s hs hsb=> ?_)]
   ·rw[ind,if_pos rfl];grind
   ·rw[ind,if_neg (hne A a1 s hs (.inr hsb))]
  ·have e:pev (fun n=>ind (Qak A.2 B.2) (Qak t.2 n)) q=pev (fun _=>0) q:=Qdg fun s hs=>by rw[ind,if_neg (hne t ht s hs (.inl hta))]
   rw[e,Qsh]
 have hnz:A.1*B.1≠0:=fun h=>by
  rcases Rat.mul_eq_zero.1 h with h|h
  ·exact hp.z A a1 h
  ·exact hq.z B b1 h
 obtain⟨t,ht,hte⟩:∃t∈Qu p q,t.2=Qak A.2 B.2:=by
  apply Classical.byContradiction;intro hno
  rw[Qg8 (fun t ht e=>hno ⟨t,ht,e⟩)]at hco
  exact hnz hco.symm
 have h0:Qu p q≠[]:=fun h=>by rw[h]at ht;cases ht
 refine⟨h0,?_⟩
 have htc:t.1=A.1*B.1:=by
  rw[<-hco,Qhk hn.s ht (fun s hs hst=>by rw[ind,if_neg (fun e=>hst (Qor hn.s hs ht (by rw[e,hte])))]),ind,if_pos hte];grind
 obtain⟨c1,c2⟩:=Qiw (o:=o) hn h0
 have hL:t=plt o (Qu p q):=by
  apply Classical.byContradiction;intro hno
  have h3:=c2 t ht hno
  obtain⟨a,ha,b,hb,e⟩:=Qoq c1
  rw[e,hte]at h3
  by_cases hab:a≠A∨b≠B
  ·have h4:=key a ha b hb hab
   exact Ql6 o _ (Qke h3 h4)
  ·have ea:a=A:=Classical.byContradiction fun h=>hab (.inl h)
   have eb:b=B:=Classical.byContradiction fun h=>hab (.inr h)
   subst ea eb
   exact Ql6 o _ h3
 rw[<-hL]
 exact Prod.ext htc hte
theorem Qsk:∀(p:List Tm)(d:Int),d<=p.foldl (fun d t=>max d (Qa3 t.2)) d/\(∀t∈p,Qa3 t.2<=p.foldl (fun d t=>max d (Qa3 t.2)) d)/\(p.foldl (fun d t=>max d (Qa3 t.2)) d=d∨∃t∈p,p.foldl (fun d t=>max d (Qa3 t.2)) d=Qa3 t.2)
 | [],d=>⟨Int.le_refl _,by simp,.inl rfl⟩
 | s::p,d=>by
  obtain⟨h1,h2,h3⟩:=Qsk p (max d (Qa3 s.2))
  rw[List.foldl_cons]
  refine⟨by omega,fun t ht=> ?_,?_⟩
  ·rcases List.mem_cons.1 ht with rfl|ht
   ·omega
   ·exact h2 t ht
  ·rcases h3 with h3|⟨t,ht,h3⟩
   ·rw[h3]
    by_cases h:d<=Qa3 s.2
    ·right;exact⟨s,by simp,by omega⟩
    ·left;omega
   ·right;exact⟨t,by simp[ht],h3⟩
theorem Qhl(p:List Tm):(∀t∈p,Qa3 t.2<=Qcl p)/\(Qcl p= -1∨∃t∈p,Qcl p=Qa3 t.2):=⟨(Qsk p (-1)).2.1,(Qsk p (-1)).2.2⟩
theorem Qw1{p:List Tm}{K E:Nat}(hp:PB K E p)(hn:Nrm p)(h0:p≠[]):Qcl p=Qa3 (plt 1 p).2:=by
 obtain⟨c1,c2⟩:=Qiw (o:=1) hn h0
 have hall:∀t∈p,Qa3 t.2<=Qa3 (plt 1 p).2:=fun t ht=>by
  by_cases e:t=plt 1 p
  ·rw[e];exact Int.le_refl _
  ·have:=c2 t ht e
   rw[Qqx]at this
   rcases this with h|h
   ·omega
   ·have:=h.1 rfl;omega
 have h1:=(Qhl p).1 _ c1
 rcases(Qhl p).2 with h|⟨t,ht,h⟩
 ·have:=(Qkr (hp _ c1).m).1;omega
 ·have:=hall t ht;omega
end Go.FW
namespace Go.FW
open Go
def Qid(v n:Nat):List Int:=List.replicate v 0++[(n:Int)]
theorem Q8a{v n:Nat}(h:0<n):(Qid v n).getLast? ≠some 0:=by
 unfold Qid
 rw[List.getLast?_append]
 simp
 omega
theorem Qahw{v n:Nat}(hv:v<64):MB n (Qid v n):=by
 refine⟨by simp[Qid];omega,fun x hx=> ?_,fun x hx=> ?_⟩
 all_goals
  simp only[Qid,List.mem_append,List.mem_replicate,List.mem_singleton]at hx
  omega
theorem Qact{p q:List Tm}{t:Tm}(hq:Can q)(h:t∈Qlb p q):(∃s∈p,s.2=t.2)∨(∃s∈q,s.2=t.2):=by
 rcases Qf1 h with h|⟨s,hs,h⟩
 ·exact .inl h
 ·right
  rw[Qob,Qal,if_neg (by decide)]at hs
  obtain⟨u,hu,e⟩:=Qgz hs
  exact⟨u,hu,by rw[<-h,e];exact(Qn6 (hq u hu)).symm⟩
end Go.FW
namespace Go.FW
open Go
variable {C : Ctx} {fr : Fr} {hp : HP} {w : World} {K R : Qg}
end Go.FW
namespace Go.FW
open Go
variable {C : Ctx} {fr : Fr} {hp : HP} {K : Qg}
theorem Qos(q:List Tm):Qu [] q=[]:=by
 rw[List.eq_nil_iff_forall_not_mem]
 intro t ht
 obtain⟨a,ha,_⟩:=Qoq ht
 cases ha
end Go.FW
namespace Go.FW
open Go
theorem Qt5:∀ {p:List Tm},Qbe p->∀n,Qbe (p.take n)
 |_,_,0=>trivial
 | [],_,n+1=>trivial
 |t::p,h,n+1=>⟨fun s hs=>h.1 s (List.mem_of_mem_take hs),Qt5 h.2 n⟩
theorem Nrm.take{p:List Tm}(h:Nrm p)(n:Nat):Nrm (p.take n):=⟨fun t ht=>h.c t (List.mem_of_mem_take ht),fun t ht=>h.z t (List.mem_of_mem_take ht),Qt5 h.s n⟩
end Go.FW
namespace Go.FW
open Go
end Go.FW
