/- Part 3 of the proof of CertcheckPowers: C1, CI, C1b, N1, N2, N3, N4, N5, N6, N7, N8, N9, N10, N11, N12, N13, N14, N15, I1, R1, R2, FwUB, FwNA, FwNB, FwND, FwNE, FwNF, FwNG, FwNS, FwNT, FwQA, FwSD, FwSE, FwSF, FwSG, FwSH, FwSI, FwSJ, FwSK, FwSL, FwUA, FwSM, FwUC, FwVA. Own lemmas; no conditions. -/
import Derived.Test.YtdacdnoebgcjhaaGreatCertcheckPowersPart2
import Derived.Test.YtdacdnoebgcjhaaGreatProg
set_option linter.unusedSimpArgs false
set_option linter.unnecessarySimpa false
set_option linter.unusedVariables false
namespace Go.Proofs.YtdacdnoebgcjhaaGreat
open Go Go.FW
set_option maxRecDepth 100000
theorem Ql:Tryz.prog.follows .mixedOrders=true:=by kernel_rfl
def Qwl:SFn:=⟨21,[.t 2],Zr (Zo (.mv 2 (.c .nilS)) .nil)<|Zr (Zm 4 0<|
 Zn 5 4<|
 Zm 3 5 .nil)<| .seq (.block 0<| .loop<| .seq (Zr (Zm 6 3<|
 Zk 7 .gtr 6 0<|
 Zm 8 7<|
 Zg 8 true (.mv 9 (.t 0))<|
 Zg 8 true (.mv 10 (.t 3))<|
 Zg 8 true (.bin 11 .sub false (.t 10) (.c (Zz 1)))<|
 Zg 8 true (.idx 12 1 (.t 9) (.t 11))<|
 Zg 8 true (.ld 13 1 false (.t 12))<|
 Zg 8 true (.bin 14 .eql false (.t 13) (.c (.int .u16 0)))<|
 Zo (.pick 15 (.t 8) (.t 14) (.c (.bool false))) .nil)<| .cond (.t 15) .skip (.exit 0))<| .block 1<| .rg (Zm 16 3<|
 Zk 17 .sub 16 1<|
 Zm 3 17 .nil))<|Zr (Zm 18 0<|
 Zm 19 3<|
 Zo (.sl 20 1 (.t 18) none (some (.t 19)) none)<|
 Zm 2 20 .nil) .ret⟩
theorem Qzh:Qe Tryz.prog Tryz.f112=some Qwl:=by kernel_rfl
def Q6s:SFn:=⟨16,[.t 2],Zr (Zo (.mv 2 (.c .nilS)) .nil)<|Zr (Zm 4 0<|
 Zq 5 false 112 [.t 4]<|
 Zm 0 5 .nil)<| .seq (Zr (Zm 6 0<|
 Zn 7 6<|
 Zk 8 .eql 7 0 .nil)<| .cond (.t 8) (Zr (Zo (.mv 2 (.c .nilS)) .nil) .ret) .skip)<|Zr (Zm 9 0<|
 Zn 10 9<|
 Zo (.mk 11 1 2 109 (.int .u16 0) (.t 10) (.t 10))<|
 Zm 3 11 .nil)<|Zr (Zm 12 3<|
 Zm 13 0<|
 Zo (.cpy 14 1 (.t 12) (.t 13)) .nil)<|Zr (Zm 15 3<|
 Zm 2 15 .nil) .ret⟩
theorem Qaag:Qe Tryz.prog Tryz.f108=some Q6s:=by kernel_rfl
def Q6t:SFn:=⟨14,[.t 2],Zr (Zo (.mv 2 (.c .nilS)) .nil)<|Zr (Zo (.mv 3 (.c .nilS)) .nil)<| .seq (.block 0<| .loop<| .seq (Zr (Zm 4 0<|
 Zo (.bin 5 .gtr false (.t 4) (.c (.int .u64 0))) .nil)<| .cond (.t 5) .skip (.exit 0))<| .seq (.block 1<| .rg (Zm 8 3<|
 Zm 9 0<|
 Zo (.conv 10 .u16 (.t 9))<|
 Zo (.bs 11 1 109 [.t 10])<|
 Zo (.app 12 1 2 109 (.t 8) (.t 11))<|
 Zm 3 12 .nil))<| .rg (Zm 6 0<|
 Zo (.bin 7 .shr false (.t 6) (.c (.int .u64 16)))<|
 Zm 0 7 .nil))<|Zr (Zm 13 3<|
 Zm 2 13 .nil) .ret⟩
theorem Qaah:Qe Tryz.prog Tryz.f107=some Q6t:=by kernel_rfl
def Q6u:SFn:=⟨28,[.t 2,.t 3],Zr (Zo (.mv 2 (.c (.int .u64 0)))<|
 Zo (.mv 3 (.c (.bool false))) .nil)<|Zr (Zm 7 0<|
 Zq 8 false 112 [.t 7]<|
 Zm 0 8 .nil)<| .seq (Zr (Zm 9 0<|
 Zn 10 9<|
 Zk 11 .gtr 10 4 .nil)<| .cond (.t 11) (Zr (Zo (.mv 2 (.c (.int .u64 0)))<|
 Zo (.mv 3 (.c (.bool false))) .nil) .ret) .skip)<|Zr (Zo (.mv 4 (.c (.int .u64 0))) .nil)<| .seq (Zr (Zm 12 0<|
 Zn 13 12<|
 Zc 14 0 .nil)<| .block 0<| .loop<|Zr (Zb 15 .lss 14 13 .nil)<| .seq (.cond (.t 15) .skip (.exit 0))<| .seq (.block 1<|Zr (Zm 16 14<|
 Zi 17 1 12 14<|
 Zl 18 1 17<|
 Zm 5 16<|
 Zm 6 18 .nil)<| .rg (Zm 19 4<|
 Zm 20 6<|
 Zo (.conv 21 .u64 (.t 20))<|
 Zm 22 5<|
 Zo (.bin 23 .mul false (.c (Zz 16)) (.t 22))<|
 Zb 24 .shl 21 23<|
 Zb 25 .or 19 24<|
 Zm 4 25 .nil))<| .rg (Zk 26 .add 14 1<|
 Zm 14 26 .nil))<|Zr (Zm 27 4<|
 Zm 2 27<|
 Zo (.mv 3 (.c (.bool true))) .nil) .ret⟩
theorem Qaai:Qe Tryz.prog Tryz.f127=some Q6u:=by kernel_rfl
def c86:SFn:=⟨20,[.t 2],Zr (Zc 2 0 .nil)<|Zr (Zm 3 0<|
 Zq 4 false 112 [.t 3]<|
 Zm 0 4 .nil)<| .seq (Zr (Zm 5 0<|
 Zn 6 5<|
 Zk 7 .eql 6 0 .nil)<| .cond (.t 7) (Zr (Zc 2 0 .nil) .ret) .skip)<|Zr (Zm 8 0<|
 Zn 9 8<|
 Zk 10 .sub 9 1<|
 Zo (.bin 11 .mul false (.c (Zz 16)) (.t 10))<|
 Zm 12 0<|
 Zm 13 0<|
 Zn 14 13<|
 Zk 15 .sub 14 1<|
 Zi 16 1 12 15<|
 Zl 17 1 16<|
 Zq 18 false 114 [.t 17]<|
 Zb 19 .add 11 18<|
 Zm 2 19 .nil) .ret⟩
theorem Qad5:Qe Tryz.prog Tryz.f86=some c86:=by kernel_rfl
def Q6v:SFn:=⟨45,[.t 4],Zr (Zc 4 0 .nil)<|Zr (Zm 6 0<|
 Zq 7 false 112 [.t 6]<|
 Zm 8 1<|
 Zq 9 false 112 [.t 8]<|
 Zm 0 7<|
 Zm 1 9 .nil)<| .seq (Zr (Zm 10 0<|
 Zn 11 10<|
 Zm 12 1<|
 Zn 13 12<|
 Zb 14 .neq 11 13 .nil)<| .cond (.t 14) (.seq (Zr (Zm 15 0<|
 Zn 16 15<|
 Zm 17 1<|
 Zn 18 17<|
 Zb 19 .lss 16 18 .nil)<| .cond (.t 19) (Zr (Zc 4 (-1) .nil) .ret) .skip)<|Zr (Zc 4 1 .nil) .ret) .skip)<| .seq (Zr (Zm 20 0<|
 Zn 21 20<|
 Zk 22 .sub 21 1<|
 Zm 5 22 .nil)<| .block 0<| .loop<| .seq (Zr (Zm 23 5<|
 Zk 24 .geq 23 0 .nil)<| .cond (.t 24) .skip (.exit 0))<| .seq (.block 1<| .seq (Zr (Zm 27 0<|
 Zm 28 5<|
 Zi 29 1 27 28<|
 Zl 30 1 29<|
 Zm 31 1<|
 Zm 32 5<|
 Zi 33 1 31 32<|
 Zl 34 1 33<|
 Zb 35 .lss 30 34 .nil)<| .cond (.t 35) (Zr (Zc 4 (-1) .nil) .ret) .skip)<|Zr (Zm 36 0<|
 Zm 37 5<|
 Zi 38 1 36 37<|
 Zl 39 1 38<|
 Zm 40 1<|
 Zm 41 5<|
 Zi 42 1 40 41<|
 Zl 43 1 42<|
 Zb 44 .gtr 39 43 .nil)<| .cond (.t 44) (Zr (Zc 4 1 .nil) .ret) .skip)<| .rg (Zm 25 5<|
 Zk 26 .sub 25 1<|
 Zm 5 26 .nil))<|Zr (Zc 4 0 .nil) .ret⟩
theorem Qaaj:Qe Tryz.prog Tryz.f128=some Q6v:=by kernel_rfl
def Q6w:SFn:=⟨64,[.t 4],Zr (Zo (.mv 4 (.c .nilS)) .nil)<|Zr (Zm 9 0<|
 Zq 10 false 112 [.t 9]<|
 Zm 11 1<|
 Zq 12 false 112 [.t 11]<|
 Zm 0 10<|
 Zm 1 12 .nil)<| .seq (Zr (Zm 13 0<|
 Zn 14 13<|
 Zm 15 1<|
 Zn 16 15<|
 Zb 17 .lss 14 16 .nil)<| .cond (.t 17) (.rg (Zm 18 1<|
 Zm 19 0<|
 Zm 0 18<|
 Zm 1 19 .nil)) .skip)<|Zr (Zm 20 0<|
 Zn 21 20<|
 Zm 22 0<|
 Zn 23 22<|
 Zk 24 .add 23 1<|
 Zo (.mk 25 1 2 109 (.int .u16 0) (.t 21) (.t 24))<|
 Zm 5 25 .nil)<|Zr (Zo (.mv 6 (.c (.int .u32 0))) .nil)<| .seq (Zr (Zm 26 0<|
 Zn 27 26<|
 Zc 28 0 .nil)<| .block 0<| .loop<|Zr (Zb 29 .lss 28 27 .nil)<| .seq (.cond (.t 29) .skip (.exit 0))<| .seq (.block 1<|Zr (Zm 30 28<|
 Zi 31 1 26 28<|
 Zl 32 1 31<|
 Zm 7 30<|
 Zm 8 32 .nil)<|Zr (Zm 33 6<|
 Zm 34 8<|
 Zo (.conv 35 .u32 (.t 34))<|
 Zb 36 .add 33 35<|
 Zm 6 36 .nil)<| .seq (Zr (Zm 37 7<|
 Zm 38 1<|
 Zn 39 38<|
 Zb 40 .lss 37 39 .nil)<| .cond (.t 40) (.rg (Zm 41 6<|
 Zm 42 1<|
 Zm 43 7<|
 Zi 44 1 42 43<|
 Zl 45 1 44<|
 Zo (.conv 46 .u32 (.t 45))<|
 Zb 47 .add 41 46<|
 Zm 6 47 .nil)) .skip)<|Zr (Zm 48 5<|
 Zm 49 7<|
 Zm 50 6<|
 Zo (.conv 51 .u16 (.t 50))<|
 Zi 52 1 48 49<|
 Zs 1 52 51 .nil)<| .rg (Zm 53 6<|
 Zo (.bin 54 .shr false (.t 53) (.c (.int .u64 16)))<|
 Zm 6 54 .nil))<| .rg (Zk 55 .add 28 1<|
 Zm 28 55 .nil))<| .seq (Zr (Zm 56 6<|
 Zo (.bin 57 .gtr false (.t 56) (.c (.int .u32 0))) .nil)<| .cond (.t 57) (.rg (Zm 58 5<|
 Zm 59 6<|
 Zo (.conv 60 .u16 (.t 59))<|
 Zo (.bs 61 1 109 [.t 60])<|
 Zo (.app 62 1 2 109 (.t 58) (.t 61))<|
 Zm 5 62 .nil)) .skip)<|Zr (Zm 63 5<|
 Zm 4 63 .nil) .ret⟩
theorem Qaak:Qe Tryz.prog Tryz.f133=some Q6w:=by kernel_rfl
def Q6x:SFn:=⟨56,[.t 4,.t 5],Zr (Zo (.mv 4 (.c .nilS))<|
 Zc 5 0 .nil)<| .seq (Zr (Zm 11 0<|
 Zm 12 1<|
 Zq 13 false 128 [.t 11,.t 12]<|
 Zk 14 .lss 13 0 .nil)<| .cond (.t 14) (Zr (Zo (.mv 4 (.c .nilS))<|
 Zc 5 2 .nil) .ret) .skip)<|Zr (Zm 15 0<|
 Zq 16 false 112 [.t 15]<|
 Zm 17 1<|
 Zq 18 false 112 [.t 17]<|
 Zm 0 16<|
 Zm 1 18 .nil)<|Zr (Zm 19 0<|
 Zn 20 19<|
 Zo (.mk 21 1 2 109 (.int .u16 0) (.t 20) (.t 20))<|
 Zm 6 21 .nil)<|Zr (Zo (.mv 7 (.c (.int .i32 0))) .nil)<| .seq (Zr (Zm 22 0<|
 Zn 23 22<|
 Zc 24 0 .nil)<| .block 0<| .loop<|Zr (Zb 25 .lss 24 23 .nil)<| .seq (.cond (.t 25) .skip (.exit 0))<| .seq (.block 1<|Zr (Zm 26 24<|
 Zi 27 1 22 24<|
 Zl 28 1 27<|
 Zm 8 26<|
 Zm 9 28 .nil)<|Zr (Zm 29 9<|
 Zo (.conv 30 .i32 (.t 29))<|
 Zm 31 7<|
 Zb 32 .sub 30 31<|
 Zm 10 32 .nil)<| .seq (Zr (Zm 33 8<|
 Zm 34 1<|
 Zn 35 34<|
 Zb 36 .lss 33 35 .nil)<| .cond (.t 36) (.rg (Zm 37 10<|
 Zm 38 1<|
 Zm 39 8<|
 Zi 40 1 38 39<|
 Zl 41 1 40<|
 Zo (.conv 42 .i32 (.t 41))<|
 Zb 43 .sub 37 42<|
 Zm 10 43 .nil)) .skip)<|Zr (Zo (.mv 7 (.c (.int .i32 0))) .nil)<| .seq (Zr (Zm 44 10<|
 Zo (.bin 45 .lss false (.t 44) (.c (.int .i32 0))) .nil)<| .cond (.t 45) (Zr (Zm 46 10<|
 Zo (.bin 47 .add false (.t 46) (.c (.int .i32 65536)))<|
 Zm 10 47 .nil)<| .rg (Zo (.mv 7 (.c (.int .i32 1))) .nil)) .skip)<| .rg (Zm 48 6<|
 Zm 49 8<|
 Zm 50 10<|
 Zo (.conv 51 .u16 (.t 50))<|
 Zi 52 1 48 49<|
 Zs 1 52 51 .nil))<| .rg (Zk 53 .add 24 1<|
 Zm 24 53 .nil))<|Zr (Zm 54 6<|
 Zq 55 false 112 [.t 54]<|
 Zm 4 55<|
 Zc 5 0 .nil) .ret⟩
theorem Qaal:Qe Tryz.prog Tryz.f134=some Q6x:=by kernel_rfl
def c83:SFn:=⟨79,[.t 4],Zr (Zo (.mv 4 (.c .nilS)) .nil)<|Zr (Zm 11 0<|
 Zq 12 false 112 [.t 11]<|
 Zm 13 1<|
 Zq 14 false 112 [.t 13]<|
 Zm 0 12<|
 Zm 1 14 .nil)<| .seq (Zr (Zm 15 0<|
 Zn 16 15<|
 Zk 17 .eql 16 0<|
 Zm 18 17<|
 Zg 18 false (.mv 19 (.t 1))<|
 Zg 18 false (.len 20 (.t 19))<|
 Zg 18 false (.bin 21 .eql false (.t 20) (.c (Zz 0)))<|
 Zo (.pick 22 (.t 18) (.c (.bool true)) (.t 21)) .nil)<| .cond (.t 22) (Zr (Zo (.mv 4 (.c .nilS)) .nil) .ret) .skip)<|Zr (Zm 23 0<|
 Zn 24 23<|
 Zm 25 1<|
 Zn 26 25<|
 Zb 27 .add 24 26<|
 Zo (.mk 28 1 2 109 (.int .u16 0) (.t 27) (.t 27))<|
 Zm 5 28 .nil)<| .seq (Zr (Zm 29 0<|
 Zn 30 29<|
 Zc 31 0 .nil)<| .block 0<| .loop<|Zr (Zb 32 .lss 31 30 .nil)<| .seq (.cond (.t 32) .skip (.exit 0))<| .seq (.block 1<|Zr (Zm 33 31<|
 Zi 34 1 29 31<|
 Zl 35 1 34<|
 Zm 6 33<|
 Zm 7 35 .nil)<|Zr (Zo (.mv 8 (.c (.int .u32 0))) .nil)<| .seq (Zr (Zm 36 1<|
 Zn 37 36<|
 Zc 38 0 .nil)<| .block 2<| .loop<|Zr (Zb 39 .lss 38 37 .nil)<| .seq (.cond (.t 39) .skip (.exit 2))<| .seq (.block 3<|Zr (Zm 40 38<|
 Zi 41 1 36 38<|
 Zl 42 1 41<|
 Zm 9 40<|
 Zm 10 42 .nil)<|Zr (Zm 43 8<|
 Zm 44 5<|
 Zm 45 6<|
 Zm 46 9<|
 Zb 47 .add 45 46<|
 Zi 48 1 44 47<|
 Zl 49 1 48<|
 Zo (.conv 50 .u32 (.t 49))<|
 Zm 51 7<|
 Zo (.conv 52 .u32 (.t 51))<|
 Zm 53 10<|
 Zo (.conv 54 .u32 (.t 53))<|
 Zb 55 .mul 52 54<|
 Zb 56 .add 50 55<|
 Zb 57 .add 43 56<|
 Zm 8 57 .nil)<|Zr (Zm 58 5<|
 Zm 59 6<|
 Zm 60 9<|
 Zb 61 .add 59 60<|
 Zm 62 8<|
 Zo (.conv 63 .u16 (.t 62))<|
 Zi 64 1 58 61<|
 Zs 1 64 63 .nil)<| .rg (Zm 65 8<|
 Zo (.bin 66 .shr false (.t 65) (.c (.int .u64 16)))<|
 Zm 8 66 .nil))<| .rg (Zk 67 .add 38 1<|
 Zm 38 67 .nil))<| .rg (Zm 68 5<|
 Zm 69 6<|
 Zm 70 1<|
 Zn 71 70<|
 Zb 72 .add 69 71<|
 Zm 73 8<|
 Zo (.conv 74 .u16 (.t 73))<|
 Zi 75 1 68 72<|
 Zs 1 75 74 .nil))<| .rg (Zk 76 .add 31 1<|
 Zm 31 76 .nil))<|Zr (Zm 77 5<|
 Zq 78 false 112 [.t 77]<|
 Zm 4 78 .nil) .ret⟩
theorem Qad6:Qe Tryz.prog Tryz.f83=some c83:=by kernel_rfl
def Q6y:SFn:=⟨43,[.t 4,.t 5],Zr (Zo (.mv 4 (.c .nilS))<|
 Zo (.mv 5 (.c (.int .u16 0))) .nil)<|Zr (Zm 9 0<|
 Zn 10 9<|
 Zo (.mk 11 1 2 109 (.int .u16 0) (.t 10) (.t 10))<|
 Zm 6 11 .nil)<|Zr (Zo (.mv 7 (.c (.int .u32 0))) .nil)<| .seq (Zr (Zm 12 0<|
 Zn 13 12<|
 Zk 14 .sub 13 1<|
 Zm 8 14 .nil)<| .block 0<| .loop<| .seq (Zr (Zm 15 8<|
 Zk 16 .geq 15 0 .nil)<| .cond (.t 16) .skip (.exit 0))<| .seq (.block 1<|Zr (Zm 19 7<|
 Zo (.bin 20 .shl false (.t 19) (.c (.int .u64 16)))<|
 Zm 21 0<|
 Zm 22 8<|
 Zi 23 1 21 22<|
 Zl 24 1 23<|
 Zo (.conv 25 .u32 (.t 24))<|
 Zb 26 .or 20 25<|
 Zm 7 26 .nil)<|Zr (Zm 27 6<|
 Zm 28 8<|
 Zm 29 7<|
 Zm 30 1<|
 Zo (.conv 31 .u32 (.t 30))<|
 Zb 32 .quo 29 31<|
 Zo (.conv 33 .u16 (.t 32))<|
 Zi 34 1 27 28<|
 Zs 1 34 33 .nil)<| .rg (Zm 35 7<|
 Zm 36 1<|
 Zo (.conv 37 .u32 (.t 36))<|
 Zb 38 .rem 35 37<|
 Zm 7 38 .nil))<| .rg (Zm 17 8<|
 Zk 18 .sub 17 1<|
 Zm 8 18 .nil))<|Zr (Zm 39 6<|
 Zq 40 false 112 [.t 39]<|
 Zm 41 7<|
 Zo (.conv 42 .u16 (.t 41))<|
 Zm 4 40<|
 Zm 5 42 .nil) .ret⟩
theorem Qaam:Qe Tryz.prog Tryz.f129=some Q6y:=by kernel_rfl
def Q6z:SFn:=⟨71,[.t 4,.t 5,.t 6],Zr (Zo (.mv 4 (.c .nilS))<|
 Zo (.mv 5 (.c .nilS))<|
 Zc 6 0 .nil)<|Zr (Zm 12 0<|
 Zq 13 false 112 [.t 12]<|
 Zm 14 1<|
 Zq 15 false 112 [.t 14]<|
 Zm 0 13<|
 Zm 1 15 .nil)<| .seq (.block 0<|Zr (Zm 17 1<|
 Zn 18 17<|
 Zk 19 .eql 18 0<|
 Zm 16 19 .nil)<| .cond (.t 16) (Zr (Zo (.mv 4 (.c .nilS))<|
 Zo (.mv 5 (.c .nilS))<|
 Zc 6 3 .nil) .ret) (Zr (Zm 21 0<|
 Zm 22 1<|
 Zq 23 false 128 [.t 21,.t 22]<|
 Zk 24 .lss 23 0<|
 Zm 20 24 .nil)<| .cond (.t 20) (Zr (Zm 25 0<|
 Zq 26 false 108 [.t 25]<|
 Zo (.mv 4 (.c .nilS))<|
 Zm 5 26<|
 Zc 6 0 .nil) .ret) (Zr (Zm 28 1<|
 Zn 29 28<|
 Zk 30 .eql 29 1<|
 Zm 27 30 .nil)<| .cond (.t 27) (Zr (Zm 32 0<|
 Zm 33 1<|
 Zo (.idx 34 1 (.t 33) (.c (Zz 0)))<|
 Zl 35 1 34<|
 Zq 36 false 129 [.t 32,.t 35]<|
 Zm 31 36<|
 Zo (.ext 37 (.t 31) 0)<|
 Zo (.ext 38 (.t 31) 1)<|
 Zm 7 37<|
 Zm 8 38 .nil)<|Zr (Zm 39 7<|
 Zm 40 8<|
 Zo (.conv 41 .u64 (.t 40))<|
 Zq 42 false 107 [.t 41]<|
 Zm 4 39<|
 Zm 5 42<|
 Zc 6 0 .nil) .ret) .skip)))<|Zr (Zm 43 1<|
 Zm 44 1<|
 Zn 45 44<|
 Zk 46 .sub 45 1<|
 Zi 47 1 43 46<|
 Zl 48 1 47<|
 Zq 49 false 130 [.t 48]<|
 Zm 9 49 .nil)<|Zr (Zm 50 0<|
 Zm 51 9<|
 Zq 52 false 131 [.t 50,.t 51]<|
 Zo (.bs 53 1 109 [.c (.int .u16 0),.c (.int .u16 0)])<|
 Zo (.app 54 1 2 109 (.t 52) (.t 53))<|
 Zm 55 0<|
 Zn 56 55<|
 Zk 57 .add 56 1<|
 Zo (.sl 58 1 (.t 54) none (some (.t 57)) none)<|
 Zm 10 58 .nil)<|Zr (Zm 59 1<|
 Zm 60 9<|
 Zq 61 false 131 [.t 59,.t 60]<|
 Zm 11 61 .nil)<|Zr (Zm 62 10<|
 Zm 63 11<|
 Zq 64 false 132 [.t 62,.t 63]<|
 Zm 4 64 .nil)<|Zr (Zm 65 4<|
 Zm 66 10<|
 Zq 67 false 112 [.t 66]<|
 Zm 68 9<|
 Zo (.un 69 .neg (.t 68))<|
 Zq 70 false 131 [.t 67,.t 69]<|
 Zm 4 65<|
 Zm 5 70<|
 Zc 6 0 .nil) .ret⟩
theorem Qaan:Qe Tryz.prog Tryz.f111=some Q6z:=by kernel_rfl
def Q60:SFn:=⟨31,[.t 6],Zr (Zo (.mv 6 (.c (.bool false))) .nil)<|Zr (Zl 7 1 0<|
 Zo (.bin 8 .geq false (.t 7) (.c (.int .u64 65536)))<|
 Zm 9 8<|
 Zg 9 false (.ld 10 1 false (.t 0))<|
 Zg 9 false (.ld 11 1 false (.t 1))<|
 Zg 9 false (.ld 12 1 false (.t 2))<|
 Zg 9 false (.bin 13 .sub false (.t 12) (.c (Zz 2)))<|
 Zg 9 false (.idx 14 1 (.t 11) (.t 13))<|
 Zg 9 false (.ld 15 1 false (.t 14))<|
 Zg 9 false (.conv 16 .u64 (.t 15))<|
 Zg 9 false (.bin 17 .mul false (.t 10) (.t 16))<|
 Zg 9 false (.ld 18 1 false (.t 3))<|
 Zg 9 false (.bin 19 .shl false (.t 18) (.c (.int .u64 16)))<|
 Zg 9 false (.ld 20 1 false (.t 4))<|
 Zg 9 false (.ld 21 1 false (.t 5))<|
 Zg 9 false (.ld 22 1 false (.t 2))<|
 Zg 9 false (.bin 23 .add false (.t 21) (.t 22))<|
 Zg 9 false (.bin 24 .sub false (.t 23) (.c (Zz 2)))<|
 Zg 9 false (.idx 25 1 (.t 20) (.t 24))<|
 Zg 9 false (.ld 26 1 false (.t 25))<|
 Zg 9 false (.conv 27 .u64 (.t 26))<|
 Zg 9 false (.bin 28 .or false (.t 19) (.t 27))<|
 Zg 9 false (.bin 29 .gtr false (.t 17) (.t 28))<|
 Zo (.pick 30 (.t 9) (.c (.bool true)) (.t 29))<|
 Zm 6 30 .nil) .ret⟩
theorem Qaao:Qe Tryz.prog Tryz.f143=some Q60:=by kernel_rfl
def Q61:SFn:=⟨54,[.t 6],Zr (Zo (.mv 6 (.c (.bool false))) .nil)<|Zr (Zo (.mv 7 (.c (.int .u32 0))) .nil)<|Zr (Zo (.mv 8 (.c (.int .i32 0))) .nil)<| .seq (Zr (Zm 11 0<|
 Zn 12 11<|
 Zc 13 0 .nil)<| .block 0<| .loop<|Zr (Zb 14 .lss 13 12 .nil)<| .seq (.cond (.t 14) .skip (.exit 0))<| .seq (.block 1<|Zr (Zm 15 13<|
 Zm 9 15 .nil)<| .seq (Zr (Zm 16 9<|
 Zm 17 1<|
 Zn 18 17<|
 Zb 19 .lss 16 18 .nil)<| .cond (.t 19) (.rg (Zm 20 7<|
 Zm 21 2<|
 Zm 22 1<|
 Zm 23 9<|
 Zi 24 1 22 23<|
 Zl 25 1 24<|
 Zo (.conv 26 .u32 (.t 25))<|
 Zb 27 .mul 21 26<|
 Zb 28 .add 20 27<|
 Zm 7 28 .nil)) .skip)<|Zr (Zm 29 0<|
 Zm 30 9<|
 Zi 31 1 29 30<|
 Zl 32 1 31<|
 Zo (.conv 33 .i32 (.t 32))<|
 Zm 34 7<|
 Zo (.conv 35 .u16 (.t 34))<|
 Zo (.conv 36 .i32 (.t 35))<|
 Zb 37 .sub 33 36<|
 Zm 38 8<|
 Zb 39 .sub 37 38<|
 Zm 10 39 .nil)<|Zr (Zm 40 7<|
 Zo (.bin 41 .shr false (.t 40) (.c (.int .u64 16)))<|
 Zm 7 41 .nil)<|Zr (Zo (.mv 8 (.c (.int .i32 0))) .nil)<| .seq (Zr (Zm 42 10<|
 Zo (.bin 43 .lss false (.t 42) (.c (.int .i32 0))) .nil)<| .cond (.t 43) (Zr (Zm 44 10<|
 Zo (.bin 45 .add false (.t 44) (.c (.int .i32 65536)))<|
 Zm 10 45 .nil)<| .rg (Zo (.mv 8 (.c (.int .i32 1))) .nil)) .skip)<| .rg (Zm 46 0<|
 Zm 47 9<|
 Zm 48 10<|
 Zo (.conv 49 .u16 (.t 48))<|
 Zi 50 1 46 47<|
 Zs 1 50 49 .nil))<| .rg (Zk 51 .add 13 1<|
 Zm 13 51 .nil))<|Zr (Zm 52 8<|
 Zo (.bin 53 .gtr false (.t 52) (.c (.int .i32 0)))<|
 Zm 6 53 .nil) .ret⟩
theorem Qaap:Qe Tryz.prog Tryz.f144=some Q61:=by kernel_rfl
def Q62:SFn:=⟨37,[],Zr (Zo (.mv 4 (.c (.int .u32 0))) .nil)<|Zr (Zm 6 0<|
 Zn 7 6<|
 Zc 8 0 .nil)<| .block 0<| .loop<|Zr (Zb 9 .lss 8 7 .nil)<| .seq (.cond (.t 9) .skip (.exit 0))<| .seq (.block 1<|Zr (Zm 10 8<|
 Zm 5 10 .nil)<|Zr (Zm 11 4<|
 Zm 12 0<|
 Zm 13 5<|
 Zi 14 1 12 13<|
 Zl 15 1 14<|
 Zo (.conv 16 .u32 (.t 15))<|
 Zb 17 .add 11 16<|
 Zm 4 17 .nil)<| .seq (Zr (Zm 18 5<|
 Zm 19 1<|
 Zn 20 19<|
 Zb 21 .lss 18 20 .nil)<| .cond (.t 21) (.rg (Zm 22 4<|
 Zm 23 1<|
 Zm 24 5<|
 Zi 25 1 23 24<|
 Zl 26 1 25<|
 Zo (.conv 27 .u32 (.t 26))<|
 Zb 28 .add 22 27<|
 Zm 4 28 .nil)) .skip)<|Zr (Zm 29 0<|
 Zm 30 5<|
 Zm 31 4<|
 Zo (.conv 32 .u16 (.t 31))<|
 Zi 33 1 29 30<|
 Zs 1 33 32 .nil)<| .rg (Zm 34 4<|
 Zo (.bin 35 .shr false (.t 34) (.c (.int .u64 16)))<|
 Zm 4 35 .nil))<| .rg (Zk 36 .add 8 1<|
 Zm 8 36 .nil)⟩
theorem Qaaq:Qe Tryz.prog Tryz.f145=some Q62:=by kernel_rfl
def Q63:SFn:=⟨51,[.t 4],Zr (Zo (.mv 4 (.c .nilS)) .nil)<|Zr (Zm 12 0<|
 Zq 13 false 108 [.t 12]<|
 Zm 14 1<|
 Zq 15 false 108 [.t 14]<|
 Zm 0 13<|
 Zm 1 15 .nil)<| .seq (.block 0<| .loop<| .seq (Zr (Zm 16 1<|
 Zn 17 16<|
 Zk 18 .gtr 17 0 .nil)<| .cond (.t 18) .skip (.exit 0))<| .block 1<|Zr (Zm 20 0<|
 Zq 21 false 127 [.t 20]<|
 Zm 19 21<|
 Zo (.ext 22 (.t 19) 0)<|
 Zo (.ext 23 (.t 19) 1)<|
 Zm 5 22<|
 Zm 6 23 .nil)<|Zr (Zm 25 1<|
 Zq 26 false 127 [.t 25]<|
 Zm 24 26<|
 Zo (.ext 27 (.t 24) 0)<|
 Zo (.ext 28 (.t 24) 1)<|
 Zm 7 27<|
 Zm 8 28 .nil)<| .seq (Zr (Zm 29 6<|
 Zm 30 29<|
 Zg 30 true (.mv 31 (.t 8))<|
 Zo (.pick 32 (.t 30) (.t 31) (.c (.bool false))) .nil)<| .cond (.t 32) (.seq (.block 2<| .loop<| .seq (Zr (Zm 33 7<|
 Zo (.bin 34 .gtr false (.t 33) (.c (.int .u64 0))) .nil)<| .cond (.t 34) .skip (.exit 2))<| .block 3<| .rg (Zm 35 7<|
 Zm 36 5<|
 Zm 37 7<|
 Zb 38 .rem 36 37<|
 Zm 5 35<|
 Zm 7 38 .nil))<|Zr (Zm 39 5<|
 Zq 40 false 107 [.t 39]<|
 Zm 4 40 .nil) .ret) .skip)<|Zr (Zm 42 0<|
 Zm 43 1<|
 Zq 44 false 111 [.t 42,.t 43]<|
 Zm 41 44<|
 Zo (.ext 45 (.t 41) 0)<|
 Zo (.ext 46 (.t 41) 1)<|
 Zo (.ext 47 (.t 41) 2)<|
 Zm 9 45<|
 Zm 10 46<|
 Zm 11 47 .nil)<| .rg (Zm 48 1<|
 Zm 49 10<|
 Zm 0 48<|
 Zm 1 49 .nil))<|Zr (Zm 50 0<|
 Zm 4 50 .nil) .ret⟩
theorem Qaar:Qe Tryz.prog Tryz.f110=some Q63:=by kernel_rfl
def Qpr:SFn:=⟨78,[.t 4],Zr (Zo (.mv 4 (.c .nilS)) .nil)<|Zr (Zm 11 0<|
 Zq 12 false 112 [.t 11]<|
 Zm 0 12 .nil)<| .seq (Zr (Zm 13 1<|
 Zk 14 .lss 13 (-1048576)<|
 Zm 15 14<|
 Zg 15 false (.mv 16 (.t 1))<|
 Zg 15 false (.bin 17 .gtr false (.t 16) (.c (Zz 1048576)))<|
 Zo (.pick 18 (.t 15) (.c (.bool true)) (.t 17))<|
 Zm 19 18<|
 Zg 19 false (.mv 20 (.t 0))<|
 Zg 19 false (.len 21 (.t 20))<|
 Zg 19 false (.bin 22 .eql false (.t 21) (.c (Zz 0)))<|
 Zo (.pick 23 (.t 19) (.c (.bool true)) (.t 22)) .nil)<| .cond (.t 23) (Zr (Zo (.mv 4 (.c .nilS)) .nil) .ret) .skip)<| .seq (Zr (Zm 24 1<|
 Zk 25 .lss 24 0 .nil)<| .cond (.t 25) (Zr (Zm 26 0<|
 Zm 27 1<|
 Zo (.un 28 .neg (.t 27))<|
 Zq 29 false 142 [.t 26,.t 28]<|
 Zm 4 29 .nil) .ret) .skip)<|Zr (Zm 30 1<|
 Zk 31 .quo 30 16<|
 Zm 32 1<|
 Zk 33 .rem 32 16<|
 Zm 5 31<|
 Zm 6 33 .nil)<|Zr (Zm 34 0<|
 Zn 35 34<|
 Zm 36 5<|
 Zb 37 .add 35 36<|
 Zk 38 .add 37 1<|
 Zm 39 0<|
 Zn 40 39<|
 Zm 41 5<|
 Zb 42 .add 40 41<|
 Zk 43 .add 42 3<|
 Zo (.mk 44 1 2 109 (.int .u16 0) (.t 38) (.t 43))<|
 Zm 7 44 .nil)<| .seq (Zr (Zm 45 0<|
 Zn 46 45<|
 Zc 47 0 .nil)<| .block 0<| .loop<|Zr (Zb 48 .lss 47 46 .nil)<| .seq (.cond (.t 48) .skip (.exit 0))<| .seq (.block 1<|Zr (Zm 49 47<|
 Zi 50 1 45 47<|
 Zl 51 1 50<|
 Zm 8 49<|
 Zm 9 51 .nil)<|Zr (Zm 52 9<|
 Zo (.conv 53 .u32 (.t 52))<|
 Zm 54 6<|
 Zb 55 .shl 53 54<|
 Zm 10 55 .nil)<|Zr (Zm 56 7<|
 Zm 57 8<|
 Zm 58 5<|
 Zb 59 .add 57 58<|
 Zi 60 1 56 59<|
 Zl 61 1 60<|
 Zm 62 10<|
 Zo (.conv 63 .u16 (.t 62))<|
 Zb 64 .or 61 63<|
 Zi 65 1 56 59<|
 Zs 1 65 64 .nil)<| .rg (Zm 66 7<|
 Zm 67 8<|
 Zm 68 5<|
 Zb 69 .add 67 68<|
 Zk 70 .add 69 1<|
 Zm 71 10<|
 Zo (.bin 72 .shr false (.t 71) (.c (.int .u64 16)))<|
 Zo (.conv 73 .u16 (.t 72))<|
 Zi 74 1 66 70<|
 Zs 1 74 73 .nil))<| .rg (Zk 75 .add 47 1<|
 Zm 47 75 .nil))<|Zr (Zm 76 7<|
 Zq 77 false 112 [.t 76]<|
 Zm 4 77 .nil) .ret⟩
theorem Qsn:Qe Tryz.prog Tryz.f131=some Qpr:=by kernel_rfl
def Q64:SFn:=⟨63,[.t 4],Zr (Zo (.mv 4 (.c .nilS)) .nil)<|Zr (Zm 10 1<|
 Zk 11 .quo 10 16<|
 Zm 12 1<|
 Zk 13 .rem 12 16<|
 Zm 5 11<|
 Zm 6 13 .nil)<| .seq (Zr (Zm 14 5<|
 Zm 15 0<|
 Zn 16 15<|
 Zb 17 .geq 14 16 .nil)<| .cond (.t 17) (Zr (Zo (.mv 4 (.c .nilS)) .nil) .ret) .skip)<|Zr (Zm 18 0<|
 Zn 19 18<|
 Zm 20 5<|
 Zb 21 .sub 19 20<|
 Zo (.mk 22 1 2 109 (.int .u16 0) (.t 21) (.t 21))<|
 Zm 7 22 .nil)<| .seq (Zr (Zm 23 7<|
 Zn 24 23<|
 Zc 25 0 .nil)<| .block 0<| .loop<|Zr (Zb 26 .lss 25 24 .nil)<| .seq (.cond (.t 26) .skip (.exit 0))<| .seq (.block 1<|Zr (Zm 27 25<|
 Zm 8 27 .nil)<|Zr (Zm 28 0<|
 Zm 29 8<|
 Zm 30 5<|
 Zb 31 .add 29 30<|
 Zi 32 1 28 31<|
 Zl 33 1 32<|
 Zo (.conv 34 .u32 (.t 33))<|
 Zm 9 34 .nil)<| .seq (Zr (Zm 35 8<|
 Zm 36 5<|
 Zb 37 .add 35 36<|
 Zk 38 .add 37 1<|
 Zm 39 0<|
 Zn 40 39<|
 Zb 41 .lss 38 40 .nil)<| .cond (.t 41) (.rg (Zm 42 9<|
 Zm 43 0<|
 Zm 44 8<|
 Zm 45 5<|
 Zb 46 .add 44 45<|
 Zk 47 .add 46 1<|
 Zi 48 1 43 47<|
 Zl 49 1 48<|
 Zo (.conv 50 .u32 (.t 49))<|
 Zo (.bin 51 .shl false (.t 50) (.c (.int .u64 16)))<|
 Zb 52 .or 42 51<|
 Zm 9 52 .nil)) .skip)<| .rg (Zm 53 7<|
 Zm 54 8<|
 Zm 55 9<|
 Zm 56 6<|
 Zb 57 .shr 55 56<|
 Zo (.conv 58 .u16 (.t 57))<|
 Zi 59 1 53 54<|
 Zs 1 59 58 .nil))<| .rg (Zk 60 .add 25 1<|
 Zm 25 60 .nil))<|Zr (Zm 61 7<|
 Zq 62 false 112 [.t 61]<|
 Zm 4 62 .nil) .ret⟩
theorem Qaas:Qe Tryz.prog Tryz.f142=some Q64:=by kernel_rfl
def Q65:SFn:=⟨6,[.t 2],Zr (Zc 2 0 .nil)<|Zr (Zm 3 0<|
 Zq 4 false 114 [.t 3]<|
 Zo (.bin 5 .sub false (.c (Zz 16)) (.t 4))<|
 Zm 2 5 .nil) .ret⟩
theorem Qaat:Qe Tryz.prog Tryz.f130=some Q65:=by kernel_rfl
end Go.Proofs.YtdacdnoebgcjhaaGreat
namespace Go.Proofs.YtdacdnoebgcjhaaGreat
open Go Go.FW
set_option maxRecDepth 100000
def Q66:SFn:=⟨15,[.cell 4 2 true],Zr (Zo (.alloc 4 2 48 (.agg [.bool false,.nilS])) .nil)<|Zr (Zm 5 1<|
 Zq 6 false 108 [.t 5]<|
 Zm 1 6 .nil)<|Zr (Zm 7 0<|
 Zm 8 7<|
 Zg 8 true (.mv 9 (.t 1))<|
 Zg 8 true (.len 10 (.t 9))<|
 Zg 8 true (.bin 11 .gtr false (.t 10) (.c (Zz 0)))<|
 Zo (.pick 12 (.t 8) (.t 11) (.c (.bool false)))<|
 Zm 13 1<|
 Zo (.bld 14 [.bool false,.nilS] [(0,1,.t 12),(1,1,.t 13)])<|
 Zs 2 4 14 .nil) .ret⟩
theorem Qaau:Qe Tryz.prog Tryz.f126=some Q66:=by kernel_rfl
def Q67:SFn:=⟨13,[.cell 4 2 true],Zr (Zo (.alloc 4 2 48 (.agg [.bool false,.nilS])) .nil)<|Zr (Zm 5 0<|
 Zm 6 5<|
 Zg 6 true (.mv 7 (.t 1))<|
 Zg 6 true (.len 8 (.t 7))<|
 Zg 6 true (.bin 9 .gtr false (.t 8) (.c (Zz 0)))<|
 Zo (.pick 10 (.t 6) (.t 9) (.c (.bool false)))<|
 Zm 11 1<|
 Zo (.bld 12 [.bool false,.nilS] [(0,1,.t 10),(1,1,.t 11)])<|
 Zs 2 4 12 .nil) .ret⟩
theorem Qaav:Qe Tryz.prog Tryz.f101=some Q67:=by kernel_rfl
def Q68:SFn:=⟨27,[.t 2],Zr (Zo (.box 1 2 48 (.t 0))<|
 Zo (.mv 2 (.c (.bool false))) .nil)<|Zr (Zf 4 1 1<|
 Zl 5 1 4<|
 Zn 6 5<|
 Zm 3 6 .nil)<|Zr (Zm 7 3<|
 Zk 8 .eql 7 0<|
 Zm 9 8<|
 Zg 9 true (.fld 10 0 (.t 1))<|
 Zg 9 true (.ld 11 1 false (.t 10))<|
 Zg 9 true (.un 12 .not (.t 11))<|
 Zo (.pick 13 (.t 9) (.t 12) (.c (.bool false)))<|
 Zm 14 13<|
 Zg 14 false (.mv 15 (.t 3))<|
 Zg 14 false (.bin 16 .gtr false (.t 15) (.c (Zz 0)))<|
 Zg 14 false (.mv 17 (.t 16))<|
 Zg 17 true (.fld 18 1 (.t 1))<|
 Zg 17 true (.ld 19 1 false (.t 18))<|
 Zg 17 true (.mv 20 (.t 3))<|
 Zg 17 true (.bin 21 .sub false (.t 20) (.c (Zz 1)))<|
 Zg 17 true (.idx 22 1 (.t 19) (.t 21))<|
 Zg 17 true (.ld 23 1 false (.t 22))<|
 Zg 17 true (.bin 24 .neq false (.t 23) (.c (.int .u16 0)))<|
 Zg 14 false (.pick 25 (.t 17) (.t 24) (.c (.bool false)))<|
 Zo (.pick 26 (.t 14) (.c (.bool true)) (.t 25))<|
 Zm 2 26 .nil) .ret⟩
theorem Qaaw:Qe Tryz.prog Tryz.f137=some Q68:=by kernel_rfl
def Q69:SFn:=⟨8,[.cell 2 2 true],Zr (Zo (.box 1 2 48 (.t 0))<|
 Zo (.alloc 2 2 48 (.agg [.bool false,.nilS])) .nil)<|Zr (Zf 3 0 1<|
 Zl 4 1 3<|
 Zf 5 1 1<|
 Zl 6 1 5<|
 Zq 7 false 126 [.t 4,.t 6]<|
 Zs 2 2 7 .nil) .ret⟩
theorem Qaax:Qe Tryz.prog Tryz.f109=some Q69:=by kernel_rfl
def c80:SFn:=⟨16,[.cell 2 2 true],Zr (Zo (.alloc 2 2 48 (.agg [.bool false,.nilS])) .nil)<| .seq (Zr (Zm 3 0<|
 Zk 4 .lss 3 0 .nil)<| .cond (.t 4) (Zr (Zm 5 0<|
 Zk 6 .add 5 1<|
 Zo (.un 7 .neg (.t 6))<|
 Zo (.conv 8 .u64 (.t 7))<|
 Zo (.bin 9 .add false (.t 8) (.c (.int .u64 1)))<|
 Zq 10 false 107 [.t 9]<|
 Zq 11 false 101 [.c (.bool true),.t 10]<|
 Zs 2 2 11 .nil) .ret) .skip)<|Zr (Zm 12 0<|
 Zo (.conv 13 .u64 (.t 12))<|
 Zq 14 false 107 [.t 13]<|
 Zq 15 false 101 [.c (.bool false),.t 14]<|
 Zs 2 2 15 .nil) .ret⟩
theorem Qad7:Qe Tryz.prog Tryz.f80=some c80:=by kernel_rfl
def c51:SFn:=⟨11,[.t 2],Zr (Zo (.box 1 2 48 (.t 0))<|
 Zc 2 0 .nil)<| .seq (.block 0<|Zr (Zf 4 1 1<|
 Zl 5 1 4<|
 Zq 6 false 86 [.t 5]<|
 Zk 7 .eql 6 0<|
 Zm 3 7 .nil)<| .cond (.t 3) (Zr (Zc 2 0 .nil) .ret) (Zr (Zf 9 0 1<|
 Zl 10 1 9<|
 Zm 8 10 .nil)<| .cond (.t 8) (Zr (Zc 2 (-1) .nil) .ret) .skip))<|Zr (Zc 2 1 .nil) .ret⟩
theorem Qad8:Qe Tryz.prog Tryz.f51=some c51:=by kernel_rfl
def Q7a:SFn:=⟨35,[.t 4],Zr (Zo (.box 2 2 48 (.t 0))<|
 Zo (.box 3 2 48 (.t 1))<|
 Zc 4 0 .nil)<|Zr (Zh 8 2 2<|
 Zh 10 2 3<|
 Zq 9 true 51 [.t 8]<|
 Zq 11 true 51 [.t 10]<|
 Zm 5 9<|
 Zm 6 11 .nil)<|Zr (Zo (.mv 7 (.c (.fn 136 [] []))) .nil)<| .seq (.block 0<|Zr (Zm 13 5<|
 Zm 14 6<|
 Zb 15 .lss 13 14<|
 Zm 12 15 .nil)<| .cond (.t 12) (Zr (Zc 4 (-1) .nil) .ret) (Zr (Zm 17 5<|
 Zm 18 6<|
 Zb 19 .gtr 17 18<|
 Zm 16 19 .nil)<| .cond (.t 16) (Zr (Zc 4 1 .nil) .ret) (Zr (Zm 21 5<|
 Zk 22 .lss 21 0<|
 Zm 20 22 .nil)<| .cond (.t 20) (Zr (Zm 23 7<|
 Zf 24 1 3<|
 Zl 25 1 24<|
 Zf 26 1 2<|
 Zl 27 1 26<|
 Zo (.call (some 28) false (.t 23) [.t 25,.t 27])<|
 Zm 4 28 .nil) .ret) .skip)))<|Zr (Zm 29 7<|
 Zf 30 1 2<|
 Zl 31 1 30<|
 Zf 32 1 3<|
 Zl 33 1 32<|
 Zo (.call (some 34) false (.t 29) [.t 31,.t 33])<|
 Zm 4 34 .nil) .ret⟩
theorem Qaay:Qe Tryz.prog Tryz.f117=some Q7a:=by kernel_rfl
def Q7b:SFn:=⟨8,[.t 4],Zr (Zc 4 0 .nil)<|Zr (Zm 5 0<|
 Zm 6 1<|
 Zq 7 false 128 [.t 5,.t 6]<|
 Zm 4 7 .nil) .ret⟩
theorem Qaaz:Qe Tryz.prog Tryz.f136=some Q7b:=by kernel_rfl
def Q7c:SFn:=⟨40,[.cell 4 2 true],Zr (Zo (.box 2 2 48 (.t 0))<|
 Zo (.box 3 2 48 (.t 1))<|
 Zo (.alloc 4 2 48 (.agg [.bool false,.nilS])) .nil)<| .seq (Zr (Zf 7 0 2<|
 Zl 8 1 7<|
 Zf 9 0 3<|
 Zl 10 1 9<|
 Zo (.bin 11 .eql true (.t 8) (.t 10)) .nil)<| .cond (.t 11) (Zr (Zf 12 0 2<|
 Zl 13 1 12<|
 Zf 14 1 2<|
 Zl 15 1 14<|
 Zf 16 1 3<|
 Zl 17 1 16<|
 Zq 18 true 133 [.t 15,.t 17]<|
 Zq 19 true 101 [.t 13,.t 18]<|
 Zs 2 4 19 .nil) .ret) .skip)<| .seq (Zr (Zf 20 1 2<|
 Zl 21 1 20<|
 Zf 22 1 3<|
 Zl 23 1 22<|
 Zq 24 false 128 [.t 21,.t 23]<|
 Zk 25 .lss 24 0 .nil)<| .cond (.t 25) (.rg (Zh 26 2 3<|
 Zh 27 2 2<|
 Zs 2 2 26<|
 Zs 2 3 27 .nil)) .skip)<|Zr (Zf 29 1 2<|
 Zl 30 1 29<|
 Zf 31 1 3<|
 Zl 32 1 31<|
 Zq 33 false 134 [.t 30,.t 32]<|
 Zm 28 33<|
 Zo (.ext 34 (.t 28) 0)<|
 Zo (.ext 35 (.t 28) 1)<|
 Zm 5 34<|
 Zm 6 35 .nil)<|Zr (Zf 36 0 2<|
 Zl 37 1 36<|
 Zm 38 5<|
 Zq 39 false 101 [.t 37,.t 38]<|
 Zs 2 4 39 .nil) .ret⟩
theorem Qaa0:Qe Tryz.prog Tryz.f113=some Q7c:=by kernel_rfl
def c74:SFn:=⟨16,[.cell 4 2 true],Zr (Zo (.box 2 2 48 (.t 0))<|
 Zo (.box 3 2 48 (.t 1))<|
 Zo (.alloc 4 2 48 (.agg [.bool false,.nilS])) .nil)<|Zr (Zf 5 0 2<|
 Zl 6 1 5<|
 Zf 7 0 3<|
 Zl 8 1 7<|
 Zo (.bin 9 .neq true (.t 6) (.t 8))<|
 Zf 10 1 2<|
 Zl 11 1 10<|
 Zf 12 1 3<|
 Zl 13 1 12<|
 Zq 14 true 83 [.t 11,.t 13]<|
 Zq 15 true 101 [.t 9,.t 14]<|
 Zs 2 4 15 .nil) .ret⟩
theorem Qad9:Qe Tryz.prog Tryz.f74=some c74:=by kernel_rfl
def c84:SFn:=⟨17,[.t 2],Zr (Zo (.mv 2 (.c (.bool false))) .nil)<|Zr (Zm 4 0<|
 Zn 5 4<|
 Zo (.bld 6 [Zz 0,.int .u16 0] [(0,1,.t 5)])<|
 Zo (.alloc 3 2 134 (.agg [Zz 0,.int .u16 0]))<|
 Zs 2 3 6 .nil)<| .seq (Zr (Zm 7 0<|
 Zn 8 7<|
 Zk 9 .gtr 8 0 .nil)<| .cond (.t 9) (.rg (Zm 10 0<|
 Zo (.idx 11 1 (.t 10) (.c (Zz 0)))<|
 Zl 12 1 11<|
 Zf 13 1 3<|
 Zs 1 13 12 .nil)) .skip)<|Zr (Zh 14 2 3<|
 Zo (.bld 15 [Zz 0,.int .u16 0] [(0,1,.c (Zz 1)),(1,1,.c (.int .u16 1))])<|
 Zo (.eqs 16 false (.t 14) (.t 15))<|
 Zm 2 16 .nil) .ret⟩
theorem Qaea:Qe Tryz.prog Tryz.f84=some c84:=by kernel_rfl
def c81:SFn:=⟨2,[.t 0],Zr (Zo (.mv 0 (.c .nilS)) .nil)<|Zr (Zo (.bs 1 1 109 [.c (.int .u16 1)])<|
 Zm 0 1 .nil) .ret⟩
theorem Qaeb:Qe Tryz.prog Tryz.f81=some c81:=by kernel_rfl
def c82:SFn:=⟨52,[.cell 4 3 true],Zr (Zo (.box 2 2 48 (.t 0))<|
 Zo (.alloc 4 3 50 (.agg [.bool false,.nilS,.nilS])) .nil)<|Zr (Zm 6 1<|
 Zq 7 false 108 [.t 6]<|
 Zm 1 7 .nil)<|Zr (Zh 8 2 2<|
 Zq 9 false 109 [.t 8]<|
 Zs 2 2 9 .nil)<| .seq (Zr (Zm 10 1<|
 Zn 11 10<|
 Zk 12 .eql 11 0<|
 Zm 13 12<|
 Zg 13 false (.fld 14 1 (.t 2))<|
 Zg 13 false (.ld 15 1 false (.t 14))<|
 Zg 13 false (.len 16 (.t 15))<|
 Zg 13 false (.bin 17 .eql false (.t 16) (.c (Zz 0)))<|
 Zo (.pick 18 (.t 13) (.c (.bool true)) (.t 17)) .nil)<| .cond (.t 18) (Zr (Zq 19 false 81 []<|
 Zo (.bld 20 [.bool false,.nilS,.nilS] [(2,1,.t 19)])<|
 Zs 3 4 20 .nil) .ret) .skip)<| .seq (Zr (Zm 21 1<|
 Zq 22 false 84 [.t 21] .nil)<| .cond (.t 22) (Zr (Zh 23 2 2<|
 Zm 24 1<|
 Zo (.bld 25 [.bool false,.nilS,.nilS] [(0,2,.t 23),(2,1,.t 24)])<|
 Zs 3 4 25 .nil) .ret) .skip)<|Zr (Zf 26 1 2<|
 Zl 27 1 26<|
 Zm 28 1<|
 Zq 29 false 110 [.t 27,.t 28]<|
 Zm 5 29 .nil)<| .seq (Zr (Zm 30 5<|
 Zq 31 false 84 [.t 30]<|
 Zu 32 31 .nil)<| .cond (.t 32) (Zr (Zf 34 1 2<|
 Zl 35 1 34<|
 Zm 36 5<|
 Zq 37 false 111 [.t 35,.t 36]<|
 Zm 33 37<|
 Zo (.ext 38 (.t 33) 0)<|
 Zo (.ext 39 (.t 33) 1)<|
 Zo (.ext 40 (.t 33) 2)<|
 Zf 41 1 2<|
 Zs 1 41 38 .nil)<| .rg (Zm 43 1<|
 Zm 44 5<|
 Zq 45 false 111 [.t 43,.t 44]<|
 Zm 42 45<|
 Zo (.ext 46 (.t 42) 0)<|
 Zo (.ext 47 (.t 42) 1)<|
 Zo (.ext 48 (.t 42) 2)<|
 Zm 1 46 .nil)) .skip)<|Zr (Zh 49 2 2<|
 Zm 50 1<|
 Zo (.bld 51 [.bool false,.nilS,.nilS] [(0,2,.t 49),(2,1,.t 50)])<|
 Zs 3 4 51 .nil) .ret⟩
theorem Qaec:Qe Tryz.prog Tryz.f82=some c82:=by kernel_rfl
def c50:SFn:=⟨14,[.cell 2 2 true,.t 3],Zr (Zo (.box 1 3 50 (.t 0))<|
 Zo (.alloc 2 2 48 (.agg [.bool false,.nilS]))<|
 Zo (.mv 3 (.c .nilS)) .nil)<| .seq (Zr (Zf 4 2 1<|
 Zl 5 1 4<|
 Zq 6 false 86 [.t 5]<|
 Zk 7 .eql 6 0 .nil)<| .cond (.t 7) (Zr (Zo (.bld 8 [.bool false,.nilS] [])<|
 Zq 9 false 81 []<|
 Zs 2 2 8<|
 Zm 3 9 .nil) .ret) .skip)<|Zr (Zf 10 0 1<|
 Zh 11 2 10<|
 Zf 12 2 1<|
 .br (Zl 13 1 12<|
 Zs 2 2 11<|
 Zm 3 13 .nil) (Zs 2 2 11<|
 Zl 13 1 12<|
 Zm 3 13 .nil)) .ret⟩
theorem Qaed:Qe Tryz.prog Tryz.f50=some c50:=by kernel_rfl
def c75:SFn:=⟨5,[.cell 2 2 true],Zr (Zo (.alloc 2 2 48 (.agg [.bool false,.nilS])) .nil)<|Zr (Zm 3 0<|
 Zo (.bld 4 [.bool false,.nilS] [(1,1,.t 3)])<|
 Zs 2 2 4 .nil) .ret⟩
theorem Qaee:Qe Tryz.prog Tryz.f75=some c75:=by kernel_rfl
def Q7d:SFn:=⟨36,[.t 2],Zr (Zo (.box 1 3 50 (.t 0))<|
 Zo (.mv 2 (.c (.bool false))) .nil)<|Zr (Zf 4 2 1<|
 Zl 5 1 4<|
 Zn 6 5<|
 Zm 3 6 .nil)<| .seq (Zr (Zf 7 0 1<|
 Zh 8 2 7<|
 Zq 9 false 137 [.t 8]<|
 Zu 10 9<|
 Zm 11 10<|
 Zg 11 false (.mv 12 (.t 3))<|
 Zg 11 false (.bin 13 .eql false (.t 12) (.c (Zz 0)))<|
 Zo (.pick 14 (.t 11) (.c (.bool true)) (.t 13))<|
 Zm 15 14<|
 Zg 15 false (.fld 16 2 (.t 1))<|
 Zg 15 false (.ld 17 1 false (.t 16))<|
 Zg 15 false (.mv 18 (.t 3))<|
 Zg 15 false (.bin 19 .sub false (.t 18) (.c (Zz 1)))<|
 Zg 15 false (.idx 20 1 (.t 17) (.t 19))<|
 Zg 15 false (.ld 21 1 false (.t 20))<|
 Zg 15 false (.bin 22 .eql false (.t 21) (.c (.int .u16 0)))<|
 Zo (.pick 23 (.t 15) (.c (.bool true)) (.t 22)) .nil)<| .cond (.t 23) (Zr (Zo (.mv 2 (.c (.bool false))) .nil) .ret) .skip)<|Zr (Zf 24 2 1<|
 Zl 25 1 24<|
 Zq 26 false 84 [.t 25]<|
 Zm 27 26<|
 Zg 27 false (.fld 28 0 (.t 1))<|
 Zg 27 false (.fld 29 1 (.t 28))<|
 Zg 27 false (.ld 30 1 false (.t 29))<|
 Zg 27 false (.fld 31 2 (.t 1))<|
 Zg 27 false (.ld 32 1 false (.t 31))<|
 Zg 27 false (.call (some 33) false (.c (.fn 110 [] [])) [.t 30,.t 32])<|
 Zg 27 false (.call (some 34) false (.c (.fn 84 [] [])) [.t 33])<|
 Zo (.pick 35 (.t 27) (.c (.bool true)) (.t 34))<|
 Zm 2 35 .nil) .ret⟩
theorem Qaa1:Qe Tryz.prog Tryz.f121=some Q7d:=by kernel_rfl
def c46:SFn:=⟨7,[.cell 2 3 true],Zr (Zo (.alloc 2 3 50 (.agg [.bool false,.nilS,.nilS])) .nil)<|Zr (Zm 3 0<|
 Zq 4 false 80 [.t 3]<|
 Zq 5 false 81 []<|
 Zo (.bld 6 [.bool false,.nilS,.nilS] [(0,2,.t 4),(2,1,.t 5)])<|
 Zs 3 2 6 .nil) .ret⟩
theorem Qaef:Qe Tryz.prog Tryz.f46=some c46:=by kernel_rfl
def c25:SFn:=⟨12,[.t 2],Zr (Zo (.box 1 3 50 (.t 0))<|
 Zc 2 0 .nil)<|Zr (Zh 6 3 1<|
 Zq 7 false 50 [.t 6]<|
 Zm 5 7<|
 Zo (.ext 8 (.t 5) 0)<|
 Zo (.ext 9 (.t 5) 1)<|
 Zo (.alloc 3 2 48 (.agg [.bool false,.nilS]))<|
 Zs 2 3 8<|
 Zm 4 9 .nil)<|Zr (Zh 10 2 3<|
 Zq 11 false 51 [.t 10]<|
 Zm 2 11 .nil) .ret⟩
theorem Qaeg:Qe Tryz.prog Tryz.f25=some c25:=by kernel_rfl
def c92:SFn:=⟨40,[.t 4],Zr (Zo (.box 2 3 50 (.t 0))<|
 Zo (.box 3 3 50 (.t 1))<|
 Zc 4 0 .nil)<|Zr (Zh 11 3 2<|
 Zh 13 3 3<|
 Zq 12 true 25 [.t 11]<|
 Zq 14 true 25 [.t 13]<|
 Zm 5 12<|
 Zm 6 14 .nil)<| .seq (Zr (Zm 15 5<|
 Zm 16 6<|
 Zb 17 .neq 15 16 .nil)<| .cond (.t 17) (.seq (Zr (Zm 18 5<|
 Zm 19 6<|
 Zb 20 .lss 18 19 .nil)<| .cond (.t 20) (Zr (Zc 4 (-1) .nil) .ret) .skip)<|Zr (Zc 4 1 .nil) .ret) .skip)<|Zr (Zh 22 3 2<|
 Zq 23 false 50 [.t 22]<|
 Zm 21 23<|
 Zo (.ext 24 (.t 21) 0)<|
 Zo (.ext 25 (.t 21) 1)<|
 Zo (.alloc 7 2 48 (.agg [.bool false,.nilS]))<|
 Zs 2 7 24<|
 Zm 8 25 .nil)<|Zr (Zh 27 3 3<|
 Zq 28 false 50 [.t 27]<|
 Zm 26 28<|
 Zo (.ext 29 (.t 26) 0)<|
 Zo (.ext 30 (.t 26) 1)<|
 Zo (.alloc 9 2 48 (.agg [.bool false,.nilS]))<|
 Zs 2 9 29<|
 Zm 10 30 .nil)<|Zr (Zh 31 2 7<|
 Zm 32 10<|
 Zh 35 2 9<|
 Zm 36 8<|
 Zq 33 true 75 [.t 32]<|
 Zq 34 true 74 [.t 31,.t 33]<|
 Zq 37 true 75 [.t 36]<|
 Zq 38 true 74 [.t 35,.t 37]<|
 Zq 39 true 117 [.t 34,.t 38]<|
 Zm 4 39 .nil) .ret⟩
theorem Qaeh:Qe Tryz.prog Tryz.f92=some c92:=by kernel_rfl
def c85:SFn:=⟨17,[.cell 2 2 true],Zr (Zo (.alloc 2 2 48 (.agg [.bool false,.nilS])) .nil)<|Zr (Zo (.alloc 3 2 48 (.agg [.bool false,.nilS])) .nil)<| .seq (Zr (Zm 6 0<|
 Zn 7 6<|
 Zc 8 0 .nil)<| .block 0<| .loop<|Zr (Zb 9 .lss 8 7 .nil)<| .seq (.cond (.t 9) .skip (.exit 0))<| .seq (.block 1<|Zr (Zi 10 2 6 8<|
 Zh 11 2 10<|
 Zo (.alloc 5 2 48 (.agg [.bool false,.nilS]))<|
 Zs 2 5 11 .nil)<| .rg (Zh 12 2 3<|
 Zh 13 2 5<|
 Zq 14 false 113 [.t 12,.t 13]<|
 Zs 2 3 14 .nil))<| .rg (Zk 15 .add 8 1<|
 Zm 8 15 .nil))<|Zr (Zh 16 2 3<|
 Zs 2 2 16 .nil) .ret⟩
theorem Qaei:Qe Tryz.prog Tryz.f85=some c85:=by kernel_rfl
def c49:SFn:=⟨45,[.cell 4 3 true],Zr (Zo (.box 2 3 50 (.t 0))<|
 Zo (.box 3 3 50 (.t 1))<|
 Zo (.alloc 4 3 50 (.agg [.bool false,.nilS,.nilS])) .nil)<|Zr (Zh 10 3 2<|
 Zq 11 false 50 [.t 10]<|
 Zm 9 11<|
 Zo (.ext 12 (.t 9) 0)<|
 Zo (.ext 13 (.t 9) 1)<|
 Zo (.alloc 5 2 48 (.agg [.bool false,.nilS]))<|
 Zs 2 5 12<|
 Zm 6 13 .nil)<|Zr (Zh 15 3 3<|
 Zq 16 false 50 [.t 15]<|
 Zm 14 16<|
 Zo (.ext 17 (.t 14) 0)<|
 Zo (.ext 18 (.t 14) 1)<|
 Zo (.alloc 7 2 48 (.agg [.bool false,.nilS]))<|
 Zs 2 7 17<|
 Zm 8 18 .nil)<| .seq (Zr (Zm 19 6<|
 Zq 20 false 84 [.t 19]<|
 Zm 21 20<|
 Zg 21 true (.mv 22 (.t 8))<|
 Zg 21 true (.call (some 23) false (.c (.fn 84 [] [])) [.t 22])<|
 Zo (.pick 24 (.t 21) (.t 23) (.c (.bool false))) .nil)<| .cond (.t 24) (Zr (Zh 25 2 5<|
 Zh 26 2 7<|
 Zo (.bs 27 2 48 [.t 25,.t 26])<|
 Zq 28 false 85 [.t 27]<|
 Zm 29 6<|
 Zq 30 false 82 [.t 28,.t 29]<|
 Zs 3 4 30 .nil) .ret) .skip)<|Zr (Zh 31 2 5<|
 Zm 32 8<|
 Zh 35 2 7<|
 Zm 36 6<|
 Zm 41 6<|
 Zm 42 8<|
 Zq 33 true 75 [.t 32]<|
 Zq 34 true 74 [.t 31,.t 33]<|
 Zq 37 true 75 [.t 36]<|
 Zq 38 true 74 [.t 35,.t 37]<|
 Zo (.bs 39 2 48 [.t 34,.t 38])<|
 Zq 40 true 85 [.t 39]<|
 Zq 43 true 83 [.t 41,.t 42]<|
 Zq 44 true 82 [.t 40,.t 43]<|
 Zs 3 4 44 .nil) .ret⟩
theorem Qaej:Qe Tryz.prog Tryz.f49=some c49:=by kernel_rfl
def c47:SFn:=⟨26,[.cell 4 3 true],Zr (Zo (.box 2 3 50 (.t 0))<|
 Zo (.box 3 3 50 (.t 1))<|
 Zo (.alloc 4 3 50 (.agg [.bool false,.nilS,.nilS])) .nil)<|Zr (Zh 10 3 2<|
 Zq 11 false 50 [.t 10]<|
 Zm 9 11<|
 Zo (.ext 12 (.t 9) 0)<|
 Zo (.ext 13 (.t 9) 1)<|
 Zo (.alloc 5 2 48 (.agg [.bool false,.nilS]))<|
 Zs 2 5 12<|
 Zm 6 13 .nil)<|Zr (Zh 15 3 3<|
 Zq 16 false 50 [.t 15]<|
 Zm 14 16<|
 Zo (.ext 17 (.t 14) 0)<|
 Zo (.ext 18 (.t 14) 1)<|
 Zo (.alloc 7 2 48 (.agg [.bool false,.nilS]))<|
 Zs 2 7 17<|
 Zm 8 18 .nil)<|Zr (Zh 19 2 5<|
 Zh 20 2 7<|
 Zq 21 false 74 [.t 19,.t 20]<|
 Zm 22 6<|
 Zm 23 8<|
 Zq 24 false 83 [.t 22,.t 23]<|
 Zq 25 false 82 [.t 21,.t 24]<|
 Zs 3 4 25 .nil) .ret⟩
theorem Qaek:Qe Tryz.prog Tryz.f47=some c47:=by kernel_rfl
def c73:SFn:=⟨21,[.cell 4 3 true,.t 5],Zr (Zo (.box 2 2 48 (.t 0))<|
 Zo (.box 3 2 48 (.t 1))<|
 Zo (.alloc 4 3 50 (.agg [.bool false,.nilS,.nilS]))<|
 Zc 5 0 .nil)<| .seq (Zr (Zh 6 2 3<|
 Zq 7 false 51 [.t 6]<|
 Zk 8 .eql 7 0 .nil)<| .cond (.t 8) (Zr (Zo (.bld 9 [.bool false,.nilS,.nilS] [])<|
 Zs 3 4 9<|
 Zc 5 3 .nil) .ret) .skip)<|Zr (Zf 10 0 2<|
 Zl 11 1 10<|
 Zf 12 0 3<|
 Zl 13 1 12<|
 Zo (.bin 14 .neq true (.t 11) (.t 13))<|
 Zf 15 1 2<|
 Zl 16 1 15<|
 Zo (.bld 17 [.bool false,.nilS] [(0,1,.t 14),(1,1,.t 16)])<|
 Zf 18 1 3<|
 Zl 19 1 18<|
 Zq 20 false 82 [.t 17,.t 19]<|
 Zs 3 4 20<|
 Zc 5 0 .nil) .ret⟩
theorem Qael:Qe Tryz.prog Tryz.f73=some c73:=by kernel_rfl
def c42:SFn:=⟨31,[.cell 4 3 true,.t 5],Zr (Zo (.box 2 3 50 (.t 0))<|
 Zo (.box 3 3 50 (.t 1))<|
 Zo (.alloc 4 3 50 (.agg [.bool false,.nilS,.nilS]))<|
 Zc 5 0 .nil)<|Zr (Zh 11 3 2<|
 Zq 12 false 50 [.t 11]<|
 Zm 10 12<|
 Zo (.ext 13 (.t 10) 0)<|
 Zo (.ext 14 (.t 10) 1)<|
 Zo (.alloc 6 2 48 (.agg [.bool false,.nilS]))<|
 Zs 2 6 13<|
 Zm 7 14 .nil)<|Zr (Zh 16 3 3<|
 Zq 17 false 50 [.t 16]<|
 Zm 15 17<|
 Zo (.ext 18 (.t 15) 0)<|
 Zo (.ext 19 (.t 15) 1)<|
 Zo (.alloc 8 2 48 (.agg [.bool false,.nilS]))<|
 Zs 2 8 18<|
 Zm 9 19 .nil)<|Zr (Zh 20 2 6<|
 Zm 21 9<|
 Zh 24 2 8<|
 Zm 25 7<|
 Zq 22 true 75 [.t 21]<|
 Zq 23 true 74 [.t 20,.t 22]<|
 Zq 26 true 75 [.t 25]<|
 Zq 27 true 74 [.t 24,.t 26]<|
 Zq 28 true 73 [.t 23,.t 27]<|
 Zo (.ext 29 (.t 28) 0)<|
 Zo (.ext 30 (.t 28) 1)<|
 Zs 3 4 29<|
 Zm 5 30 .nil) .ret⟩
theorem Qaem:Qe Tryz.prog Tryz.f42=some c42:=by kernel_rfl
end Go.Proofs.YtdacdnoebgcjhaaGreat
namespace Go.Proofs.YtdacdnoebgcjhaaGreat
open Go Go.FW
set_option maxRecDepth 100000
def Q7e:SFn:=⟨108,[.t 4],Zr (Zo (.box 2 1 46 (.t 0))<|
 Zo (.box 3 1 46 (.t 1))<|
 Zo (.mv 4 (.c .nilS)) .nil)<|Zr (Zl 12 1 3<|
 Zn 13 12<|
 Zo (.alloc 5 1 3 (Zz 0))<|
 Zs 1 5 13 .nil)<|Zr (Zl 14 1 2<|
 Zn 15 14<|
 Zl 16 1 5<|
 Zb 17 .sub 15 16<|
 Zo (.mk 18 1 2 109 (.int .u16 0) (.t 17) (.t 17))<|
 Zm 6 18 .nil)<| .seq (Zr (Zl 19 1 2<|
 Zn 20 19<|
 Zl 21 1 5<|
 Zb 22 .sub 20 21<|
 Zk 23 .sub 22 1<|
 Zo (.alloc 7 1 3 (Zz 0))<|
 Zs 1 7 23 .nil)<| .block 0<| .loop<| .seq (Zr (Zl 24 1 7<|
 Zk 25 .geq 24 0 .nil)<| .cond (.t 25) .skip (.exit 0))<| .seq (.block 1<|Zr (Zl 28 1 2<|
 Zl 29 1 7<|
 Zl 30 1 5<|
 Zb 31 .add 29 30<|
 Zi 32 1 28 31<|
 Zl 33 1 32<|
 Zo (.conv 34 .u64 (.t 33))<|
 Zo (.bin 35 .shl false (.t 34) (.c (.int .u64 16)))<|
 Zl 36 1 2<|
 Zl 37 1 7<|
 Zl 38 1 5<|
 Zb 39 .add 37 38<|
 Zk 40 .sub 39 1<|
 Zi 41 1 36 40<|
 Zl 42 1 41<|
 Zo (.conv 43 .u64 (.t 42))<|
 Zb 44 .or 35 43<|
 Zm 8 44 .nil)<|Zr (Zm 45 8<|
 Zl 46 1 3<|
 Zl 47 1 5<|
 Zk 48 .sub 47 1<|
 Zi 49 1 46 48<|
 Zl 50 1 49<|
 Zo (.conv 51 .u64 (.t 50))<|
 Zb 52 .quo 45 51<|
 Zm 53 8<|
 .br (Zl 54 1 3<|
 .br (Zl 55 1 5<|
 Zk 56 .sub 55 1<|
 Zi 57 1 54 56<|
 .br (Zl 58 1 57<|
 Zo (.conv 59 .u64 (.t 58))<|
 Zb 60 .rem 53 59<|
 .br (Zo (.alloc 9 1 83 (.int .u64 0))<|
 Zo (.alloc 10 1 83 (.int .u64 0))<|
 Zs 1 9 52<|
 Zs 1 10 60 .nil) (Zo (.alloc 10 1 83 (.int .u64 0))<|
 Zo (.alloc 9 1 83 (.int .u64 0))<|
 Zs 1 9 52<|
 Zs 1 10 60 .nil)) (.br (Zo (.alloc 9 1 83 (.int .u64 0))<|
 .br (Zl 58 1 57<|
 Zo (.conv 59 .u64 (.t 58))<|
 Zb 60 .rem 53 59<|
 Zo (.alloc 10 1 83 (.int .u64 0))<|
 Zs 1 9 52<|
 Zs 1 10 60 .nil) (Zo (.alloc 10 1 83 (.int .u64 0))<|
 .br (Zl 58 1 57<|
 Zo (.conv 59 .u64 (.t 58))<|
 Zb 60 .rem 53 59<|
 Zs 1 9 52<|
 Zs 1 10 60 .nil) (Zs 1 9 52<|
 Zl 58 1 57<|
 Zo (.conv 59 .u64 (.t 58))<|
 Zb 60 .rem 53 59<|
 Zs 1 10 60 .nil))) (Zo (.alloc 10 1 83 (.int .u64 0))<|
 .br (Zl 58 1 57<|
 Zo (.conv 59 .u64 (.t 58))<|
 Zb 60 .rem 53 59<|
 Zo (.alloc 9 1 83 (.int .u64 0))<|
 Zs 1 9 52<|
 Zs 1 10 60 .nil) (Zo (.alloc 9 1 83 (.int .u64 0))<|
 .br (Zl 58 1 57<|
 Zo (.conv 59 .u64 (.t 58))<|
 Zb 60 .rem 53 59<|
 Zs 1 9 52<|
 Zs 1 10 60 .nil) (Zs 1 9 52<|
 Zl 58 1 57<|
 Zo (.conv 59 .u64 (.t 58))<|
 Zb 60 .rem 53 59<|
 Zs 1 10 60 .nil))))) (.br (Zo (.alloc 9 1 83 (.int .u64 0))<|
 .br (Zl 55 1 5<|
 Zk 56 .sub 55 1<|
 Zi 57 1 54 56<|
 .br (Zl 58 1 57<|
 Zo (.conv 59 .u64 (.t 58))<|
 Zb 60 .rem 53 59<|
 Zo (.alloc 10 1 83 (.int .u64 0))<|
 Zs 1 9 52<|
 Zs 1 10 60 .nil) (Zo (.alloc 10 1 83 (.int .u64 0))<|
 .br (Zl 58 1 57<|
 Zo (.conv 59 .u64 (.t 58))<|
 Zb 60 .rem 53 59<|
 Zs 1 9 52<|
 Zs 1 10 60 .nil) (Zs 1 9 52<|
 Zl 58 1 57<|
 Zo (.conv 59 .u64 (.t 58))<|
 Zb 60 .rem 53 59<|
 Zs 1 10 60 .nil))) (Zo (.alloc 10 1 83 (.int .u64 0))<|
 .br (Zl 55 1 5<|
 Zk 56 .sub 55 1<|
 Zi 57 1 54 56<|
 .br (Zl 58 1 57<|
 Zo (.conv 59 .u64 (.t 58))<|
 Zb 60 .rem 53 59<|
 Zs 1 9 52<|
 Zs 1 10 60 .nil) (Zs 1 9 52<|
 Zl 58 1 57<|
 Zo (.conv 59 .u64 (.t 58))<|
 Zb 60 .rem 53 59<|
 Zs 1 10 60 .nil)) (Zs 1 9 52<|
 Zl 55 1 5<|
 Zk 56 .sub 55 1<|
 Zi 57 1 54 56<|
 Zl 58 1 57<|
 Zo (.conv 59 .u64 (.t 58))<|
 Zb 60 .rem 53 59<|
 Zs 1 10 60 .nil))) (Zo (.alloc 10 1 83 (.int .u64 0))<|
 .br (Zl 55 1 5<|
 Zk 56 .sub 55 1<|
 Zi 57 1 54 56<|
 .br (Zl 58 1 57<|
 Zo (.conv 59 .u64 (.t 58))<|
 Zb 60 .rem 53 59<|
 Zo (.alloc 9 1 83 (.int .u64 0))<|
 Zs 1 9 52<|
 Zs 1 10 60 .nil) (Zo (.alloc 9 1 83 (.int .u64 0))<|
 .br (Zl 58 1 57<|
 Zo (.conv 59 .u64 (.t 58))<|
 Zb 60 .rem 53 59<|
 Zs 1 9 52<|
 Zs 1 10 60 .nil) (Zs 1 9 52<|
 Zl 58 1 57<|
 Zo (.conv 59 .u64 (.t 58))<|
 Zb 60 .rem 53 59<|
 Zs 1 10 60 .nil))) (Zo (.alloc 9 1 83 (.int .u64 0))<|
 .br (Zl 55 1 5<|
 Zk 56 .sub 55 1<|
 Zi 57 1 54 56<|
 .br (Zl 58 1 57<|
 Zo (.conv 59 .u64 (.t 58))<|
 Zb 60 .rem 53 59<|
 Zs 1 9 52<|
 Zs 1 10 60 .nil) (Zs 1 9 52<|
 Zl 58 1 57<|
 Zo (.conv 59 .u64 (.t 58))<|
 Zb 60 .rem 53 59<|
 Zs 1 10 60 .nil)) (Zs 1 9 52<|
 Zl 55 1 5<|
 Zk 56 .sub 55 1<|
 Zi 57 1 54 56<|
 Zl 58 1 57<|
 Zo (.conv 59 .u64 (.t 58))<|
 Zb 60 .rem 53 59<|
 Zs 1 10 60 .nil))))) (.br (Zl 55 1 5<|
 Zk 56 .sub 55 1<|
 .br (Zl 54 1 3<|
 Zi 57 1 54 56<|
 .br (Zl 58 1 57<|
 Zo (.conv 59 .u64 (.t 58))<|
 Zb 60 .rem 53 59<|
 .br (Zo (.alloc 9 1 83 (.int .u64 0))<|
 Zo (.alloc 10 1 83 (.int .u64 0))<|
 Zs 1 9 52<|
 Zs 1 10 60 .nil) (Zo (.alloc 10 1 83 (.int .u64 0))<|
 Zo (.alloc 9 1 83 (.int .u64 0))<|
 Zs 1 9 52<|
 Zs 1 10 60 .nil)) (.br (Zo (.alloc 9 1 83 (.int .u64 0))<|
 .br (Zl 58 1 57<|
 Zo (.conv 59 .u64 (.t 58))<|
 Zb 60 .rem 53 59<|
 Zo (.alloc 10 1 83 (.int .u64 0))<|
 Zs 1 9 52<|
 Zs 1 10 60 .nil) (Zo (.alloc 10 1 83 (.int .u64 0))<|
 .br (Zl 58 1 57<|
 Zo (.conv 59 .u64 (.t 58))<|
 Zb 60 .rem 53 59<|
 Zs 1 9 52<|
 Zs 1 10 60 .nil) (Zs 1 9 52<|
 Zl 58 1 57<|
 Zo (.conv 59 .u64 (.t 58))<|
 Zb 60 .rem 53 59<|
 Zs 1 10 60 .nil))) (Zo (.alloc 10 1 83 (.int .u64 0))<|
 .br (Zl 58 1 57<|
 Zo (.conv 59 .u64 (.t 58))<|
 Zb 60 .rem 53 59<|
 Zo (.alloc 9 1 83 (.int .u64 0))<|
 Zs 1 9 52<|
 Zs 1 10 60 .nil) (Zo (.alloc 9 1 83 (.int .u64 0))<|
 .br (Zl 58 1 57<|
 Zo (.conv 59 .u64 (.t 58))<|
 Zb 60 .rem 53 59<|
 Zs 1 9 52<|
 Zs 1 10 60 .nil) (Zs 1 9 52<|
 Zl 58 1 57<|
 Zo (.conv 59 .u64 (.t 58))<|
 Zb 60 .rem 53 59<|
 Zs 1 10 60 .nil))))) (.br (Zo (.alloc 9 1 83 (.int .u64 0))<|
 .br (Zl 54 1 3<|
 Zi 57 1 54 56<|
 .br (Zl 58 1 57<|
 Zo (.conv 59 .u64 (.t 58))<|
 Zb 60 .rem 53 59<|
 Zo (.alloc 10 1 83 (.int .u64 0))<|
 Zs 1 9 52<|
 Zs 1 10 60 .nil) (Zo (.alloc 10 1 83 (.int .u64 0))<|
 .br (Zl 58 1 57<|
 Zo (.conv 59 .u64 (.t 58))<|
 Zb 60 .rem 53 59<|
 Zs 1 9 52<|
 Zs 1 10 60 .nil) (Zs 1 9 52<|
 Zl 58 1 57<|
 Zo (.conv 59 .u64 (.t 58))<|
 Zb 60 .rem 53 59<|
 Zs 1 10 60 .nil))) (Zo (.alloc 10 1 83 (.int .u64 0))<|
 .br (Zl 54 1 3<|
 Zi 57 1 54 56<|
 .br (Zl 58 1 57<|
 Zo (.conv 59 .u64 (.t 58))<|
 Zb 60 .rem 53 59<|
 Zs 1 9 52<|
 Zs 1 10 60 .nil) (Zs 1 9 52<|
 Zl 58 1 57<|
 Zo (.conv 59 .u64 (.t 58))<|
 Zb 60 .rem 53 59<|
 Zs 1 10 60 .nil)) (Zs 1 9 52<|
 Zl 54 1 3<|
 Zi 57 1 54 56<|
 Zl 58 1 57<|
 Zo (.conv 59 .u64 (.t 58))<|
 Zb 60 .rem 53 59<|
 Zs 1 10 60 .nil))) (Zo (.alloc 10 1 83 (.int .u64 0))<|
 .br (Zl 54 1 3<|
 Zi 57 1 54 56<|
 .br (Zl 58 1 57<|
 Zo (.conv 59 .u64 (.t 58))<|
 Zb 60 .rem 53 59<|
 Zo (.alloc 9 1 83 (.int .u64 0))<|
 Zs 1 9 52<|
 Zs 1 10 60 .nil) (Zo (.alloc 9 1 83 (.int .u64 0))<|
 .br (Zl 58 1 57<|
 Zo (.conv 59 .u64 (.t 58))<|
 Zb 60 .rem 53 59<|
 Zs 1 9 52<|
 Zs 1 10 60 .nil) (Zs 1 9 52<|
 Zl 58 1 57<|
 Zo (.conv 59 .u64 (.t 58))<|
 Zb 60 .rem 53 59<|
 Zs 1 10 60 .nil))) (Zo (.alloc 9 1 83 (.int .u64 0))<|
 .br (Zl 54 1 3<|
 Zi 57 1 54 56<|
 .br (Zl 58 1 57<|
 Zo (.conv 59 .u64 (.t 58))<|
 Zb 60 .rem 53 59<|
 Zs 1 9 52<|
 Zs 1 10 60 .nil) (Zs 1 9 52<|
 Zl 58 1 57<|
 Zo (.conv 59 .u64 (.t 58))<|
 Zb 60 .rem 53 59<|
 Zs 1 10 60 .nil)) (Zs 1 9 52<|
 Zl 54 1 3<|
 Zi 57 1 54 56<|
 Zl 58 1 57<|
 Zo (.conv 59 .u64 (.t 58))<|
 Zb 60 .rem 53 59<|
 Zs 1 10 60 .nil))))) (.br (Zo (.alloc 9 1 83 (.int .u64 0))<|
 .br (Zl 54 1 3<|
 .br (Zl 55 1 5<|
 Zk 56 .sub 55 1<|
 Zi 57 1 54 56<|
 .br (Zl 58 1 57<|
 Zo (.conv 59 .u64 (.t 58))<|
 Zb 60 .rem 53 59<|
 Zo (.alloc 10 1 83 (.int .u64 0))<|
 Zs 1 9 52<|
 Zs 1 10 60 .nil) (Zo (.alloc 10 1 83 (.int .u64 0))<|
 .br (Zl 58 1 57<|
 Zo (.conv 59 .u64 (.t 58))<|
 Zb 60 .rem 53 59<|
 Zs 1 9 52<|
 Zs 1 10 60 .nil) (Zs 1 9 52<|
 Zl 58 1 57<|
 Zo (.conv 59 .u64 (.t 58))<|
 Zb 60 .rem 53 59<|
 Zs 1 10 60 .nil))) (Zo (.alloc 10 1 83 (.int .u64 0))<|
 .br (Zl 55 1 5<|
 Zk 56 .sub 55 1<|
 Zi 57 1 54 56<|
 .br (Zl 58 1 57<|
 Zo (.conv 59 .u64 (.t 58))<|
 Zb 60 .rem 53 59<|
 Zs 1 9 52<|
 Zs 1 10 60 .nil) (Zs 1 9 52<|
 Zl 58 1 57<|
 Zo (.conv 59 .u64 (.t 58))<|
 Zb 60 .rem 53 59<|
 Zs 1 10 60 .nil)) (Zs 1 9 52<|
 Zl 55 1 5<|
 Zk 56 .sub 55 1<|
 Zi 57 1 54 56<|
 Zl 58 1 57<|
 Zo (.conv 59 .u64 (.t 58))<|
 Zb 60 .rem 53 59<|
 Zs 1 10 60 .nil))) (.br (Zl 55 1 5<|
 Zk 56 .sub 55 1<|
 .br (Zl 54 1 3<|
 Zi 57 1 54 56<|
 .br (Zl 58 1 57<|
 Zo (.conv 59 .u64 (.t 58))<|
 Zb 60 .rem 53 59<|
 Zo (.alloc 10 1 83 (.int .u64 0))<|
 Zs 1 9 52<|
 Zs 1 10 60 .nil) (Zo (.alloc 10 1 83 (.int .u64 0))<|
 .br (Zl 58 1 57<|
 Zo (.conv 59 .u64 (.t 58))<|
 Zb 60 .rem 53 59<|
 Zs 1 9 52<|
 Zs 1 10 60 .nil) (Zs 1 9 52<|
 Zl 58 1 57<|
 Zo (.conv 59 .u64 (.t 58))<|
 Zb 60 .rem 53 59<|
 Zs 1 10 60 .nil))) (Zo (.alloc 10 1 83 (.int .u64 0))<|
 .br (Zl 54 1 3<|
 Zi 57 1 54 56<|
 .br (Zl 58 1 57<|
 Zo (.conv 59 .u64 (.t 58))<|
 Zb 60 .rem 53 59<|
 Zs 1 9 52<|
 Zs 1 10 60 .nil) (Zs 1 9 52<|
 Zl 58 1 57<|
 Zo (.conv 59 .u64 (.t 58))<|
 Zb 60 .rem 53 59<|
 Zs 1 10 60 .nil)) (Zs 1 9 52<|
 Zl 54 1 3<|
 Zi 57 1 54 56<|
 Zl 58 1 57<|
 Zo (.conv 59 .u64 (.t 58))<|
 Zb 60 .rem 53 59<|
 Zs 1 10 60 .nil))) (Zo (.alloc 10 1 83 (.int .u64 0))<|
 .br (Zl 54 1 3<|
 .br (Zl 55 1 5<|
 Zk 56 .sub 55 1<|
 Zi 57 1 54 56<|
 .br (Zl 58 1 57<|
 Zo (.conv 59 .u64 (.t 58))<|
 Zb 60 .rem 53 59<|
 Zs 1 9 52<|
 Zs 1 10 60 .nil) (Zs 1 9 52<|
 Zl 58 1 57<|
 Zo (.conv 59 .u64 (.t 58))<|
 Zb 60 .rem 53 59<|
 Zs 1 10 60 .nil)) (Zs 1 9 52<|
 Zl 55 1 5<|
 Zk 56 .sub 55 1<|
 Zi 57 1 54 56<|
 Zl 58 1 57<|
 Zo (.conv 59 .u64 (.t 58))<|
 Zb 60 .rem 53 59<|
 Zs 1 10 60 .nil)) (.br (Zl 55 1 5<|
 Zk 56 .sub 55 1<|
 .br (Zl 54 1 3<|
 Zi 57 1 54 56<|
 .br (Zl 58 1 57<|
 Zo (.conv 59 .u64 (.t 58))<|
 Zb 60 .rem 53 59<|
 Zs 1 9 52<|
 Zs 1 10 60 .nil) (Zs 1 9 52<|
 Zl 58 1 57<|
 Zo (.conv 59 .u64 (.t 58))<|
 Zb 60 .rem 53 59<|
 Zs 1 10 60 .nil)) (Zs 1 9 52<|
 Zl 54 1 3<|
 Zi 57 1 54 56<|
 Zl 58 1 57<|
 Zo (.conv 59 .u64 (.t 58))<|
 Zb 60 .rem 53 59<|
 Zs 1 10 60 .nil)) (Zs 1 9 52<|
 .br (Zl 54 1 3<|
 Zl 55 1 5<|
 Zk 56 .sub 55 1<|
 Zi 57 1 54 56<|
 Zl 58 1 57<|
 Zo (.conv 59 .u64 (.t 58))<|
 Zb 60 .rem 53 59<|
 Zs 1 10 60 .nil) (Zl 55 1 5<|
 Zk 56 .sub 55 1<|
 Zl 54 1 3<|
 Zi 57 1 54 56<|
 Zl 58 1 57<|
 Zo (.conv 59 .u64 (.t 58))<|
 Zb 60 .rem 53 59<|
 Zs 1 10 60 .nil)))))) (Zo (.alloc 10 1 83 (.int .u64 0))<|
 .br (Zl 54 1 3<|
 .br (Zl 55 1 5<|
 Zk 56 .sub 55 1<|
 Zi 57 1 54 56<|
 .br (Zl 58 1 57<|
 Zo (.conv 59 .u64 (.t 58))<|
 Zb 60 .rem 53 59<|
 Zo (.alloc 9 1 83 (.int .u64 0))<|
 Zs 1 9 52<|
 Zs 1 10 60 .nil) (Zo (.alloc 9 1 83 (.int .u64 0))<|
 .br (Zl 58 1 57<|
 Zo (.conv 59 .u64 (.t 58))<|
 Zb 60 .rem 53 59<|
 Zs 1 9 52<|
 Zs 1 10 60 .nil) (Zs 1 9 52<|
 Zl 58 1 57<|
 Zo (.conv 59 .u64 (.t 58))<|
 Zb 60 .rem 53 59<|
 Zs 1 10 60 .nil))) (Zo (.alloc 9 1 83 (.int .u64 0))<|
 .br (Zl 55 1 5<|
 Zk 56 .sub 55 1<|
 Zi 57 1 54 56<|
 .br (Zl 58 1 57<|
 Zo (.conv 59 .u64 (.t 58))<|
 Zb 60 .rem 53 59<|
 Zs 1 9 52<|
 Zs 1 10 60 .nil) (Zs 1 9 52<|
 Zl 58 1 57<|
 Zo (.conv 59 .u64 (.t 58))<|
 Zb 60 .rem 53 59<|
 Zs 1 10 60 .nil)) (Zs 1 9 52<|
 Zl 55 1 5<|
 Zk 56 .sub 55 1<|
 Zi 57 1 54 56<|
 Zl 58 1 57<|
 Zo (.conv 59 .u64 (.t 58))<|
 Zb 60 .rem 53 59<|
 Zs 1 10 60 .nil))) (.br (Zl 55 1 5<|
 Zk 56 .sub 55 1<|
 .br (Zl 54 1 3<|
 Zi 57 1 54 56<|
 .br (Zl 58 1 57<|
 Zo (.conv 59 .u64 (.t 58))<|
 Zb 60 .rem 53 59<|
 Zo (.alloc 9 1 83 (.int .u64 0))<|
 Zs 1 9 52<|
 Zs 1 10 60 .nil) (Zo (.alloc 9 1 83 (.int .u64 0))<|
 .br (Zl 58 1 57<|
 Zo (.conv 59 .u64 (.t 58))<|
 Zb 60 .rem 53 59<|
 Zs 1 9 52<|
 Zs 1 10 60 .nil) (Zs 1 9 52<|
 Zl 58 1 57<|
 Zo (.conv 59 .u64 (.t 58))<|
 Zb 60 .rem 53 59<|
 Zs 1 10 60 .nil))) (Zo (.alloc 9 1 83 (.int .u64 0))<|
 .br (Zl 54 1 3<|
 Zi 57 1 54 56<|
 .br (Zl 58 1 57<|
 Zo (.conv 59 .u64 (.t 58))<|
 Zb 60 .rem 53 59<|
 Zs 1 9 52<|
 Zs 1 10 60 .nil) (Zs 1 9 52<|
 Zl 58 1 57<|
 Zo (.conv 59 .u64 (.t 58))<|
 Zb 60 .rem 53 59<|
 Zs 1 10 60 .nil)) (Zs 1 9 52<|
 Zl 54 1 3<|
 Zi 57 1 54 56<|
 Zl 58 1 57<|
 Zo (.conv 59 .u64 (.t 58))<|
 Zb 60 .rem 53 59<|
 Zs 1 10 60 .nil))) (Zo (.alloc 9 1 83 (.int .u64 0))<|
 .br (Zl 54 1 3<|
 .br (Zl 55 1 5<|
 Zk 56 .sub 55 1<|
 Zi 57 1 54 56<|
 .br (Zl 58 1 57<|
 Zo (.conv 59 .u64 (.t 58))<|
 Zb 60 .rem 53 59<|
 Zs 1 9 52<|
 Zs 1 10 60 .nil) (Zs 1 9 52<|
 Zl 58 1 57<|
 Zo (.conv 59 .u64 (.t 58))<|
 Zb 60 .rem 53 59<|
 Zs 1 10 60 .nil)) (Zs 1 9 52<|
 Zl 55 1 5<|
 Zk 56 .sub 55 1<|
 Zi 57 1 54 56<|
 Zl 58 1 57<|
 Zo (.conv 59 .u64 (.t 58))<|
 Zb 60 .rem 53 59<|
 Zs 1 10 60 .nil)) (.br (Zl 55 1 5<|
 Zk 56 .sub 55 1<|
 .br (Zl 54 1 3<|
 Zi 57 1 54 56<|
 .br (Zl 58 1 57<|
 Zo (.conv 59 .u64 (.t 58))<|
 Zb 60 .rem 53 59<|
 Zs 1 9 52<|
 Zs 1 10 60 .nil) (Zs 1 9 52<|
 Zl 58 1 57<|
 Zo (.conv 59 .u64 (.t 58))<|
 Zb 60 .rem 53 59<|
 Zs 1 10 60 .nil)) (Zs 1 9 52<|
 Zl 54 1 3<|
 Zi 57 1 54 56<|
 Zl 58 1 57<|
 Zo (.conv 59 .u64 (.t 58))<|
 Zb 60 .rem 53 59<|
 Zs 1 10 60 .nil)) (Zs 1 9 52<|
 .br (Zl 54 1 3<|
 Zl 55 1 5<|
 Zk 56 .sub 55 1<|
 Zi 57 1 54 56<|
 Zl 58 1 57<|
 Zo (.conv 59 .u64 (.t 58))<|
 Zb 60 .rem 53 59<|
 Zs 1 10 60 .nil) (Zl 55 1 5<|
 Zk 56 .sub 55 1<|
 Zl 54 1 3<|
 Zi 57 1 54 56<|
 Zl 58 1 57<|
 Zo (.conv 59 .u64 (.t 58))<|
 Zb 60 .rem 53 59<|
 Zs 1 10 60 .nil)))))))))<|Zr (Zo (.fn 61 143 [] [.t 9,.t 3,.t 5,.t 10,.t 2,.t 7])<|
 Zm 11 61 .nil)<| .seq (.block 2<| .loop<| .seq (Zr (Zl 62 1 10<|
 Zo (.bin 63 .lss false (.t 62) (.c (.int .u64 65536)))<|
 Zm 64 63<|
 Zg 64 true (.mv 65 (.t 11))<|
 Zg 64 true (.call (some 66) false (.t 65) [])<|
 Zo (.pick 67 (.t 64) (.t 66) (.c (.bool false))) .nil)<| .cond (.t 67) .skip (.exit 2))<| .block 3<|Zr (Zl 68 1 9<|
 Zo (.bin 69 .sub false (.t 68) (.c (.int .u64 1)))<|
 Zs 1 9 69 .nil)<| .rg (Zl 70 1 10<|
 Zl 71 1 3<|
 Zl 72 1 5<|
 Zk 73 .sub 72 1<|
 Zi 74 1 71 73<|
 Zl 75 1 74<|
 Zo (.conv 76 .u64 (.t 75))<|
 Zb 77 .add 70 76<|
 Zs 1 10 77 .nil))<| .seq (Zr (Zl 78 1 2<|
 Zl 79 1 7<|
 Zl 80 1 7<|
 Zl 81 1 5<|
 Zb 82 .add 80 81<|
 Zk 83 .add 82 1<|
 Zo (.sl 84 1 (.t 78) (some (.t 79)) (some (.t 83)) none)<|
 Zl 85 1 3<|
 Zl 86 1 9<|
 Zo (.conv 87 .u32 (.t 86))<|
 Zq 88 false 144 [.t 84,.t 85,.t 87] .nil)<| .cond (.t 88) (Zr (Zl 89 1 9<|
 Zo (.bin 90 .sub false (.t 89) (.c (.int .u64 1)))<|
 Zs 1 9 90 .nil)<| .rg (Zl 91 1 2<|
 Zl 92 1 7<|
 Zl 93 1 7<|
 Zl 94 1 5<|
 Zb 95 .add 93 94<|
 Zk 96 .add 95 1<|
 Zo (.sl 97 1 (.t 91) (some (.t 92)) (some (.t 96)) none)<|
 Zl 98 1 3<|
 Zq 99 false 145 [.t 97,.t 98] .nil)) .skip)<| .rg (Zm 100 6<|
 Zl 101 1 7<|
 Zl 102 1 9<|
 Zo (.conv 103 .u16 (.t 102))<|
 Zi 104 1 100 101<|
 Zs 1 104 103 .nil))<| .seq (Zr (Zl 105 1 7 .nil)<| .rg (Zo (.alloc 7 1 3 (Zz 0))<|
 Zs 1 7 105 .nil))<| .rg (Zl 26 1 7<|
 Zk 27 .sub 26 1<|
 Zs 1 7 27 .nil))<|Zr (Zm 106 6<|
 Zq 107 false 112 [.t 106]<|
 Zm 4 107 .nil) .ret⟩
theorem Qaa2:Qe Tryz.prog Tryz.f132=some Q7e:=by kernel_rfl
end Go.Proofs.YtdacdnoebgcjhaaGreat
namespace Go.Proofs.YtdacdnoebgcjhaaGreat
open Go Go.FW
set_option linter.unusedSimpArgs false
set_option linter.unusedVariables false
set_option maxRecDepth 100000
theorem Qa1{l:List Nat}(hv:Qi l)(hl:l.length<2^42):Qd Tryz.prog 112 [PV.nat l] (· =PV.num (val l)):=by
 refine Qf Ql Tryz.func112 rfl Qzh (by simp[Qwl]) fun C hP=> ?_;simp only[Qwl,Zo,Zg,Zm,Zc,Zf,Zl,Zh,Zs,Zi,Zb,Zk,Zn,Zu,Zq,Zr,Zz]
 simp+decide (disch:=first|exact D0|fail) only[go_sem,↓reduceIte]
 refine Qd7 (fun m fr hp=>m<=l.length/\cut l m=dig (val l)/\fr 0=PV.nat l/\fr 3= .int .i64 m/\hp=hp0) l.length ?_ ?_
 ·exact⟨Nat.le_refl _,Qlc hv,rfl,rfl,rfl⟩
 rintro n fr _ ⟨hn,hc,h0,h3,rfl⟩
 simp+decide (disch:=first|exact D2 h0 h3|fail) only[go_sem,↓reduceIte,h0,h3]
 refine Qan (fun hg=> ?_) (fun hg=> ?_)
 ·simp+decide (disch:=first|omega|rfl|(simp+decide only[go_sem,↓reduceIte,h0,h3,Qi2,Qna]<;>rfl)|fail) only[go_sem,↓reduceIte,h0,h3,Qi2,Qna]
  obtain _|n:=n
  ·omega
  have e:((n+1:Nat):Int)-1=n:=by omega
  simp only[cut]at hc
  refine Qb (fun hz=> ?_) (fun hz=> ?_)
  ·rw[if_pos (by grind)]at hc
   simp+decide (disch:=first|exact D3 h0 h3 e|fail) only[go_sem,↓reduceIte,h0,h3,e]
   refine Qbt (m:=n) (by omega) ⟨by omega,hc,?_⟩
   simp+decide (disch:=first|exact D3 h0 true_and and_true|fail) only[go_sem,↓reduceIte,h0,true_and,and_true]
  ·simp+decide (disch:=first|omega|rfl|(simp+decide only[go_sem,↓reduceIte,h0,h3,Qh6]<;>rfl)|fail) only[go_sem,↓reduceIte,h0,h3,Qh6]
   rw[if_neg (by grind)]at hc
   exact Qc (by simp[hc]) rfl
 ·obtain rfl:n=0:=by omega
  simp+decide (disch:=first|omega|rfl|(simp+decide only[go_sem,↓reduceIte,h0,h3,Qh6]<;>rfl)|fail) only[go_sem,↓reduceIte,h0,h3,Qh6]
  exact Qc (by simp[<-hc,cut]) rfl
theorem Qif{l:List Nat}(hv:Qi l)(hl:l.length<2^42):Qd Tryz.prog 108 [PV.nat l] (· =PV.num (val l)):=by
 have hd:=Qal hv
 unfold nl at hd
 refine Qf Ql Tryz.func108 rfl Qaag (by simp[Q6s]) fun C hP=> ?_;simp only[Q6s,Zo,Zg,Zm,Zc,Zf,Zl,Zh,Zs,Zi,Zb,Zk,Zn,Zu,Zq,Zr,Zz]
 simp+decide (disch:=first|exact D0|fail) only[go_sem,↓reduceIte]
 refine Qa hP (Qa1 hv hl) rfl rfl rfl ?_
 simp+decide (disch:=first|exact D0|fail) only[go_sem,↓reduceIte]
 refine Qb (fun hz=> ?_) (fun hz=> ?_)
 ·simp+decide (disch:=first|exact D0|fail) only[go_sem,↓reduceIte]
  have:dig (val l)=[]:=List.length_eq_zero_iff.1 (by omega)
  exact Qdu (by rw[PV.num,this];exact Qac8) rfl
 ·simp+decide (disch:=first|exact D0|fail) only[go_sem,↓reduceIte]
  rw[Q9s rfl (by simp)]
  simp+decide (disch:=first|exact D0|fail) only[go_sem,↓reduceIte]
  exact Qn8 rfl (by simp[List.take_of_length_le])
theorem Qoh{n:Nat}(hn:n<18446744073709551616):Qd Tryz.prog 107 [.int .u64 n] (· =PV.num n):=by
 have hlen:=Qen hn
 unfold nl at hlen
 refine Qf Ql Tryz.func107 rfl Qaah (by simp[Q6t]) fun C hP=> ?_;simp only[Q6t,Zo,Zg,Zm,Zc,Zf,Zl,Zh,Zs,Zi,Zb,Zk,Zn,Zu,Zq,Zr,Zz]
 simp+decide (disch:=first|exact D0|fail) only[go_sem,↓reduceIte]
 refine Qj5 (fun m fr hp=>∃done:List Nat,dig n=done++dig m/\m<=n/\fr 0= .int .u64 m/\fr 3= .ms 12 done.length/\hp 12=some ⟨1,109,done.map fun(x:Nat)=> .int .u16 x,false⟩) n (Q2h 3 12 1 109 (by omega) ?_) ?_ ?_
 ·simp+decide (disch:=first|exact D0|fail) only[go_sem,↓reduceIte]
 ·refine⟨[],?_⟩
  simp+decide (disch:=first|omega|rfl|(simp+decide only[go_sem,↓reduceIte,List.nil_append,List.map_nil,List.length_nil,true_and,and_true,Nat.le_refl]<;>rfl)|fail) only[go_sem,↓reduceIte,List.nil_append,List.map_nil,List.length_nil,true_and,and_true,Nat.le_refl]
 rintro m fr hp ⟨done,hd,hm,h0,h3,hh⟩
 rw[hd,List.length_append]at hlen
 simp+decide (disch:=first|exact D1 h0|fail) only[go_sem,↓reduceIte,h0]
 refine Qb (fun hz=> ?_) (fun hz=> ?_)
 ·have hne:m≠0:=by omega
  have hd2:dig n=(done++[m%65536])++dig (m/65536):=by rw[hd,Qgi hne];simp
  simp+decide (disch:=first|exact D2 h0 h3|fail) only[go_sem,↓reduceIte,h0,h3]
  rw[Qpj (xs:=done.map fun(x:Nat)=> .int .u16 x) (T1 hh) rfl (by omega) (by simp) (by omega) (by omega)]
  simp+decide (disch:=first|omega|rfl|(simp+decide only[go_sem,↓reduceIte,h0,h3,Qjl,Qnb]<;>rfl)|fail) only[go_sem,↓reduceIte,h0,h3,Qjl,Qnb]
  refine Qbt (m:=m/65536) (by omega) ⟨done++[m%65536],hd2,by omega,?_⟩
  simp+decide (disch:=first|exact D3 h0 h3 hh|fail) only[go_sem,↓reduceIte,h0,h3,hh]
  simp
 ·obtain rfl:m=0:=by omega
  simp+decide (disch:=first|exact D1 h3|fail) only[go_sem,↓reduceIte,h3]
  exact Qn8 hh (by simp[PV.num,PV.nat,hd,Qax,List.take_of_length_le])
end Go.Proofs.YtdacdnoebgcjhaaGreat
namespace Go.Proofs.YtdacdnoebgcjhaaGreat
open Go Go.FW
set_option linter.unusedSimpArgs false
set_option linter.unusedVariables false
set_option maxRecDepth 100000
theorem Qmi{a b:List Nat}(ha:Qi a)(hb:Qi b)(hla:a.length<2^40)(hlb:b.length<2^40):Qd Tryz.prog 128 [PV.nat a,PV.nat b] (· = .int .i64 (Qdc (val a) (val b))):=by
 have hda:=Qal ha
 have hdb:=Qal hb
 have hnl1:= @Qvt (val a) (val b)
 have hnl2:= @Qvt (val b) (val a)
 have hla':=Qj (val a)
 have hlb':=Qj (val b)
 have hva:=Q3 (val a)
 have hvb:=Q3 (val b)
 unfold nl at hda hdb hnl1 hnl2
 refine Qf Ql Tryz.func128 rfl Qaaj (by simp[Q6v]) fun C hP=> ?_;simp only[Q6v,Zo,Zg,Zm,Zc,Zf,Zl,Zh,Zs,Zi,Zb,Zk,Zn,Zu,Zq,Zr,Zz]
 simp+decide (disch:=first|exact D0|fail) only[go_sem,↓reduceIte]
 refine Qa hP (Qa1 ha (by omega)) rfl rfl rfl ?_
 simp+decide (disch:=first|exact D0|fail) only[go_sem,↓reduceIte]
 refine Qa hP (Qa1 hb (by omega)) rfl rfl rfl ?_
 simp+decide (disch:=first|exact D0|fail) only[go_sem,↓reduceIte]
 generalize val a=x at *
 generalize val b=y at *
 refine Qb (fun hz=> ?_) (fun hz=> ?_)
 ·simp+decide (disch:=first|exact D0|fail) only[go_sem,↓reduceIte]
  refine Qb (fun hz=> ?_) (fun hz=> ?_)
  ·simp+decide (disch:=first|exact D0|fail) only[go_sem,↓reduceIte]
   exact Qc (by rw[Qr8 (hnl1 (by omega))]) rfl
  ·simp+decide (disch:=first|exact D0|fail) only[go_sem,↓reduceIte]
   exact Qc (by rw[Qr9 (hnl2 (by omega))]) rfl
 simp+decide (disch:=first|exact D0|fail) only[go_sem,↓reduceIte]
 refine Qd7 (fun m fr hp=>m<=(dig x).length/\val ((dig x).drop m)=val ((dig y).drop m)/\fr 0=PV.num x/\fr 1=PV.num y/\fr 5= .int .i64 ((m:Int)-1)/\hp=hp0) (dig x).length ?_ ?_
 ·refine⟨Nat.le_refl _,?_,?_⟩
  ·rw[List.drop_of_length_le (Nat.le_refl _),List.drop_of_length_le (by omega)]
  ·simp+decide (disch:=first|exact D2 true_and and_true|fail) only[go_sem,↓reduceIte,true_and,and_true]
 rintro m fr _ ⟨hm,hd,h0,h1,h5,rfl⟩
 simp+decide (disch:=first|exact D3 h0 h1 h5|fail) only[go_sem,↓reduceIte,h0,h1,h5]
 refine Qb (fun hg=> ?_) (fun hg=> ?_)
 ·obtain _|m:=m
  ·omega
  have e:((m+1:Nat):Int)-1=m:=by omega
  have hm1:m<(dig x).length:=by omega
  have hm2:m<(dig y).length:=by omega
  simp+decide (disch:=first|exact D4 h0 h1 h5 e|fail) only[go_sem,↓reduceIte,h0,h1,h5,e]
  refine Qb (fun hq=> ?_) (fun hq=> ?_)
  ·simp+decide (disch:=first|exact D0|fail) only[go_sem,↓reduceIte]
   exact Qc (by rw[Qr8];have:=Qtb hla' hm1 hm2 (by omega) hd;omega) rfl
  simp+decide (disch:=first|exact D4 h0 h1 h5 e|fail) only[go_sem,↓reduceIte,h0,h1,h5,e]
  refine Qb (fun hq2=> ?_) (fun hq2=> ?_)
  ·simp+decide (disch:=first|exact D0|fail) only[go_sem,↓reduceIte]
   exact Qc (by rw[Qr9];have:=Qtb hlb' hm2 hm1 (by omega) hd.symm;omega) rfl
  simp+decide (disch:=first|exact D4 h0 h1 h5 e|fail) only[go_sem,↓reduceIte,h0,h1,h5,e]
  refine Qbt (m:=m) (by omega) ⟨by omega,?_,?_⟩
  ·rw[Qca hm1,Qca hm2,hd];omega
  ·simp+decide (disch:=first|exact D4 h0 h1 true_and and_true|fail) only[go_sem,↓reduceIte,h0,h1,true_and,and_true]
 ·obtain rfl:m=0:=by omega
  simp+decide (disch:=first|exact D0|fail) only[go_sem,↓reduceIte]
  refine Qc ?_ rfl
  rw[Qy6]
  simp at hd;omega
end Go.Proofs.YtdacdnoebgcjhaaGreat
namespace Go.Proofs.YtdacdnoebgcjhaaGreat
open Go Go.FW
set_option linter.unusedSimpArgs false
set_option linter.unusedVariables false
set_option maxRecDepth 100000
theorem Q7f{a b:List Nat}(ha:Qi a)(hb:Qi b)(hla:a.length<2^40)(hlb:b.length<2^40):Qd Tryz.prog 133 [PV.nat a,PV.nat b] (· =PV.num (val a+val b)):=by
 have hda:=Qal ha
 have hdb:=Qal hb
 unfold nl at hda hdb
 refine Qf Ql Tryz.func133 rfl Qaak (by simp[Q6w]) fun C hP=> ?_;simp only[Q6w,Zo,Zg,Zm,Zc,Zf,Zl,Zh,Zs,Zi,Zb,Zk,Zn,Zu,Zq,Zr,Zz]
 simp+decide (disch:=first|exact D0|fail) only[go_sem,↓reduceIte]
 refine Qa hP (Qa1 ha (by omega)) rfl rfl rfl ?_
 simp+decide (disch:=first|exact D0|fail) only[go_sem,↓reduceIte]
 refine Qa hP (Qa1 hb (by omega)) rfl rfl rfl ?_
 simp+decide (disch:=first|exact D0|fail) only[go_sem,↓reduceIte]
 generalize val a=x0 at *
 generalize val b=y0 at *
 refine Qh8 (fun fr hp=>∃x y,x+y=x0+y0/\(dig x).length<2^40/\(dig y).length<=(dig x).length/\fr 0=PV.num x/\fr 1=PV.num y/\hp=hp0) ?_ ?_
 ·refine Qb (fun hz=> ?_) (fun hz=> ?_)
  ·simp+decide (disch:=first|exact D0|fail) only[go_sem,↓reduceIte]
   refine⟨y0,x0,by omega,by omega,by omega,?_⟩
   simp+decide (disch:=first|exact D2 true_and and_true|fail) only[go_sem,↓reduceIte,true_and,and_true]
  ·simp+decide (disch:=first|exact D0|fail) only[go_sem,↓reduceIte]
   refine⟨x0,y0,by omega,by omega,by omega,?_⟩
   simp+decide (disch:=first|exact D2 true_and and_true|fail) only[go_sem,↓reduceIte,true_and,and_true]
 rintro fr _ ⟨x,y,hsum,hx,hy,h0,h1,rfl⟩
 rw[<-hsum]
 clear hsum hda hdb
 have hxl:=Qj x
 have hyl:=Qj y
 simp+decide (disch:=first|exact D2 h0 h1|fail) only[go_sem,↓reduceIte,h0,h1]
 refine Qd7 (fun m fr hp=>∃i c done,m=(dig x).length-i/\i<=(dig x).length/\c<=1/\done.length=i/\done++Qef ((dig x).drop i) ((dig y).drop i) c=dig (x+y)/\
  fr 1=PV.num y/\fr 5= .ms 25 (dig x).length/\fr 6= .int .u32 c/\fr 26=PV.num x/\fr 27= .int .i64 (dig x).length/\fr 28= .int .i64 i/\hp=Qx hp0 25 ⟨1,109,Qay (done++List.replicate ((dig x).length-i) 0),false⟩) (dig x).length ?_ ?_
 ·refine⟨0,0,[],rfl,by omega,by omega,rfl,by simpa using Q5z hy,?_⟩
  simp+decide (disch:=first|omega|rfl|(simp+decide only[go_sem,↓reduceIte,h0,h1,true_and,and_true,Nat.sub_zero,List.nil_append]<;>rfl)|fail) only[go_sem,↓reduceIte,h0,h1,true_and,and_true,Nat.sub_zero,List.nil_append]
  simp
 rintro _ fr _ ⟨i,c,done,rfl,hi,hc,hdl,hd,h1,h5,h6,h26,h27,h28,rfl⟩
 simp+decide (disch:=first|exact D3 h26 h27 h28|fail) only[go_sem,↓reduceIte,h26,h27,h28]
 refine Qb (fun hg=> ?_) (fun hg=> ?_)
 ·have hi':i<(dig x).length:=by omega
  have hxi:=Qaj hxl hi'
  rw[Q2u hi']at hd
  have hlen:=Qpl (n:=(dig x).length-i) hdl (by omega:_=(dig x).length)
  simp+decide (disch:=first|exact D6 h1 h5 h6 h26 h27 h28|fail) only[go_sem,↓reduceIte,h1,h5,h6,h26,h27,h28]
  refine Qb (fun hq=> ?_) (fun hq=> ?_)
  ·have hq':i<(dig y).length:=by omega
   have hyi:=Qaj hyl hq'
   rw[Qbd hq']at hd
   simp+decide (disch:=first|exact D6 h1 h5 h6 h26 h27 h28|fail) only[go_sem,↓reduceIte,h1,h5,h6,h26,h27,h28]
   refine Qbt (m:=(dig x).length-(i+1)) (by omega) ⟨i+1,_,_,rfl,by omega,?_,?_,(List.append_cons ..).symm.trans hd,?_⟩
   ·omega
   ·simp[hdl]
   ·simp+decide (disch:=first|omega|rfl|(simp+decide only[go_sem,↓reduceIte,h1,h5,h6,h26,h27,h28,true_and,and_true,Qd8,Nat.sub_sub]<;>rfl)|fail) only[go_sem,↓reduceIte,h1,h5,h6,h26,h27,h28,true_and,and_true,Qd8,Nat.sub_sub]
  ·rw[Qbe (by omega)]at hd
   simp+decide (disch:=first|exact D6 h1 h5 h6 h26 h27 h28|fail) only[go_sem,↓reduceIte,h1,h5,h6,h26,h27,h28]
   refine Qbt (m:=(dig x).length-(i+1)) (by omega) ⟨i+1,_,_,rfl,by omega,?_,?_,(List.append_cons ..).symm.trans hd,?_⟩
   ·omega
   ·simp[hdl]
   ·simp+decide (disch:=first|omega|rfl|(simp+decide only[go_sem,↓reduceIte,h1,h5,h6,h26,h27,h28,true_and,and_true,Qd8,Nat.sub_sub,Nat.add_zero]<;>rfl)|fail) only[go_sem,↓reduceIte,h1,h5,h6,h26,h27,h28,true_and,and_true,Qd8,Nat.sub_sub,Nat.add_zero]
 ·obtain rfl:i=(dig x).length:=by omega
  rw[List.drop_of_length_le (Nat.le_refl _),List.drop_of_length_le hy]at hd
  simp+decide (disch:=first|omega|rfl|(simp+decide only[go_sem,↓reduceIte,h5,h6,Nat.sub_self,List.replicate_zero,List.append_nil]<;>rfl)|fail) only[go_sem,↓reduceIte,h5,h6,Nat.sub_self,List.replicate_zero,List.append_nil]
  refine Qb (fun hq=> ?_) (fun hq=> ?_)
  ·simp+decide (disch:=first|exact D2 h5 h6|fail) only[go_sem,↓reduceIte,h5,h6]
   rw[Qpj (xs:=Qay done) T0 rfl (by omega) (by simp[hdl]) (by omega) (by omega)]
   simp+decide (disch:=first|exact D1 h5|fail) only[go_sem,↓reduceIte,h5]
   refine Qn8 rfl ?_
   rw[Qef,if_neg (by omega)]at hd
   rw[PV.num,<-hd]
   simp[Qay,hdl,List.take_of_length_le]
   omega
  ·simp+decide (disch:=first|exact D1 h5|fail) only[go_sem,↓reduceIte,h5]
   refine Qn8 rfl ?_
   rw[Qef,if_pos (by omega)]at hd
   rw[PV.num,<-hd]
   simp[Qay,hdl,List.take_of_length_le]
end Go.Proofs.YtdacdnoebgcjhaaGreat
namespace Go.Proofs.YtdacdnoebgcjhaaGreat
open Go Go.FW
set_option linter.unusedSimpArgs false
set_option linter.unusedVariables false
set_option maxRecDepth 100000
theorem Qwm{a b:List Nat}(ha:Qi a)(hb:Qi b)(hla:a.length<2^40)(hlb:b.length<2^40)(hle:val b<=val a):Qd Tryz.prog 134 [PV.nat a,PV.nat b] (· = .tup [PV.num (val a-val b),.int .i64 0]):=by
 have hda:=Qal ha
 have hdb:=Qal hb
 have hnl:=Qa7 hle
 unfold nl at hda hdb hnl
 refine Qf Ql Tryz.func134 rfl Qaal (by simp[Q6x]) fun C hP=> ?_;simp only[Q6x,Zo,Zg,Zm,Zc,Zf,Zl,Zh,Zs,Zi,Zb,Zk,Zn,Zu,Zq,Zr,Zz]
 simp+decide (disch:=first|exact D0|fail) only[go_sem,↓reduceIte]
 refine Qa hP (Qmi ha hb hla hlb) rfl rfl rfl ?_
 have hcmp:¬Qdc (val a) (val b)<0:=by unfold Qdc;split<;>(try split)<;>omega
 simp+decide (disch:=first|exact D0|fail) only[go_sem,↓reduceIte]
 refine Qb (fun hz=>absurd hz hcmp) (fun hz=> ?_)
 simp+decide (disch:=first|exact D0|fail) only[go_sem,↓reduceIte]
 refine Qa hP (Qa1 ha (by omega)) rfl rfl rfl ?_
 simp+decide (disch:=first|exact D0|fail) only[go_sem,↓reduceIte]
 refine Qa hP (Qa1 hb (by omega)) rfl rfl rfl ?_
 simp+decide (disch:=first|exact D0|fail) only[go_sem,↓reduceIte]
 generalize val a=x at *
 generalize val b=y at *
 have hxl:=Qj x
 have hyl:=Qj y
 have Qch:=Qvv (dig x) (dig y) 0 (by omega) hxl hyl hnl (by rw[Q3,Q3];exact hle)
 rw[Q3,Q3,Nat.add_zero]at Qch
 have hvl:=Qqh (dig x) (dig y) 0
 have hln:=Qoo (dig x) (dig y) 0
 refine Qd7 (fun m fr hp=>∃i c done,m=(dig x).length-i/\i<=(dig x).length/\c<=1/\done.length=i/\done++Qge ((dig x).drop i) ((dig y).drop i) c=Qge (dig x) (dig y) 0/\
  fr 1=PV.num y/\fr 6= .ms 21 (dig x).length/\fr 7= .int .i32 (c:Nat)/\fr 22=PV.num x/\fr 23= .int .i64 (dig x).length/\fr 24= .int .i64 i/\hp=Qx hp0 21 ⟨1,109,Qay (done++List.replicate ((dig x).length-i) 0),false⟩) (dig x).length ?_ ?_
 ·refine⟨0,0,[],rfl,by omega,by omega,rfl,rfl,?_⟩
  simp+decide (disch:=first|omega|rfl|(simp+decide only[go_sem,↓reduceIte,true_and,and_true,Nat.sub_zero,List.nil_append]<;>rfl)|fail) only[go_sem,↓reduceIte,true_and,and_true,Nat.sub_zero,List.nil_append]
  simp
 rintro _ fr _ ⟨i,c,done,rfl,hi,hc,hdl,hd,h1,h6,h7,h22,h23,h24,rfl⟩
 simp+decide (disch:=first|exact D3 h22 h23 h24|fail) only[go_sem,↓reduceIte,h22,h23,h24]
 refine Qb (fun hg=> ?_) (fun hg=> ?_)
 ·have hi':i<(dig x).length:=by omega
  have hxi:=Qaj hxl hi'
  rw[Q2v hi']at hd
  have hlen:=Qpl (n:=(dig x).length-i) hdl (by omega:_=(dig x).length)
  simp+decide (disch:=first|exact D6 h1 h6 h7 h22 h23 h24|fail) only[go_sem,↓reduceIte,h1,h6,h7,h22,h23,h24]
  refine Qh8 (fun fr hp=>fr 1=PV.num y/\fr 6= .ms 21 (dig x).length/\fr 8= .int .i64 i/\fr 10= .int .i32 ((dig x)[i]-(c:Int)-((dig y).getD i 0:Nat))/\(dig y).getD i 0<65536/\fr 22=PV.num x/\fr 23= .int .i64 (dig x).length/\fr 24= .int .i64 i/\hp=Qx hp0 21 ⟨1,109,Qay (done++List.replicate ((dig x).length-i) 0),false⟩) ?_ ?_
  ·refine Qb (fun hq=> ?_) (fun hq=> ?_)
   ·have hq':i<(dig y).length:=by omega
    have hyi:=Qaj hyl hq'
    simp+decide (disch:=first|omega|rfl|(simp+decide only[go_sem,↓reduceIte,h1,h6,h7,h22,h23,h24,Qbd hq',true_and,and_true]<;>rfl)|fail) only[go_sem,↓reduceIte,h1,h6,h7,h22,h23,h24,Qbd hq',true_and,and_true]
    exact hyi
   ·simp+decide (disch:=first|omega|rfl|(simp+decide only[go_sem,↓reduceIte,h1,h6,h7,h22,h23,h24,true_and,and_true,Qbe (by omega:¬i<(dig y).length)]<;>rfl)|fail) only[go_sem,↓reduceIte,h1,h6,h7,h22,h23,h24,true_and,and_true,Qbe (by omega:¬i<(dig y).length)]
    simp
  clear h1 h6 h22 h23 h24
  rintro fr _ ⟨h1,h6,h8,h10,hyi,h22,h23,h24,rfl⟩
  generalize hw:(dig y).getD i 0=yi at *
  simp+decide (disch:=first|exact D1 h10|fail) only[go_sem,↓reduceIte,h10]
  refine Qh8 (fun fr hp=>fr 1=PV.num y/\fr 6= .ms 21 (dig x).length/\fr 8= .int .i64 i/\fr 10= .int .i32 (((dig x)[i]+65536-c-yi)%65536:Nat)/\fr 7= .int .i32 ((if(dig x)[i]<c+yi then 1 else 0):Nat)/\fr 22=PV.num x/\fr 23= .int .i64 (dig x).length/\fr 24= .int .i64 i/\hp=Qx hp0 21 ⟨1,109,Qay (done++List.replicate ((dig x).length-i) 0),false⟩) ?_ ?_
  ·refine Qb (fun hq=> ?_) (fun hq=> ?_)
   ·rw[if_pos (by omega)]
    simp+decide (disch:=first|exact D9 h1 h6 h8 h10 h22 h23 h24 true_and and_true|fail) only[go_sem,↓reduceIte,h1,h6,h8,h10,h22,h23,h24,true_and,and_true]
    simp;omega
   ·rw[if_neg (by omega)]
    simp+decide (disch:=first|exact D9 h1 h6 h8 h10 h22 h23 h24 true_and and_true|fail) only[go_sem,↓reduceIte,h1,h6,h8,h10,h22,h23,h24,true_and,and_true]
    simp;omega
  clear h1 h6 h8 h10 h22 h23 h24
  rintro fr _ ⟨h1,h6,h8,h10,h7,h22,h23,h24,rfl⟩
  simp+decide (disch:=first|exact D8 h1 h6 h7 h8 h10 h22 h23 h24|fail) only[go_sem,↓reduceIte,h1,h6,h7,h8,h10,h22,h23,h24]
  refine Qbt (m:=(dig x).length-(i+1)) (by omega) ⟨i+1,_,_,rfl,by omega,?_,?_,(List.append_cons ..).symm.trans hd,?_⟩
  ·split<;>omega
  ·simp[hdl]
  ·simp+decide (disch:=first|omega|rfl|(simp+decide only[go_sem,↓reduceIte,h1,h6,h7,h8,h10,h22,h23,h24,true_and,and_true,Qd8,Nat.sub_sub,Nat.mod_mod]<;>rfl)|fail) only[go_sem,↓reduceIte,h1,h6,h7,h8,h10,h22,h23,h24,true_and,and_true,Qd8,Nat.sub_sub,Nat.mod_mod]
 ·obtain rfl:i=(dig x).length:=by omega
  rw[List.drop_of_length_le (Nat.le_refl _),Qge,List.append_nil]at hd
  simp+decide (disch:=first|omega|rfl|(simp+decide only[go_sem,↓reduceIte,h6,Nat.sub_self,List.replicate_zero,List.append_nil]<;>rfl)|fail) only[go_sem,↓reduceIte,h6,Nat.sub_self,List.replicate_zero,List.append_nil]
  rw[hd]
  refine Qff hP (Qa1 hvl (by omega)) (Qjn rfl hln.symm) rfl fun hp'=> ?_
  simp+decide (disch:=first|exact D0|fail) only[go_sem,↓reduceIte]
  exact Qdd rfl rfl rfl (Qfg (by rw[show val (Qge (dig x) (dig y) 0)=x-y by omega])) (Q8 _)
end Go.Proofs.YtdacdnoebgcjhaaGreat
namespace Go.Proofs.YtdacdnoebgcjhaaGreat
open Go Go.FW
set_option linter.unusedSimpArgs false
set_option linter.unusedVariables false
set_option maxRecDepth 100000
theorem Qmj{a b:List Nat}(ha:Qi a)(hb:Qi b)(hla:a.length<2^40)(hlb:b.length<2^40):Qd Tryz.prog 83 [PV.nat a,PV.nat b] (· =PV.num (val a*val b)):=by
 have hda:=Qal ha
 have hdb:=Qal hb
 unfold nl at hda hdb
 refine Qf Ql Tryz.func83 rfl Qad6 (by simp[c83]) fun C hP=> ?_;simp only[c83,Zo,Zg,Zm,Zc,Zf,Zl,Zh,Zs,Zi,Zb,Zk,Zn,Zu,Zq,Zr,Zz]
 simp+decide (disch:=first|exact D0|fail) only[go_sem,↓reduceIte]
 refine Qa hP (Qa1 ha (by omega)) rfl rfl rfl ?_
 simp+decide (disch:=first|exact D0|fail) only[go_sem,↓reduceIte]
 refine Qa hP (Qa1 hb (by omega)) rfl rfl rfl ?_
 simp+decide (disch:=first|exact D0|fail) only[go_sem,↓reduceIte]
 generalize val a=x at *
 generalize val b=y at *
 have hxl:=Qj x
 have hyl:=Qj y
 refine Qv (fun hz=> ?_) (fun hz=> ?_)
 ·simp+decide (disch:=first|exact D0|fail) only[go_sem,↓reduceIte]
  have:=Qco (by omega:(dig x).length=0)
  rw[Qbq]at this
  exact Qdu (Qld (by simp[this])) rfl
 simp+decide (disch:=first|exact D0|fail) only[go_sem,↓reduceIte]
 refine Qb (fun hz2=> ?_) (fun hz2=> ?_)
 ·simp+decide (disch:=first|exact D0|fail) only[go_sem,↓reduceIte]
  have:=Qco (by omega:(dig y).length=0)
  rw[Qbq]at this
  exact Qdu (Qld (by simp[this])) rfl
 simp+decide (disch:=first|exact D0|fail) only[go_sem,↓reduceIte]
 refine Qd7 (fun m fr hp=>∃i lo,m=(dig x).length-i/\i<=(dig x).length/\Qi lo/\lo.length=i+(dig y).length/\val lo=val ((dig x).take i)*val (dig y)/\
  fr 1=PV.num y/\fr 5= .ms 28 ((dig x).length+(dig y).length)/\fr 29=PV.num x/\fr 30= .int .i64 (dig x).length/\fr 31= .int .i64 i/\hp=Qx hp0 28 ⟨1,109,Qay (lo++List.replicate ((dig x).length-i) 0),false⟩) (dig x).length ?_ ?_
 ·refine⟨0,List.replicate (dig y).length 0,rfl,by omega,?_,by simp,by simp[Qta,val],?_⟩
  ·intro z hz;rw[List.eq_of_mem_replicate hz];omega
  ·simp+decide (disch:=first|omega|rfl|(simp+decide only[go_sem,↓reduceIte,true_and,and_true,Nat.sub_zero]<;>rfl)|fail) only[go_sem,↓reduceIte,true_and,and_true,Nat.sub_zero]
   simp[Nat.add_comm]
 rintro _ fr _ ⟨i,lo,rfl,hi,hlo,hlol,hv,h1,h5,h29,h30,h31,rfl⟩
 simp+decide (disch:=first|exact D3 h29 h30 h31|fail) only[go_sem,↓reduceIte,h29,h30,h31]
 refine Qb (fun hg=> ?_) (fun hg=> ?_)
 ·have hi':i<(dig x).length:=by omega
  have hxi:=Qaj hxl hi'
  have hstep:=Q50 hi' hlol hv
  have hlims:Qi (lo.take i++Qe3 (lo.drop i) (dig y) (dig x)[i] 0):=Qbl.2 ⟨Qfu hlo i,Qqj _ _ _ _ (by omega) hxi (Qgt hlo i) hyl⟩
  have hlenr:(lo.take i++Qe3 (lo.drop i) (dig y) (dig x)[i] 0).length=i+(dig y).length+1:=by
   rw[List.length_append,Qop _ _ _ _ (by simp[hlol])];simp;omega
  generalize hxx:(dig x)[i]=xi at *
  simp+decide (disch:=first|exact D6 h1 h5 h29 h30 h31 hxx|fail) only[go_sem,↓reduceIte,h1,h5,h29,h30,h31,hxx]
  refine Qd7 (fun m fr hp=>∃k c p rs,m=(dig y).length-k/\k<=(dig y).length/\c<65536/\Qi rs/\p.length=i+k/\rs.length=(dig y).length-k/\p++Qe3 rs ((dig y).drop k) xi c=lo.take i++Qe3 (lo.drop i) (dig y) xi 0/\
   fr 1=PV.num y/\fr 5= .ms 28 ((dig x).length+(dig y).length)/\fr 6= .int .i64 i/\fr 7= .int .u16 xi/\fr 8= .int .u32 c/\fr 29=PV.num x/\fr 30= .int .i64 (dig x).length/\fr 31= .int .i64 i/\fr 36=PV.num y/\fr 37= .int .i64 (dig y).length/\fr 38= .int .i64 k/\
   hp=Qx hp0 28 ⟨1,109,Qay (p++(rs++List.replicate ((dig x).length-i) 0)),false⟩) (dig y).length ?_ ?_
  ·refine⟨0,0,lo.take i,lo.drop i,rfl,by omega,by omega,Qgt hlo i,by simp;omega,by simp;omega,rfl,?_⟩
   simp+decide (disch:=first|exact D7 h1 h5 h29 h30 h31 true_and and_true|fail) only[go_sem,↓reduceIte,h1,h5,h29,h30,h31,true_and,and_true]
   rw[<-List.append_assoc,List.take_append_drop]
   simp
  clear h1 h5 h29 h30 h31
  rintro _ fr _ ⟨k,c,p,rs,rfl,hk,hc,hrs,hpl,hrl,hinv,h1,h5,h6,h7,h8,h29,h30,h31,h36,h37,h38,rfl⟩
  simp+decide (disch:=first|exact D3 h36 h37 h38|fail) only[go_sem,↓reduceIte,h36,h37,h38]
  refine Qb (fun hq=> ?_) (fun hq=> ?_)
  ·have hk':k<(dig y).length:=by omega
   have hyk:=Qaj hyl hk'
   rw[List.drop_eq_getElem_cons hk']at hinv
   generalize hyy:(dig y)[k]=yk at *
   obtain _|⟨r,rs⟩:=rs
   ·simp at hrl;omega
   rw[Qas]at hrs
   have hr0:=hrs.1
   have hxy:=Qek hxi hyk
   rw[Qe3]at hinv
   have hlt:i+k<(p++r::(rs++List.replicate ((dig x).length-i) 0)).length:=by simp;omega
   have hget:=Qob hpl hlt
   simp+decide (disch:=first|omega|rfl|(simp+decide only[go_sem,↓reduceIte,h1,h5,h6,h7,h8,h36,h37,h38,hyy,List.cons_append,hget]<;>rfl)|fail) only[go_sem,↓reduceIte,h1,h5,h6,h7,h8,h36,h37,h38,hyy,List.cons_append,hget]
   refine Qbt (m:=(dig y).length-(k+1)) (by omega) ⟨k+1,_,_,_,rfl,by omega,?_,hrs.2,?_,?_,(List.append_cons ..).symm.trans hinv,?_⟩
   ·omega
   ·simp[hpl];omega
   ·simp at hrl;omega
   ·simp+decide (disch:=first|omega|rfl|(simp+decide only[go_sem,↓reduceIte,h1,h5,h6,h7,h8,h29,h30,h31,h36,h37,h38,true_and,and_true,Qbu]<;>rfl)|fail) only[go_sem,↓reduceIte,h1,h5,h6,h7,h8,h29,h30,h31,h36,h37,h38,true_and,and_true,Qbu]
    simp
  ·obtain rfl:k=(dig y).length:=by omega
   obtain rfl:rs=[]:=List.length_eq_zero_iff.1 (by omega)
   rw[List.drop_of_length_le (Nat.le_refl _),Qe3]at hinv
   rotate_left
   ·intros;simp_all
   obtain⟨z,hz⟩:∃z,(dig x).length-i=z+1:=⟨(dig x).length-i-1,by omega⟩
   have hlt:i+(dig y).length<(p++0::(List.replicate z 0)).length:=by simp;omega
   simp+decide (disch:=first|omega|rfl|(simp+decide only[go_sem,↓reduceIte,h1,h5,h6,h8,h29,h30,h31,List.nil_append,hz,List.replicate_succ]<;>rfl)|fail) only[go_sem,↓reduceIte,h1,h5,h6,h8,h29,h30,h31,List.nil_append,hz,List.replicate_succ]
   refine Qbt (m:=(dig x).length-(i+1)) (by omega) ⟨i+1,lo.take i++Qe3 (lo.drop i) (dig y) xi 0,rfl,by omega,hlims,by omega,?_,?_⟩
   ·rw[hstep]
   ·simp+decide (disch:=first|omega|rfl|(simp+decide only[go_sem,↓reduceIte,h1,h5,h29,h30,h31,true_and,and_true,Qbu]<;>rfl)|fail) only[go_sem,↓reduceIte,h1,h5,h29,h30,h31,true_and,and_true,Qbu]
    rw[<-hinv,show(dig x).length-(i+1)=z by omega,Nat.mod_eq_of_lt hc]
    simp
 ·obtain rfl:i=(dig x).length:=by omega
  rw[List.take_length,Q3,Q3]at hv
  simp+decide (disch:=first|omega|rfl|(simp+decide only[go_sem,↓reduceIte,h5,Nat.sub_self,List.replicate_zero,List.append_nil]<;>rfl)|fail) only[go_sem,↓reduceIte,h5,Nat.sub_self,List.replicate_zero,List.append_nil]
  refine Qff hP (Qa1 hlo (by omega)) (Qjn rfl hlol.symm) rfl fun hp'=> ?_
  simp+decide (disch:=first|exact D0|fail) only[go_sem,↓reduceIte]
  exact Qc (by rw[hv]) rfl
end Go.Proofs.YtdacdnoebgcjhaaGreat
namespace Go.Proofs.YtdacdnoebgcjhaaGreat
open Go Go.FW
set_option linter.unusedSimpArgs false
set_option linter.unusedVariables false
set_option maxRecDepth 100000
theorem Qwn{pre w post v:List Nat}{j m:Nat}(hw:Qi w)(hv:Qi v)(hj:pre.length=j)(hm:w.length=m)(hle:v.length<=w.length)(hlen:(pre++(w++post)).length<2^43):
  Qi3 Tryz.prog 145 [.mso B0 j m,PV.nat v] 109 (Qay (pre++(w++post))) (fun r xs'=>r= .tup []/\xs'=Qay (pre++(Qfh w v 0++post))):=by
 simp only[List.length_append]at hlen
 refine Qj7 Ql Tryz.func145 rfl Qaaq (by simp[Q62]) fun C hP=> ?_;simp only[Q62,Zo,Zg,Zm,Zc,Zf,Zl,Zh,Zs,Zi,Zb,Zk,Zn,Zu,Zq,Zr,Zz]
 simp+decide (disch:=first|exact D0|fail) only[go_sem,↓reduceIte]
 refine Qd7 (fun k fr hp=>∃i c done,k=w.length-i/\i<=w.length/\c<=1/\done.length=i/\done++Qfh (w.drop i) (v.drop i) c=Qfh w v 0/\
  fr 0= .mso 1000000 j m/\fr 1=PV.nat v/\fr 4= .int .u32 c/\fr 7= .int .i64 m/\fr 8= .int .i64 i/\hp=Qx hp0 1000000 ⟨1,109,Qay ((pre++done)++(w.drop i++post)),false⟩) w.length ?_ ?_
 ·refine⟨0,0,[],rfl,by omega,by omega,rfl,rfl,?_⟩
  simp+decide (disch:=first|omega|rfl|(simp+decide only[go_sem,↓reduceIte,true_and,and_true,List.append_nil,List.drop_zero]<;>rfl)|fail) only[go_sem,↓reduceIte,true_and,and_true,List.append_nil,List.drop_zero]
  simp
 rintro _ fr _ ⟨i,c,done,rfl,hi,hc,hdl,hd,h0,h1,h4,h7,h8,rfl⟩
 simp+decide (disch:=first|exact D2 h7 h8|fail) only[go_sem,↓reduceIte,h7,h8]
 refine Qb (fun hg=> ?_) (fun hg=> ?_)
 ·have hi':i<w.length:=by omega
  have hwi:=Qaj hw hi'
  rw[Q22 hi']at hd
  have hpl:(pre++done).length=j+i:=by simp[hj,hdl]
  rw[List.drop_eq_getElem_cons hi']
  generalize hww:w[i]=wi at *
  have hlt:j+i<((pre++done)++wi::(w.drop (i+1)++post)).length:=by simp;omega
  have hget:=Qob hpl hlt
  simp+decide (disch:=first|omega|rfl|(simp+decide only[go_sem,↓reduceIte,h0,h1,h4,h7,h8,List.cons_append,hget]<;>rfl)|fail) only[go_sem,↓reduceIte,h0,h1,h4,h7,h8,List.cons_append,hget]
  refine Qb (fun hq=> ?_) (fun hq=> ?_)
  ·have hq':i<v.length:=by omega
   have hvi:=Qaj hv hq'
   rw[Qbd hq']at hd
   simp+decide (disch:=first|omega|rfl|(simp+decide only[go_sem,↓reduceIte,h0,h1,h4,h7,h8,Qbu]<;>rfl)|fail) only[go_sem,↓reduceIte,h0,h1,h4,h7,h8,Qbu]
   refine Qbt (m:=w.length-(i+1)) (by omega) ⟨i+1,_,_,rfl,by omega,?_,?_,(List.append_cons ..).symm.trans hd,?_⟩
   ·omega
   ·simp[hdl]
   ·simp+decide (disch:=first|omega|rfl|(simp+decide only[go_sem,↓reduceIte,h0,h1,h4,h7,h8,true_and,and_true,Qbu]<;>rfl)|fail) only[go_sem,↓reduceIte,h0,h1,h4,h7,h8,true_and,and_true,Qbu]
    simp
  ·rw[Qbe (by omega)]at hd
   simp+decide (disch:=first|omega|rfl|(simp+decide only[go_sem,↓reduceIte,h0,h1,h4,h7,h8,Qbu]<;>rfl)|fail) only[go_sem,↓reduceIte,h0,h1,h4,h7,h8,Qbu]
   refine Qbt (m:=w.length-(i+1)) (by omega) ⟨i+1,_,_,rfl,by omega,?_,?_,(List.append_cons ..).symm.trans hd,?_⟩
   ·omega
   ·simp[hdl]
   ·simp+decide (disch:=first|omega|rfl|(simp+decide only[go_sem,↓reduceIte,h0,h1,h4,h7,h8,true_and,and_true,Qbu]<;>rfl)|fail) only[go_sem,↓reduceIte,h0,h1,h4,h7,h8,true_and,and_true,Qbu]
    simp
 ·obtain rfl:i=w.length:=by omega
  rw[List.drop_of_length_le (Nat.le_refl _),Qfh,List.append_nil]at hd
  simp+decide (disch:=first|exact D0|fail) only[go_sem,↓reduceIte]
  refine Qado rfl (Qd9 _) ?_ ⟨rfl,?_⟩
  ·simp[hdl]
  ·rw[List.drop_of_length_le (Nat.le_refl _),hd];simp
end Go.Proofs.YtdacdnoebgcjhaaGreat
namespace Go.Proofs.YtdacdnoebgcjhaaGreat
open Go Go.FW
set_option linter.unusedSimpArgs false
set_option linter.unusedVariables false
set_option maxRecDepth 100000
theorem Qug{pre w post v:List Nat}{j m q:Nat}(hw:Qi w)(hv:Qi v)(hq:q<65536)(hj:pre.length=j)(hm:w.length=m)(hle:v.length<=w.length)(hlen:(pre++(w++post)).length<2^43):
  Qi3 Tryz.prog 144 [.mso B0 j m,PV.nat v,.int .u32 q] 109 (Qay (pre++(w++post))) (fun r xs'=>r= .bool (decide (0<(Qcp w v q 0 0).2.2))/\xs'=Qay (pre++((Qcp w v q 0 0).1++post))):=by
 simp only[List.length_append]at hlen
 refine Qj7 Ql Tryz.func144 rfl Qaap (by simp[Q61]) fun C hP=> ?_;simp only[Q61,Zo,Zg,Zm,Zc,Zf,Zl,Zh,Zs,Zi,Zb,Zk,Zn,Zu,Zq,Zr,Zz]
 simp+decide (disch:=first|exact D0|fail) only[go_sem,↓reduceIte]
 refine Qd7 (fun k fr hp=>∃i c b done,k=w.length-i/\i<=w.length/\c<65536/\b<=1/\done.length=i/\done++(Qcp (w.drop i) (v.drop i) q c b).1=(Qcp w v q 0 0).1/\(Qcp (w.drop i) (v.drop i) q c b).2=(Qcp w v q 0 0).2/\
  fr 0= .mso 1000000 j m/\fr 1=PV.nat v/\fr 2= .int .u32 q/\fr 7= .int .u32 c/\fr 8= .int .i32 (b:Nat)/\fr 12= .int .i64 m/\fr 13= .int .i64 i/\hp=Qx hp0 1000000 ⟨1,109,Qay ((pre++done)++(w.drop i++post)),false⟩) w.length ?_ ?_
 ·refine⟨0,0,0,[],rfl,by omega,by omega,by omega,rfl,rfl,rfl,?_⟩
  simp+decide (disch:=first|omega|rfl|(simp+decide only[go_sem,↓reduceIte,true_and,and_true,List.append_nil,List.drop_zero]<;>rfl)|fail) only[go_sem,↓reduceIte,true_and,and_true,List.append_nil,List.drop_zero]
  simp
 rintro _ fr _ ⟨i,c,b,done,rfl,hi,hc,hb,hdl,hd,hd2,h0,h1,h2,h7,h8,h12,h13,rfl⟩
 simp+decide (disch:=first|exact D2 h12 h13|fail) only[go_sem,↓reduceIte,h12,h13]
 refine Qb (fun hg=> ?_) (fun hg=> ?_)
 ·have hi':i<w.length:=by omega
  have hwi:=Qaj hw hi'
  rw[Q23 hi']at hd hd2
  simp only at hd hd2
  have hpl:(pre++done).length=j+i:=by simp[hj,hdl]
  rw[List.drop_eq_getElem_cons hi']
  generalize hww:w[i]=wi at *
  have hlt:j+i<((pre++done)++wi::(w.drop (i+1)++post)).length:=by simp;omega
  have hget:=Qob hpl hlt
  simp+decide (disch:=first|omega|rfl|(simp+decide only[go_sem,↓reduceIte,h0,h1,h2,h7,h8,h12,h13,List.cons_append,hget]<;>rfl)|fail) only[go_sem,↓reduceIte,h0,h1,h2,h7,h8,h12,h13,List.cons_append,hget]
  refine Qh8 (fun fr hp=>c+q*v.getD i 0<=4294967295/\fr 0= .mso 1000000 j m/\fr 1=PV.nat v/\fr 2= .int .u32 q/\fr 7= .int .u32 (c+q*v.getD i 0:Nat)/\fr 8= .int .i32 (b:Nat)/\fr 9= .int .i64 i/\fr 12= .int .i64 m/\fr 13= .int .i64 i/\hp=Qx hp0 1000000 ⟨1,109,Qay ((pre++done)++wi::(w.drop (i+1)++post)),false⟩) ?_ ?_
  ·refine Qb (fun hqv=> ?_) (fun hqv=> ?_)
   ·have hq':i<v.length:=by omega
    have hvi:=Qaj hv hq'
    have hqv:=Qek hq hvi
    simp+decide (disch:=first|omega|rfl|(simp+decide only[go_sem,↓reduceIte,h0,h1,h2,h7,h8,h12,h13,Qbd hq',true_and,and_true]<;>rfl)|fail) only[go_sem,↓reduceIte,h0,h1,h2,h7,h8,h12,h13,Qbd hq',true_and,and_true]
    omega
   ·simp+decide (disch:=first|omega|rfl|(simp+decide only[go_sem,↓reduceIte,h0,h1,h2,h7,h8,h12,h13,true_and,and_true,Qbe (by omega:¬i<v.length),Nat.mul_zero,Nat.add_zero]<;>rfl)|fail) only[go_sem,↓reduceIte,h0,h1,h2,h7,h8,h12,h13,true_and,and_true,Qbe (by omega:¬i<v.length),Nat.mul_zero,Nat.add_zero]
    omega
  clear h0 h1 h2 h7 h8 h12 h13
  rintro fr _ ⟨hc1,h0,h1,h2,h7,h8,h9,h12,h13,rfl⟩
  generalize c+q*v.getD i 0=c1 at *
  simp+decide (disch:=first|exact D9 h0 h1 h2 h7 h8 h9 h12 h13 hget|fail) only[go_sem,↓reduceIte,h0,h1,h2,h7,h8,h9,h12,h13,hget]
  refine Qh8 (fun fr hp=>fr 0= .mso 1000000 j m/\fr 1=PV.nat v/\fr 2= .int .u32 q/\fr 7= .int .u32 (c1/65536:Nat)/\fr 8= .int .i32 ((if wi<c1%65536+b then 1 else 0):Nat)/\fr 9= .int .i64 i/\fr 10= .int .i32 ((wi+65536-c1%65536-b)%65536:Nat)/\fr 12= .int .i64 m/\fr 13= .int .i64 i/\hp=Qx hp0 1000000 ⟨1,109,Qay ((pre++done)++wi::(w.drop (i+1)++post)),false⟩) ?_ ?_
  ·refine Qb (fun hq=> ?_) (fun hq=> ?_)
   ·rw[if_pos (by omega)]
    simp+decide (disch:=first|exact D10 h0 h1 h2 h7 h8 h9 h12 h13 true_and and_true|fail) only[go_sem,↓reduceIte,h0,h1,h2,h7,h8,h9,h12,h13,true_and,and_true]
    simp;omega
   ·rw[if_neg (by omega)]
    simp+decide (disch:=first|exact D10 h0 h1 h2 h7 h8 h9 h12 h13 true_and and_true|fail) only[go_sem,↓reduceIte,h0,h1,h2,h7,h8,h9,h12,h13,true_and,and_true]
    simp;omega
  clear h0 h1 h2 h7 h8 h9 h12 h13
  rintro fr _ ⟨h0,h1,h2,h7,h8,h9,h10,h12,h13,rfl⟩
  simp+decide (disch:=first|omega|rfl|(simp+decide only[go_sem,↓reduceIte,h0,h1,h2,h7,h8,h9,h10,h12,h13,Qbu]<;>rfl)|fail) only[go_sem,↓reduceIte,h0,h1,h2,h7,h8,h9,h10,h12,h13,Qbu]
  refine Qbt (m:=w.length-(i+1)) (by omega) ⟨i+1,c1/65536,_,_,rfl,by omega,by omega,?_,?_,(List.append_cons ..).symm.trans hd,hd2,?_⟩
  ·split<;>omega
  ·simp[hdl]
  ·simp+decide (disch:=first|omega|rfl|(simp+decide only[go_sem,↓reduceIte,h0,h1,h2,h7,h8,h9,h10,h12,h13,true_and,and_true,Qbu,Nat.mod_mod]<;>rfl)|fail) only[go_sem,↓reduceIte,h0,h1,h2,h7,h8,h9,h10,h12,h13,true_and,and_true,Qbu,Nat.mod_mod]
   simp
 ·obtain rfl:i=w.length:=by omega
  rw[List.drop_of_length_le (Nat.le_refl _),Qcp]at hd hd2
  simp only[List.append_nil]at hd
  simp+decide (disch:=first|exact D1 h8|fail) only[go_sem,↓reduceIte,h8]
  refine Q24 (p:= .bool (decide (0<(b:Int)))) rfl (Qd9 _) ?_ T0 rfl ⟨?_,?_⟩
  ·simp[hdl]
  ·rw[<-hd2];simp
  ·rw[List.drop_of_length_le (Nat.le_refl _),hd];simp
end Go.Proofs.YtdacdnoebgcjhaaGreat
namespace Go.Proofs.YtdacdnoebgcjhaaGreat
open Go Go.FW
set_option linter.unusedSimpArgs false
set_option linter.unusedVariables false
set_option maxRecDepth 100000
theorem Quh{v u:List Nat}{dg n r j:Nat}(hv:Qi v)(hu:Qi u)(hn:2<=n)(hnv:n=v.length)(hju:j+n<u.length)(hd:dg<4294967296)(hr:r<65536)(hul:u.length<2^43):
  Qd Tryz.prog 143 [.pt [.int .u64 dg],.pt [PV.nat v],.pt [.int .i64 n],.pt [.int .u64 r],.pt [PV.nat u],.pt [.int .i64 j]]
   (· = .bool (decide (65536<=dg∨r*65536+u.getD (j+n-2) 0<dg*v.getD (n-2) 0))):=by
 have h1:n-2<v.length:=by omega
 have h2:j+n-2<u.length:=by omega
 have hv1:=Qaj hv h1
 have hu1:=Qaj hu h2
 rw[Qbd h1,Qbd h2]
 refine Qf Ql Tryz.func143 rfl Qaao (by simp[Q60]) fun C hP=> ?_;simp only[Q60,Zo,Zg,Zm,Zc,Zf,Zl,Zh,Zs,Zi,Zb,Zk,Zn,Zu,Zq,Zr,Zz]
 simp+decide (disch:=first|exact D0|fail) only[go_sem,↓reduceIte]
 refine Qv (fun hz=> ?_) (fun hz=> ?_)
 ·simp+decide (disch:=first|exact D0|fail) only[go_sem,↓reduceIte]
  exact Qc (by simp;omega) rfl
 ·have hd':dg<65536:=by omega
  have e1:(n:Int)-2=((n-2:Nat):Int):=by omega
  have e2:((j+n:Nat):Int)-2=((j+n-2:Nat):Int):=by omega
  generalize hvv:v[n-2]=vi at *
  generalize huu:u[j+n-2]=ui at *
  have hm:=Qek hd' hv1
  simp+decide (disch:=first|omega|rfl|(simp+decide only[go_sem,↓reduceIte,e1,e2,hvv,huu,Qj9,Ql2]<;>rfl)|fail) only[go_sem,↓reduceIte,e1,e2,hvv,huu,Qj9,Ql2]
  exact Qc (congrArg PV.bool (decide_eq_decide.2 ⟨fun h=> .inr (by omega),fun h=>by rcases h with h|h<;>omega⟩)) rfl
end Go.Proofs.YtdacdnoebgcjhaaGreat
namespace Go.Proofs.YtdacdnoebgcjhaaGreat
open Go Go.FW
set_option linter.unusedSimpArgs false
set_option linter.unusedVariables false
set_option maxRecDepth 100000
theorem Q01{l post:List Nat}(hv:Qi l)(hl:(l++post).length<2^43)(hlen:0<l.length):
  Qi3 Tryz.prog 112 [.mso B0 0 l.length] 109 (Qay (l++post)) (fun r xs'=>r= .mso B0 0 (nl (val l))/\xs'=Qay (l++post)):=by
 simp only[List.length_append]at hl
 have hlen2:l.length<=(l++post).length:=by simp
 refine Qj7 Ql Tryz.func112 rfl Qzh (by simp[Qwl]) fun C hP=> ?_;simp only[Qwl,Zo,Zg,Zm,Zc,Zf,Zl,Zh,Zs,Zi,Zb,Zk,Zn,Zu,Zq,Zr,Zz]
 simp+decide (disch:=first|exact D0|fail) only[go_sem,↓reduceIte]
 refine Qd7 (fun m fr hp=>m<=l.length/\cut l m=dig (val l)/\fr 0= .mso 1000000 0 l.length/\fr 3= .int .i64 m/\hp=Qx hp0 1000000 ⟨1,109,Qay (l++post),false⟩) l.length ?_ ?_
 ·exact⟨Nat.le_refl _,Qlc hv,rfl,rfl,rfl⟩
 rintro n fr _ ⟨hn,hc,h0,h3,rfl⟩
 simp+decide (disch:=first|exact D2 h0 h3|fail) only[go_sem,↓reduceIte,h0,h3]
 refine Qan (fun hg=> ?_) (fun hg=> ?_)
 ·obtain _|n:=n
  ·omega
  have e:((n+1:Nat):Int)-1=n:=by omega
  have hlt:n<(l++post).length:=by simp;omega
  have hget:(l++post)[n]=l[n]:=by simp[List.getElem_append,show n<l.length by omega]
  simp+decide (disch:=first|exact D4 h0 h3 e hget|fail) only[go_sem,↓reduceIte,h0,h3,e,hget]
  simp only[cut]at hc
  refine Qb (fun hz=> ?_) (fun hz=> ?_)
  ·rw[if_pos (by grind)]at hc
   simp+decide (disch:=first|exact D3 h0 h3 e|fail) only[go_sem,↓reduceIte,h0,h3,e]
   refine Qbt (m:=n) (by omega) ⟨by omega,hc,?_⟩
   simp+decide (disch:=first|exact D3 h0 true_and and_true|fail) only[go_sem,↓reduceIte,h0,true_and,and_true]
  ·rw[if_neg (by grind)]at hc
   have hnl:nl (val l)=n+1:=by rw[nl,<-hc];simp;omega
   simp+decide (disch:=first|exact D2 h0 h3|fail) only[go_sem,↓reduceIte,h0,h3]
   exact Qy7 rfl (Qd9 _) (by simp) (T1 hnl) ⟨rfl,rfl⟩
 ·obtain rfl:n=0:=by omega
  have hnl:nl (val l)=0:=by rw[nl,<-hc,cut];rfl
  simp+decide (disch:=first|exact D2 h0 h3|fail) only[go_sem,↓reduceIte,h0,h3]
  exact Qy7 rfl (Qd9 _) (by simp) (T1 hnl) ⟨rfl,rfl⟩
end Go.Proofs.YtdacdnoebgcjhaaGreat
namespace Go.Proofs.YtdacdnoebgcjhaaGreat
open Go Go.FW
set_option linter.unusedSimpArgs false
set_option linter.unusedVariables false
set_option maxRecDepth 100000
theorem Qku{a:List Nat}{s:Nat}(ha:Qi a)(hla:a.length<2^40)(hs:s<=15)(hne:val a≠0):Qle Tryz.prog 131 [PV.nat a,.int .i64 s] 109 (fun ys=>ys=Qay (dig (val a*2^s))):=by
 have hda:=Qal ha
 unfold nl at hda
 have hnz:(dig (val a)).length≠0:=by
  intro h;exact hne (Qbq.1 (Qco h))
 refine Q20 Ql Tryz.func131 rfl Qsn (by simp[Qpr]) fun C hP=> ?_;simp only[Qpr,Zo,Zg,Zm,Zc,Zf,Zl,Zh,Zs,Zi,Zb,Zk,Zn,Zu,Zq,Zr,Zz]
 simp+decide (disch:=first|exact D0|fail) only[go_sem,↓reduceIte]
 refine Qa hP (Qa1 ha (by omega)) rfl rfl rfl ?_
 simp+decide (disch:=first|exact D0|fail) only[go_sem,↓reduceIte]
 generalize val a=x at *
 have hxl:=Qj x
 have e1:s/16=0:=Nat.div_eq_of_lt (by omega)
 have e2:s%16=s:=Nat.mod_eq_of_lt (by omega)
 refine Qv (fun hz=>by omega) (fun hz=> ?_)
 simp+decide (disch:=first|exact D0|fail) only[go_sem,↓reduceIte]
 refine Qv (fun hz=>by omega) (fun hz=> ?_)
 simp+decide (disch:=first|exact D0|fail) only[go_sem,↓reduceIte]
 refine Qb (fun hz=>by omega) (fun hz=> ?_)
 simp+decide (disch:=first|exact D0|fail) only[go_sem,↓reduceIte]
 refine Qb (fun hz=>by omega) (fun hz=> ?_)
 simp+decide (disch:=first|omega|rfl|(simp+decide only[go_sem,↓reduceIte,Qkb,Qkc,e1,e2]<;>rfl)|fail) only[go_sem,↓reduceIte,Qkb,Qkc,e1,e2]
 refine Qd7 (fun k fr hp=>∃i c done,k=(dig x).length-i/\i<=(dig x).length/\c<2^s/\done.length=i/\done++Qhf s ((dig x).drop i) c=Qhf s (dig x) 0/\
  fr 5= .int .i64 (0:Nat)/\fr 6= .int .i64 s/\fr 7= .ms 44 ((dig x).length+1)/\fr 45=PV.num x/\fr 46= .int .i64 (dig x).length/\fr 47= .int .i64 i/\
  hp=Qx hp0 44 ⟨1,109,Qay (done++c::List.replicate ((dig x).length-i) 0),false⟩) (dig x).length ?_ ?_
 ·refine⟨0,0,[],rfl,by omega,Nat.pow_pos (by omega),rfl,rfl,?_⟩
  simp+decide (disch:=first|omega|rfl|(simp+decide only[go_sem,↓reduceIte,true_and,and_true,List.nil_append,Nat.sub_zero]<;>rfl)|fail) only[go_sem,↓reduceIte,true_and,and_true,List.nil_append,Nat.sub_zero]
  simp[List.replicate_succ]
 rintro _ fr _ ⟨i,c,done,rfl,hi,hc,hdl,hd,h5,h6,h7,h45,h46,h47,rfl⟩
 simp+decide (disch:=first|exact D3 h45 h46 h47|fail) only[go_sem,↓reduceIte,h45,h46,h47]
 have hp15:2^s<=2^15:=Nat.pow_le_pow_right (by omega) hs
 refine Qb (fun hg=> ?_) (fun hg=> ?_)
 ·have hi':i<(dig x).length:=by omega
  have hxi:=Qaj hxl hi'
  rw[List.drop_eq_getElem_cons hi',Qhf]at hd
  generalize hxx:(dig x)[i]=xi at *
  obtain⟨z,hz⟩:∃z,(dig x).length-i=z+1:=⟨(dig x).length-i-1,by omega⟩
  have hlt:i<(done++c::List.replicate (z+1) 0).length:=by simp;omega
  have hget:=Qob hdl hlt
  have hsp:=Qv2 (x:=xi) (show s<=16 by omega) hc
  have hcl:=Qte (show s<=16 by omega) hxi
  have hl:=Qadp hs hxi
  simp+decide (disch:=first|omega|rfl|(simp+decide only[go_sem,↓reduceIte,h5,h6,h7,h45,h46,h47,hxx,hz,hget,Qsb,Q26,hsp.2,Qbu]<;>rfl)|fail) only[go_sem,↓reduceIte,h5,h6,h7,h45,h46,h47,hxx,hz,hget,Qsb,Q26,hsp.2,Qbu]
  have hset:∀v u,(done++v::List.replicate (z+1) 0).set (i+1) u=(done++[v])++u::List.replicate z 0:=fun v u=>by
   rw[List.append_cons,List.replicate_succ,Qbu (by simp[hdl])]
  rw[Q2t (by simp;omega),hset,Nat.mod_eq_of_lt (by omega:xi*2^s/65536<65536)]
  simp+decide (disch:=first|exact D6 h5 h6 h7 h45 h46 h47|fail) only[go_sem,↓reduceIte,h5,h6,h7,h45,h46,h47]
  refine Qbt (m:=(dig x).length-(i+1)) (by omega) ⟨i+1,xi*2^s/65536,done++[xi*2^s%65536+c],rfl,by omega,hcl,by simp[hdl],(List.append_cons ..).symm.trans hd,?_⟩
  simp+decide (disch:=first|exact D8 h5 h6 h7 h45 h46 h47 true_and and_true|fail) only[go_sem,↓reduceIte,h5,h6,h7,h45,h46,h47,true_and,and_true]
  rw[show(dig x).length-(i+1)=z by omega]
 ·obtain rfl:i=(dig x).length:=by omega
  rw[List.drop_of_length_le (Nat.le_refl _),Qhf]at hd
  have hlim:=Qqp hs (dig x) 0 hxl (Nat.pow_pos (by omega))
  have hvs:=Qv1 s (dig x) 0
  have hln:=Qos s (dig x) 0
  rw[Q3,Nat.add_zero]at hvs
  rw[<-hd]at hlim hvs hln
  have hnz2:x*2^s≠0:=Nat.mul_ne_zero hne (Nat.ne_of_gt (Nat.pow_pos (by omega)))
  simp+decide (disch:=first|omega|rfl|(simp+decide only[go_sem,↓reduceIte,h7,Nat.sub_self,List.replicate_zero]<;>rfl)|fail) only[go_sem,↓reduceIte,h7,Nat.sub_self,List.replicate_zero]
  have ht:=Q01 (l:=done++[c]) (post:=[]) hlim (by simp[hdl];omega) (by simp)
  rw[List.append_nil,hvs]at ht
  refine Qqk hP ht (β:=44) T0 (Qd9 _) (by simp) (by simp[toB,hln]) rfl ?_
  rintro r xs' _ _ ⟨rfl,rfl⟩
  simp+decide (disch:=first|omega|rfl|(simp+decide only[go_sem,↓reduceIte,Qfx]<;>rfl)|fail) only[go_sem,↓reduceIte,Qfx]
  refine⟨4,44,nl (x*2^s),_,rfl,by simp+decide (disch:=first|exact D0|fail) only[go_sem,↓reduceIte],rfl,by simp+decide (disch:=first|exact D0|fail) only[go_sem,↓reduceIte];rfl,Qd9 _,?_,?_⟩
  ·have:= @Qfv (x*2^s);omega
  ·rw[<-hvs,<-List.map_take,Q51 hlim]
end Go.Proofs.YtdacdnoebgcjhaaGreat
namespace Go.Proofs.YtdacdnoebgcjhaaGreat
open Go Go.FW
set_option linter.unusedSimpArgs false
set_option linter.unusedVariables false
set_option maxRecDepth 100000
theorem Q02{a:List Nat}{s:Nat}(ha:Qi a)(hla:a.length<2^42)(hs:s<=15):Qd Tryz.prog 142 [PV.nat a,.int .i64 s] (· =PV.num (val a/2^s)):=by
 have e1:s/16=0:=Nat.div_eq_of_lt (by omega)
 have e2:s%16=s:=Nat.mod_eq_of_lt (by omega)
 refine Qf Ql Tryz.func142 rfl Qaas (by simp[Q64]) fun C hP=> ?_;simp only[Q64,Zo,Zg,Zm,Zc,Zf,Zl,Zh,Zs,Zi,Zb,Zk,Zn,Zu,Zq,Zr,Zz]
 simp+decide (disch:=first|omega|rfl|(simp+decide only[go_sem,↓reduceIte,Qkb,Qkc,e1,e2]<;>rfl)|fail) only[go_sem,↓reduceIte,Qkb,Qkc,e1,e2]
 refine Qb (fun hz=> ?_) (fun hz=> ?_)
 ·have:a=[]:=List.length_eq_zero_iff.1 (by omega)
  subst this
  simp+decide (disch:=first|exact D0|fail) only[go_sem,↓reduceIte]
  exact Qdu (Qld (by simp[val])) rfl
 have e3:((a.length:Int)-((0:Nat):Int))=((a.length:Nat):Int):=by omega
 simp+decide (disch:=first|exact D1 e3|fail) only[go_sem,↓reduceIte,e3]
 refine Qw (by repeat (first|exact Qu|exact Qn|exact Qo|exact Qp|exact Qq|apply Qm|apply Qt|apply Qy|apply Q5|apply Q6|apply Qk)) [(8,9),(25,60)] [] (fun k J hp=>∃i done,k=a.length-i/\i<=a.length/\done.length=i/\done++Qgw s (a.drop i)=Qgw s a/\J 25= .int .i64 i/\
  hp=Qx hp0 22 ⟨1,109,Qay (done++List.replicate (a.length-i) 0),false⟩) a.length ?_ ?_
 ·refine⟨0,[],rfl,by omega,rfl,rfl,?_⟩
  simp+decide (disch:=first|omega|rfl|(simp+decide only[go_sem,↓reduceIte,true_and,and_true,List.nil_append,Nat.sub_zero]<;>rfl)|fail) only[go_sem,↓reduceIte,true_and,and_true,List.nil_append,Nat.sub_zero]
  simp
 rintro _ J _ ⟨i,done,rfl,hi,hdl,hd,h25,rfl⟩
 simp+decide (disch:=first|exact D1 h25|fail) only[go_sem,↓reduceIte,h25]
 refine Qb (fun hg=> ?_) (fun hg=> ?_)
 ·have hi':i<a.length:=by omega
  have hai:=Qaj ha hi'
  rw[Q3a hi']at hd
  generalize hxx:a[i]=xi at *
  have hlen:=Qpl (n:=a.length-i) hdl (by omega:_=a.length)
  simp+decide (disch:=first|exact D2 h25 hxx|fail) only[go_sem,↓reduceIte,h25,hxx]
  refine Qb (fun hq=> ?_) (fun hq=> ?_)
  ·have hq':i+1<a.length:=by omega
   have haj:=Qaj ha hq'
   rw[Qbd hq']at hd
   simp+decide (disch:=first|omega|rfl|(simp+decide only[go_sem,↓reduceIte,h25,Qka,Qtd,Qod]<;>rfl)|fail) only[go_sem,↓reduceIte,h25,Qka,Qtd,Qod]
   refine Qh (a.length-(i+1)) (by omega) ⟨i+1,_,rfl,by omega,by simp[hdl],(List.append_cons ..).symm.trans hd,?_⟩
   simp+decide (disch:=first|omega|rfl|(simp+decide only[go_sem,↓reduceIte,h25,true_and,and_true,Qd8,Nat.sub_sub]<;>rfl)|fail) only[go_sem,↓reduceIte,h25,true_and,and_true,Qd8,Nat.sub_sub]
  ·rw[Qbe (by omega),Nat.zero_mul,Nat.zero_add]at hd
   simp+decide (disch:=first|omega|rfl|(simp+decide only[go_sem,↓reduceIte,h25,Qod]<;>rfl)|fail) only[go_sem,↓reduceIte,h25,Qod]
   refine Qh (a.length-(i+1)) (by omega) ⟨i+1,_,rfl,by omega,by simp[hdl],(List.append_cons ..).symm.trans hd,?_⟩
   simp+decide (disch:=first|omega|rfl|(simp+decide only[go_sem,↓reduceIte,h25,true_and,and_true,Qd8,Nat.sub_sub]<;>rfl)|fail) only[go_sem,↓reduceIte,h25,true_and,and_true,Qd8,Nat.sub_sub]
 ·obtain rfl:i=a.length:=by omega
  rw[List.drop_of_length_le (Nat.le_refl _),Qgw,List.append_nil]at hd
  simp+decide (disch:=first|omega|rfl|(simp+decide only[go_sem,↓reduceIte,Nat.sub_self,List.replicate_zero,List.append_nil]<;>rfl)|fail) only[go_sem,↓reduceIte,Nat.sub_self,List.replicate_zero,List.append_nil]
  rw[hd]
  refine Qff hP (Qa1 (Qqq s a) (by rw[Qkt];exact hla)) (Qjn rfl (Qkt s a).symm) rfl fun hp'=> ?_
  simp+decide (disch:=first|exact D0|fail) only[go_sem,↓reduceIte]
  exact Qc (by rw[Qv4 (by omega) a ha]) rfl
theorem Qx0{x V d q:Nat}(hd:0<d)(h:q=V/d):(V%d*65536+x)/d+65536*q=(x+65536*V)/d/\(V%d*65536+x)%d=(x+65536*V)%d:=by
 subst h
 have e:x+65536*V=(V%d*65536+x)+d*(65536*(V/d)):=by
  have:=Nat.div_add_mod V d
  calc x+65536*V=x+65536*(d*(V/d)+V%d):=by rw[this]
   _=_:=by rw[Nat.mul_add,Nat.mul_left_comm];omega
 rw[e,Nat.add_mul_div_left _ _ hd,Nat.add_mul_mod_self_left]
 exact⟨rfl,rfl⟩
theorem Qx1{a:List Nat}{d:Nat}(ha:Qi a)(hla:a.length<2^42)(hd:0<d)(hd2:d<65536):Qd Tryz.prog 129 [PV.nat a,.int .u16 d] (· = .tup [PV.num (val a/d),.int .u16 (val a%d:Nat)]):=by
 refine Qf Ql Tryz.func129 rfl Qaam (by simp[Q6y]) fun C hP=> ?_;simp only[Q6y,Zo,Zg,Zm,Zc,Zf,Zl,Zh,Zs,Zi,Zb,Zk,Zn,Zu,Zq,Zr,Zz]
 simp+decide (disch:=first|exact D0|fail) only[go_sem,↓reduceIte]
 refine Qw (by repeat (first|exact Qu|exact Qn|exact Qo|exact Qp|exact Qq|apply Qm|apply Qt|apply Qy|apply Q5|apply Q6|apply Qk)) [(7,8),(15,38)] [] (fun k J hp=>∃qs,k<=a.length/\qs.length=a.length-k/\Qi qs/\val qs=val (a.drop k)/d/\J 7= .int .u32 (val (a.drop k)%d:Nat)/\J 8= .int .i64 ((k:Int)-1)/\
  hp=Qx hp0 11 ⟨1,109,Qay (List.replicate k 0++qs),false⟩) a.length ?_ ?_
 ·refine⟨[],Nat.le_refl _,by simp,Qcb,by simp[val],?_⟩
  simp+decide (disch:=first|exact D2 true_and and_true|fail) only[go_sem,↓reduceIte,true_and,and_true]
  simp[val]
 rintro k J _ ⟨qs,hk,hql,hqs,hv,h7,h8,rfl⟩
 simp+decide (disch:=first|exact D2 h7 h8|fail) only[go_sem,↓reduceIte,h7,h8]
 have hr:=Nat.mod_lt (val (a.drop k)) hd
 refine Qb (fun hg=> ?_) (fun hg=> ?_)
 ·obtain _|n:=k
  ·omega
  have hn:n<a.length:=by omega
  have han:=Qaj ha hn
  have e:((n+1:Nat):Int)-1=n:=by omega
  have hst:=Qx0 (x:=a[n]) hd hv
  rw[<-Qca hn]at hst
  have hlt:(val (a.drop (n+1))%d*65536+a[n])/d<65536:=by
   rw[Nat.div_lt_iff_lt_mul hd]
   have:(val (a.drop (n+1))%d+1)*65536<=d*65536:=Nat.mul_le_mul_right _ hr
   omega
  generalize hxx:a[n]=xn at *
  generalize val (a.drop (n+1))%d=r at *
  have hlen:n<(List.replicate (n+1) 0++qs).length:=by simp;omega
  simp+decide (disch:=first|omega|rfl|(simp+decide only[go_sem,↓reduceIte,h7,h8,e,hxx,Qka,Qv0,Qy8,Qc3]<;>rfl)|fail) only[go_sem,↓reduceIte,h7,h8,e,hxx,Qka,Qv0,Qy8,Qc3]
  refine Qh n (by omega) ⟨(r*65536+xn)/d::qs,by omega,?_,?_,?_,?_⟩
  ·simp;omega
  ·rw[Qas];exact⟨hlt,hqs⟩
  ·rw[val,hst.1]
  ·simp+decide (disch:=first|exact D5 h7 h8 true_and and_true hst.2|fail) only[go_sem,↓reduceIte,h7,h8,true_and,and_true,hst.2]
   rw[Nat.mod_eq_of_lt hlt,List.replicate_succ',List.append_assoc,List.singleton_append,Qbu (by simp)]
 ·obtain rfl:k=0:=by omega
  rw[List.drop_zero]at hv h7
  have hlt:=Nat.mod_lt (val a) hd
  simp+decide (disch:=first|omega|rfl|(simp+decide only[go_sem,↓reduceIte,h7,h8,List.replicate_zero,List.nil_append]<;>rfl)|fail) only[go_sem,↓reduceIte,h7,h8,List.replicate_zero,List.nil_append]
  refine Qff hP (Qa1 hqs (by omega)) (Qjn rfl (by omega)) rfl fun hp'=> ?_
  simp+decide (disch:=first|exact D1 h7|fail) only[go_sem,↓reduceIte,h7]
  refine Qdd rfl rfl rfl (Qfg (by rw[hv])) (Qfg ?_)
  rw[Nat.mod_eq_of_lt (by omega)]
end Go.Proofs.YtdacdnoebgcjhaaGreat
namespace Go.Proofs.YtdacdnoebgcjhaaGreat
open Go Go.FW
set_option linter.unusedSimpArgs false
set_option linter.unusedVariables false
set_option maxRecDepth 100000
theorem Qq1{x:Nat}(h:x<65536):Qd Tryz.prog 114 [.int .u16 x] (· = .int .i64 (Lib.bitLen x:Nat)):=
 Qxv (by simp[Qlw];exact⟨rfl,by decide⟩) (fun w=>Qx2 x w (by omega) (by omega)) (fun _ _=>Q4.int _ _)
theorem Qkv{x:Nat}(h:x<65536):Lib.bitLen x<=16:=Lib.bitLen_le x 16 (by omega) (by omega)
theorem Qmk{x:Nat}(h:x<65536)(h0:x≠0):1<=Lib.bitLen x:=by
 have:=Lib.bitLen_half x h0 (by omega);omega
theorem Qx3:Lib.bitLen 0=0:=by decide
theorem Q03:∀(n x:Nat),Lib.bitLen x=n->x≠0->x<65536->2^n<=2*x/\x<2^n:=by
 intro n
 induction n with
 |zero=>intro x h h0 hx;have:=Qmk hx h0;omega
 | succ n ih=>
  intro x h h0 hx
  have e:=Lib.bitLen_half x h0 (by omega)
  by_cases h2:x/2=0
  ·have:x=1:=by omega
   subst this
   have:n=0:=by rw[h]at e;simp[Qx3]at e;exact e
   subst this;simp
  ·have:=ih (x/2) (by omega) h2 (by omega)
   rw[Nat.pow_succ];omega
theorem Qmz{x:Nat}(h:x<65536):Qd Tryz.prog 130 [.int .u16 x] (· = .int .i64 (16-Lib.bitLen x:Nat)):=by
 have:=Qkv h
 refine Qf Ql Tryz.func130 rfl Qaat (by simp[Q65]) fun C hP=> ?_;simp only[Q65,Zo,Zg,Zm,Zc,Zf,Zl,Zh,Zs,Zi,Zb,Zk,Zn,Zu,Zq,Zr,Zz]
 simp+decide (disch:=first|exact D0|fail) only[go_sem,↓reduceIte]
 refine Qa hP (Qq1 h) rfl rfl rfl ?_
 simp+decide (disch:=first|exact D0|fail) only[go_sem,↓reduceIte]
 exact Qc (by congr 1;omega) rfl
theorem Qtp{a:List Nat}(ha:Qi a)(hla:a.length<2^40):Qd Tryz.prog 86 [PV.nat a] (fun r=>∃n:Nat,r= .int .i64 n/\(n=0↔val a=0)):=by
 have hd:=Qal ha
 unfold nl at hd
 refine Qf Ql Tryz.func86 rfl Qad5 (by simp[c86]) fun C hP=> ?_;simp only[c86,Zo,Zg,Zm,Zc,Zf,Zl,Zh,Zs,Zi,Zb,Zk,Zn,Zu,Zq,Zr,Zz]
 simp+decide (disch:=first|exact D0|fail) only[go_sem,↓reduceIte]
 refine Qa hP (Qa1 ha (by omega)) rfl rfl rfl ?_
 simp+decide (disch:=first|exact D0|fail) only[go_sem,↓reduceIte]
 refine Qb (fun hz=> ?_) (fun hz=> ?_)
 ·simp+decide (disch:=first|exact D0|fail) only[go_sem,↓reduceIte]
  have:val a=0:=Qbq.1 (List.length_eq_zero_iff.1 (by omega))
  exact⟨rfl,_,Q8 _,0,rfl,by simp[this]⟩
 ·have hne:val a≠0:=fun h=>by rw[h,Qax]at hz;simp at hz
  have hlast:=Qpk (val a)
  have hlx:=Qj (val a)
  generalize val a=x at *
  obtain⟨k,hk⟩:∃k,(dig x).length=k+1:=⟨(dig x).length-1,by omega⟩
  have hlt:k<(dig x).length:=by omega
  have hxk:=Qaj hlx hlt
  have hnz:(dig x)[k]≠0:=by
   intro h;apply hlast
   rw[List.getLast?_eq_getElem?,hk,Nat.add_sub_cancel,List.getElem?_eq_getElem hlt,h]
  have e:((k+1:Nat):Int)-1=k:=by omega
  generalize hxx:(dig x)[k]=xi at *
  have hb:=Qkv hxk
  have hb1:=Qmk hxk hnz
  simp+decide (disch:=first|exact D3 hk e hxx|fail) only[go_sem,↓reduceIte,hk,e,hxx]
  refine Qa hP (Qq1 hxk) rfl rfl rfl ?_
  have e2:(16:Int)*(k:Int)=((16*k:Nat):Int):=by omega
  simp+decide (disch:=first|exact D1 e2|fail) only[go_sem,↓reduceIte,e2]
  exact⟨rfl,_,Q8 _,16*k+Lib.bitLen xi,rfl,by omega⟩
theorem Qahu(i:Nat):2^(16*i)=65536^i:=by rw[Nat.pow_mul]
theorem Qnn{a:List Nat}(ha:Qi a)(hla:a.length<2^40):Qd Tryz.prog 127 [PV.nat a] (· =if nl (val a)<=4 then .tup [.int .u64 (val a),.bool true]else .tup [.int .u64 0,.bool false]):=by
 have hd:=Qal ha
 unfold nl at hd
 refine Qf Ql Tryz.func127 rfl Qaai (by simp[Q6u]) fun C hP=> ?_;simp only[Q6u,Zo,Zg,Zm,Zc,Zf,Zl,Zh,Zs,Zi,Zb,Zk,Zn,Zu,Zq,Zr,Zz]
 simp+decide (disch:=first|exact D0|fail) only[go_sem,↓reduceIte]
 refine Qa hP (Qa1 ha (by omega)) rfl rfl rfl ?_
 simp+decide (disch:=first|exact D0|fail) only[go_sem,↓reduceIte]
 have hlx:=Qj (val a)
 have Qch:=Q3 (val a)
 unfold nl
 generalize val a=x at *
 refine Qb (fun hz=> ?_) (fun hz=> ?_)
 ·simp+decide (disch:=first|exact D0|fail) only[go_sem,↓reduceIte]
  rw[if_neg (by omega)]
  exact Qdd rfl rfl rfl (Q8 _) (Q8 _)
 ·simp+decide (disch:=first|exact D0|fail) only[go_sem,↓reduceIte]
  rw[if_pos (by omega)]
  refine Qw (by repeat (first|exact Qu|exact Qn|exact Qo|exact Qp|exact Qq|apply Qm|apply Qt|apply Qy|apply Q5|apply Q6|apply Qk)) [(4,6),(14,26)] [] (fun k J hp=>∃i,k=(dig x).length-i/\i<=(dig x).length/\J 14= .int .i64 i/\J 4= .int .u64 (val ((dig x).take i))/\hp=hp0) (dig x).length ?_ ?_
  ·refine⟨0,rfl,by omega,?_⟩
   simp+decide (disch:=first|omega|rfl|(simp+decide only[go_sem,↓reduceIte,true_and,and_true,List.take_zero]<;>rfl)|fail) only[go_sem,↓reduceIte,true_and,and_true,List.take_zero]
   simp[val]
  rintro _ J _ ⟨i,rfl,hi,h14,h4,rfl⟩
  simp+decide (disch:=first|exact D2 h14 h4|fail) only[go_sem,↓reduceIte,h14,h4]
  refine Qb (fun hg=> ?_) (fun hg=> ?_)
  ·have hi':i<(dig x).length:=by omega
   have hxi:=Qaj hlx hi'
   have hts:=Qew hi'
   have hvt:=Qdj hlx i (by omega)
   generalize hxx:(dig x)[i]=xi at *
   have e2:(16:Int)*(i:Int)=((16*i:Nat):Int):=by omega
   have hb:xi*2^(16*i)+2^(16*i)<=18446744073709551616:=by
    have h3:2^(16*i)<=2^48:=Nat.pow_le_pow_right (by omega) (by omega)
    have:(xi+1)*2^(16*i)<=65536*2^48:=Nat.mul_le_mul (by omega) h3
    rw[Nat.add_mul]at this;omega
   have hpp:0<2^(16*i):=Nat.pow_pos (by omega)
   rw[<-Qahu]at hts hvt
   have hor:(val ((dig x).take i)|||xi*2^(16*i))=val ((dig x).take (i+1)):=by
    rw[Nat.or_comm,Qne hvt,hts,Nat.mul_comm,Nat.add_comm]
   simp+decide (disch:=first|omega|rfl|(simp+decide only[go_sem,↓reduceIte,h14,h4,hxx,e2,Qsa,Qvz,hor]<;>rfl)|fail) only[go_sem,↓reduceIte,h14,h4,hxx,e2,Qsa,Qvz,hor]
   refine Qh ((dig x).length-(i+1)) (by omega) ⟨i+1,rfl,by omega,?_⟩
   simp+decide (disch:=first|exact D3 h14 true_and and_true|fail) only[go_sem,↓reduceIte,h14,true_and,and_true]
  ·obtain rfl:i=(dig x).length:=by omega
   rw[List.take_length,Qch]at h4
   simp+decide (disch:=first|exact D1 h4|fail) only[go_sem,↓reduceIte,h4]
   exact Qdd rfl rfl rfl (Q8 _) (Q8 _)
end Go.Proofs.YtdacdnoebgcjhaaGreat
namespace Go.Proofs.YtdacdnoebgcjhaaGreat
open Go Go.FW
set_option linter.unusedSimpArgs false
set_option linter.unusedVariables false
set_option maxRecDepth 100000
set_option maxHeartbeats 2000000 in
theorem Q3r{u v ex:List Nat}(hu:Qi u)(hv:Qi v)(hn:2<=v.length)(hlt:v.length<u.length)(htop:32768<=v.getD (v.length-1) 0)(hinit:val (u.drop (u.length-v.length))<val v)(hul:u.length+ex.length<2^42):
  Qi3 Tryz.prog 132 [.mso B0 0 u.length,PV.nat v] 109 (Qay (u++ex)) (fun r xs'=>r=PV.num (val u/val v)/\∃l,xs'=Qay (l++ex)/\Qi l/\l.length=u.length/\val l=val u%val v):=by
 obtain⟨n,hnv⟩:∃n,v.length=n+2:=⟨v.length-2,by omega⟩
 have e1:(u.length:Int)-(v.length:Int)=((u.length-v.length:Nat):Int):=by omega
 have hvt:=Qzb hnv
 have hv0:=Qdj hv n (by omega)
 have hvlt:=Qev hv
 have hv1:=Qaj hv (show n+1<v.length by omega)
 have hv2:=Qaj hv (show n<v.length by omega)
 have hg1:v[n+1]'(by omega)=v.getD (n+1) 0:=(Qbd _).symm
 have hg2:v[n]'(by omega)=v.getD n 0:=(Qbd _).symm
 have htop':32768<=v.getD (n+1) 0:=by rw[hnv]at htop;exact htop
 rw[hg1]at hv1
 rw[hg2]at hv2
 rw[hnv]at hvlt
 have hvp:0<val v:=by
  rw[hvt]
  have:0<65536^n:=Nat.pow_pos (by omega)
  have:0<(v.getD (n+1) 0*65536+v.getD n 0)*65536^n:=Nat.mul_pos (by omega) this
  omega
 refine Qj7 Ql Tryz.func132 rfl Qaa2 (by simp[Q7e]) fun C hP=> ?_;simp only[Q7e,Zo,Zg,Zm,Zc,Zf,Zl,Zh,Zs,Zi,Zb,Zk,Zn,Zu,Zq,Zr,Zz]
 simp+decide (disch:=first|exact D1 e1|fail) only[go_sem,↓reduceIte,e1]
 refine Qv5 (by repeat (first|exact Qu|exact Qn|exact Qo|exact Qp|exact Qq|apply Qm|apply Qt|apply Qy|apply Q5|apply Q6|apply Qk)) [(7,11),(24,105)] [7,9,10] (fun k J hp=>∃l qs,k+qs.length=u.length-v.length/\Qi l/\l.length=u.length/\Qi qs/\val (l.drop k)<val v/\val u=val l+val v*(65536^k*val qs)/\J 7= .mp 7 0 0/\
  hp 7=some ⟨1,3,[.int .i64 ((k:Int)-1)],false⟩/\hp 1000000=some ⟨1,109,Qay (l++ex),false⟩/\hp 18=some ⟨1,109,Qay (List.replicate k 0++qs),false⟩/\
  hp 3=some ⟨1,46,[PV.nat v],false⟩/\hp 5=some ⟨1,3,[.int .i64 v.length],false⟩) (u.length-v.length) ?_ ?_
 ·refine⟨u,[],rfl,hu,rfl,Qcb,hinit,by simp[val],?_⟩
  simp+decide (disch:=first|exact D2 true_and and_true|fail) only[go_sem,↓reduceIte,true_and,and_true]
  simp
 intro F hF
 have hF2:F 2= .rb 1000000 0 u.length:=by rw[hF];simp+decide (disch:=first|exact D0|fail) only[go_sem,↓reduceIte]
 have hF3:F 3= .mp 3 0 0:=by rw[hF];simp+decide (disch:=first|exact D0|fail) only[go_sem,↓reduceIte]
 have hF5:F 5= .mp 5 0 0:=by rw[hF];simp+decide (disch:=first|exact D0|fail) only[go_sem,↓reduceIte]
 have hF6:F 6= .ms 18 (u.length-v.length):=by rw[hF];simp+decide (disch:=first|exact D0|fail) only[go_sem,↓reduceIte]
 have hkF:∀β,[7,9,10].contains β=true->Qaq β F=F:=fun β h=>by rw[hF];exact Qgy h
 have hk9:=hkF 9 rfl
 have hk10:=hkF 10 rfl
 have hk7:=hkF 7 rfl
 have hkk:Qad [9,10] F=F:=by rw[hF];exact Quf rfl
 clear hkF hF
 rintro k J h ⟨l,qs,hsum,hl,hll,hqs,hred,Qch,hJ7,hh7,hhB,hh18,hh3,hh5⟩
 simp+decide (disch:=first|exact D10 hJ7 hh7 hhB hh18 hh3 hh5 hF2 hF3 hF5 hF6|fail) only[go_sem,↓reduceIte,hJ7,hh7,hhB,hh18,hh3,hh5,hF2,hF3,hF5,hF6]
 refine Qb (fun hg=> ?_) (fun hg=> ?_)
 ·obtain _|j:=k
  ·omega
  have e2:((j+1:Nat):Int)-1=j:=by omega
  have e3:((n+2:Nat):Int)-1=((n+1:Nat):Int):=by omega
  have e4:((j+(n+2):Nat):Int)-1=((j+(n+1):Nat):Int):=by omega
  obtain⟨pre,w,post,hlw,hpl,hwl,hpre,hw,hpost,hpost0,hdj,hwlt,w0,hw0,hwv⟩:=Qadr (n:=n) hl (by omega) (by omega) hred
  have hl2:=Qaj hl (show j+(n+2)<l.length by omega)
  have hl1:=Qaj hl (show j+(n+1)<l.length by omega)
  have hl0:=Qaj hl (show j+n<l.length by omega)
  have hlel:(l++ex).length=u.length+ex.length:=by rw[List.length_append,hll]
  have hgl2:(l++ex)[j+(n+2)]'(by omega)=l.getD (j+(n+2)) 0:=by rw[List.getElem_append_left (by omega)];exact(Qbd _).symm
  have hgl1:(l++ex)[j+(n+1)]'(by omega)=l.getD (j+(n+1)) 0:=by rw[List.getElem_append_left (by omega)];exact(Qbd _).symm
  rw[<-Qbd (by omega)]at hl2 hl1
  have htk2:(Qay (l++ex)).take u.length=Qay l:=by rw[<-List.map_take,<-hll,List.take_left]
  have hlw2:l++ex=pre++(w++(post++ex)):=by rw[hlw];simp
  generalize l.getD (j+(n+2)) 0=w2 at *
  generalize l.getD (j+(n+1)) 0=w1 at *
  simp+decide (disch:=first|omega|rfl|(simp+decide only[go_sem,↓reduceIte,hJ7,hh7,hhB,hh18,hh3,hh5,hF2,hF3,hF5,hF6,hnv,e2,e3,e4,hgl2,hgl1,hg1,Qj9,Ql2,Qi4,Qc3]<;>rfl)|fail) only[go_sem,↓reduceIte,hJ7,hh7,hhB,hh18,hh3,hh5,hF2,hF3,hF5,hF6,hnv,e2,e3,e4,hgl2,hgl1,hg1,Qj9,Ql2,Qi4,Qc3]
  have hwl2:w.length=n+3:=hwl
  have hdigit:=Q0m hvt hwv hw0 (by rw[<-Qbd (show j+n<l.length by omega)]at hl0;omega) (by omega:0<v.getD (n+1) 0)
  have hhi:=Q6a hvt hwv hv0 hwlt (Nat.pow_pos (by omega))
  have hdm:=Nat.div_add_mod (w2*65536+w1) (v.getD (n+1) 0)
  have hdlt:(w2*65536+w1)/v.getD (n+1) 0<131072:=by rw[Nat.div_lt_iff_lt_mul (by omega)];omega
  have hrlt:=Nat.mod_lt (w2*65536+w1) (by omega:0<v.getD (n+1) 0)
  rw[Nat.mul_comm]at hdm
  generalize hd0:(w2*65536+w1)/v.getD (n+1) 0=d0 at *
  generalize hr0:(w2*65536+w1)%v.getD (n+1) 0=r0 at *
  have hcomm:∀(h:HP) v w,Qx (Qx h 10 v) 9 w=Qx (Qx h 9 w) 10 v:=fun h v w=>Q3d 10 9 (by decide) h v w
  refine Q91 (fun J=>J 7= .mp 7 0 0/\J 52= .int .u64 d0/\J 53= .int .u64 (w2*65536+w1:Nat)) (T3 hJ7 true_and and_true) ?_
  clear hJ7
  rintro J ⟨hJ7,hJ52,hJ53⟩
  refine Q6b (by repeat (first|exact Qu|exact Qn|exact Qo|exact Qp|exact Qq|apply Qm|apply Qt|apply Qy|apply Q5|apply Q6|apply Qk)) [9,10] (fun J2 hp2=>J2 7= .mp 7 0 0/\J2 9= .mp 9 0 0/\J2 10= .mp 10 0 0/\hp2=Qx (Qx h 9 ⟨1,83,[.int .u64 d0],false⟩) 10 ⟨1,83,[.int .u64 r0],false⟩) ?_ ?_
  ·intro F' hF'
   have hF'3:F' 3= .mp 3 0 0:=by rw[hF'];simp+decide (disch:=first|exact D1 hF3|fail) only[go_sem,↓reduceIte,hF3]
   have hF'5:F' 5= .mp 5 0 0:=by rw[hF'];simp+decide (disch:=first|exact D1 hF5|fail) only[go_sem,↓reduceIte,hF5]
   have hk9':Qaq 9 F'=F':=by rw[hF'];exact Qgy rfl
   have hk10':Qaq 10 F'=F':=by rw[hF'];exact Qgy rfl
   clear hF'
   repeat' (first|refine Qgf ?_ ?_|simp+decide (disch:=first|omega|rfl|(simp+decide only[go_sem,↓reduceIte,hJ7,hJ52,hJ53,hh3,hh5,hF'3,hF'5,hk9',hk10',hnv,e3,hg1,Qc3]<;>rfl)|fail) only[go_sem,↓reduceIte,hJ7,hJ52,hJ53,hh3,hh5,hF'3,hF'5,hk9',hk10',hnv,e3,hg1,Qc3])
   all_goals refine Qse (J:=_) ?_
   all_goals simp+decide (disch:=first|exact D5 hJ7 hr0 hcomm true_and and_true|fail) only[go_sem,↓reduceIte,hJ7,hr0,hcomm,true_and,and_true]
  clear hJ7 hJ52 hJ53 J
  rintro J _ ⟨hJ7,hJ9,hJ10,rfl⟩
  simp+decide (disch:=first|omega|rfl|(simp+decide only[go_sem,↓reduceIte,hJ7,hJ9,hJ10,hF2,hF3,hF5,hF6,caps,List.all_cons,List.all_nil,List.cons_append,List.nil_append,true_and]<;>rfl)|fail) only[go_sem,↓reduceIte,hJ7,hJ9,hJ10,hF2,hF3,hF5,hF6,caps,List.all_cons,List.all_nil,List.cons_append,List.nil_append,true_and]
  refine Qv5 (by repeat (first|exact Qu|exact Qn|exact Qo|exact Qp|exact Qq|apply Qm|apply Qt|apply Qy|apply Q5|apply Q6|apply Qk)) [(62,77)] [] (fun m J hp=>∃d r,m=d/\d*v.getD (n+1) 0+r=w2*65536+w1/\val w<(d+1)*val v/\hp=Qx (Qx h 9 ⟨1,83,[.int .u64 d],false⟩) 10 ⟨1,83,[.int .u64 r],false⟩) d0 ?_ ?_
  ·exact⟨d0,r0,rfl,hdm,hdigit,rfl⟩
  intro F1 hF1
  have hE9:F1 9= .mp 9 0 0:=by rw[hF1,Qbi];simp+decide (disch:=first|exact D1 hJ9|fail) only[go_sem,↓reduceIte,hJ9]
  have hE10:F1 10= .mp 10 0 0:=by rw[hF1,Qbi];simp+decide (disch:=first|exact D1 hJ10|fail) only[go_sem,↓reduceIte,hJ10]
  have hE11:F1 11= .fn 143 [] [.mp 9 0 0,.mp 3 0 0,.mp 5 0 0,.mp 10 0 0,.rb 1000000 0 u.length,.mp 7 0 0]:=by rw[hF1,Qbi];simp+decide (disch:=first|exact D0|fail) only[go_sem,↓reduceIte]
  have hE3:F1 3= .mp 3 0 0:=by rw[hF1,Qbi];simp+decide (disch:=first|exact D1 hF3|fail) only[go_sem,↓reduceIte,hF3]
  have hE5:F1 5= .mp 5 0 0:=by rw[hF1,Qbi];simp+decide (disch:=first|exact D1 hF5|fail) only[go_sem,↓reduceIte,hF5]
  rintro d J2 _ ⟨_,r,rfl,hdr,hdW,rfl⟩
  have hd17:d<131072:=by
   have:d*32768<=d*v.getD (n+1) 0:=Nat.mul_le_mul_left _ htop'
   omega
  simp+decide (disch:=first|exact D3 hE9 hE10 hE11|fail) only[go_sem,↓reduceIte,hE9,hE10,hE11]
  refine Qxw (by repeat (first|exact Qu|exact Qn|exact Qo|exact Qp|exact Qq|apply Qm|apply Qt|apply Qy|apply Q5|apply Q6|apply Qk)) [(62,67)] [] (fun J hp=>J 67= .bool (decide (r<65536/\(65536<=d∨r*65536+l.getD (j+n) 0<d*v.getD n 0)))/\hp=Qx (Qx h 9 ⟨1,83,[.int .u64 d],false⟩) 10 ⟨1,83,[.int .u64 r],false⟩) ?_ ?_
  ·refine Qan (fun hr=> ?_) (fun hr=> ?_)
   ·simp+decide (disch:=first|exact D3 hE9 hE10 hE11|fail) only[go_sem,↓reduceIte,hE9,hE10,hE11]
    refine Q21 hP (Quh (dg:=d) (r:=r) (j:=j) hv hl hn rfl (by omega) (by omega) (by omega) (by omega)) (by simp+decide (disch:=first|omega|rfl|(simp+decide only[go_sem,↓reduceIte,Qce,hhB,hh3,hh5,hh7,e2,List.append_nil,List.nil_append,List.getElem?_cons_zero,List.drop_zero,List.take_of_length_le]<;>rfl)|fail) only[go_sem,↓reduceIte,Qce,hhB,hh3,hh5,hh7,e2,List.append_nil,List.nil_append,List.getElem?_cons_zero,List.drop_zero,List.take_of_length_le];simp only[List.drop_zero,htk2]) rfl rfl ?_
    simp+decide (disch:=first|exact D1 hnv|fail) only[go_sem,↓reduceIte,hnv]
    refine Qse ⟨?_,rfl⟩
    simp+decide (disch:=first|exact D0|fail) only[go_sem,↓reduceIte]
    rw[show j+(n+2)-2=j+n by omega,show n+2-2=n by omega]
    exact congrArg PV.bool (decide_eq_decide.2 ⟨fun h=>⟨by omega,h⟩,fun h=>h.2⟩)
   ·simp+decide (disch:=first|exact D3 hE9 hE10 hE11|fail) only[go_sem,↓reduceIte,hE9,hE10,hE11]
    refine Qse ⟨?_,rfl⟩
    simp+decide (disch:=first|exact D0|fail) only[go_sem,↓reduceIte]
    simp;omega
  rintro J3 _ ⟨h67,rfl⟩
  simp (disch:=decide) only[Qbi,Qfy]
  simp+decide (disch:=first|exact D1 h67|fail) only[go_sem,↓reduceIte,h67]
  refine Qb (fun ht=> ?_) (fun ht=> ?_)
  ·obtain⟨hr,ht⟩:=ht
   have hlt2:val w<d*val v:=by
    rcases ht with ht|ht
    ·exact Nat.lt_of_lt_of_le hwlt (Nat.mul_le_mul_right _ ht)
    ·exact Q58 hvt hwv hw0 hdr ht
   obtain _|d:=d
   ·omega
   have e5:((d+1:Nat):Int)-1=(d:Nat):=by omega
   simp+decide (disch:=first|exact D11 hE9 hE10 hE3 hE5 hh3 hh5 hnv e3 e5 hg1 hcomm|fail) only[go_sem,↓reduceIte,hE9,hE10,hE3,hE5,hh3,hh5,hnv,e3,e5,hg1,hcomm]
   refine Qh d (by omega) ⟨d,r+v.getD (n+1) 0,rfl,?_,hlt2,rfl⟩
   rw[Nat.add_mul]at hdr;omega
  have hd65:d<65536:=by
   apply Decidable.byContradiction
   intro hge
   apply ht
   refine⟨?_,.inl (by omega)⟩
   have:65536*v.getD (n+1) 0<=d*v.getD (n+1) 0:=Nat.mul_le_mul_right _ (by omega)
   omega
  have htest:¬r*65536+l.getD (j+n) 0<d*v.getD n 0:=by
   intro hlt3
   by_cases hr:r<65536
   ·exact ht ⟨hr,.inr hlt3⟩
   ·have:=Qek hd65 hv2
    omega
  have e5:j+(n+2)+1-j=n+3:=by omega
  subst hF1
  simp (disch:=decide) only[Qbi,hkk,Qfy]
  simp+decide (disch:=first|exact D14 hJ7 hJ9 hJ10 hF2 hF3 hF5 hF6 hh3 hh5 hh7 hhB e2 hnv e5|fail) only[go_sem,↓reduceIte,hJ7,hJ9,hJ10,hF2,hF3,hF5,hF6,hh3,hh5,hh7,hhB,e2,hnv,e5]
  have hsq:=Qvy w v d 0 0 hw (by omega) (by omega)
  have hcar:=Qqr w v d 0 0 (by omega) (by omega) hd65 hv
  have hsl:=Qqo w v d 0 0
  have hsln:=Qor w v d 0 0
  have hwB:=Qev hw
  rw[hwl]at hsq hwB
  refine Qqk hP (Qug (pre:=pre) (w:=w) (post:=post++ex) (j:=j) (m:=n+3) (q:=d) hw hv hd65 hpl hwl (by omega) (by rw[<-hlw2];omega)) (β:=1000000) (T2 hhB hlw2) (Qd9 _) (by simp;omega) (by simp[toB,B0]) rfl ?_
  rintro _ _ _ _ ⟨rfl,rfl⟩
  generalize Qcp w v d 0 0=sq at *
  obtain⟨⟨hsq,hb1⟩,hcar⟩:=And.intro hsq hcar
  have hSB:=Qev hsl
  rw[hsln,hwl]at hSB
  have hpll:pre.length+(w.length+post.length)=u.length:=by rw[<-hll,hlw];simp
  have hs18:j<(List.replicate (j+1) 0++qs).length:=by simp;omega
  have hvl2:val l=val pre+65536^j*val w:=by
   rw[hlw,Qbx,Qbx,hpost0,hpl,Nat.mul_zero,Nat.add_zero]
  simp+decide (disch:=first|omega|rfl|(simp+decide only[go_sem,↓reduceIte,Qfx,hJ7,hJ9,hJ10,hF2,hF3,hF5,hF6]<;>rfl)|fail) only[go_sem,↓reduceIte,Qfx,hJ7,hJ9,hJ10,hF2,hF3,hF5,hF6]
  refine Qb (fun hb=> ?_) (fun hb=> ?_)
  ·have hb2:sq.2.2=1:=by omega
   rw[hcar,hb2]at hsq
   obtain _|d:=d
   ·omega
   have heV:=Q59 hvt hwv hv0 (by omega) hd65 hdr htest
   obtain⟨k,hk⟩:=Qvx sq.1 v 0 (by omega)
   have hrl:=Qqn sq.1 v 0
   have hrln:=Qoq sq.1 v 0
   rw[hsln,hwl]at hk hrln
   have hrB:=Qev hrl
   rw[hrln]at hrB
   obtain⟨hR1,hR2⟩:=Q92 (B:=65536^(n+3)) (S:=val sq.1) (e:=d) (by omega) hSB heV (by omega) hrB hwB
   have e6:((d+1:Nat):Int)-1=(d:Nat):=by omega
   simp+decide (disch:=first|omega|rfl|(simp+decide only[go_sem,↓reduceIte,hJ7,hJ9,hJ10,hF2,hF3,hF5,hF6,hh3,hh5,hh7,hhB,e2,e6,hnv,e5]<;>rfl)|fail) only[go_sem,↓reduceIte,hJ7,hJ9,hJ10,hF2,hF3,hF5,hF6,hh3,hh5,hh7,hhB,e2,e6,hnv,e5]
   refine Qqk hP (Qwn (pre:=pre) (w:=sq.1) (post:=post++ex) (j:=j) (m:=n+3) hsl hv hpl (by omega) (by omega) (by simp;omega)) (β:=1000000) T0 (Qd9 _) (by simp;omega) (by simp[toB,B0]) rfl ?_
   rintro _ _ _ _ ⟨rfl,rfl⟩
   have hback:=Qtf (q:=d) (R:=Qfh sq.1 v 0) hpl hpost0 Qch hvl2 hR2
   simp+decide (disch:=first|omega|rfl|(simp+decide only[go_sem,↓reduceIte,Qfx,hJ7,hJ9,hJ10,hF2,hF3,hF5,hF6,hh3,hh5,hh7,hhB,hh18,e2,e6,hnv,e5,Qog,Nat.mod_eq_of_lt (by omega:d<65536),hk7]<;>rfl)|fail) only[go_sem,↓reduceIte,Qfx,hJ7,hJ9,hJ10,hF2,hF3,hF5,hF6,hh3,hh5,hh7,hhB,hh18,e2,e6,hnv,e5,Qog,Nat.mod_eq_of_lt (by omega:d<65536),hk7]
   refine Qh j (by omega) ⟨pre++(Qfh sq.1 v 0++post),d::qs,by simp;omega,?_,?_,?_,?_,hback.2,?_⟩
   ·rw[Qbl,Qbl];exact⟨hpre,hrl,hpost⟩
   ·simp;omega
   ·rw[Qas];exact⟨by omega,hqs⟩
   ·rw[hback.1];exact hR1
   ·simp+decide (disch:=first|omega|rfl|(simp+decide only[go_sem,↓reduceIte,hh3,hh5,true_and,and_true,hnv,List.append_assoc]<;>rfl)|fail) only[go_sem,↓reduceIte,hh3,hh5,true_and,and_true,hnv,List.append_assoc]
  ·have hb2:sq.2.2=0:=by omega
   rw[hcar,hb2]at hsq
   obtain⟨hR1,hR2⟩:=Qadt (S:=val sq.1) (d:=d) (by omega) hdW
   have hback:=Qtf (q:=d) (R:=sq.1) hpl hpost0 Qch hvl2 hR2
   simp+decide (disch:=first|omega|rfl|(simp+decide only[go_sem,↓reduceIte,Qfx,hJ7,hJ9,hJ10,hF2,hF3,hF5,hF6,hh3,hh5,hh7,hhB,hh18,e2,hnv,e5,Qog,Nat.mod_eq_of_lt hd65,hk7]<;>rfl)|fail) only[go_sem,↓reduceIte,Qfx,hJ7,hJ9,hJ10,hF2,hF3,hF5,hF6,hh3,hh5,hh7,hhB,hh18,e2,hnv,e5,Qog,Nat.mod_eq_of_lt hd65,hk7]
   refine Qh j (by omega) ⟨pre++(sq.1++post),d::qs,by simp;omega,?_,?_,?_,?_,hback.2,?_⟩
   ·rw[Qbl,Qbl];exact⟨hpre,hsl,hpost⟩
   ·simp;omega
   ·rw[Qas];exact⟨hd65,hqs⟩
   ·rw[hback.1];exact hR1
   ·simp+decide (disch:=first|omega|rfl|(simp+decide only[go_sem,↓reduceIte,hh3,hh5,true_and,and_true,hnv,List.append_assoc]<;>rfl)|fail) only[go_sem,↓reduceIte,hh3,hh5,true_and,and_true,hnv,List.append_assoc]
 ·obtain rfl:k=0:=by omega
  rw[List.drop_zero]at hred
  rw[Nat.pow_zero,Nat.one_mul]at Qch
  have hdiv:val u/val v=val qs:=by
   rw[Qch,Nat.add_mul_div_left _ _ hvp,Nat.div_eq_of_lt hred,Nat.zero_add]
  have hmod:val u%val v=val l:=by
   rw[Qch,Nat.add_mul_mod_self_left,Nat.mod_eq_of_lt hred]
  simp+decide (disch:=first|omega|rfl|(simp+decide only[go_sem,↓reduceIte,hJ7,hh7,hhB,hh18,hh3,hh5,hF2,hF3,hF5,hF6,List.replicate_zero,List.nil_append]<;>rfl)|fail) only[go_sem,↓reduceIte,hJ7,hh7,hhB,hh18,hh3,hh5,hF2,hF3,hF5,hF6,List.replicate_zero,List.nil_append]
  refine Qc2 hP (Qa1 hqs (by omega)) (Qjn (ty:=109) (fz:=false) (by simp+decide (disch:=first|omega|rfl|(simp+decide only[go_sem,↓reduceIte,hh18,List.replicate_zero,List.nil_append]<;>rfl)|fail) only[go_sem,↓reduceIte,hh18,List.replicate_zero,List.nil_append]) (by omega)) rfl ?_
  simp+decide (disch:=first|exact D0|fail) only[go_sem,↓reduceIte]
  refine Q24 (xs':=Qay (l++ex)) (p:=PV.num (val qs)) ?_ (Qd9 _) (by simp;omega) T0 rfl ⟨by rw[hdiv],l,rfl,hl,hll,hmod.symm⟩
  show FW.Qag h [18] 1000000=_
  simp only[FW.Qag]
  rw[if_neg (by decide),hhB]
end Go.Proofs.YtdacdnoebgcjhaaGreat
namespace Go.Proofs.YtdacdnoebgcjhaaGreat
open Go Go.FW
set_option linter.unusedSimpArgs false
set_option linter.unusedVariables false
set_option maxRecDepth 100000
theorem Q04{a:List Nat}{s:Nat}(ha:Qi a)(hla:a.length<2^40)(hs:s<=15):Qd Tryz.prog 131 [PV.nat a,.int .i64 (-(s:Int))] (· =PV.num (val a/2^s)):=by
 have hda:=Qal ha
 unfold nl at hda
 by_cases h0:val a=0
 ·refine Qf Ql Tryz.func131 rfl Qsn (by simp[Qpr]) fun C hP=> ?_;simp only[Qpr,Zo,Zg,Zm,Zc,Zf,Zl,Zh,Zs,Zi,Zb,Zk,Zn,Zu,Zq,Zr,Zz]
  simp+decide (disch:=first|exact D0|fail) only[go_sem,↓reduceIte]
  refine Qa hP (Qa1 ha (by omega)) rfl rfl rfl ?_
  simp+decide (disch:=first|exact D0|fail) only[go_sem,↓reduceIte]
  refine Qv (fun hz=>by omega) (fun hz=> ?_)
  simp+decide (disch:=first|exact D0|fail) only[go_sem,↓reduceIte]
  refine Qv (fun hz=>by omega) (fun hz=> ?_)
  simp+decide (disch:=first|exact D0|fail) only[go_sem,↓reduceIte]
  refine Qb (fun hz=> ?_) (fun hz=>absurd (by rw[h0,Qax];rfl) hz)
  simp+decide (disch:=first|exact D0|fail) only[go_sem,↓reduceIte]
  exact Qdu (Qld (by simp[h0])) rfl
 by_cases hs0:s=0
 ·subst hs0
  have:=(Qku (s:=0) ha hla (by omega) h0).toV
  rw[Nat.pow_zero,Nat.mul_one]at this
  rw[Nat.pow_zero,Nat.div_one]
  exact this
 have hnz:(dig (val a)).length≠0:=fun h=>h0 (Qbq.1 (Qco h))
 refine Qf Ql Tryz.func131 rfl Qsn (by simp[Qpr]) fun C hP=> ?_;simp only[Qpr,Zo,Zg,Zm,Zc,Zf,Zl,Zh,Zs,Zi,Zb,Zk,Zn,Zu,Zq,Zr,Zz]
 simp+decide (disch:=first|exact D0|fail) only[go_sem,↓reduceIte]
 refine Qa hP (Qa1 ha (by omega)) rfl rfl rfl ?_
 simp+decide (disch:=first|exact D0|fail) only[go_sem,↓reduceIte]
 refine Qv (fun hz=>by omega) (fun hz=> ?_)
 simp+decide (disch:=first|exact D0|fail) only[go_sem,↓reduceIte]
 refine Qv (fun hz=>by omega) (fun hz=> ?_)
 simp+decide (disch:=first|exact D0|fail) only[go_sem,↓reduceIte]
 refine Qb (fun hz=>by omega) (fun hz=> ?_)
 simp+decide (disch:=first|exact D0|fail) only[go_sem,↓reduceIte]
 refine Qb (fun hz=> ?_) (fun hz=>by omega)
 have e:(0:Int)- -(s:Int)=(s:Nat):=by omega
 simp+decide (disch:=first|exact D1 e|fail) only[go_sem,↓reduceIte,e]
 refine Qa hP (Q02 (Qj (val a)) (by omega) hs) rfl rfl rfl ?_
 simp+decide (disch:=first|omega|rfl|(simp+decide only[go_sem,↓reduceIte,Q3]<;>rfl)|fail) only[go_sem,↓reduceIte,Q3]
 exact Qc rfl rfl
theorem Q05{x d:Nat}(hx:(dig x).length<2^42)(hd:0<d)(hd2:d<65536):Qd Tryz.prog 129 [PV.num x,.int .u16 d] (· = .tup [PV.num (x/d),.int .u16 (x%d:Nat)]):=by
 have:=Qx1 (Qj x) hx hd hd2
 rwa[Q3]at this
theorem Qkw{a b:List Nat}(ha:Qi a)(hb:Qi b)(hla:a.length<2^38)(hlb:b.length<2^38):Qd Tryz.prog 111 [PV.nat a,PV.nat b]
  (· =if val b=0 then .tup [PV.num 0,PV.num 0,.int .i64 3]else .tup [PV.num (val a/val b),PV.num (val a%val b),.int .i64 0]):=by
 have hda:=Qal ha
 have hdb:=Qal hb
 unfold nl at hda hdb
 refine Qf Ql Tryz.func111 rfl Qaan (by simp[Q6z]) fun C hP=> ?_;simp only[Q6z,Zo,Zg,Zm,Zc,Zf,Zl,Zh,Zs,Zi,Zb,Zk,Zn,Zu,Zq,Zr,Zz]
 simp+decide (disch:=first|exact D0|fail) only[go_sem,↓reduceIte]
 refine Qa hP (Qa1 ha (by omega)) rfl rfl rfl ?_
 simp+decide (disch:=first|exact D0|fail) only[go_sem,↓reduceIte]
 refine Qa hP (Qa1 hb (by omega)) rfl rfl rfl ?_
 simp+decide (disch:=first|exact D0|fail) only[go_sem,↓reduceIte]
 have hxl:=Qj (val a)
 have hyl:=Qj (val b)
 have hxv:=Q3 (val a)
 have hyv:=Q3 (val b)
 have hylast:=Qpk (val b)
 generalize val a=x at *
 generalize val b=y at *
 refine Qb (fun hz=> ?_) (fun hz=> ?_)
 ·have hy0:y=0:=Qbq.1 (Qco (by omega))
  simp+decide (disch:=first|exact D0|fail) only[go_sem,↓reduceIte]
  rw[if_pos hy0]
  exact Qnd rfl rfl rfl rfl Qhd Qhd (Q8 _)
 have hy0:y≠0:=fun h=>by rw[h,Qax]at hz;simp at hz
 rw[if_neg hy0]
 simp+decide (disch:=first|exact D0|fail) only[go_sem,↓reduceIte]
 refine Qa hP (Qmi hxl hyl (by omega) (by omega)) rfl rfl rfl ?_
 simp+decide (disch:=first|exact D2 hxv hyv|fail) only[go_sem,↓reduceIte,hxv,hyv]
 refine Qb (fun hc=> ?_) (fun hc=> ?_)
 ·have hlt:x<y:=by
   unfold Qdc at hc;split at hc
   ·assumption
   ·split at hc<;>omega
  simp+decide (disch:=first|exact D0|fail) only[go_sem,↓reduceIte]
  refine Qa hP (Qif hxl (by omega)) rfl rfl rfl ?_
  simp+decide (disch:=first|exact D1 hxv|fail) only[go_sem,↓reduceIte,hxv]
  exact Qnd rfl rfl rfl rfl (Qld (Nat.div_eq_of_lt hlt)) (Qfg (by rw[Nat.mod_eq_of_lt hlt])) (Q8 _)
 have hge:y<=x:=by
  unfold Qdc at hc;split at hc<;>omega
 simp+decide (disch:=first|exact D0|fail) only[go_sem,↓reduceIte]
 refine Qb (fun h1=> ?_) (fun h1=> ?_)
 ·obtain⟨d,hd⟩:∃d,dig y=[d]:=by
   match h:dig y,h1 with
   | [d],_=>exact⟨d,rfl⟩
   | [],h1=>simp at h1
   |_::_::_,h1=>simp at h1;omega
  have hyd:y=d:=by rw[<-hyv,hd];simp[val]
  have hd1:d<65536:=by rw[hd]at hyl;exact hyl d (by simp)
  simp+decide (disch:=first|omega|rfl|(simp+decide only[go_sem,↓reduceIte,hd,List.map_cons,List.map_nil,List.length_cons,List.length_nil]<;>rfl)|fail) only[go_sem,↓reduceIte,hd,List.map_cons,List.map_nil,List.length_cons,List.length_nil]
  refine Qa hP (Q05 (x:=x) (d:=d) (by omega) (by omega) hd1) (by rw[PV.num];rfl) rfl rfl ?_
  have hm:x%d<18446744073709551616:=by have:=Nat.mod_lt x (show 0<d by omega);omega
  simp+decide (disch:=first|exact D0|fail) only[go_sem,↓reduceIte]
  refine Qa hP (Qoh hm) rfl rfl rfl ?_
  simp+decide (disch:=first|exact D0|fail) only[go_sem,↓reduceIte]
  rw[hyd]
  exact Qnd rfl rfl rfl rfl (Q8 _) (Q8 _) (Q8 _)
 obtain⟨n,hn⟩:∃n,(dig y).length=n+2:=⟨(dig y).length-2,by omega⟩
 obtain⟨m,hm⟩:∃m,(dig x).length=m+2:=by
  have:=Qa7 hge
  unfold nl at this
  exact⟨(dig x).length-2,by omega⟩
 have e1:((n+2:Nat):Int)-1=((n+1:Nat):Int):=by omega
 have hlast:(dig y)[n+1]'(by omega)≠0:=by
  intro h;apply hylast
  have:(dig y).getLast? =some ((dig y)[n+1]'(by omega)):=by
   rw[List.getLast?_eq_getElem?,show(dig y).length-1=n+1 by omega];exact List.getElem?_eq_getElem _
  rw[this,h]
 have hy1:=Qaj hyl (show n+1<(dig y).length by omega)
 have hdyv:val (dig y)=y:=Q3 y
 generalize hyi:(dig y)[n+1]'(by omega)=yi at *
 have hbl:=Qkv hy1
 have hbp:=Qmk hy1 hlast
 obtain⟨htp,htp2⟩:=Q03 _ yi rfl hlast hy1
 obtain⟨s,hs,hs15⟩:∃s,16-Lib.bitLen yi=s/\s<=15:=⟨_,rfl,by omega⟩
 simp+decide (disch:=first|exact D3 hn e1 hyi|fail) only[go_sem,↓reduceIte,hn,e1,hyi]
 refine Qa hP (Qmz hy1) rfl rfl rfl ?_
 simp+decide (disch:=first|exact D1 hs|fail) only[go_sem,↓reduceIte,hs]
 have hso:=Qku (a:=dig x) (s:=s) hxl (by omega) hs15 (by rw[hxv];omega)
 refine Qadn hP hso rfl rfl rfl (by decide) ?_
 rintro _ _ rfl
 rw[hxv]
 have hDl:(dig (x*2^s)).length<=m+3:=by
  have h1:=Qcz x (2^s)
  have h2:nl (2^s)<=1:=Qe9.2 (by have:2^s<=2^15:=Nat.pow_le_pow_right (by omega) hs15;omega)
  unfold nl at h1 h2;omega
 have hDl2:m+2<=(dig (x*2^s)).length:=by
  have:=Qa7 (show x<=x*2^s from Nat.le_mul_of_pos_right _ (Nat.pow_pos (by omega)))
  unfold nl at this;omega
 simp+decide (disch:=first|exact D1 hm|fail) only[go_sem,↓reduceIte,hm]
 rw[Ql0 (ys:=Qay [0,0]) (xs:=Qay (dig (x*2^s))) (by simp+decide (disch:=first|omega|rfl|(simp+decide only[go_sem,↓reduceIte,Qdx]<;>rfl)|fail) only[go_sem,↓reduceIte,Qdx];rfl) T0 (by omega) (by simp) (by simp;omega) (by simp;omega)]
 rw[List.take_of_length_le (by simp),<-List.map_append]
 simp+decide (disch:=first|omega|rfl|(simp+decide only[go_sem,↓reduceIte,hm,List.length_cons,List.length_nil]<;>rfl)|fail) only[go_sem,↓reduceIte,hm,List.length_cons,List.length_nil]
 have hsoy:=(Qku (a:=dig y) (s:=s) hyl (by omega) hs15 (by rw[hyv];omega)).toV
 rw[hyv]at hsoy
 refine Qa hP hsoy rfl rfl rfl ?_
 obtain⟨g1,g2⟩:=Q3g hs15 (by rw[show 16-s=Lib.bitLen yi by omega];exact htp) (by rw[show 16-s=Lib.bitLen yi by omega];exact htp2)
 obtain⟨hYl,hYt,hYge⟩:=Qxx hn hyi g1 g2
 have hnm:n<=m:=by have:=Qa7 hge;unfold nl at this;omega
 obtain⟨u,ex,hu1,hu2,hu3,hu4,hu5,hu6⟩:=Qxy (s:=s) hm hs15 hnm hYge
 have hdm1:x*2^s/(y*2^s)=x/y:=Nat.mul_div_mul_right _ _ (Nat.pow_pos (by omega))
 have hdm2:x*2^s%(y*2^s)=x%y*2^s:=Nat.mul_mod_mul_right _ _ _
 rw[hu1]
 simp+decide (disch:=first|exact D0|fail) only[go_sem,↓reduceIte]
 have hlg:=Q3r (u:=u) (v:=dig (y*2^s)) (ex:=ex) hu3 (Qj _) (by omega) (by omega) (by rw[hYl];exact hYt) (by rw[hYl,hu2,Q3];exact hu6) (by omega)
 rw[hu2,hu4,Q3,hdm1,hdm2]at hlg
 refine Qqk hP hlg (β:=52) T0 (Qd9 _) (by simp;omega) (by simp[toB]) rfl ?_
 rintro _ _ _ _ ⟨rfl,l,rfl,hl1,hl2,hl3⟩
 have e5:IntKind.i64.wrap (0-(s:Int))= -(s:Int):=by rw[Qgd (by omega) (by omega)];omega
 have htk:(Qay (l++ex)).take (m+2+1)=Qay l:=by rw[<-List.map_take,show m+2+1=l.length by omega,List.take_left]
 simp+decide (disch:=first|omega|rfl|(simp+decide only[go_sem,↓reduceIte,Qfx]<;>rfl)|fail) only[go_sem,↓reduceIte,Qfx]
 refine Qc2 hP (Qa1 hl1 (by omega)) (by simp[Qaa,Qav,isY,Qx,<-List.map_append,htk]) rfl ?_
 simp+decide (disch:=first|exact D1 e5|fail) only[go_sem,↓reduceIte,e5]
 rw[hl3]
 have hsb:=Q04 (a:=dig (x%y*2^s)) (s:=s) (Qj _) (by have:=Qa7 (show x%y*2^s<=x*2^s from Nat.mul_le_mul_right _ (Nat.mod_le _ _));unfold nl at this;omega) hs15
 rw[Q3,Nat.mul_div_cancel _ (Nat.pow_pos (by omega))]at hsb
 refine Qa hP hsb rfl rfl rfl ?_
 simp+decide (disch:=first|exact D0|fail) only[go_sem,↓reduceIte]
 exact Qnd rfl rfl rfl rfl (Q8 _) (Q8 _) (Q8 _)
end Go.Proofs.YtdacdnoebgcjhaaGreat
namespace Go.Proofs.YtdacdnoebgcjhaaGreat
open Go Go.FW
set_option linter.unusedSimpArgs false
set_option linter.unusedVariables false
set_option maxRecDepth 100000
theorem Qwo{a b:List Nat}(ha:Qi a)(hb:Qi b)(hla:a.length<2^38)(hlb:b.length<2^38):Qd Tryz.prog 110 [PV.nat a,PV.nat b] (· =PV.num (Nat.gcd (val a) (val b))):=by
 have hda:=Qal ha
 have hdb:=Qal hb
 unfold nl at hda hdb
 refine Qf Ql Tryz.func110 rfl Qaar (by simp[Q63]) fun C hP=> ?_;simp only[Q63,Zo,Zg,Zm,Zc,Zf,Zl,Zh,Zs,Zi,Zb,Zk,Zn,Zu,Zq,Zr,Zz]
 simp+decide (disch:=first|exact D0|fail) only[go_sem,↓reduceIte]
 refine Qa hP (Qif ha (by omega)) rfl rfl rfl ?_
 simp+decide (disch:=first|exact D0|fail) only[go_sem,↓reduceIte]
 refine Qa hP (Qif hb (by omega)) rfl rfl rfl ?_
 simp+decide (disch:=first|exact D0|fail) only[go_sem,↓reduceIte]
 refine Qw (by repeat (first|exact Qu|exact Qn|exact Qo|exact Qp|exact Qq|apply Qm|apply Qt|apply Qy|apply Q5|apply Q6|apply Qk)) [(0,1),(4,11),(16,49)] [] (fun m J hp=>∃x y,m=y/\Nat.gcd x y=Nat.gcd (val a) (val b)/\(dig x).length<2^38/\(dig y).length<2^38/\J 0=PV.num x/\J 1=PV.num y/\hp=hp0) (val b) ?_ ?_
 ·refine⟨val a,val b,rfl,rfl,by omega,by omega,?_⟩
  simp+decide (disch:=first|exact D2 true_and and_true|fail) only[go_sem,↓reduceIte,true_and,and_true]
 rintro y J _ ⟨x,_,rfl,hg,hx,hy,h0,h1,rfl⟩
 generalize Nat.gcd (val a) (val b)=g at *
 simp+decide (disch:=first|exact D2 h0 h1|fail) only[go_sem,↓reduceIte,h0,h1]
 refine Qb (fun hc=> ?_) (fun hc=> ?_)
 ·have hy0:y≠0:=fun h=>by rw[h,Qax]at hc;simp at hc
  have hmod:(dig (x%y)).length<2^38:=by
   have:=Qa7 (Nat.le_of_lt (Nat.mod_lt x (Nat.pos_of_ne_zero hy0)));unfold nl at this;omega
  simp+decide (disch:=first|exact D2 h0 h1|fail) only[go_sem,↓reduceIte,h0,h1]
  refine Qa hP (Qnn (Qj x) (by omega)) rfl rfl rfl ?_
  simp+decide (disch:=first|exact D2 h0 h1|fail) only[go_sem,↓reduceIte,h0,h1]
  rw[Q3]
  by_cases hs1:nl x<=4
  ·have hxs:=Qj6.1 hs1
   rw[if_pos hs1]
   simp+decide (disch:=first|exact D2 h0 h1|fail) only[go_sem,↓reduceIte,h0,h1]
   refine Qa hP (Qnn (Qj y) (by omega)) rfl rfl rfl ?_
   rw[Q3]
   by_cases hs2:nl y<=4
   ·have hys:=Qj6.1 hs2
    rw[if_pos hs2]
    simp+decide (disch:=first|exact D2 h0 h1|fail) only[go_sem,↓reduceIte,h0,h1]
    refine Qw (by repeat (first|exact Qu|exact Qn|exact Qo|exact Qp|exact Qq|apply Qm|apply Qt|apply Qy|apply Q5|apply Q6|apply Qk)) [(5,5),(7,7),(33,38)] [] (fun m J hp=>∃p q,m=q/\Nat.gcd p q=g/\p<18446744073709551616/\q<18446744073709551616/\J 5= .int .u64 p/\J 7= .int .u64 q/\hp=hp0) y ?_ ?_
    ·refine⟨x,y,rfl,hg,hxs,hys,?_⟩
     simp+decide (disch:=first|exact D2 true_and and_true|fail) only[go_sem,↓reduceIte,true_and,and_true]
    rintro q J2 _ ⟨p,_,rfl,hg2,hp1,hp2,h5,h7,rfl⟩
    simp+decide (disch:=first|exact D2 h5 h7|fail) only[go_sem,↓reduceIte,h5,h7]
    refine Qb (fun hq=> ?_) (fun hq=> ?_)
    ·have hq0:0<q:=by omega
     simp+decide (disch:=first|omega|rfl|(simp+decide only[go_sem,↓reduceIte,h5,h7,Qc3]<;>rfl)|fail) only[go_sem,↓reduceIte,h5,h7,Qc3]
     refine Qh (p%q) (Nat.mod_lt _ hq0) ⟨q,p%q,rfl,?_,hp2,?_,?_⟩
     ·rw[<-hg2,Nat.gcd_comm p q,Nat.gcd_rec q p,Nat.gcd_comm]
     ·have:=Nat.mod_lt p hq0;omega
     ·simp+decide (disch:=first|exact D2 true_and and_true|fail) only[go_sem,↓reduceIte,true_and,and_true]
    ·obtain rfl:q=0:=by omega
     simp+decide (disch:=first|exact D2 h5 h7|fail) only[go_sem,↓reduceIte,h5,h7]
     refine Qa hP (Qoh hp1) rfl rfl rfl ?_
     simp+decide (disch:=first|exact D0|fail) only[go_sem,↓reduceIte]
     exact Qc (by rw[<-hg2,Nat.gcd_zero_right]) rfl
   ·rw[if_neg hs2]
    simp+decide (disch:=first|exact D2 h0 h1|fail) only[go_sem,↓reduceIte,h0,h1]
    refine Qa hP (Qkw (Qj x) (Qj y) (by omega) (by omega)) rfl rfl rfl ?_
    rw[Q3,Q3,if_neg hy0]
    simp+decide (disch:=first|exact D2 h0 h1|fail) only[go_sem,↓reduceIte,h0,h1]
    refine Qh (x%y) (Nat.mod_lt _ (Nat.pos_of_ne_zero hy0)) ⟨y,x%y,rfl,?_,hy,hmod,?_⟩
    ·rw[<-hg,Nat.gcd_comm x y,Nat.gcd_rec y x,Nat.gcd_comm]
    ·simp+decide (disch:=first|exact D2 true_and and_true|fail) only[go_sem,↓reduceIte,true_and,and_true]
  ·rw[if_neg hs1]
   simp+decide (disch:=first|exact D2 h0 h1|fail) only[go_sem,↓reduceIte,h0,h1]
   refine Qa hP (Qnn (Qj y) (by omega)) rfl rfl rfl ?_
   obtain⟨r1,r2,hr⟩:∃r1 r2,(if nl (val (dig y))<=4 then PV.tup [.int .u64 (val (dig y)),.bool true]else .tup [.int .u64 0,.bool false])= .tup [.int .u64 r1,.bool r2]:=by
    split<;>exact⟨_,_,rfl⟩
   rw[hr]
   simp+decide (disch:=first|exact D2 h0 h1|fail) only[go_sem,↓reduceIte,h0,h1]
   refine Qa hP (Qkw (Qj x) (Qj y) (by omega) (by omega)) rfl rfl rfl ?_
   rw[Q3,Q3,if_neg hy0]
   simp+decide (disch:=first|exact D2 h0 h1|fail) only[go_sem,↓reduceIte,h0,h1]
   refine Qh (x%y) (Nat.mod_lt _ (Nat.pos_of_ne_zero hy0)) ⟨y,x%y,rfl,?_,hy,hmod,?_⟩
   ·rw[<-hg,Nat.gcd_comm x y,Nat.gcd_rec y x,Nat.gcd_comm]
   ·simp+decide (disch:=first|exact D2 true_and and_true|fail) only[go_sem,↓reduceIte,true_and,and_true]
 ·have hy0:y=0:=Qbq.1 (Qco (by omega))
  subst hy0
  simp+decide (disch:=first|exact D1 h0|fail) only[go_sem,↓reduceIte,h0]
  exact Qc (by rw[<-hg,Nat.gcd_zero_right]) rfl
end Go.Proofs.YtdacdnoebgcjhaaGreat
namespace Go.Proofs.YtdacdnoebgcjhaaGreat
open Go Go.FW
set_option linter.unusedSimpArgs false
set_option linter.unusedVariables false
set_option maxRecDepth 100000
theorem Qez(n:Bool)(x:Nat):Qd Tryz.prog 101 [.bool n,PV.num x] (· =PV.zz (if n then -(x:Int)else x)):=by
 refine Qf Ql Tryz.func101 rfl Qaav (by simp[Q67]) fun C hP=> ?_;simp only[Q67,Zo,Zg,Zm,Zc,Zf,Zl,Zh,Zs,Zi,Zb,Zk,Zn,Zu,Zq,Zr,Zz]
 simp+decide (disch:=first|exact D0|fail) only[go_sem,↓reduceIte]
 refine Qft (fun hn=> ?_) (fun hn=> ?_)
 all_goals
  simp+decide (disch:=first|exact D0|fail) only[go_sem,↓reduceIte]
  refine Qa5 ?_
  simp+decide (disch:=first|exact D0|fail) only[go_sem,↓reduceIte]
  exact Qc (by rw[<-Qsh,hn];simp) rfl
theorem Q3s{n:Bool}{a:List Nat}(ha:Qi a)(hla:a.length<2^42):Qd Tryz.prog 126 [.bool n,PV.nat a] (· =PV.zz (zv n a)):=by
 refine Qf Ql Tryz.func126 rfl Qaau (by simp[Q66]) fun C hP=> ?_;simp only[Q66,Zo,Zg,Zm,Zc,Zf,Zl,Zh,Zs,Zi,Zb,Zk,Zn,Zu,Zq,Zr,Zz]
 simp+decide (disch:=first|exact D0|fail) only[go_sem,↓reduceIte]
 refine Qa hP (Qif ha hla) rfl rfl rfl ?_
 simp+decide (disch:=first|exact D0|fail) only[go_sem,↓reduceIte]
 refine Qft (fun hn=> ?_) (fun hn=> ?_)
 all_goals
  simp+decide (disch:=first|exact D0|fail) only[go_sem,↓reduceIte]
  refine Qa5 ?_
  simp+decide (disch:=first|exact D0|fail) only[go_sem,↓reduceIte]
  exact Qc (by have:=Qsh n (val a);rw[hn]at this;subst hn;simpa[zv]using this) rfl
theorem Qx4{n:Bool}{a:List Nat}(ha:Qi a)(hla:a.length<2^42):Qd Tryz.prog 109 [PV.zi n a] (· =PV.zz (zv n a)):=by
 refine Qf Ql Tryz.func109 rfl Qaax (by simp[Q69]) fun C hP=> ?_;simp only[Q69,Zo,Zg,Zm,Zc,Zf,Zl,Zh,Zs,Zi,Zb,Zk,Zn,Zu,Zq,Zr,Zz]
 simp+decide (disch:=first|exact D0|fail) only[go_sem,↓reduceIte]
 refine Qa hP (Q3s ha hla) rfl rfl rfl ?_
 simp+decide (disch:=first|exact D0|fail) only[go_sem,↓reduceIte]
 refine Qa5 ?_
 simp+decide (disch:=first|exact D0|fail) only[go_sem,↓reduceIte]
 exact Qc rfl rfl
theorem Qhy{n:Bool}{a:List Nat}(ha:Qi a)(hla:a.length<2^40):Qd Tryz.prog 51 [PV.zi n a] (· = .int .i64 (sgn (zv n a))):=by
 refine Qf Ql Tryz.func51 rfl Qad8 (by simp[c51]) fun C hP=> ?_;simp only[c51,Zo,Zg,Zm,Zc,Zf,Zl,Zh,Zs,Zi,Zb,Zk,Zn,Zu,Zq,Zr,Zz]
 simp+decide (disch:=first|exact D0|fail) only[go_sem,↓reduceIte]
 refine Qcn hP (Qtp ha hla) rfl rfl rfl ?_
 rintro _ ⟨k,rfl,hk⟩
 simp+decide (disch:=first|exact D0|fail) only[go_sem,↓reduceIte]
 rw[Qv6]
 refine Qb (fun hz=> ?_) (fun hz=> ?_)
 ·simp+decide (disch:=first|exact D0|fail) only[go_sem,↓reduceIte]
  rw[if_pos (hk.1 (by omega))]
  exact Qc rfl rfl
 ·rw[if_neg (fun h=>hz (by rw[hk.2 h];rfl))]
  simp+decide (disch:=first|exact D0|fail) only[go_sem,↓reduceIte]
  refine Qh5 (fun hn=> ?_) (fun hn=> ?_)
  ·simp+decide (disch:=first|exact D0|fail) only[go_sem,↓reduceIte]
   exact Qc (by simp[hn]) rfl
  ·simp+decide (disch:=first|exact D0|fail) only[go_sem,↓reduceIte]
   exact Qc (by simp[hn]) rfl
theorem Qo0{a b:List Nat}(ha:Qi a)(hb:Qi b)(hla:a.length<2^40)(hlb:b.length<2^40):Qd Tryz.prog 136 [PV.nat a,PV.nat b] (· = .int .i64 (Qdc (val a) (val b))):=by
 refine Qf Ql Tryz.func136 rfl Qaaz (by simp[Q7b]) fun C hP=> ?_;simp only[Q7b,Zo,Zg,Zm,Zc,Zf,Zl,Zh,Zs,Zi,Zb,Zk,Zn,Zu,Zq,Zr,Zz]
 simp+decide (disch:=first|exact D0|fail) only[go_sem,↓reduceIte]
 refine Qa hP (Qmi ha hb hla hlb) rfl rfl rfl ?_
 simp+decide (disch:=first|exact D0|fail) only[go_sem,↓reduceIte]
 exact Qc rfl rfl
theorem Q06{n m:Bool}{a b:List Nat}(ha:Qi a)(hb:Qi b)(hla:a.length<2^40)(hlb:b.length<2^40):Qd Tryz.prog 117 [PV.zi n a,PV.zi m b] (· = .int .i64 (Qbr (zv n a) (zv m b))):=by
 have hx:=Qv6 n a
 have hy:=Qv6 m b
 refine Qf Ql Tryz.func117 rfl Qaay (by simp[Q7a]) fun C hP=> ?_;simp only[Q7a,Zo,Zg,Zm,Zc,Zf,Zl,Zh,Zs,Zi,Zb,Zk,Zn,Zu,Zq,Zr,Zz]
 simp+decide (disch:=first|exact D0|fail) only[go_sem,↓reduceIte]
 refine Qa hP (Qhy ha hla) rfl rfl rfl ?_
 simp+decide (disch:=first|exact D0|fail) only[go_sem,↓reduceIte]
 refine Qa hP (Qhy hb hlb) rfl rfl rfl ?_
 simp+decide (disch:=first|exact D0|fail) only[go_sem,↓reduceIte]
 refine Qb (fun hs=> ?_) (fun hs=> ?_)
 ·simp+decide (disch:=first|exact D0|fail) only[go_sem,↓reduceIte]
  exact Qc (by rw[Q96 hs]) rfl
 simp+decide (disch:=first|exact D0|fail) only[go_sem,↓reduceIte]
 refine Qb (fun hs2=> ?_) (fun hs2=> ?_)
 ·simp+decide (disch:=first|exact D0|fail) only[go_sem,↓reduceIte]
  exact Qc (by rw[Q97 hs2]) rfl
 have he:sgn (zv n a)=sgn (zv m b):=by omega
 simp+decide (disch:=first|exact D0|fail) only[go_sem,↓reduceIte]
 refine Qb (fun hs3=> ?_) (fun hs3=> ?_)
 ·simp+decide (disch:=first|exact D0|fail) only[go_sem,↓reduceIte]
  refine Qa hP (Qo0 hb ha hlb hla) rfl rfl rfl ?_
  simp+decide (disch:=first|exact D0|fail) only[go_sem,↓reduceIte]
  exact Qc (by rw[Q98 (Qlh.1 hs3) (Qlh.1 (he▸hs3))]) rfl
 ·simp+decide (disch:=first|exact D0|fail) only[go_sem,↓reduceIte]
  refine Qa hP (Qo0 ha hb hla hlb) rfl rfl rfl ?_
  simp+decide (disch:=first|exact D0|fail) only[go_sem,↓reduceIte]
  exact Qc (by rw[Q99 (fun h=>hs3 (Qlh.2 h)) (fun h=>hs3 (he▸Qlh.2 h))]) rfl
theorem Qq2{n m:Bool}{a b:List Nat}(ha:Qi a)(hb:Qi b)(hla:a.length<2^40)(hlb:b.length<2^40):Qd Tryz.prog 113 [PV.zi n a,PV.zi m b] (· =PV.zz (zv n a+zv m b)):=by
 refine Qf Ql Tryz.func113 rfl Qaa0 (by simp[Q7c]) fun C hP=> ?_;simp only[Q7c,Zo,Zg,Zm,Zc,Zf,Zl,Zh,Zs,Zi,Zb,Zk,Zn,Zu,Zq,Zr,Zz]
 simp+decide (disch:=first|exact D0|fail) only[go_sem,↓reduceIte]
 refine Qh5 (fun hnm=> ?_) (fun hnm=> ?_)
 ·have hnm:n=m:=by simpa using hnm
  subst hnm
  simp+decide (disch:=first|exact D0|fail) only[go_sem,↓reduceIte]
  refine Qa hP (Q7f ha hb hla hlb) rfl rfl rfl ?_
  simp+decide (disch:=first|exact D0|fail) only[go_sem,↓reduceIte]
  refine Qa hP (Qez n (val a+val b)) rfl rfl rfl ?_
  simp+decide (disch:=first|exact D0|fail) only[go_sem,↓reduceIte]
  refine Qa5 ?_
  simp+decide (disch:=first|exact D0|fail) only[go_sem,↓reduceIte]
  exact Qc (congrArg PV.zz (by unfold zv;split<;>simp<;>omega)) rfl
 have hnm:n= !m:=by cases n<;>cases m<;>simp_all
 subst hnm
 simp+decide (disch:=first|exact D0|fail) only[go_sem,↓reduceIte]
 refine Qa hP (Qmi ha hb hla hlb) rfl rfl rfl ?_
 simp+decide (disch:=first|exact D0|fail) only[go_sem,↓reduceIte]
 refine Qb (fun hc=> ?_) (fun hc=> ?_)
 ·rw[Ql8]at hc
  simp+decide (disch:=first|exact D0|fail) only[go_sem,↓reduceIte]
  refine Qa hP (Qwm hb ha hlb hla (by omega)) rfl rfl rfl ?_
  simp+decide (disch:=first|exact D0|fail) only[go_sem,↓reduceIte]
  refine Qa hP (Qez m (val b-val a)) rfl rfl rfl ?_
  simp+decide (disch:=first|exact D0|fail) only[go_sem,↓reduceIte]
  refine Qa5 ?_
  simp+decide (disch:=first|exact D0|fail) only[go_sem,↓reduceIte]
  exact Qc (congrArg PV.zz (by unfold zv;cases m<;>simp<;>omega)) rfl
 ·rw[Ql8]at hc
  simp+decide (disch:=first|exact D0|fail) only[go_sem,↓reduceIte]
  refine Qa hP (Qwm ha hb hla hlb (by omega)) rfl rfl rfl ?_
  simp+decide (disch:=first|exact D0|fail) only[go_sem,↓reduceIte]
  refine Qa hP (Qez (!m) (val a-val b)) rfl rfl rfl ?_
  simp+decide (disch:=first|exact D0|fail) only[go_sem,↓reduceIte]
  refine Qa5 ?_
  simp+decide (disch:=first|exact D0|fail) only[go_sem,↓reduceIte]
  exact Qc (congrArg PV.zz (by unfold zv;cases m<;>simp<;>omega)) rfl
theorem Qdf{n m:Bool}{a b:List Nat}(ha:Qi a)(hb:Qi b)(hla:a.length<2^40)(hlb:b.length<2^40):Qd Tryz.prog 74 [PV.zi n a,PV.zi m b] (· =PV.zz (zv n a*zv m b)):=by
 refine Qf Ql Tryz.func74 rfl Qad9 (by simp[c74]) fun C hP=> ?_;simp only[c74,Zo,Zg,Zm,Zc,Zf,Zl,Zh,Zs,Zi,Zb,Zk,Zn,Zu,Zq,Zr,Zz]
 simp+decide (disch:=first|exact D0|fail) only[go_sem,↓reduceIte]
 refine Qa hP (Qmj ha hb hla hlb) rfl rfl rfl ?_
 simp+decide (disch:=first|exact D0|fail) only[go_sem,↓reduceIte]
 refine Qa hP (Qez (!(n==m)) (val a*val b)) rfl rfl rfl ?_
 simp+decide (disch:=first|exact D0|fail) only[go_sem,↓reduceIte]
 refine Qa5 ?_
 simp+decide (disch:=first|exact D0|fail) only[go_sem,↓reduceIte]
 exact Qc (congrArg PV.zz (by unfold zv;cases n<;>cases m<;>simp[Int.neg_mul,Int.mul_neg])) rfl
end Go.Proofs.YtdacdnoebgcjhaaGreat
namespace Go.Proofs.YtdacdnoebgcjhaaGreat
open Go Go.FW
set_option linter.unusedSimpArgs false
set_option linter.unusedVariables false
set_option maxRecDepth 100000
theorem Qml{a:List Nat}(hl:a.length<2^43):Qd Tryz.prog 84 [PV.nat a] (· = .bool (decide (a=[1]))):=by
 refine Qf Ql Tryz.func84 rfl Qaea (by simp[c84]) fun C hP=> ?_;simp only[c84,Zo,Zg,Zm,Zc,Zf,Zl,Zh,Zs,Zi,Zb,Zk,Zn,Zu,Zq,Zr,Zz]
 simp+decide (disch:=first|exact D0|fail) only[go_sem,↓reduceIte]
 refine Qb (fun hz=> ?_) (fun hz=> ?_)
 ·obtain⟨x,xs,rfl⟩:∃x xs,a=x::xs:=by
   match a,hz with
   |x::xs,_=>exact⟨x,xs,rfl⟩
  simp+decide (disch:=first|omega|rfl|(simp+decide only[go_sem,↓reduceIte,List.map_cons,List.getElem_cons_zero]<;>rfl)|fail) only[go_sem,↓reduceIte,List.map_cons,List.getElem_cons_zero]
  refine Qc (congrArg PV.bool ?_) rfl
  rw[<-Bool.decide_and]
  exact decide_eq_decide.2 ⟨fun⟨h1,h2⟩=>by
   have:xs=[]:=List.length_eq_zero_iff.1 (by omega)
   subst this;congr 1;omega,fun h=>by
   injection h with h1 h2;subst h1 h2;simp⟩
 ·have:a=[]:=List.length_eq_zero_iff.1 (by omega)
  subst this
  simp+decide (disch:=first|exact D0|fail) only[go_sem,↓reduceIte]
  exact Qc rfl rfl
theorem Qo1(x:Nat):(dig x=[1])↔x=1:=⟨fun h=>by have:=Q3 x;rw[h]at this;simpa[val]using this.symm,fun h=>by rw[h,Qfw]⟩
theorem Qso{x:Nat}(hl:(dig x).length<2^43):Qd Tryz.prog 84 [PV.num x] (· = .bool (decide (x=1))):=by
 have:=Qml hl
 rwa[decide_eq_decide.2 (Qo1 x)]at this
theorem Qkg:Qd Tryz.prog 81 [] (· =PV.nat [1]):=by
 refine Qf Ql Tryz.func81 rfl Qaeb (by simp[c81]) fun C hP=> ?_;simp only[c81,Zo,Zg,Zm,Zc,Zf,Zl,Zh,Zs,Zi,Zb,Zk,Zn,Zu,Zq,Zr,Zz]
 simp+decide (disch:=first|exact D0|fail) only[go_sem,↓reduceIte]
 exact Qc rfl rfl
theorem Qq3{x y:Nat}(hx:(dig x).length<2^38)(hy:(dig y).length<2^38)(h0:y≠0):Qd Tryz.prog 111 [PV.num x,PV.num y] (· = .tup [PV.num (x/y),PV.num (x%y),.int .i64 0]):=by
 have:=Qkw (Qj x) (Qj y) hx hy
 rwa[Q3,Q3,if_neg h0]at this
theorem Qaa3{x y:Nat}(hx:(dig x).length<2^38)(hy:(dig y).length<2^38):Qd Tryz.prog 110 [PV.num x,PV.num y] (· =PV.num (Nat.gcd x y)):=by
 have:=Qwo (Qj x) (Qj y) hx hy
 rwa[Q3,Q3]at this
theorem Qno{n:Bool}{a d:List Nat}(ha:Qi a)(hd:Qi d)(hla:a.length<2^38)(hld:d.length<2^38):Qd Tryz.prog 82 [PV.zi n a,PV.nat d] (· =PV.rat (rv n a d)):=by
 have hna:=Qal ha
 have hnd:=Qal hd
 rw[<-Qa8 n a]at hna
 unfold rv
 unfold nl at hna hnd
 refine Qf Ql Tryz.func82 rfl Qaec (by simp[c82]) fun C hP=> ?_;simp only[c82,Zo,Zg,Zm,Zc,Zf,Zl,Zh,Zs,Zi,Zb,Zk,Zn,Zu,Zq,Zr,Zz]
 simp+decide (disch:=first|exact D0|fail) only[go_sem,↓reduceIte]
 refine Qa hP (Qif hd (by omega)) rfl rfl rfl ?_
 simp+decide (disch:=first|exact D0|fail) only[go_sem,↓reduceIte]
 refine Qa hP (Qx4 ha (by omega)) rfl rfl rfl ?_
 simp+decide (disch:=first|exact D0|fail) only[go_sem,↓reduceIte]
 generalize zv n a=z at *
 generalize val d=D at *
 have hlen:∀x:Nat,((dig x).length:Int)=0↔x=0:=fun x=>by
  rw[<-Qbq,<-List.length_eq_zero_iff];omega
 have fin0:∀ {fr:Fr} {hp:HP},(D=0∨z=0)->Qr7 (· =PV.rat (mkRat z D)) (.agg [.bool false,.nilS,PV.nat [1]]):=fun h=>by
  rw[Qot h];exact Qdu Qzc rfl
 refine Qv (fun hz=> ?_) (fun hz=> ?_)
 ·simp+decide (disch:=first|exact D0|fail) only[go_sem,↓reduceIte]
  refine Qa hP Qkg rfl rfl rfl ?_
  simp+decide (disch:=first|exact D0|fail) only[go_sem,↓reduceIte]
  refine Qa5 ?_
  simp+decide (disch:=first|exact D0|fail) only[go_sem,↓reduceIte]
  exact fin0 (fr:=fr0) (hp:=hp0) (.inl ((hlen _).1 hz))
 simp+decide (disch:=first|exact D0|fail) only[go_sem,↓reduceIte]
 refine Qb (fun hz2=> ?_) (fun hz2=> ?_)
 ·simp+decide (disch:=first|exact D0|fail) only[go_sem,↓reduceIte]
  refine Qa hP Qkg rfl rfl rfl ?_
  simp+decide (disch:=first|exact D0|fail) only[go_sem,↓reduceIte]
  refine Qa5 ?_
  simp+decide (disch:=first|exact D0|fail) only[go_sem,↓reduceIte]
  exact fin0 (fr:=fr0) (hp:=hp0) (.inr (Int.natAbs_eq_zero.1 ((hlen _).1 hz2)))
 have hD:D≠0:=fun h=>hz ((hlen _).2 h)
 simp+decide (disch:=first|exact D0|fail) only[go_sem,↓reduceIte]
 refine Qa hP (Qso (by omega)) rfl rfl rfl ?_
 simp+decide (disch:=first|exact D0|fail) only[go_sem,↓reduceIte]
 refine Qb (fun h1=> ?_) (fun h1=> ?_)
 ·subst h1
  simp+decide (disch:=first|exact D0|fail) only[go_sem,↓reduceIte]
  refine Qa5 ?_
  simp+decide (disch:=first|exact D0|fail) only[go_sem,↓reduceIte]
  exact Qc (by rw[<-Qahr];simp only[Qfw]) rfl
 simp+decide (disch:=first|exact D0|fail) only[go_sem,↓reduceIte]
 refine Qa hP (Qaa3 (by omega) (by omega)) rfl rfl rfl ?_
 have hg0:Nat.gcd z.natAbs D≠0:=fun h=>hD (Nat.eq_zero_of_gcd_eq_zero_right h)
 have hgl:(dig (Nat.gcd z.natAbs D)).length<2^38:=by
  have:=Qa7 (Nat.gcd_le_right z.natAbs (Nat.pos_of_ne_zero hD));unfold nl at this;omega
 have hfin:=Q3j (z:=z) hD
 generalize Nat.gcd z.natAbs D=g at *
 simp+decide (disch:=first|exact D0|fail) only[go_sem,↓reduceIte]
 refine Qa hP (Qso (by omega)) rfl rfl rfl ?_
 simp+decide (disch:=first|exact D0|fail) only[go_sem,↓reduceIte]
 refine Qh5 (fun h2=> ?_) (fun h2=> ?_)
 ·simp+decide (disch:=first|exact D0|fail) only[go_sem,↓reduceIte]
  refine Qa hP (Qq3 (by omega) hgl hg0) rfl rfl rfl ?_
  simp+decide (disch:=first|exact D0|fail) only[go_sem,↓reduceIte]
  refine Qa hP (Qq3 (by omega) hgl hg0) rfl rfl rfl ?_
  simp+decide (disch:=first|exact D0|fail) only[go_sem,↓reduceIte]
  refine Qa5 ?_
  simp+decide (disch:=first|exact D0|fail) only[go_sem,↓reduceIte]
  exact Qc hfin rfl
 ·have:g=1:=by simpa using h2
  subst this
  rw[Nat.div_one,Nat.div_one]at hfin
  simp+decide (disch:=first|exact D0|fail) only[go_sem,↓reduceIte]
  refine Qa5 ?_
  simp+decide (disch:=first|exact D0|fail) only[go_sem,↓reduceIte]
  exact Qc hfin rfl
theorem Qd0(a:List Nat):Qd Tryz.prog 75 [PV.nat a] (· =PV.zi false a):=by
 refine Qf Ql Tryz.func75 rfl Qaee (by simp[c75]) fun C hP=> ?_;simp only[c75,Zo,Zg,Zm,Zc,Zf,Zl,Zh,Zs,Zi,Zb,Zk,Zn,Zu,Zq,Zr,Zz]
 simp+decide (disch:=first|exact D0|fail) only[go_sem,↓reduceIte]
 refine Qa5 ?_
 simp+decide (disch:=first|exact D0|fail) only[go_sem,↓reduceIte]
 exact Qc rfl rfl
def Qaen(k:Nat)(q:Rat)(r:PV):Prop:=∃n a d,r= .tup [PV.zi n a,PV.nat d]/\Qi a/\Qi d/\a.length<=k/\d.length<=k/\val d≠0/\rv n a d=q
theorem Qdg{n:Bool}{a d:List Nat}{k:Nat}(ha:Qi a)(hd:Qi d)(hk:1<=k)(hla:a.length<=k)(hld:d.length<=k)(hk2:k<2^38):Qd Tryz.prog 50 [PV.rr n a d] (Qaen k (rv n a d)):=by
 refine Qf Ql Tryz.func50 rfl Qaed (by simp[c50]) fun C hP=> ?_;simp only[c50,Zo,Zg,Zm,Zc,Zf,Zl,Zh,Zs,Zi,Zb,Zk,Zn,Zu,Zq,Zr,Zz]
 simp+decide (disch:=first|exact D0|fail) only[go_sem,↓reduceIte]
 refine Qcn hP (Qtp hd (by omega)) rfl rfl rfl ?_
 rintro _ ⟨b,rfl,hb⟩
 simp+decide (disch:=first|exact D0|fail) only[go_sem,↓reduceIte]
 refine Qb (fun hz=> ?_) (fun hz=> ?_)
 ·have h0:val d=0:=hb.1 (by omega)
  simp+decide (disch:=first|exact D0|fail) only[go_sem,↓reduceIte]
  refine Qa hP Qkg rfl rfl rfl ?_
  simp+decide (disch:=first|exact D0|fail) only[go_sem,↓reduceIte]
  refine Ql6 ?_
  simp+decide (disch:=first|exact D0|fail) only[go_sem,↓reduceIte]
  refine⟨⟨rfl,rfl⟩,.tup [PV.zi false [],PV.nat [1]],⟨⟨rfl,trivial,trivial⟩,Q8 _,trivial⟩,false,[],[1],rfl,Qcb,by intro x hx;simp at hx;omega,by simp,by simpa using hk,by simp[val],?_⟩
  unfold rv;rw[h0,Rat.mkRat_zero];rfl
 ·have h0:val d≠0:=fun h=>hz (by rw[hb.2 h];rfl)
  simp+decide (disch:=first|exact D0|fail) only[go_sem,↓reduceIte]
  refine Qgf ?_ ?_
  all_goals
   simp+decide (disch:=first|exact D0|fail) only[go_sem,↓reduceIte]
   refine Ql6 ?_
   simp+decide (disch:=first|exact D0|fail) only[go_sem,↓reduceIte]
   exact⟨⟨rfl,rfl⟩,.tup [PV.zi n a,PV.nat d],⟨Q8 _,Q8 _,trivial⟩,n,a,d,rfl,ha,hd,hla,hld,h0,rfl⟩
theorem Q7g{z:Int}{m:Bool}{b:List Nat}(hb:Qi b)(hla:nl z.natAbs<2^40)(hlb:b.length<2^40):Qd Tryz.prog 113 [PV.zz z,PV.zi m b] (· =PV.zz (z+zv m b)):=by
 have:=Qq2 (n:=decide (z<0)) (a:=dig z.natAbs) (m:=m) (Qj _) hb hla hlb
 rwa[Qeo]at this
theorem Qwp{n m:Bool}{a b:List Nat}(ha:Qi a)(hb:Qi b)(hla:a.length<2^39)(hlb:b.length<2^39):Qd Tryz.prog 85 [.sl 2 [PV.zi n a,PV.zi m b]] (· =PV.zz (zv n a+zv m b)):=by
  have hna:=Qal ha
  rw[<-Qa8 n a]at hna
  refine Qf Ql Tryz.func85 rfl Qaei (by simp[c85]) fun C hP=> ?_;simp only[c85,Zo,Zg,Zm,Zc,Zf,Zl,Zh,Zs,Zi,Zb,Zk,Zn,Zu,Zq,Zr,Zz]
  simp+decide (disch:=first|exact D0|fail) only[go_sem,↓reduceIte]
  refine Qw (by repeat (first|exact Qu|exact Qn|exact Qo|exact Qp|exact Qq|apply Qm|apply Qt|apply Qy|apply Q5|apply Q6|apply Qk)) [(5,5),(8,15)] [5] (fun k J hp=>∃i,k=2-i/\i<=2/\J 8= .int .i64 (i:Nat)/\hp 2=some ⟨2,48,[.agg [.bool false,.nilS]],false⟩/\hp 3=some ⟨2,48,[if i=0 then .agg [.bool false,.nilS]else if i=1 then PV.zz (zv n a)else PV.zz (zv n a+zv m b)],false⟩) 2 ?_ ?_
  · refine⟨0,rfl,by omega,?_⟩
    simp+decide (disch:=first|exact D0|fail) only[go_sem,↓reduceIte]
    simp
  rintro _ J h ⟨i,rfl,hi,h8,hh2,hh3⟩
  simp+decide (disch:=first|exact D1 h8|fail) only[go_sem,↓reduceIte,h8]
  refine Qb (fun hg=> ?_) (fun hg=> ?_)
  · have hi2 : i = 0 ∨ i = 1 := by have:i<2:=by omega
                                   omega
    rcases hi2 with rfl|rfl
    · have h8':J 8= .int .i64 0:=h8
      simp+decide (disch:=first|exact D3 h8' hh2 hh3|fail) only[go_sem,↓reduceIte,h8',hh2,hh3]
      refine Qa hP ((Qq2 (n:=false) (a:=[]) (m:=n) (b:=a) Qcb ha (by simp) (by omega)).le (args':=[.agg [.bool false,.nilS],PV.zi n a]) ⟨⟨rfl,trivial,trivial⟩,Q8 _,trivial⟩) rfl rfl rfl ?_
      simp+decide (disch:=first|exact D3 h8' hh2 hh3|fail) only[go_sem,↓reduceIte,h8',hh2,hh3]
      refine Qh 1 (by omega) ⟨1,rfl,by omega,?_⟩
      simp+decide (disch:=first|exact D2 hh2 hh3|fail) only[go_sem,↓reduceIte,hh2,hh3]
      simp[zv,val]
    · rw[if_neg (by omega),if_pos rfl]at hh3
      have h8':J 8= .int .i64 1:=h8
      simp+decide (disch:=first|exact D3 h8' hh2 hh3|fail) only[go_sem,↓reduceIte,h8',hh2,hh3]
      refine Qa hP (Q7g (z:=zv n a) hb (by omega) (by omega)) rfl rfl rfl ?_
      simp+decide (disch:=first|exact D3 h8' hh2 hh3|fail) only[go_sem,↓reduceIte,h8',hh2,hh3]
      refine Qh 0 (by omega) ⟨2,rfl,by omega,?_⟩
      simp+decide (disch:=first|exact D2 hh2 hh3|fail) only[go_sem,↓reduceIte,hh2,hh3]
      simp
  · obtain rfl:i=2:=by simp at hg;omega
    rw[if_neg (by omega),if_neg (by omega)]at hh3
    simp+decide (disch:=first|exact D3 h8 hh2 hh3|fail) only[go_sem,↓reduceIte,h8,hh2,hh3]
    refine Qa5 ?_
    simp+decide (disch:=first|exact D2 hh2 hh3|fail) only[go_sem,↓reduceIte,hh2,hh3]
    exact Qc rfl rfl
end Go.Proofs.YtdacdnoebgcjhaaGreat
namespace Go.Proofs.YtdacdnoebgcjhaaGreat
open Go Go.FW
set_option linter.unusedSimpArgs false
set_option linter.unusedVariables false
set_option maxRecDepth 100000
theorem Qiu{z:Int}{d:List Nat}(hd:Qi d)(hz:nl z.natAbs<2^38)(hld:d.length<2^38):Qd Tryz.prog 82 [PV.zz z,PV.nat d] (· =PV.rat (mkRat z (val d))):=by
 have:=Qno (n:=decide (z<0)) (Qj z.natAbs) hd hz hld
 rwa[rv,Qeo]at this
theorem Q3t{x y:Int}(hx:nl x.natAbs<2^39)(hy:nl y.natAbs<2^39):Qd Tryz.prog 85 [.sl 2 [PV.zz x,PV.zz y]] (· =PV.zz (x+y)):=by
 have:=Qwp (n:=decide (x<0)) (m:=decide (y<0)) (Qj x.natAbs) (Qj y.natAbs) hx hy
 rwa[Qeo,Qeo]at this
theorem Q7h{x y:Int}(hx:nl x.natAbs<2^40)(hy:nl y.natAbs<2^40):Qd Tryz.prog 117 [PV.zz x,PV.zz y] (· = .int .i64 (Qbr x y)):=by
 have:=Q06 (n:=decide (x<0)) (m:=decide (y<0)) (Qj x.natAbs) (Qj y.natAbs) hx hy
 rwa[Qeo,Qeo]at this
structure Raw(k:Nat)(n:Bool)(a d:List Nat):Prop where
 la:Qi a
 ld:Qi d
 sa:a.length<=k
 sd:d.length<=k
 k1:1<=k
theorem Qb5{q:Rat}{k:Nat}(h:rs q<=k):Raw k (decide (q.num<0)) (dig q.num.natAbs) (dig q.den):=by
 have:=Qv7 q
 unfold rs nl at *
 exact⟨Qj _,Qj _,by omega,by omega,by omega⟩
theorem Raw.rs{n:Bool}{a d:List Nat}{k:Nat}(h:Raw k n a d):FW.rs (rv n a d)<=k:=Qady (k:=k) (n:=k) h.la h.ld h.sa h.sd h.k1
theorem Qtq{n m:Bool}{a d b c:List Nat}{k:Nat}(hp:Raw k n a d)(hq:Raw k m b c)(hk:k<2^36):Qd Tryz.prog 49 [PV.rr n a d,PV.rr m b c] (· =PV.rat (rv n a d+rv m b c)):=by
 refine Qf Ql Tryz.func49 rfl Qaej (by simp[c49]) fun C hP=> ?_;simp only[c49,Zo,Zg,Zm,Zc,Zf,Zl,Zh,Zs,Zi,Zb,Zk,Zn,Zu,Zq,Zr,Zz]
 simp+decide (disch:=first|exact D0|fail) only[go_sem,↓reduceIte]
 refine Qcn hP (Qdg hp.la hp.ld hp.k1 hp.sa hp.sd (by omega)) rfl rfl rfl ?_
 rintro _ ⟨n',a',d',rfl,g1,g2,g3,g4,g5,g6⟩
 simp+decide (disch:=first|exact D0|fail) only[go_sem,↓reduceIte]
 refine Qcn hP (Qdg hq.la hq.ld hq.k1 hq.sa hq.sd (by omega)) rfl rfl rfl ?_
 rintro _ ⟨m',b',c',rfl,e1,e2,e3,e4,e5,e6⟩
 simp+decide (disch:=first|exact D0|fail) only[go_sem,↓reduceIte]
 refine Qa hP (Qml (by omega)) rfl rfl rfl ?_
 have key:=Rat.mkRat_add_mkRat (zv n' a') (zv m' b') g5 e5
 have hza:nl (zv n' a').natAbs<=k:=by rw[Qa8];exact Nat.le_trans (Qal g1) g3
 have hzb:nl (zv m' b').natAbs<=k:=by rw[Qa8];exact Nat.le_trans (Qal e1) e3
 have hvd:nl (val d')<=k:=Nat.le_trans (Qal g2) g4
 have hvc:nl (val c')<=k:=Nat.le_trans (Qal e2) e4
 rw[<-g6,<-e6]
 unfold rv
 rw[key]
 simp+decide (disch:=first|exact D0|fail) only[go_sem,↓reduceIte]
 refine Qan (fun h1=> ?_) (fun h1=> ?_)
 ·simp+decide (disch:=first|exact D0|fail) only[go_sem,↓reduceIte]
  refine Qa hP (Qml (by omega)) rfl rfl rfl ?_
  simp+decide (disch:=first|exact D0|fail) only[go_sem,↓reduceIte]
  refine Qb (fun h2=> ?_) (fun h2=> ?_)
  ·subst h1 h2
   simp+decide (disch:=first|exact D0|fail) only[go_sem,↓reduceIte]
   refine Qc2 hP (Qwp (n:=n') (m:=m') g1 e1 (by omega) (by omega)) U0 rfl ?_
   simp+decide (disch:=first|exact E0|fail) only[go_sem,↓reduceIte,Qz,List.contains_cons,List.contains_nil,List.flatMap_cons,List.flatMap_nil,List.append_nil]
   have hs:=Qex (zv n' a') (zv m' b')
   refine Qa hP (Qiu g2 (by omega) (by omega)) rfl rfl rfl ?_
   simp+decide (disch:=first|exact E0|fail) only[go_sem,↓reduceIte,Qz,List.contains_cons,List.contains_nil,List.flatMap_cons,List.flatMap_nil,List.append_nil]
   refine Qa5 ?_
   simp+decide (disch:=first|exact E0|fail) only[go_sem,↓reduceIte,Qz,List.contains_cons,List.contains_nil,List.flatMap_cons,List.flatMap_nil,List.append_nil]
   exact Qc (congrArg PV.rat (by simp[val])) rfl
  ·simp+decide (disch:=first|exact D0|fail) only[go_sem,↓reduceIte]
   refine Qa hP (Qd0 _) rfl rfl rfl ?_
   simp+decide (disch:=first|exact D0|fail) only[go_sem,↓reduceIte]
   refine Qa hP (Qdf (n:=n') (m:=false) g1 e2 (by omega) (by omega)) rfl rfl rfl ?_
   simp+decide (disch:=first|exact D0|fail) only[go_sem,↓reduceIte]
   refine Qa hP (Qd0 _) rfl rfl rfl ?_
   simp+decide (disch:=first|exact D0|fail) only[go_sem,↓reduceIte]
   refine Qa hP (Qdf (n:=m') (m:=false) e1 g2 (by omega) (by omega)) rfl rfl rfl ?_
   rw[Qfi,Qfi]
   have h3:=Qat (zv n' a') (val c')
   have h4:=Qat (zv m' b') (val d')
   have h5:=Qex (zv n' a'*(val c':Int)) (zv m' b'*(val d':Int))
   have h6:=Qcz (val d') (val c')
   rw[Int.natAbs_natCast]at h3 h4
   simp+decide (disch:=first|exact D0|fail) only[go_sem,↓reduceIte]
   refine Qc2 hP (Q3t (x:=zv n' a'*(val c':Int)) (y:=zv m' b'*(val d':Int)) (by omega) (by omega)) U0 rfl ?_
   simp+decide (disch:=first|exact E0|fail) only[go_sem,↓reduceIte,Qz,List.contains_cons,List.contains_nil,List.flatMap_cons,List.flatMap_nil,List.append_nil]
   refine Qa hP (Qmj g2 e2 (by omega) (by omega)) rfl rfl rfl ?_
   simp+decide (disch:=first|exact E0|fail) only[go_sem,↓reduceIte,Qz,List.contains_cons,List.contains_nil,List.flatMap_cons,List.flatMap_nil,List.append_nil]
   refine Qa hP (Qiu (z:=zv n' a'*(val c':Int)+zv m' b'*(val d':Int)) (Qj _) (by omega) (by show nl _<_;omega)) rfl rfl rfl ?_
   simp+decide (disch:=first|exact E0|fail) only[go_sem,↓reduceIte,Qz,List.contains_cons,List.contains_nil,List.flatMap_cons,List.flatMap_nil,List.append_nil]
   refine Qa5 ?_
   simp+decide (disch:=first|exact E0|fail) only[go_sem,↓reduceIte,Qz,List.contains_cons,List.contains_nil,List.flatMap_cons,List.flatMap_nil,List.append_nil]
   exact Qc (by rw[Q3]) rfl
 · simp+decide (disch:=first|exact D0|fail) only[go_sem,↓reduceIte]
   refine Qa hP (Qd0 _) rfl rfl rfl ?_
   simp+decide (disch:=first|exact D0|fail) only[go_sem,↓reduceIte]
   refine Qa hP (Qdf (n:=n') (m:=false) g1 e2 (by omega) (by omega)) rfl rfl rfl ?_
   simp+decide (disch:=first|exact D0|fail) only[go_sem,↓reduceIte]
   refine Qa hP (Qd0 _) rfl rfl rfl ?_
   simp+decide (disch:=first|exact D0|fail) only[go_sem,↓reduceIte]
   refine Qa hP (Qdf (n:=m') (m:=false) e1 g2 (by omega) (by omega)) rfl rfl rfl ?_
   rw[Qfi,Qfi]
   have h3:=Qat (zv n' a') (val c')
   have h4:=Qat (zv m' b') (val d')
   have h5:=Qex (zv n' a'*(val c':Int)) (zv m' b'*(val d':Int))
   have h6:=Qcz (val d') (val c')
   rw[Int.natAbs_natCast]at h3 h4
   simp+decide (disch:=first|exact D0|fail) only[go_sem,↓reduceIte]
   refine Qc2 hP (Q3t (x:=zv n' a'*(val c':Int)) (y:=zv m' b'*(val d':Int)) (by omega) (by omega)) U0 rfl ?_
   simp+decide (disch:=first|exact E0|fail) only[go_sem,↓reduceIte,Qz,List.contains_cons,List.contains_nil,List.flatMap_cons,List.flatMap_nil,List.append_nil]
   refine Qa hP (Qmj g2 e2 (by omega) (by omega)) rfl rfl rfl ?_
   simp+decide (disch:=first|exact E0|fail) only[go_sem,↓reduceIte,Qz,List.contains_cons,List.contains_nil,List.flatMap_cons,List.flatMap_nil,List.append_nil]
   refine Qa hP (Qiu (z:=zv n' a'*(val c':Int)+zv m' b'*(val d':Int)) (Qj _) (by omega) (by show nl _<_;omega)) rfl rfl rfl ?_
   simp+decide (disch:=first|exact E0|fail) only[go_sem,↓reduceIte,Qz,List.contains_cons,List.contains_nil,List.flatMap_cons,List.flatMap_nil,List.append_nil]
   refine Qa5 ?_
   simp+decide (disch:=first|exact E0|fail) only[go_sem,↓reduceIte,Qz,List.contains_cons,List.contains_nil,List.flatMap_cons,List.flatMap_nil,List.append_nil]
   exact Qc (by rw[Q3]) rfl
end Go.Proofs.YtdacdnoebgcjhaaGreat
namespace Go.FW
open Go
variable {C : Ctx} {fr : Fr} {hp : HP} {R : Qg}
end Go.FW
namespace Go.FW
open Go
variable {C : Ctx} {ρ : Nat -> Option Nat} {fr fr' : Fr} {hp : HP} {w : World} {K R : Qg}
def isN(β:Nat):Bool:=decide (2000000<=β)
def isS(β:Nat):Bool:=isN β||decide (β<1000000)
theorem Qahv{β:Nat}(h:isS β=false):isN β=false:=by simp[isS]at h;exact h.1
def Qfn:PV->PV
 | .nst _ _ _ _| .rag _=> .undef
 |p=>if p.refs.any isN||p.sref.any isS then .undef else p
def Qsp(F:Fr):Fr:=fun s=>Qfn (F s)
def Cln(p:PV):Prop:=(∀β∈p.refs,isN β=false)/\(∀β∈p.sref,isS β=false)/\(∀γ e ty xs,p≠ .nst γ e ty xs)/\∀cs,p≠ .rag cs
theorem Q7i(p:PV):Cln (Qfn p):=by
 have h0:Cln .undef:=⟨(fun β h=>by cases h),(fun β h=>by cases h),(fun _ _ _ _ h=>by cases h),(fun _ h=>by cases h)⟩
 unfold Qfn
 split
 ·exact h0
 ·exact h0
 ·rename_i hn hn2
  split
  ·exact h0
  ·rename_i h
   simp only[Bool.or_eq_true,not_or,Bool.not_eq_true,List.any_eq_false]at h
   exact⟨fun β hβ=>by simpa using h.1 β hβ,fun β hβ=>by simpa using h.2 β hβ,fun γ e ty xs=>hn γ e ty xs,hn2⟩
theorem Cln.kill{p:PV}(h:Cln p){B:List Nat}:Cln (if p.refs.any B.contains then .undef else p):=by
 split
 ·exact⟨(fun β h=>by cases h),(fun β h=>by cases h),(fun _ _ _ _ h=>by cases h),(fun _ h=>by cases h)⟩
 ·exact h
theorem Qtr{β:Nat}{p:PV}(h:∀γ∈p.refs,γ≠β):Qam β p=p:=by
 unfold Qam
 rw[if_neg]
 intro hc
 exact h β (by simpa using hc) rfl
theorem Q3u{β:Nat}{p:PV}(h:∀γ∈p.sref1,γ≠β):Qc1 β p=p:=by
 cases p with
 |mso γ o n=>simp only[Qc1];rw[if_neg (h γ (by simp[PV.sref1]))]
 |nso γ o n=>simp only[Qc1];rw[if_neg (h γ (by simp[PV.sref1]))]
 |_=>rfl
theorem Q3v{β:Nat}{p:PV}(h:∀γ∈p.refs,γ≠β)(h2:∀γ∈p.sref,γ≠β)(h3:∀γ e ty xs,p≠ .nst γ e ty xs):Qba β p=p:=by
 cases p with
 |nst γ e ty xs=>exact absurd rfl (h3 _ _ _ _)
 |rag cs=>
  simp only[Qba]
  congr 1
  conv=>rhs;rw[<-List.map_id cs]
  exact List.map_congr_left fun x hx=>Q3u fun γ hγ=>h2 γ (List.mem_flatMap.2 ⟨x,hx,hγ⟩)
 |nso γ o n=>simp only[Qba];rw[if_neg (h2 γ (by simp[PV.sref]))]
 |np γ i o=>simp only[Qba];rw[if_neg (h2 γ (by simp[PV.sref]))]
 |fn f first cap=>
  simp only[Qba]
  rw[if_neg,Qtr h]
  intro hc
  exact h2 β (by simpa[PV.sref]using hc) rfl
 |_=>exact Qtr h
theorem Q3w{β γ:Nat}(h:2000000<=β)(h2:isN γ=false):γ≠β:=by
 simp[isN]at h2;omega
abbrev bse(B:List Nat)(F:Fr):Fr:=Qad B (Qsp F)
theorem Qsq(B:List Nat)(F:Fr)(s:Nat):Cln (bse B F s):=(Q7i (F s)).kill
theorem Qts{β:Nat}{B:List Nat}{F:Fr}(h:2000000<=β):Qec β (bse B F)=bse B F:=by
 funext s
 have hc:=Qsq B F s
 exact Q3v (fun γ hγ=>Q3w h (hc.1 γ hγ)) (fun γ hγ=>Q3w h (Qahv (hc.2.1 γ hγ))) hc.2.2.1
theorem Qtt{γ:Nat}{B:List Nat}{F:Fr}:Qc9 γ (bse B F)=bse B F:=by
 funext s
 have hc:=Qsq B F s
 show Qc8 γ (bse B F s)=_
 generalize bse B F s=p at *
 cases p with
 |nst γ' e ty xs=>exact absurd rfl (hc.2.2.1 _ _ _ _)
 |_=>rfl
theorem Q3x{W:List (Nat×Nat)}{β:Nat}{J F:Fr}:Qec β (ovr W J F)=ovr W (Qec β J) (Qec β F):=by
 funext s;unfold Qec ovr;split<;>rfl
theorem Q3y{W:List (Nat×Nat)}{β:Nat}{J F:Fr}:Qc9 β (ovr W J F)=ovr W (Qc9 β J) (Qc9 β F):=by
 funext s;unfold Qc9 ovr;split<;>rfl
theorem Q3z{β d:Nat}{F:Fr}{v:PV}:Qec β (upd F d v)=upd (Qec β F) d (Qba β v):=by
 funext s;unfold Qec upd;split<;>rfl
theorem Q30{β d:Nat}{F:Fr}{v:PV}:Qc9 β (upd F d v)=upd (Qc9 β F) d (Qc8 β v):=by
 funext s;unfold Qc9 upd;split<;>rfl
theorem Q7j{β:Nat}{F:Fr}{s:Nat}:Qec β F s=Qba β (F s):=rfl
theorem Q7k{β:Nat}{F:Fr}{s:Nat}:Qc9 β F s=Qc8 β (F s):=rfl
def Qdr(l:List (Nat×Nat)):List PV:=l.map fun x=> .mso x.1 0 x.2
def Qahw(d:Nat)(S:List Nat)(γ n:Nat)(x:PV)(fr:Fr):Fr:=fun s=>if s=γ then x else if S.contains s then .nso γ 0 n else Qam d (fr s)
theorem Qwq{tmps:Array Value}(h:Qab C ρ fr hp tmps w){β b:Nat}{hb:HB}{l:List Nat}(hB:isY β=false)(hβ:hp β=some hb)(hl:β∈l)(hρ:ρ β=some b):¬Xof C ρ (Qag hp l) b:=by
 have hblk:=(h.own β hb hβ).blk
 rw[hρ]at hblk
 rintro(hx|⟨γ,hg,h1,h2,h3⟩)
 ·exact Ctx.cls_notX hblk.1 (Qu3 hB) hx
 ·obtain⟨hg0,g1,_,_,_,_,g6⟩:=Qhs h1
  have:=h.inj γ β b (by simp[g1]) (by simp[hβ]) h3 hρ
  subst this
  exact g6 h2 hl
theorem Qfd.snap{tmps:Array Value}(h:Qab C ρ fr hp tmps w){β o n:Nat}{v:Value}{l:List Nat}{hb:HB}(hr:Qfd ρ hp w β o n v)(hB:isY β=false)(hl:β∈l)(hβ:hp β=some hb):Q4 w (Xof C ρ (Qag hp l)) (.sl hb.e ((hb.xs.drop o).take n)) v:=by
 obtain⟨hb',g1,g2,g3⟩:=hr
 rw[hβ]at g1;cases g1
 rcases g3 with⟨g3,rfl,rfl,rfl⟩|⟨b,cap,g3,rfl,g5,g6⟩
 ·simp only[List.take_zero];exact .slE _ _ _ (Nat.zero_le _)
 ·have hown:=h.own β hb hβ
  have hblk:=hown.blk
  rw[g3]at hblk
  obtain⟨_,hlt,cur,cap',c1,c2,c3,c4,c5⟩:=hblk
  obtain⟨cur',ty',d1,d2⟩:=g5
  rw[c1]at d1;cases d1
  have hcc:o+cap=cap':=by
   rw[c2]at d2
   exact(Nat.eq_of_mul_eq_mul_right hown.epos d2).symm
  subst hcc
  have hlen:((hb.xs.drop o).take n).length=n:=by simp;omega
  have hget:∀(i:Nat)(x:PV),((hb.xs.drop o).take n)[i]? =some x->i<n/\hb.xs[o+i]? =some x:=fun i x hx=>by
   have hi:i<n:=by have:=(List.getElem?_eq_some_iff.1 hx).1;omega
   rw[List.getElem?_take_of_lt hi,List.getElem?_drop]at hx
   exact⟨hi,hx⟩
  have:=Q4.sl (w:=w) (X:=Xof C ρ (Qag hp l)) hb.e ((hb.xs.drop o).take n) b (o*hb.e) cap (fun i j=>cur.getD ((o+i)*hb.e+j) undef) (Qwq h hB hβ hl g3) hlt (by omega) (by omega)
   (fun i x hx=>(hown.len _ x (hget i x hx).2).1)
   (fun i hi j hj=>by
    rw[hlen]at hi
    have:=Qet (i:=o+i) (e:=hb.e) (o:=0) (j:=j) (n:=hb.e) (cap:=o+cap) (by omega) (by omega) hj
    rw[Nat.add_zero]at this
    rw[show o*hb.e+i*hb.e+j=(o+i)*hb.e+j by rw[Nat.add_mul]]
    exact Qbj c1 (by rw[c2];exact this))
   (fun i x hx j y hy=>(c5 _ x (hget i x hx).2 j y hy).freeze)
  rwa[hlen]at this
def Qnp(R:Qg):Qg:=fun fr hp=>∃fr' hp',Wk fr hp fr' hp'/\R fr' hp'
theorem Qhl{hp':HP}(hw:Wk fr hp fr' hp')(h:R fr' hp'):Qnp R fr hp:=⟨fr',hp',hw,h⟩
theorem Qaa4:KM (Qnp R) (Qnp R):=by
 rintro f f' hp hf ⟨fr',hp',h1,h2⟩
 exact⟨fr',hp',hf.wk.trans h1,h2⟩
theorem Qp:Qde (Qnp R) []:=⟨Qaa4,.nil⟩
theorem Qaa5{d γ m i:Nat}{k:IntKind}(h:i<m)(he:(hp γ).map (·.e)=some 1):Qds 1 (.nso γ 0 m) (.int k (i:Int)) d fr hp K=K (upd fr d (.np γ i 0)) hp:=by
 have e:(0:Int)<=(i:Int):=by omega
 simp[Qds,e,h,he]
theorem Qaa6{d γ o m:Nat}:Qig (.nso γ o m) d fr hp K=K (upd fr d (.int .i64 m)) hp:=rfl
theorem Q31{β γ o n:Nat}(h:γ≠β):Qba β (.nso γ o n)= .nso γ o n:=by simp only[Qba];rw[if_neg h]
theorem Q7l{β γ o n:Nat}(h:γ≠β):Qba β (.np γ o n)= .np γ o n:=by simp only[Qba];rw[if_neg h]
theorem Qahx:
  (∀(β:Nat)(k:IntKind)(n:Int),Qba β (.int k n)= .int k n)/\
  (∀(β:Nat)(b:Bool),Qba β (.bool b)= .bool b)/\
  (∀(β e:Nat)(xs:List PV),Qba β (.sl e xs)= .sl e xs)/\
  (∀(β:Nat)(cs:List PV),Qba β (.agg cs)= .agg cs)/\
  (∀(β:Nat)(cs:List PV),Qba β (.pt cs)= .pt cs)/\
  (∀(β:Nat),Qba β .nilS= .nilS)/\
  (∀(β:Nat),Qba β .undef= .undef)/\
  (∀(γ:Nat)(k:IntKind)(n:Int),Qc8 γ (.int k n)= .int k n)/\
  (∀(γ:Nat)(b:Bool),Qc8 γ (.bool b)= .bool b)/\
  (∀(γ e:Nat)(xs:List PV),Qc8 γ (.sl e xs)= .sl e xs)/\
  (∀(γ:Nat)(cs:List PV),Qc8 γ (.agg cs)= .agg cs)/\
  (∀(γ:Nat)(cs:List PV),Qc8 γ (.pt cs)= .pt cs)/\
  (∀(γ:Nat),Qc8 γ .nilS= .nilS)/\
  (∀(γ:Nat),Qc8 γ .undef= .undef)/\
  (∀(γ β o n:Nat),Qc8 γ (.mso β o n)= .mso β o n)/\
  (∀(γ β o n:Nat),Qc8 γ (.mp β o n)= .mp β o n)/\
  (∀(γ β o n:Nat),Qc8 γ (.rb β o n)= .rb β o n)/\
  (∀(γ β o n:Nat),Qc8 γ (.nso β o n)= .nso β o n)/\
  (∀(γ β o n:Nat),Qc8 γ (.np β o n)= .np β o n)/\
  (∀(β γ o n:Nat),Qam β (.nso γ o n)= .nso γ o n)/\
  (∀(β γ o n:Nat),Qam β (.np γ o n)= .np γ o n)/\
  (∀(β γ e ty:Nat)(xs:List PV),Qam β (.nst γ e ty xs)= .nst γ e ty xs)/\
  (∀(β:Nat),Qam β .undef= .undef)/\
  (∀(β:Nat)(cs:List PV),Qam β (.pt cs)= .pt cs):=by
 refine⟨?_,?_,?_,?_,?_,?_,?_,?_,?_,?_,?_,?_,?_,?_,?_,?_,?_,?_,?_,?_,?_,?_,?_,?_⟩<;>intros<;>rfl
theorem Q7m(β γ o n:Nat):Qba β (.mso γ o n)=if γ=β then .undef else .mso γ o n:=Qvp β γ o n
theorem Q7n(β γ o n:Nat):Qba β (.mp γ o n)=if γ=β then .undef else .mp γ o n:=Qvq β γ o n
end Go.FW
namespace Go.FW
open Go
variable {C : Ctx} {ρ : Nat -> Option Nat} {fr fr' : Fr} {hp : HP} {w : World} {K R : Qg}
theorem Qaa7{F:Fr}{s:Nat}:Qsp F s=Qfn (F s):=rfl
theorem Qahy:
  (∀(k:IntKind)(n:Int),Qfn (.int k n)= .int k n)/\
  (∀(b:Bool),Qfn (.bool b)= .bool b)/\
  (∀(e:Nat)(xs:List PV),Qfn (.sl e xs)= .sl e xs)/\
  (∀(cs:List PV),Qfn (.agg cs)= .agg cs)/\
  (∀(cs:List PV),Qfn (.pt cs)= .pt cs)/\
  (Qfn .nilS= .nilS)/\(Qfn .undef= .undef)/\
  (∀(β o n:Nat),Qfn (.mso β o n)=if isN β then .undef else .mso β o n)/\
  (∀(β o n:Nat),Qfn (.mp β o n)=if isN β then .undef else .mp β o n)/\
  (∀(β o n:Nat),Qfn (.rb β o n)=if isN β then .undef else .rb β o n)/\
  (∀(β o n:Nat),Qfn (.nso β o n)=if isS β then .undef else .nso β o n)/\
  (∀(β o n:Nat),Qfn (.np β o n)=if isS β then .undef else .np β o n):=by
 refine⟨fun _ _=>rfl,fun _=>rfl,fun _ _=>rfl,fun _=>rfl,fun _=>rfl,rfl,rfl,?_,?_,?_,?_,?_⟩<;>intros<;>simp[Qfn,PV.refs,PV.sref]
theorem Qaeo{β:Nat}:isS β=(isN β||decide (β<1000000)):=rfl
theorem Qaep{β:Nat}:isN β=decide (2000000<=β):=rfl
theorem Q7o{d γ n:Nat}{S:List Nat}{x:PV}{s:Nat}:Qahw d S γ n x fr s=if s=γ then x else if S.contains s then .nso γ 0 n else Qam d (fr s):=rfl
theorem Qaa8{by_ ty d:Nat}{k k':IntKind}{n c:Nat}(h2:n<=c)(h3:by_*c<=281474976710656)(h4:c<=9223372036854775807):
  mkK 1 by_ ty .nilS (.int k (n:Int)) (.int k' (c:Int)) d fr hp K=K (upd (Qaq d fr) d (.ms d n)) (Qx hp d ⟨1,ty,List.replicate n .nilS,false⟩):=by
 rw[Quu (e:=1) (by omega) rfl (by omega) (by omega) (by omega) (by omega)];rfl
theorem Qaeq{k c:Nat}(h:c<3000000):(3000000+k=c)=False:=by simp;omega
theorem Qaa9{k c:Nat}(h:c<3000000):(c=3000000+k)=False:=by simp;omega
theorem Qaer{k j:Nat}:(3000000+k=3000000+j)=(k=j):=by simp
attribute [go_sem] Qaeq Qaa9 Qaer Qaa8 Q7o Q3x Q3y Q3z Q30 Q7j Q7k Qts Qtt Qahx Q7m Q7n Q31 Q7l Qaa5 Qaa6 Qaa7 Qahy Qaeo Qaep
end Go.FW
namespace Go.FW
open Go
variable {C C' : Ctx} {ρ ρ' : Nat -> Option Nat} {fr fr' : Fr} {hp hp' : HP} {w : World} {K R : Qg}
theorem Qf6{sk:List It}{r:RT}{fr0:Fr}{hp0:HP}(hw:Wk fr hp fr0 hp0)(h:vc C R (.o r::sk) fr0 hp0):vc C R (.o (.wk r)::sk) fr hp:=by rw[Qqa];exact⟨fr0,hp0,hw,h⟩
def rn1(σ:Nat->Nat):PV->PV
 | .mp β i o=> .mp (σ β) i o
 | .mso β o n=> .mso (σ β) o n
 | .rb β o n=> .rb (σ β) o n
 | .np β i o=> .np (σ β) i o
 | .nso β o n=> .nso (σ β) o n
 |p=>p
def rnP(σ:Nat->Nat):PV->PV
 | .fn f a b=> .fn f (a.map (rn1 σ)) (b.map (rn1 σ))
 | .rag cs=> .rag (cs.map (rn1 σ))
 | .nst γ e ty xs=> .nst (σ γ) e ty (xs.map fun x=>Qe1 (x.ncells.map (rn1 σ)))
 |p=>rn1 σ p
theorem Q4.rn1{X:Nat->Prop}{σ:Nat->Nat}{p:PV}{v:Value}(h:Q4 w X p v):FW.rn1 σ p=p:=by cases h<;>rfl
def mvN(β δ x:Nat):Nat:=if x=β then δ else x
def mvF(β δ:Nat)(fr:Fr):Fr:=fun s=>rnP (mvN β δ) (fr s)
def mvH(β δ:Nat)(hp:HP):HP:=fun x=>if x=δ then hp β else if x=β then none else hp x
theorem Qaes{β δ x:Nat}:mvH β δ hp x=if x=δ then hp β else if x=β then none else hp x:=rfl
theorem Qaet{β δ s:Nat}:mvF β δ fr s=rnP (mvN β δ) (fr s):=rfl
theorem Qaeu{β δ x:Nat}:mvN β δ x=if x=β then δ else x:=rfl
theorem Qaba{β δ d:Nat}{v:PV}:mvF β δ (upd fr d v)=upd (mvF β δ fr) d (rnP (mvN β δ) v):=by
 funext s;unfold mvF upd;split<;>rfl
theorem Qabb{W:List (Nat×Nat)}{β δ:Nat}{J F:Fr}:mvF β δ (ovr W J F)=ovr W (mvF β δ J) (mvF β δ F):=by
 funext s;unfold mvF ovr;split<;>rfl
theorem Qaev{σ:Nat->Nat}{p:PV}(h:∀β∈p.ref1++p.nref1,σ β=β):rn1 σ p=p:=by
 cases p with
 |mp β=>simp only[rn1];rw[h β (by simp[PV.ref1])]
 |mso β=>simp only[rn1];rw[h β (by simp[PV.ref1])]
 |rb β=>simp only[rn1];rw[h β (by simp[PV.ref1])]
 |np β=>simp only[rn1];rw[h β (by simp[PV.ref1,PV.nref1])]
 |nso β=>simp only[rn1];rw[h β (by simp[PV.ref1,PV.nref1])]
 |_=>rfl
theorem Qabc{σ:Nat->Nat}{p:PV}(h:Cln p)(hσ:∀β∈p.refs++p.sref,σ β=β):rnP σ p=p:=by
 have hm:∀(l:List PV),(∀β∈l.flatMap PV.ref1++l.flatMap PV.nref1,σ β=β)->l.map (rn1 σ)=l:=fun l hl=>by
  conv=>rhs;rw[<-List.map_id l]
  refine List.map_congr_left fun x hx=>Qaev fun β hβ=>hl β ?_
  rcases List.mem_append.1 hβ with hβ|hβ
  ·exact List.mem_append_left _ (List.mem_flatMap.2 ⟨x,hx,hβ⟩)
  ·exact List.mem_append_right _ (List.mem_flatMap.2 ⟨x,hx,hβ⟩)
 cases p with
 |nst γ e ty xs=>exact absurd rfl (h.2.2.1 _ _ _ _)
 |rag cs=>exact absurd rfl (h.2.2.2 _)
 | fn f a b=>
  simp only[rnP]
  rw[hm a,hm b]
  ·intro β hβ;refine hσ β ?_
   simp only[PV.refs,PV.sref,List.mem_append]at hβ⊢
   rcases hβ with h|h
   ·exact .inl (.inr h)
   ·exact .inr (.inr h)
  ·intro β hβ;refine hσ β ?_
   simp only[PV.refs,PV.sref,List.mem_append]at hβ⊢
   rcases hβ with h|h
   ·exact .inl (.inl h)
   ·exact .inr (.inl h)
 |mp β=>simp only[rnP,rn1];rw[hσ β (by simp[PV.refs])]
 |mso β=>simp only[rnP,rn1];rw[hσ β (by simp[PV.refs])]
 |rb β=>simp only[rnP,rn1];rw[hσ β (by simp[PV.refs])]
 |np β=>simp only[rnP,rn1];rw[hσ β (by simp[PV.refs,PV.sref])]
 |nso β=>simp only[rnP,rn1];rw[hσ β (by simp[PV.refs,PV.sref])]
 |_=>rfl
theorem Q7p{B:List Nat}{F:Fr}{s β:Nat}(h:β∈(bse B F s).refs):B.contains β=false:=by
 cases hq:B.contains β with
 |false=>rfl
 |true=>
  unfold bse Qad at h
  split at h
  ·cases h
  ·rename_i hn;exact absurd (List.any_eq_true.2 ⟨β,h,hq⟩) hn
theorem Qabd{B:List Nat}{F:Fr}{β δ:Nat}(hβ:B.contains β=true∨2000000<=β)(hβ2:β<1000000∨2000000<=β):mvF β δ (bse B F)=bse B F:=by
 funext s
 have hc:=Qsq B F s
 refine Qabc hc fun x hx=>if_neg fun e=> ?_
 subst e
 rcases hβ with hβ|hβ
 ·rcases List.mem_append.1 hx with h|h
  ·rw[Q7p h]at hβ;cases hβ
  ·have h1:=hc.2.1 x h
   simp[isS,isN]at h1;omega
 ·rcases List.mem_append.1 hx with h|h
  ·have:=hc.1 x h;simp[isN]at this;omega
  ·have:=hc.2.1 x h;simp[isS,isN]at this;omega
end Go.FW
namespace Go.FW
open Go
variable {C C' : Ctx} {ρ ρ' : Nat -> Option Nat} {fr fr' : Fr} {hp hp' : HP} {w : World} {K R : Qg}
def Qjq(γ:Nat):PV->PV
 | .mso β o n=>if β=γ then .nso γ o n else .mso β o n
 | .mp β i o=>if β=γ then .np γ i o else .mp β i o
 | .rb β o n=>if β=γ then .undef else .rb β o n
 |p=>p
def Qfo(γ:Nat):PV->PV
 | .fn f a b=>Qam γ (.fn f a b)
 | .rag cs=> .rag (cs.map (Qjq γ))
 | .nst γ' e ty xs=>if γ'=γ then .undef else .nst γ' e ty (xs.map fun x=>Qe1 (x.ncells.map (Qjq γ)))
 |p=>Qjq γ p
def toNF(γ:Nat)(x:PV)(fr:Fr):Fr:=fun s=>if s=γ then x else Qfo γ (fr s)
end Go.FW
namespace Go.FW
open Go
variable {C : Ctx} {ρ : Nat -> Option Nat} {fr fr' : Fr} {hp hp' : HP} {w w' : World} {K R : Qg}
def argG(args:List PV)(G:Fr):Fr:=fun s=>if s<1000000 then(args[s]?).getD .undef else G s
def Q7q(rs:List RV)(Post:PV->Fr->HP->Prop):Qg:=fun fr hp=>∃fr' hp',Wk fr hp fr' hp'/\
 (Qc5 rs (fun r=>Post r fr' (Qag hp' (rs.flatMap (lr fr')))) fr' hp'∨∃s,rs=[.t s]/\Post (fr' s) fr' hp')
theorem Qabe{rs:List RV}{Post:PV->Fr->HP->Prop}:KM (Q7q rs Post) (Q7q rs Post):=by
 rintro f f' hp hf ⟨fr',hp',h1,h2⟩
 exact⟨fr',hp',hf.wk.trans h1,h2⟩
theorem Qq{rs:List RV}{Post:PV->Fr->HP->Prop}:Qde (Q7q rs Post) []:=⟨Qabe,.nil⟩
structure Q07(C:Ctx)(hp:HP)(hp0:HP)(gv:Nat->Option Nat):Prop where
 g:∀β γ,gv β=some γ->∃hb,hp γ=some hb/\isB β=true/\(isR β=true->hp0 β=some ⟨hb.e,hb.ty,hb.xs,true⟩)/\(isR β=false->hp0 β=some hb/\hb.fz=false/\isB γ=true/\(isY β=false->isY γ=false))
 a:∀β,hp0 β≠none->∃γ,gv β=some γ
 i:∀β β' γ,gv β=some γ->gv β'=some γ->β=β'
def gn(gv:Nat->Option Nat):Nat->Option Nat:=fun β=>if isR β=true then none else gv β
theorem Qabf{gv:Nat->Option Nat}{β γ:Nat}(h:gn gv β=some γ):isR β=false/\gv β=some γ:=by
 unfold gn at h
 split at h
 ·cases h
 ·rename_i hr;exact⟨by simpa using hr,h⟩
theorem Q07.n{C:Ctx}{hp hp0:HP}{gv:Nat->Option Nat}(hh:Q07 C hp hp0 gv)(β γ:Nat)(h:gn gv β=some γ):∃hb,hp0 β=some hb/\hp γ=some hb/\hb.fz=false/\isB β=true/\isB γ=true/\(isY β=false->isY γ=false):=by
 obtain⟨hr,h⟩:=Qabf h
 obtain⟨hb,h1,h2,_,h4⟩:=hh.g β γ h
 obtain⟨k1,k2,k3,k4⟩:=h4 hr
 exact⟨hb,k1,h1,k2,h2,k3,k4⟩
theorem Q07.s{C:Ctx}{hp hp0:HP}{gv:Nat->Option Nat}(hh:Q07 C hp hp0 gv)(β γ:Nat)(h:gv β=some γ):∃hb hb',hp γ=some hb/\hp0 β=some hb'/\hb'.e=hb.e/\hb'.ty=hb.ty/\hb'.xs=hb.xs/\(hb'.fz=false->hb=hb'/\isR β=false)/\(isR β=true->hb'.fz=true)/\isB β=true:=by
 obtain⟨hb,h1,h2,h3,h4⟩:=hh.g β γ h
 cases hr:isR β with
 |true=>exact⟨hb,_,h1,h3 hr,rfl,rfl,rfl,(fun h=>by cases h),fun _=>rfl,h2⟩
 |false=>
  obtain⟨k1,k2,_⟩:=h4 hr
  exact⟨hb,hb,h1,k1,rfl,rfl,rfl,(fun _=>⟨rfl,rfl⟩),(fun h=>by cases h),h2⟩
end Go.FW
namespace Go.FW
open Go
variable {C : Ctx} {ρ : Nat -> Option Nat} {fr fr' : Fr} {hp hp' : HP} {w w' : World} {K R : Qg}
def Qmm(r:PV):Prop:=(r.refs=[]/\r.sref=[])/\∀σ,rnP σ r=r
def Q7r(nm:Nat->Bool)(p:PV):PV:=if(p.refs++p.sref).any nm then .undef else p
def dieF(nm:Nat->Bool)(fr:Fr):Fr:=fun s=>Q7r nm (fr s)
def exH(nm ex:Nat->Bool)(H hp:HP):HP:=fun x=>if ex x then H x else if nm x then none else hp x
def exF(S:List Nat)(F fr:Fr):Fr:=fun s=>if S.contains s then F s else fr s
end Go.FW
namespace Go.FW
open Go
variable {C : Ctx} {ρ : Nat -> Option Nat} {fr fr' : Fr} {hp : HP} {w : World} {K R : Qg}
theorem Q7s{B:List Nat}{F:Fr}{β δ:Nat}(hβ:B.contains β=true)(h2:β<1000000):mvF β δ (bse B F)=bse B F:=Qabd (.inl hβ) (.inl h2)
theorem rnPs:
  (∀(σ:Nat->Nat)(k:IntKind)(n:Int),rnP σ (.int k n)= .int k n)/\
  (∀(σ:Nat->Nat)(b:Bool),rnP σ (.bool b)= .bool b)/\
  (∀(σ:Nat->Nat)(e:Nat)(xs:List PV),rnP σ (.sl e xs)= .sl e xs)/\
  (∀(σ:Nat->Nat)(cs:List PV),rnP σ (.agg cs)= .agg cs)/\
  (∀(σ:Nat->Nat)(cs:List PV),rnP σ (.tup cs)= .tup cs)/\
  (∀(σ:Nat->Nat)(cs:List PV),rnP σ (.pt cs)= .pt cs)/\
  (∀(σ:Nat->Nat),rnP σ .nilS= .nilS)/\
  (∀(σ:Nat->Nat),rnP σ .undef= .undef)/\
  (∀(σ:Nat->Nat)(β o n:Nat),rnP σ (.mso β o n)= .mso (σ β) o n)/\
  (∀(σ:Nat->Nat)(β o n:Nat),rnP σ (.mp β o n)= .mp (σ β) o n)/\
  (∀(σ:Nat->Nat)(β o n:Nat),rnP σ (.nso β o n)= .nso (σ β) o n)/\
  (∀(σ:Nat->Nat)(β o n:Nat),rnP σ (.np β o n)= .np (σ β) o n)/\
  (∀(σ:Nat->Nat)(cs:List PV),rnP σ (.rag cs)= .rag (cs.map (rn1 σ))):=by
 refine⟨?_,?_,?_,?_,?_,?_,?_,?_,?_,?_,?_,?_,?_⟩<;>intros<;>rfl
theorem rn1s:
  (∀(σ:Nat->Nat)(k:IntKind)(n:Int),rn1 σ (.int k n)= .int k n)/\
  (∀(σ:Nat->Nat)(b:Bool),rn1 σ (.bool b)= .bool b)/\
  (∀(σ:Nat->Nat)(e:Nat)(xs:List PV),rn1 σ (.sl e xs)= .sl e xs)/\
  (∀(σ:Nat->Nat),rn1 σ .nilS= .nilS)/\
  (∀(σ:Nat->Nat),rn1 σ .undef= .undef)/\
  (∀(σ:Nat->Nat)(β o n:Nat),rn1 σ (.mso β o n)= .mso (σ β) o n)/\
  (∀(σ:Nat->Nat)(β o n:Nat),rn1 σ (.nso β o n)= .nso (σ β) o n):=by
 refine⟨?_,?_,?_,?_,?_,?_,?_⟩<;>intros<;>rfl
theorem Qahz:
  (∀(γ:Nat)(k:IntKind)(n:Int),Qfo γ (.int k n)= .int k n)/\
  (∀(γ:Nat)(b:Bool),Qfo γ (.bool b)= .bool b)/\
  (∀(γ e:Nat)(xs:List PV),Qfo γ (.sl e xs)= .sl e xs)/\
  (∀(γ:Nat)(cs:List PV),Qfo γ (.agg cs)= .agg cs)/\
  (∀(γ:Nat)(cs:List PV),Qfo γ (.tup cs)= .tup cs)/\
  (∀(γ:Nat)(cs:List PV),Qfo γ (.pt cs)= .pt cs)/\
  (∀(γ:Nat),Qfo γ .nilS= .nilS)/\
  (∀(γ:Nat),Qfo γ .undef= .undef)/\
  (∀(γ β o n:Nat),Qfo γ (.mso β o n)=if β=γ then .nso γ o n else .mso β o n)/\
  (∀(γ β o n:Nat),Qfo γ (.mp β o n)=if β=γ then .np γ o n else .mp β o n)/\
  (∀(γ β o n:Nat),Qfo γ (.nso β o n)= .nso β o n)/\
  (∀(γ β o n:Nat),Qfo γ (.np β o n)= .np β o n):=by
 refine⟨?_,?_,?_,?_,?_,?_,?_,?_,?_,?_,?_,?_⟩<;>intros<;>rfl
theorem Qabg{γ s:Nat}{x:PV}:toNF γ x fr s=if s=γ then x else Qfo γ (fr s):=rfl
theorem Qabh{args:List PV}{G:Fr}{s:Nat}:argG args G s=if s<1000000 then(args[s]?).getD .undef else G s:=rfl
theorem Qabi{nm:Nat->Bool}{s:Nat}:dieF nm fr s=Q7r nm (fr s):=rfl
theorem Qabj{nm:Nat->Bool}{p:PV}:Q7r nm p=if(p.refs++p.sref).any nm then .undef else p:=rfl
theorem Qaew{nm ex:Nat->Bool}{H:HP}{x:Nat}:exH nm ex H hp x=if ex x then H x else if nm x then none else hp x:=rfl
theorem Qaex{S:List Nat}{F:Fr}{s:Nat}:exF S F fr s=if S.contains s then F s else fr s:=rfl
attribute [go_sem] Qaba Qabb Qaet Qaeu Qaes Q7s rnPs rn1s Qahz Qabg Qabh Qabi Qabj Qaew Qaex
end Go.FW
namespace Go.FW
open Go
variable {C : Ctx} {ρ : Nat -> Option Nat} {fr fr' : Fr} {hp : HP} {w : World} {K R : Qg}
theorem Qabk{σ:Nat->Nat}{p:PV}(h:p= .nilS∨∃β n,p= .ms β n)(hσ:∀β n,p= .ms β n->σ β=β):Qe1 (p.ncells.map (rn1 σ))=p:=by
 rcases h with rfl|⟨β,n,rfl⟩
 ·rfl
 ·have:=hσ β n rfl
  simp[PV.ncells,PV.cells,rn1,Qe1,this]
def Qdp(B n w:Nat)(π:Nat->Nat):List (Nat×Nat):=(List.range n).map fun r=>(B+π r,w)
theorem Qwr{B n w r:Nat}{π:Nat->Nat}(h:r<(Qdp B n w π).length):(Qdp B n w π)[r]=(B+π r,w):=by simp[Qdp]
def Qkx{α:Type}(p:α->PV)(f:Nat->α)(w:Nat):List PV:=(List.range w).map fun c=>p (f c)
theorem Qx5{α:Type}(p:α->PV)(f:Nat->α)(w:Nat):(Qkx p f w).length=w:=by simp[Qkx]
theorem Q7t{α:Type}{p:α->PV}{f:Nat->α}{w c:Nat}(h:c<(Qkx p f w).length):(Qkx p f w)[c]=p (f c):=by simp[Qkx]
theorem Qah0{by_ ty d:Nat}{k k':IntKind}{n c:Nat}(h2:n<=c)(h3:by_*c<=281474976710656)(h4:c<=9223372036854775807):
  mkK 3 by_ ty (.agg [.bool false,.nilS,.nilS]) (.int k (n:Int)) (.int k' (c:Int)) d fr hp K=K (upd (Qaq d fr) d (.ms d n)) (Qx hp d ⟨3,ty,List.replicate n (.agg [.bool false,.nilS,.nilS]),false⟩):=by
 rw[Quu (e:=3) (by omega) rfl (by omega) (by omega) (by omega) (by omega)];rfl
attribute [go_sem] Qah0
end Go.FW
namespace Go.FW
open Go
def pev(φ:List Int->Rat):List Tm->Rat
 | []=>0
 |t::p=>t.1*φ t.2+pev φ p
theorem Qdn(φ:List Int->Rat):pev φ []=0:=rfl
theorem Qaz(φ:List Int->Rat)(t:Tm)(p:List Tm):pev φ (t::p)=t.1*φ t.2+pev φ p:=rfl
theorem Qq4(φ:List Int->Rat):∀(p q:List Tm),pev φ (p++q)=pev φ p+pev φ q
 | [],q=>by rw[List.nil_append,Qdn];grind
 |t::p,q=>by rw[List.cons_append,Qaz,Qaz,Qq4 φ p q];grind
theorem Qkh{φ ψ:List Int->Rat}:∀ {p:List Tm},(∀t∈p,φ t.2=ψ t.2)->pev φ p=pev ψ p
 | [],_=>rfl
 |t::p,h=>by
  rw[Qaz,Qaz,h t (by simp),Qkh (p:=p) (fun x hx=>h x (by simp[hx]))]
theorem Qzi(φ ψ:List Int->Rat):∀(p:List Tm),pev (fun m=>φ m+ψ m) p=pev φ p+pev ψ p
 | []=>by simp only[Qdn];grind
 |t::p=>by simp only[Qaz];rw[Qzi φ ψ p];grind
theorem Qws(c:Rat)(φ:List Int->Rat):∀(p:List Tm),pev (fun m=>c*φ m) p=c*pev φ p
 | []=>by simp only[Qdn];grind
 |t::p=>by simp only[Qaz];rw[Qws c φ p];grind
theorem Qwt:∀(p:List Tm),pev (fun _=>0) p=0
 | []=>rfl
 |t::p=>by simp only[Qaz];rw[Qwt p];grind
theorem Qps(ψ:List Int->List Int->Rat)(q:List Tm):∀(p:List Tm),pev (fun m=>pev (fun n=>ψ m n) q) p=pev (fun n=>pev (fun m=>ψ m n) p) q
 | []=>by simp only[Qdn];rw[Qwt]
 |t::p=>by
  simp only[Qaz]
  rw[Qps ψ q p,Qzi (fun n=>t.1*ψ t.2 n),Qws]
def Can(p:List Tm):Prop:=∀t∈p,t.2.getLast? ≠some 0
def NZ(p:List Tm):Prop:=∀t∈p,t.1≠0
structure Nrm(p:List Tm):Prop where
 c:Can p
 z:NZ p
 s:Qb1 p
theorem Can.cons{t:Tm}{p:List Tm}:Can (t::p)↔t.2.getLast? ≠some 0/\Can p:=by simp[Can]
theorem NZ.cons{t:Tm}{p:List Tm}:NZ (t::p)↔t.1≠0/\NZ p:=by simp[NZ]
theorem Nrm.nil:Nrm []:=⟨by simp[Can],by simp[NZ],trivial⟩
theorem Nrm.tail{t:Tm}{p:List Tm}(h:Nrm (t::p)):Nrm p:=⟨(Can.cons.1 h.c).2,(NZ.cons.1 h.z).2,h.s.2⟩
theorem Nrm.one{t:Tm}(h:t.1≠0)(hm:t.2.getLast? ≠some 0):Nrm [t]:=⟨by simpa[Can]using hm,by simpa[NZ]using h,⟨by simp,trivial⟩⟩
theorem PVd.nrm{p:List Tm}(h:PVd p):Nrm p:=⟨fun t ht=>Qoy (h.t t ht).m,fun t ht=>(h.t t ht).c,h.s⟩
theorem Qwu{φ:List Int->Rat}:∀ {p q:List Tm},Can p->Can q->pev φ (Q7 p q)=pev φ p+pev φ q:=by
 intro p q
 induction p,q using Q7.induct with
 |case1 q=>rw[Q7,Qdn];intros;grind
 |case2 p h=>rw[Qb3,Qdn];intros;grind
 |case3 c m p d l q h ih=>
  intro hp hq
  rw[Q7,if_pos h,Qaz,Qaz,ih (Can.cons.1 hp).2 hq];grind
 |case4 c m p d l q h1 h2 ih=>
  intro hp hq
  rw[Q7,if_neg h1,if_pos h2,Qaz,ih hp (Can.cons.1 hq).2,Qaz φ (d,l)];grind
 |case5 c m p d l q h1 h2 h3 ih=>
  intro hp hq
  have e:=Qmd h1 h2 (Can.cons.1 hp).1 (Can.cons.1 hq).1
  rw[Q7,if_neg h1,if_neg h2,if_pos h3,ih (Can.cons.1 hp).2 (Can.cons.1 hq).2,Qaz,Qaz]
  subst e
  have:c*φ m+d*φ m=0:=by rw[<-Rat.add_mul,h3];grind
  grind
 |case6 c m p d l q h1 h2 h3 ih=>
  intro hp hq
  have e:=Qmd h1 h2 (Can.cons.1 hp).1 (Can.cons.1 hq).1
  rw[Q7,if_neg h1,if_neg h2,if_neg h3,Qaz,ih (Can.cons.1 hp).2 (Can.cons.1 hq).2,Qaz,Qaz]
  subst e
  grind
theorem Qhm:∀ {p q:List Tm} {t:Tm},t∈Q7 p q->(∃s∈p,s.2=t.2)∨(∃s∈q,s.2=t.2):=by
 intro p q
 induction p,q using Q7.induct with
 |case1 q=>rw[Q7];intro t ht;exact Or.inr ⟨t,ht,rfl⟩
 |case2 p h=>rw[Qb3];intro t ht;exact Or.inl ⟨t,ht,rfl⟩
 | case3 c m p d l q h ih=>
  intro t ht
  rw[Q7,if_pos h]at ht
  rcases List.mem_cons.1 ht with rfl|ht
  ·exact Or.inl ⟨_,by simp,rfl⟩
  ·rcases ih ht with⟨s,h1,h2⟩|h1
   ·exact Or.inl ⟨s,by simp[h1],h2⟩
   ·exact Or.inr h1
 | case4 c m p d l q h1 h2 ih=>
  intro t ht
  rw[Q7,if_neg h1,if_pos h2]at ht
  rcases List.mem_cons.1 ht with rfl|ht
  ·exact Or.inr ⟨_,by simp,rfl⟩
  ·rcases ih ht with h3|⟨s,h3,h4⟩
   ·exact Or.inl h3
   ·exact Or.inr ⟨s,by simp[h3],h4⟩
 |case5 c m p d l q h1 h2 h3 ih=>
  intro t ht
  rw[Q7,if_neg h1,if_neg h2,if_pos h3]at ht
  rcases ih ht with⟨s,h4,h5⟩|⟨s,h4,h5⟩
  ·exact Or.inl ⟨s,by simp[h4],h5⟩
  ·exact Or.inr ⟨s,by simp[h4],h5⟩
 | case6 c m p d l q h1 h2 h3 ih=>
  intro t ht
  rw[Q7,if_neg h1,if_neg h2,if_neg h3]at ht
  rcases List.mem_cons.1 ht with rfl|ht
  ·exact Or.inl ⟨(c,m),by simp,rfl⟩
  ·rcases ih ht with⟨s,h4,h5⟩|⟨s,h4,h5⟩
   ·exact Or.inl ⟨s,by simp[h4],h5⟩
   ·exact Or.inr ⟨s,by simp[h4],h5⟩
theorem Qwv{p q:List Tm}(hp:Can p)(hq:Can q):Can (Q7 p q):=fun t ht=>by
 rcases Qhm ht with⟨s,h1,h2⟩|⟨s,h1,h2⟩
 ·rw[<-h2];exact hp s h1
 ·rw[<-h2];exact hq s h1
theorem Qabl:∀ {p q:List Tm},NZ p->NZ q->NZ (Q7 p q):=by
 intro p q
 induction p,q using Q7.induct with
 |case1 q=>rw[Q7];exact fun _ h=>h
 |case2 p h=>rw[Qb3];exact fun h _=>h
 |case3 c m p d l q h ih=>
  intro hp hq
  rw[Q7,if_pos h,NZ.cons]
  exact⟨(NZ.cons.1 hp).1,ih (NZ.cons.1 hp).2 hq⟩
 |case4 c m p d l q h1 h2 ih=>
  intro hp hq
  rw[Q7,if_neg h1,if_pos h2,NZ.cons]
  exact⟨(NZ.cons.1 hq).1,ih hp (NZ.cons.1 hq).2⟩
 |case5 c m p d l q h1 h2 h3 ih=>
  intro hp hq
  rw[Q7,if_neg h1,if_neg h2,if_pos h3]
  exact ih (NZ.cons.1 hp).2 (NZ.cons.1 hq).2
 |case6 c m p d l q h1 h2 h3 ih=>
  intro hp hq
  rw[Q7,if_neg h1,if_neg h2,if_neg h3,NZ.cons]
  exact⟨h3,ih (NZ.cons.1 hp).2 (NZ.cons.1 hq).2⟩
theorem Q08{a b c:List Int}(h:Qah a b=0)(h2:0<Qah b c):0<Qah a c:=by
 have e:∀i,eN a i=eN b i:=by
  intro i
  have:=(Qke a b _).1 h
  by_cases hi:i<max a.length b.length
  ·exact this i hi
  ·rw[Qed (by omega),Qed (by omega)]
 rw[Q0w e (fun _=>rfl)];exact h2
theorem Qx6:∀ {p q:List Tm},Qb1 p->Qb1 q->Qb1 (Q7 p q):=by
 intro p q
 induction p,q using Q7.induct with
 |case1 q=>rw[Q7];exact fun _ h=>h
 |case2 p h=>rw[Qb3];exact fun h _=>h
 | case3 c m p d l q h ih=>
  intro hp hq
  rw[Q7,if_pos h]
  refine⟨fun t ht=> ?_,ih hp.2 hq⟩
  rcases Qhm ht with⟨s,h1,h2⟩|⟨s,h1,h2⟩
  ·rw[<-h2];exact hp.1 s h1
  ·rw[<-h2]
   rcases List.mem_cons.1 h1 with rfl|h1
   ·exact h
   ·exact Qdw h (hq.1 s h1)
 | case4 c m p d l q h1 h2 ih=>
  intro hp hq
  rw[Q7,if_neg h1,if_pos h2]
  have h2':0<Qah l m:=by have:=Qhj m l;omega
  refine⟨fun t ht=> ?_,ih hp hq.2⟩
  rcases Qhm ht with⟨s,h3,h4⟩|⟨s,h3,h4⟩
  ·rw[<-h4]
   rcases List.mem_cons.1 h3 with rfl|h3
   ·exact h2'
   ·exact Qdw h2' (hp.1 s h3)
  ·rw[<-h4];exact hq.1 s h3
 |case5 c m p d l q h1 h2 h3 ih=>
  intro hp hq
  rw[Q7,if_neg h1,if_neg h2,if_pos h3]
  exact ih hp.2 hq.2
 |case6 c m p d l q h1 h2 h3 ih=>
  intro hp hq
  rw[Q7,if_neg h1,if_neg h2,if_neg h3]
  refine⟨fun t ht=> ?_,ih hp.2 hq.2⟩
  rcases Qhm ht with⟨s,h4,h5⟩|⟨s,h4,h5⟩
  ·rw[<-h5];exact hp.1 s h4
  ·rw[<-h5];exact Q08 (b:=l) (by show Qah m l=0;omega) (hq.1 s h4)
theorem Qpt{p q:List Tm}(hp:Nrm p)(hq:Nrm q):Nrm (Q7 p q):=⟨Qwv hp.c hq.c,Qabl hp.z hq.z,Qx6 hp.s hq.s⟩
def ind(m:List Int):List Int->Rat:=fun n=>if n=m then 1 else 0
theorem Qhz{m:List Int}:∀ {p:List Tm},(∀t∈p,t.2≠m)->pev (ind m) p=0
 | [],_=>rfl
 |t::p,h=>by
  rw[Qaz,Qhz (p:=p) (fun x hx=>h x (by simp[hx])),ind,if_neg (h t (by simp))];grind
theorem Qq5{a b:List Int}(h:0<Qah a b):b≠a:=by rintro rfl;rw[Qnh]at h;omega
theorem Qe0{t:Tm}{p:List Tm}(h:Qb1 (t::p)):pev (ind t.2) (t::p)=t.1:=by
 rw[Qaz,Qhz (fun s hs=>Qq5 (h.1 s hs)),ind,if_pos rfl];grind
theorem Qzj:∀ {p q:List Tm},Nrm p->Nrm q->(∀φ,pev φ p=pev φ q)->p=q
 | [],[],_,_,_=>rfl
 | [],t::q,_,hq,h=>by
  have:=h (ind t.2)
  rw[Qe0 hq.s,Qdn]at this
  exact absurd this.symm (hq.z t (by simp))
 |t::p,[],hp,_,h=>by
  have:=h (ind t.2)
  rw[Qe0 hp.s,Qdn]at this
  exact absurd this (hp.z t (by simp))
 | s ::p,t::q,hp,hq,h=>by
  by_cases h1:0<Qah s.2 t.2
  ·have:=h (ind s.2)
   rw[Qe0 hp.s,Qhz (fun x hx=> ?_)]at this
   ·exact absurd this (hp.z s (by simp))
   ·rcases List.mem_cons.1 hx with rfl|hx
    ·exact Qq5 h1
    ·exact Qq5 (Qdw h1 (hq.s.1 x hx))
  ·by_cases h2:Qah s.2 t.2<0
   ·have h2':0<Qah t.2 s.2:=by have:=Qhj s.2 t.2;omega
    have:=h (ind t.2)
    rw[Qe0 hq.s,Qhz (fun x hx=> ?_)]at this
    ·exact absurd this.symm (hq.z t (by simp))
    ·rcases List.mem_cons.1 hx with rfl|hx
     ·exact Qq5 h2'
     ·exact Qq5 (Qdw h2' (hp.s.1 x hx))
   ·have e:=Qmd h1 h2 (hp.c s (by simp)) (hq.c t (by simp))
    have e2:=h (ind s.2)
    rw[Qe0 hp.s,e,Qe0 hq.s]at e2
    have e3:s=t:=Prod.ext e2 e
    subst e3
    rw[Qzj hp.tail hq.tail (fun φ=>by have:=h φ;rw[Qaz,Qaz]at this;grind)]
theorem Q32{φ:List Int->Rat}:∀(n:Nat)(l:List (List Tm)),l.length<=n->(∀p∈l,Can p)->Can (Qa4 l)/\pev φ (Qa4 l)=(l.map (pev φ)).sum:=by
 intro n
 induction n with
 |zero=>
  intro l hl _
  have:l=[]:=List.length_eq_zero_iff.1 (by omega)
  subst this
  rw[Qa4];exact⟨Nrm.nil.c,rfl⟩
 | succ n ih=>
  intro l hl h
  match l,h with
  | [],_=>rw[Qa4];exact⟨Nrm.nil.c,rfl⟩
  | [p],h=>rw[Qa4];exact⟨h p (by simp),by simp;grind⟩
  |p::q::r,h=>
   rw[Qid (by simp)]
   generalize hL:p::q::r=L at *
   have hlen:2<=L.length:=by rw[<-hL];simp
   obtain⟨a1,a2⟩:=ih (L.take (L.length/2)) (by rw[List.length_take];omega) (fun x hx=>h x (List.mem_of_mem_take hx))
   obtain⟨b1,b2⟩:=ih (L.drop (L.length/2)) (by rw[List.length_drop];omega) (fun x hx=>h x (List.mem_of_mem_drop hx))
   refine⟨Qwv a1 b1,?_⟩
   rw[Qwu a1 b1,a2,b2,<-List.sum_append,<-List.map_append,List.take_append_drop]
theorem Q7u:∀(n:Nat)(l:List (List Tm)),l.length<=n->(∀p∈l,Nrm p)->Nrm (Qa4 l):=by
 intro n
 induction n with
 |zero=>
  intro l hl _
  have:l=[]:=List.length_eq_zero_iff.1 (by omega)
  subst this
  rw[Qa4];exact Nrm.nil
 | succ n ih=>
  intro l hl h
  match l,h with
  | [],_=>rw[Qa4];exact Nrm.nil
  | [p],h=>rw[Qa4];exact h p (by simp)
  | p::q::r,h=>
   rw[Qid (by simp)]
   generalize hL:p::q::r=L at *
   have hlen:2<=L.length:=by rw[<-hL];simp
   exact Qpt (ih (L.take (L.length/2)) (by rw[List.length_take];omega) (fun x hx=>h x (List.mem_of_mem_take hx)))
    (ih (L.drop (L.length/2)) (by rw[List.length_drop];omega) (fun x hx=>h x (List.mem_of_mem_drop hx)))
theorem Qmn(φ:List Int->Rat)(t:Tm):∀(p:List Tm),pev φ (Q9 p t)=t.1*pev (fun m=>φ (Qby m t.2)) p
 | []=>by rw[Q9,List.filterMap_nil,Qdn,Qdn];grind
 | s::p=>by
  have ih:=Qmn φ t p
  rw[Q9]at ih⊢
  rw[List.filterMap_cons]
  by_cases h:s.1*t.1=0
  ·simp only[h,if_true,Qaz]
   rw[ih]
   have:t.1*(s.1*φ (Qby s.2 t.2))=(s.1*t.1)*φ (Qby s.2 t.2):=by grind
   rw[Rat.mul_add,this,h];grind
  ·simp only[h,if_false,Qaz]
   rw[ih];grind
theorem Qmo(p:List Tm)(t:Tm):Can (Q9 p t):=by
 intro x hx
 simp only[Q9,List.mem_filterMap]at hx
 obtain⟨y,hy,h⟩:=hx
 split at h
 ·cases h
 ·cases h;exact Qic _ _
theorem Q33(p:List Tm)(t:Tm):NZ (Q9 p t):=by
 intro x hx
 simp only[Q9,List.mem_filterMap]at hx
 obtain⟨y,hy,h⟩:=hx
 split at h
 ·cases h
 ·rename_i h0;cases h;exact h0
theorem Qmv(t:Tm):∀(p:List Tm),Qb1 p->Qb1 (Q9 p t)
 | [],_=>trivial
 | s ::p,hp=>by
  have ih:=Qmv t p hp.2
  rw[Q9]at ih⊢
  rw[List.filterMap_cons]
  split
  ·exact ih
  ·rename_i b hb
   split at hb
   ·cases hb
   ·cases hb
    refine⟨fun x hx=> ?_,ih⟩
    simp only[List.mem_filterMap]at hx
    obtain⟨y,hy,h⟩:=hx
    split at h
    ·cases h
    ·cases h
     simp only[Q6n]
     exact hp.1 y hy
theorem Qq6{p:List Tm}(t:Tm)(hp:Qb1 p):Nrm (Q9 p t):=⟨Qmo _ _,Q33 _ _,Qmv t p hp⟩
theorem Qq7(φ:List Int->Rat)(q:List Tm):∀(p:List Tm),((p.map (Q9 q)).map (pev φ)).sum=pev (fun m=>pev (fun n=>φ (Qby m n)) q) p
 | []=>rfl
 |t::p=>by
  rw[List.map_cons,List.map_cons,List.sum_cons,Qq7 φ q p,Qmn,Qaz]
  congr 2
  exact Qkh fun s _=>by rw[Qkf]
theorem Qtu(φ:List Int->Rat)(p q:List Tm):pev φ (Qf5 p q)=pev (fun m=>pev (fun n=>φ (Qby m n)) q) p:=by
 rw[Qf5,(Q32 (φ:=φ) _ _ (Nat.le_refl _) ?_).2,Qq7]
 intro x hx
 obtain⟨t,_,rfl⟩:=List.mem_map.1 hx
 exact Qmo _ _
theorem Q7v(φ:List Int->Rat)(p q:List Tm):pev φ (Qbb p q)=pev (fun m=>pev (fun n=>φ (Qby m n)) q) p:=by
 unfold Qbb
 split
 ·rw[Qtu,Qps (fun m n=>φ (Qby m n))]
  exact Qkh fun s _=>Qkh fun t _=>by rw[Qkf]
 ·exact Qtu φ p q
theorem Qtv{p q:List Tm}(hq:Qb1 q):Nrm (Qf5 p q):=Q7u _ _ (Nat.le_refl _) fun x hx=>by
 obtain⟨t,_,rfl⟩:=List.mem_map.1 hx
 exact Qq6 t hq
theorem Qpu{p q:List Tm}(hp:Qb1 p)(hq:Qb1 q):Nrm (Qbb p q):=by
 unfold Qbb
 split
 ·exact Qtv hp
 ·exact Qtv hq
theorem Q09(a:Rat):Nrm (Qbm a):=by
 unfold Qbm
 split
 ·exact Nrm.nil
 ·rename_i h;exact Nrm.one h (by simp)
def Qf7(p q:List Tm):List Tm:=q.foldl (fun out t=>Q7 out (Q9 p t)) []
theorem Qtw(p:List Tm)(hp:Nrm p):∀(q out:List Tm),Nrm out->Nrm (q.foldl (fun out t=>Q7 out (Q9 p t)) out)/\
  ∀φ,pev φ (q.foldl (fun out t=>Q7 out (Q9 p t)) out)=pev φ out+pev (fun m=>pev (fun n=>φ (Qby n m)) p) q
 | [],out,h=>⟨h,fun φ=>by rw[List.foldl_nil,Qdn];grind⟩
 |t::q,out,h=>by
  obtain⟨h1,h2⟩:=Qtw p hp q (Q7 out (Q9 p t)) (Qpt h (Qq6 t hp.s))
  refine⟨h1,fun φ=> ?_⟩
  rw[List.foldl_cons,h2,Qwu h.c (Qmo _ _),Qmn,Qaz];grind
theorem Q7w{p q:List Tm}(hp:Nrm p)(hq:Nrm q):Qf7 p q=Qbb p q:=by
 obtain⟨h1,h2⟩:=Qtw p hp q [] Nrm.nil
 refine Qzj h1 (Qpu hp.s hq.s) fun φ=> ?_
 rw[Qf7,h2,Q7v,Qdn,Qps (fun m n=>φ (Qby m n))]
 grind
end Go.FW
namespace Go.FW
open Go
variable {C : Ctx} {fr : Fr} {hp : HP} {w : World} {K R : Qg}
theorem Qzk{len e β j o d i:Nat}{k:IntKind}(h:i<len):Qhp len e (.mp β j o) (.int k (i:Int)) d fr hp K=K (upd fr d (.mp β j (o+i*e))) hp:=by
 simp only[Qhp,Int.toNat_natCast]
 exact propext ⟨fun h=>h.2.2,fun h'=>⟨by omega,by omega,h'⟩⟩
theorem Qx7{e by_ ty d:Nat}(h0:0<e):Qfb e by_ ty .nilS (.sl e []) d fr hp K=K (upd (Qaq d fr) d (.ms d 0)) (Qx hp d ⟨e,ty,[],false⟩):=by
 have:=Qlz (fr:=fr) (hp:=hp) (K:=K) (e:=e) (by_:=by_) (ty:=ty) (d:=d) (x:= .sl e []) (ys:=[]) rfl h0 (by simp) (by simp)
 simpa using this
end Go.FW
namespace Go.FW
open Go
theorem Qsr{m:List Int}{c:Rat}:∀ {u v:List Tm},(∀t∈u,0<Qah t.2 m)->(∀t∈v,Qah t.2 m<0)->Q7 (u++v) [(c,m)]=u++(c,m)::v
 | [],[],_,_=>by rw[List.nil_append,Qep];rfl
 | [],t::v,_,hv=>by
  have h1:=hv t (by simp)
  rw[List.nil_append,Qie,if_neg (by show ¬0<Qah t.2 m;omega),if_pos (by exact h1),Qb3];rfl
 |t::u,v,hu,hv=>by
  rw[List.cons_append,Qie,if_pos (by exact hu t (by simp)),Qsr (fun s hs=>hu s (by simp[hs])) hv];rfl
theorem Qzl{m:List Int}{c d:Rat}:∀ {u v:List Tm},(∀t∈u,0<Qah t.2 m)->Q7 (u++(d,m)::v) [(c,m)]=u++(if d+c=0 then []else [(d+c,m)])++v
 | [],v,_=>by
  have h0:=Qnh m
  rw[List.nil_append,Qie,if_neg (by show ¬0<Qah m m;omega),if_neg (by show ¬Qah m m<0;omega)]
  show(if d+c=0 then Q7 v []else(d+c,m)::Q7 v [])=_
  rw[Qb3]
  split<;>rfl
 |t::u,v,hu=>by
  rw[List.cons_append,Qie,if_pos (by exact hu t (by simp)),Qzl (fun s hs=>hu s (by simp[hs]))];simp
def Qg1(p:List Tm)(c:Rat)(m:List Int):List Tm:=Q7 p (if c=0 then []else [(c,m)])
theorem Qww{p:List Tm}(hs:Qb1 p):∀ {i:Nat} (h:i<p.length),∀t∈p.take i,0<Qah t.2 p[i].2:=by
 induction p with
 |nil=>intro i h;simp at h
 | cons s p ih=>
  intro i h t ht
  cases i with
  |zero=>simp at ht
  |succ i=>
   simp only[List.take_succ_cons,List.mem_cons]at ht
   have hi:i<p.length:=by simpa using h
   show 0<Qah t.2 p[i].2
   rcases ht with rfl|ht
   ·exact hs.1 _ (List.getElem_mem hi)
   ·exact ih hs.2 hi t ht
end Go.FW
namespace Go.FW
open Go
end Go.FW
namespace Go.FW
open Go
def toR(t:Tm):RTm:=⟨decide (t.1.num<0),dig t.1.num.natAbs,dig t.1.den,t.2⟩
theorem Qwx(p:List Tm):PV.rpoly (p.map toR)=PV.poly p:=by
 show PV.sl 4 ((p.map toR).map PV.rterm)=PV.sl 4 (p.map PV.term)
 rw[List.map_map];rfl
theorem Qaey{t:Tm}{k:Nat}(h:rs t.1<=k)(hm:t.2.length<2^40):RB k (toR t):=by
 have h1:nl t.1.num.natAbs<=k:=by unfold rs at h;omega
 have h2:nl t.1.den<=k:=by unfold rs at h;omega
 exact⟨⟨Qj _,Qj _,h1,h2⟩,hm⟩
end Go.FW
namespace Go.FW
open Go
def Qbo(a:Rat):Nat->Rat
 |0=>1
 |n+1=>Qbo a n*a
theorem Qnq(a:Rat):Qbo a 0=1:=rfl
theorem Q7x(a:Rat):Qbo a 1=a:=by show 1*a=a;grind
theorem Q7y(a:Rat)(m:Nat):∀n,Qbo a (m+n)=Qbo a m*Qbo a n
 |0=>by rw[Nat.add_zero,Qnq];grind
 |n+1=>by
  rw[<-Nat.add_assoc]
  show Qbo a (m+n)*a=Qbo a m*(Qbo a n*a)
  rw[Q7y a m n];grind
theorem Qss(a:Rat):∀k,Qbo (a*a) k=Qbo a (2*k)
 |0=>rfl
 |k+1=>by
  show Qbo (a*a) k*(a*a)=_
  rw[Qss a k,show 2*(k+1)=2*k+1+1 by omega]
  show _=Qbo a (2*k)*a*a
  grind
theorem Qst{a:Rat}{n:Nat}(h:n%2=0):Qbo (a*a) (n/2)=Qbo a n:=by rw[Qss];congr 1;omega
theorem Qui{a:Rat}{n:Nat}(h:n%2=1):Qbo (a*a) (n/2)*a=Qbo a n:=by
 rw[Qss,show n=2*(n/2)+1 by omega,show 2*((2*(n/2)+1)/2)=2*(n/2)by omega];rfl
theorem Qsu(a:Rat):∀n,rs (Qbo a n)<=1+rs a*n
 |0=>by have:=Qwh;show rs 1<=_;omega
 |n+1=>by
  have:=Qsu a n
  have:=Qjo (Qbo a n) a
  rw[Nat.mul_add]
  show rs (Qbo a n*a)<=_
  omega
def Qe6(vs:List Rat)(m:List Int):Nat->Rat
 |0=>1
 |n+1=>Qe6 vs m n*Qbo (vs.getD n 0) (eN m n).toNat
def mev(vs:List Rat)(m:List Int):Rat:=Qe6 vs m m.length
def Qeq(vs:List Rat)(p:List Tm):Rat:=pev (mev vs) p
def Qnr(vs:List Rat)(p:List Tm):Bool:=p.any fun t=>decide (vs.length<t.2.length)
abbrev PV.rats(vs:List Rat):PV:= .sl 3 (vs.map PV.rat)
def evR(vs:List Rat)(p:List Tm):PV:=if Qnr vs p=true then .tup [PV.rr false [] [],.int .i64 2]else .tup [PV.rat (Qeq vs p),.int .i64 0]
theorem Qq8{vs:List Rat}{p:List Tm}{i:Nat}(h:i<p.length):Qeq vs (p.take (i+1))=Qeq vs (p.take i)+p[i].1*mev vs p[i].2:=by
 rw[List.take_succ_eq_append_getElem h,Qeq,Qq4,Qaz,Qdn,Qeq];grind
theorem Qsv{vs:List Rat}{m:List Int}{E W:Nat}(hm:MB E m)(hv:∀v∈vs,rs v<=W)(hW:1<=W)(c:Rat):∀n,rs (c*Qe6 vs m n)<=rs c+n*(1+W*E)
 |0=>by
  have:c*Qe6 vs m 0=c:=by show c*1=c;grind
  rw[this];omega
 | n+1=>by
  have h1:=Qsv hm hv hW c n
  have h2:=Qsu (vs.getD n 0) (eN m n).toNat
  have h3:rs (vs.getD n 0)<=W:=by
   by_cases h:n<vs.length
   ·rw[List.getD_eq_getElem?_getD,List.getElem?_eq_getElem h];exact hv _ (List.getElem_mem h)
   ·rw[List.getD_eq_getElem?_getD,List.getElem?_eq_none (by omega)]
    have:=Q6p
    show rs 0<=W;omega
  have h4:(eN m n).toNat<=E:=by have:=(hm.eN n).2;omega
  have h5:rs (vs.getD n 0)*(eN m n).toNat<=W*E:=Nat.mul_le_mul h3 h4
  have h6:=Qjo (c*Qe6 vs m n) (Qbo (vs.getD n 0) (eN m n).toNat)
  have e:c*Qe6 vs m (n+1)=(c*Qe6 vs m n)*Qbo (vs.getD n 0) (eN m n).toNat:=by
   show c*(Qe6 vs m n*_)=_;grind
  rw[e,Nat.add_mul]
  omega
theorem Qpv{vs:List Rat}{p:List Tm}{K E W:Nat}(hp:PB K E p)(hv:∀v∈vs,rs v<=W)(hW:1<=W):∀i,i<=p.length->rs (Qeq vs (p.take i))<=1+i*(K+64*(1+W*E))
 |0,_=>by have:=Q6p;show rs 0<=_;omega
 |i+1,h=>by
  have h1:=Qpv hp hv hW i (by omega)
  have ht:=hp.get (i:=i) (by omega)
  have h2:=Qsv (vs:=vs) ht.m hv hW p[i].1 p[i].2.length
  have h3:=Qli (Qeq vs (p.take i)) (p[i].1*mev vs p[i].2)
  have h4:p[i].2.length*(1+W*E)<=64*(1+W*E):=Nat.mul_le_mul_right _ ht.m.len
  have h5:=ht.c
  rw[Qq8 (by omega),Nat.add_mul]
  have h6:rs (p[i].1*mev vs p[i].2)<=rs p[i].1+p[i].2.length*(1+W*E):=h2
  omega
end Go.FW
namespace Go.FW
open Go
end Go.FW
namespace Go.FW
open Go
theorem Q1a{B B':List Nat}{F:Fr}(h:(B'.all B.contains)=true):Qad B' (Qad B F)=Qad B F:=by
 funext s
 rw[Qng B']
 split
 ·rename_i h1
  rw[Qng B]at h1⊢
  split
  ·rfl
  ·rename_i h2
   rw[if_neg h2]at h1
   exfalso
   apply h2
   rw[List.any_eq_true]at h1⊢
   obtain⟨x,hx,hb⟩:=h1
   rw[List.all_eq_true]at h
   exact⟨x,hx,h x (List.contains_iff_mem.1 hb)⟩
 ·rfl
theorem Q1b{W:List (Nat×Nat)}{B:List Nat}{J F:Fr}:Qad B (ovr W J F)=ovr W (Qad B J) (Qad B F):=by
 funext s;unfold Qad ovr;split<;>rfl
theorem Qx8{V W:List (Nat×Nat)}{B B':List Nat}{X Z F:Fr}(h:Q0o V W=true)(hB:(B'.all B.contains)=true):ovr V X (Qad B' (ovr W Z (Qad B F)))=ovr W (ovr V X (Qad B' Z)) (Qad B F):=by
 rw[Q1b,Q1a hB,Qfy h]
section
variable {C : Ctx} {fr : Fr} {hp : HP} {w : World} {K R : Qg}
end
def Q1c(m:List Int)(v:Nat):List Int:=Qhx (m.set v 0)
def Qq9(p:List Tm)(v:Nat)(n:Int):List Tm:=p.filterMap fun t=>if eN t.2 v=n then some (t.1,Q1c t.2 v)else none
theorem Q34{p:List Tm}{v:Nat}{n:Int}{t:Tm}(h:t∈Qq9 p v n):∃s∈p,eN s.2 v=n/\t=(s.1,Q1c s.2 v):=by
 simp only[Qq9,List.mem_filterMap]at h
 obtain⟨s,h1,h2⟩:=h
 split at h2
 ·rename_i h3;cases h2;exact⟨s,h1,h3,rfl⟩
 ·cases h2
end Go.FW
namespace Go.FW
open Go
def hor(p:List Tm)(v:Nat)(q:List Tm)(top:Nat):Nat->List Tm
 |0=>Qq9 p v top
 |k+1=>Q7 (Qbb (hor p v q top k) q) (Qq9 p v ((top:Int)-(k+1)))
end Go.FW
namespace Go.FW
open Go
def Qch(vs:List Rat)(v:Nat)(b:Rat)(n:Int):List Tm->Rat
 | []=>0
 |t::p=>(if n<=eN t.2 v then t.1*mev vs (Q1c t.2 v)*Qbo b (eN t.2 v-n).toNat else 0)+Qch vs v b n p
def ML(n:Nat)(p:List Tm):Prop:=∀t∈p,t.2.length<=n
theorem ML.padd{n:Nat}{p q:List Tm}(hp:ML n p)(hq:ML n q):ML n (Q7 p q):=fun t ht=>by
 rcases Qhm ht with⟨s,h1,h2⟩|⟨s,h1,h2⟩
 ·rw[<-h2];exact hp s h1
 ·rw[<-h2];exact hq s h1
theorem Q7z(a b:List Int):(Qby a b).length<=max a.length b.length:=by
 have:=Qgz (Qfk (· + ·) a b)
 rwa[Qb4]at this
theorem Q1d{p:List Tm}{t x:Tm}(h:x∈Q9 p t):∃s∈p,x.2=Qby s.2 t.2:=by
 simp only[Q9,List.mem_filterMap]at h
 obtain⟨y,hy,h⟩:=h
 split at h
 ·cases h
 ·cases h;exact⟨y,hy,rfl⟩
theorem Q70:∀(n:Nat)(l:List (List Tm)),l.length<=n->∀ {t:Tm},t∈Qa4 l->∃p∈l,∃s∈p,s.2=t.2:=by
 intro n
 induction n with
 |zero=>
  intro l hl t ht
  have:l=[]:=List.length_eq_zero_iff.1 (by omega)
  subst this
  rw[Qa4]at ht;cases ht
 | succ n ih=>
  intro l hl t ht
  match l,ht with
  | [],ht=>rw[Qa4]at ht;cases ht
  | [p],ht=>rw[Qa4]at ht;exact⟨p,by simp,t,ht,rfl⟩
  | p::q::r,ht=>
   rw[Qid (by simp)]at ht
   generalize hL:p::q::r=L at *
   have hlen:2<=L.length:=by rw[<-hL];simp
   rcases Qhm ht with⟨s,h1,h2⟩|⟨s,h1,h2⟩
   ·obtain⟨p',hp',s',hs',e⟩:=ih _ (by rw[List.length_take];omega) h1
    exact⟨p',List.mem_of_mem_take hp',s',hs',e.trans h2⟩
   ·obtain⟨p',hp',s',hs',e⟩:=ih _ (by rw[List.length_drop];omega) h1
    exact⟨p',List.mem_of_mem_drop hp',s',hs',e.trans h2⟩
theorem Q71{p q:List Tm}{t:Tm}(h:t∈Qbb p q):∃a∈p,∃b∈q,t.2=Qby a.2 b.2:=by
 have main:∀ {p q:List Tm},t∈Qf5 p q->∃a∈p,∃b∈q,t.2=Qby a.2 b.2:=fun {p q} h=>by
  obtain⟨x,hx,s,hs,e⟩:=Q70 _ _ (Nat.le_refl _) h
  obtain⟨a,ha,rfl⟩:=List.mem_map.1 hx
  obtain⟨b,hb,e2⟩:=Q1d hs
  exact⟨a,ha,b,hb,by rw[<-e,e2,Qkf]⟩
 unfold Qbb at h
 split at h
 ·obtain⟨a,ha,b,hb,e⟩:=main h
  exact⟨b,hb,a,ha,by rw[e,Qkf]⟩
 ·exact main h
theorem ML.pmul{n:Nat}{p q:List Tm}(hp:ML n p)(hq:ML n q):ML n (Qbb p q):=fun t ht=>by
 obtain⟨a,ha,b,hb,e⟩:=Q71 ht
 have:=Q7z a.2 b.2
 have:=hp a ha
 have:=hq b hb
 rw[e];omega
theorem ML.coefN{n:Nat}{p:List Tm}(hp:ML n p)(v:Nat)(k:Int):ML n (Qq9 p v k):=fun t ht=>by
 obtain⟨s,h1,_,rfl⟩:=Q34 ht
 have:=Qgz (s.2.set v 0)
 rw[List.length_set]at this
 exact Nat.le_trans this (hp s h1)
theorem ML.hor{n:Nat}{p q:List Tm}(hp:ML n p)(hq:ML n q)(v top:Nat):∀k,ML n (hor p v q top k)
 |0=>hp.coefN v _
 |k+1=>((ML.hor hp hq v top k).pmul hq).padd (hp.coefN v _)
end Go.FW
namespace Go.FW
open Go
end Go.FW
namespace Go.FW
open Go
def Qg2(v n:Nat):List Int:=List.replicate v 0++[(n:Int)]
theorem Q35{v n:Nat}(h:0<n):(Qg2 v n).getLast? ≠some 0:=by
 unfold Qg2
 rw[List.getLast?_append]
 simp
 omega
theorem Qabm{v n:Nat}(hv:v<64):MB n (Qg2 v n):=by
 refine⟨by simp[Qg2];omega,fun x hx=> ?_,fun x hx=> ?_⟩
 all_goals
  simp only[Qg2,List.mem_append,List.mem_replicate,List.mem_singleton]at hx
  omega
end Go.FW
namespace Go.FW
open Go
variable {C : Ctx} {fr : Fr} {hp : HP} {w : World} {K R : Qg}
end Go.FW
namespace Go.FW
open Go
variable {C : Ctx} {fr : Fr} {hp : HP} {K : Qg}
end Go.FW
namespace Go.FW
open Go
theorem Qra:∀ {p:List Tm},Qb1 p->∀n,Qb1 (p.take n)
 |_,_,0=>trivial
 | [],_,n+1=>trivial
 |t::p,h,n+1=>⟨fun s hs=>h.1 s (List.mem_of_mem_take hs),Qra h.2 n⟩
theorem Nrm.take{p:List Tm}(h:Nrm p)(n:Nat):Nrm (p.take n):=⟨fun t ht=>h.c t (List.mem_of_mem_take ht),fun t ht=>h.z t (List.mem_of_mem_take ht),Qra h.s n⟩
end Go.FW
namespace Go.FW
open Go
structure RQ where
 n:Bool
 a:List Nat
 d:List Nat
 deriving Inhabited
abbrev PV.rq(q:RQ):PV:=PV.rr q.n q.a q.d
abbrev PV.rqs(l:List RQ):PV:= .sl 3 (l.map PV.rq)
def rqV(q:RQ):Rat:=rv q.n q.a q.d
end Go.FW
