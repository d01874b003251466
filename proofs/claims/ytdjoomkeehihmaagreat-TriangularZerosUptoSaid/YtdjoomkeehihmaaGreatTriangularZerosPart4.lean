/- Part 4 of the proof of TriangularZeros: C1, CM, CP, CI, C1b, N1, N2, N3, N4, N5, N6, N7, N8, N9, N10, N11, N12, N13, N14, N15, I1, R1, R2, R3, R4, M1, M2, P1, P2, P3, FwQA, FwSD. Own lemmas; no conditions. -/
import Derived.Test.YtdjoomkeehihmaaGreatTriangularZerosPart3
import Derived.Test.YtdjoomkeehihmaaGreatProg
set_option maxHeartbeats 1000000
set_option linter.unusedSimpArgs false
set_option linter.unusedVariables false
set_option linter.unnecessarySimpa false
set_option maxRecDepth 100000
namespace Go.Proofs.YtdjoomkeehihmaaGreat
open Go Go.FW
theorem Qo:Tryz.prog.follows .mixedOrders=true:=by kernel_rfl
def zn:aA:=⟨21,[.t 2],Zr (Zo (.mv 2 (.c .aa)) .nil)<|Zr (Zm 4 0<|Zn 5 4<|Zm 3 5 .nil)<| .seq (.block 0<| .loop<| .seq (Zr (Zm 6 3<|Zk 7 .gtr 6 0<|Zm 8 7<|Zg 8 true (.mv 9 (.t 0))<|Zg 8 true (.mv 10 (.t 3))<|Zg 8 true (.bin 11 .sub false (.t 10) (.c (Zz 1)))<|Zg 8 true (.idx 12 1 (.t 9) (.t 11))<|Zg 8 true (.ld 13 1 false (.t 12))<|Zg 8 true (.bin 14 .eql false (.t 13) (.c (.int .u16 0)))<|Zo (.pick 15 (.t 8) (.t 14) (.c (.bool false))) .nil)<| .cond (.t 15) .skip (.exit 0))<| .block 1<| .rg (Zm 16 3<|Zk 17 .sub 16 1<|Zm 3 17 .nil))<|Zr (Zm 18 0<|Zm 19 3<|Zo (.sl 20 1 (.t 18) none (some (.t 19)) none)<|Zm 2 20 .nil) .ret⟩
theorem QR:Qe Tryz.prog Tryz.f143=some zn:=by kernel_rfl
def LP:aA:=⟨16,[.t 2],Zr (Zo (.mv 2 (.c .aa)) .nil)<|Zr (Zm 4 0<|Zq 5 false 143 [.t 4]<|Zm 0 5 .nil)<| .seq (Zr (Zm 6 0<|Zn 7 6<|Zk 8 .eql 7 0 .nil)<| .cond (.t 8) (Zr (Zo (.mv 2 (.c .aa)) .nil) .ret) .skip)<|Zr (Zm 9 0<|Zn 10 9<|Zo (.mk 11 1 2 76 (.int .u16 0) (.t 10) (.t 10))<|Zm 3 11 .nil)<|Zr (Zm 12 3<|Zm 13 0<|Zo (.uc 14 1 (.t 12) (.t 13)) .nil)<|Zr (Zm 15 3<|Zm 2 15 .nil) .ret⟩
theorem ajf:Qe Tryz.prog Tryz.f86=some LP:=by kernel_rfl
def LR:aA:=⟨14,[.t 2],Zr (Zo (.mv 2 (.c .aa)) .nil)<|Zr (Zo (.mv 3 (.c .aa)) .nil)<| .seq (.block 0<| .loop<| .seq (Zr (Zm 4 0<|Zo (.bin 5 .gtr false (.t 4) (.c (.int .u64 0))) .nil)<| .cond (.t 5) .skip (.exit 0))<| .seq (.block 1<| .rg (Zm 8 3<|Zm 9 0<|Zo (.conv 10 .u16 (.t 9))<|Zo (.bs 11 1 76 [.t 10])<|Zo (.app 12 1 2 76 (.t 8) (.t 11))<|Zm 3 12 .nil))<| .rg (Zm 6 0<|Zo (.bin 7 .shr false (.t 6) (.c (.int .u64 16)))<|Zm 0 7 .nil))<|Zr (Zm 13 3<|Zm 2 13 .nil) .ret⟩
theorem ajg:Qe Tryz.prog Tryz.f88=some LR:=by kernel_rfl
def LQ:aA:=⟨28,[.t 2,.t 3],Zr (Zo (.mv 2 (.c (.int .u64 0)))<|Zo (.mv 3 (.c (.bool false))) .nil)<|Zr (Zm 7 0<|Zq 8 false 143 [.t 7]<|Zm 0 8 .nil)<| .seq (Zr (Zm 9 0<|Zn 10 9<|Zk 11 .gtr 10 4 .nil)<| .cond (.t 11) (Zr (Zo (.mv 2 (.c (.int .u64 0)))<|Zo (.mv 3 (.c (.bool false))) .nil) .ret) .skip)<|Zr (Zo (.mv 4 (.c (.int .u64 0))) .nil)<| .seq (Zr (Zm 12 0<|Zn 13 12<|Zc 14 0 .nil)<| .block 0<| .loop<|Zr (Zb 15 .lss 14 13 .nil)<| .seq (.cond (.t 15) .skip (.exit 0))<| .seq (.block 1<|Zr (Zm 16 14<|Zi 17 1 12 14<|Zl 18 1 17<|Zm 5 16<|Zm 6 18 .nil)<| .rg (Zm 19 4<|Zm 20 6<|Zo (.conv 21 .u64 (.t 20))<|Zm 22 5<|Zo (.bin 23 .mul false (.c (Zz 16)) (.t 22))<|Zb 24 .shl 21 23<|Zb 25 .or 19 24<|Zm 4 25 .nil))<| .rg (Zk 26 .add 14 1<|Zm 14 26 .nil))<|Zr (Zm 27 4<|Zm 2 27<|Zo (.mv 3 (.c (.bool true))) .nil) .ret⟩
theorem ajh:Qe Tryz.prog Tryz.f87=some LQ:=by kernel_rfl
def L4:aA:=⟨20,[.t 2],Zr (Zc 2 0 .nil)<|Zr (Zm 3 0<|Zq 4 false 143 [.t 3]<|Zm 0 4 .nil)<| .seq (Zr (Zm 5 0<|Zn 6 5<|Zk 7 .eql 6 0 .nil)<| .cond (.t 7) (Zr (Zc 2 0 .nil) .ret) .skip)<|Zr (Zm 8 0<|Zn 9 8<|Zk 10 .sub 9 1<|Zo (.bin 11 .mul false (.c (Zz 16)) (.t 10))<|Zm 12 0<|Zm 13 0<|Zn 14 13<|Zk 15 .sub 14 1<|Zi 16 1 12 15<|Zl 17 1 16<|Zq 18 false 151 [.t 17]<|Zb 19 .add 11 18<|Zm 2 19 .nil) .ret⟩
theorem aji:Qe Tryz.prog Tryz.f96=some L4:=by kernel_rfl
def JY:aA:=⟨45,[.t 4],Zr (Zc 4 0 .nil)<|Zr (Zm 6 0<|Zq 7 false 143 [.t 6]<|Zm 8 1<|Zq 9 false 143 [.t 8]<|Zm 0 7<|Zm 1 9 .nil)<| .seq (Zr (Zm 10 0<|Zn 11 10<|Zm 12 1<|Zn 13 12<|Zb 14 .neq 11 13 .nil)<| .cond (.t 14) (.seq (Zr (Zm 15 0<|Zn 16 15<|Zm 17 1<|Zn 18 17<|Zb 19 .lss 16 18 .nil)<| .cond (.t 19) (Zr (Zc 4 (-1) .nil) .ret) .skip)<|Zr (Zc 4 1 .nil) .ret) .skip)<| .seq (Zr (Zm 20 0<|Zn 21 20<|Zk 22 .sub 21 1<|Zm 5 22 .nil)<| .block 0<| .loop<| .seq (Zr (Zm 23 5<|Zk 24 .geq 23 0 .nil)<| .cond (.t 24) .skip (.exit 0))<| .seq (.block 1<| .seq (Zr (Zm 27 0<|Zm 28 5<|Zi 29 1 27 28<|Zl 30 1 29<|Zm 31 1<|Zm 32 5<|Zi 33 1 31 32<|Zl 34 1 33<|Zb 35 .lss 30 34 .nil)<| .cond (.t 35) (Zr (Zc 4 (-1) .nil) .ret) .skip)<|Zr (Zm 36 0<|Zm 37 5<|Zi 38 1 36 37<|Zl 39 1 38<|Zm 40 1<|Zm 41 5<|Zi 42 1 40 41<|Zl 43 1 42<|Zb 44 .gtr 39 43 .nil)<| .cond (.t 44) (Zr (Zc 4 1 .nil) .ret) .skip)<| .rg (Zm 25 5<|Zk 26 .sub 25 1<|Zm 5 26 .nil))<|Zr (Zc 4 0 .nil) .ret⟩
theorem age:Qe Tryz.prog Tryz.f144=some JY:=by kernel_rfl
def Kz:aA:=⟨64,[.t 4],Zr (Zo (.mv 4 (.c .aa)) .nil)<|Zr (Zm 9 0<|Zq 10 false 143 [.t 9]<|Zm 11 1<|Zq 12 false 143 [.t 11]<|Zm 0 10<|Zm 1 12 .nil)<| .seq (Zr (Zm 13 0<|Zn 14 13<|Zm 15 1<|Zn 16 15<|Zb 17 .lss 14 16 .nil)<| .cond (.t 17) (.rg (Zm 18 1<|Zm 19 0<|Zm 0 18<|Zm 1 19 .nil)) .skip)<|Zr (Zm 20 0<|Zn 21 20<|Zm 22 0<|Zn 23 22<|Zk 24 .add 23 1<|Zo (.mk 25 1 2 76 (.int .u16 0) (.t 21) (.t 24))<|Zm 5 25 .nil)<|Zr (Zo (.mv 6 (.c (.int .u32 0))) .nil)<| .seq (Zr (Zm 26 0<|Zn 27 26<|Zc 28 0 .nil)<| .block 0<| .loop<|Zr (Zb 29 .lss 28 27 .nil)<| .seq (.cond (.t 29) .skip (.exit 0))<| .seq (.block 1<|Zr (Zm 30 28<|Zi 31 1 26 28<|Zl 32 1 31<|Zm 7 30<|Zm 8 32 .nil)<|Zr (Zm 33 6<|Zm 34 8<|Zo (.conv 35 .u32 (.t 34))<|Zb 36 .add 33 35<|Zm 6 36 .nil)<| .seq (Zr (Zm 37 7<|Zm 38 1<|Zn 39 38<|Zb 40 .lss 37 39 .nil)<| .cond (.t 40) (.rg (Zm 41 6<|Zm 42 1<|Zm 43 7<|Zi 44 1 42 43<|Zl 45 1 44<|Zo (.conv 46 .u32 (.t 45))<|Zb 47 .add 41 46<|Zm 6 47 .nil)) .skip)<|Zr (Zm 48 5<|Zm 49 7<|Zm 50 6<|Zo (.conv 51 .u16 (.t 50))<|Zi 52 1 48 49<|Zs 1 52 51 .nil)<| .rg (Zm 53 6<|Zo (.bin 54 .shr false (.t 53) (.c (.int .u64 16)))<|Zm 6 54 .nil))<| .rg (Zk 55 .add 28 1<|Zm 28 55 .nil))<| .seq (Zr (Zm 56 6<|Zo (.bin 57 .gtr false (.t 56) (.c (.int .u32 0))) .nil)<| .cond (.t 57) (.rg (Zm 58 5<|Zm 59 6<|Zo (.conv 60 .u16 (.t 59))<|Zo (.bs 61 1 76 [.t 60])<|Zo (.app 62 1 2 76 (.t 58) (.t 61))<|Zm 5 62 .nil)) .skip)<|Zr (Zm 63 5<|Zm 4 63 .nil) .ret⟩
theorem agf:Qe Tryz.prog Tryz.f176=some Kz:=by kernel_rfl
def KA:aA:=⟨56,[.t 4,.t 5],Zr (Zo (.mv 4 (.c .aa))<|Zc 5 0 .nil)<| .seq (Zr (Zm 11 0<|Zm 12 1<|Zq 13 false 144 [.t 11,.t 12]<|Zk 14 .lss 13 0 .nil)<| .cond (.t 14) (Zr (Zo (.mv 4 (.c .aa))<|Zc 5 2 .nil) .ret) .skip)<|Zr (Zm 15 0<|Zq 16 false 143 [.t 15]<|Zm 17 1<|Zq 18 false 143 [.t 17]<|Zm 0 16<|Zm 1 18 .nil)<|Zr (Zm 19 0<|Zn 20 19<|Zo (.mk 21 1 2 76 (.int .u16 0) (.t 20) (.t 20))<|Zm 6 21 .nil)<|Zr (Zo (.mv 7 (.c (.int .i32 0))) .nil)<| .seq (Zr (Zm 22 0<|Zn 23 22<|Zc 24 0 .nil)<| .block 0<| .loop<|Zr (Zb 25 .lss 24 23 .nil)<| .seq (.cond (.t 25) .skip (.exit 0))<| .seq (.block 1<|Zr (Zm 26 24<|Zi 27 1 22 24<|Zl 28 1 27<|Zm 8 26<|Zm 9 28 .nil)<|Zr (Zm 29 9<|Zo (.conv 30 .i32 (.t 29))<|Zm 31 7<|Zb 32 .sub 30 31<|Zm 10 32 .nil)<| .seq (Zr (Zm 33 8<|Zm 34 1<|Zn 35 34<|Zb 36 .lss 33 35 .nil)<| .cond (.t 36) (.rg (Zm 37 10<|Zm 38 1<|Zm 39 8<|Zi 40 1 38 39<|Zl 41 1 40<|Zo (.conv 42 .i32 (.t 41))<|Zb 43 .sub 37 42<|Zm 10 43 .nil)) .skip)<|Zr (Zo (.mv 7 (.c (.int .i32 0))) .nil)<| .seq (Zr (Zm 44 10<|Zo (.bin 45 .lss false (.t 44) (.c (.int .i32 0))) .nil)<| .cond (.t 45) (Zr (Zm 46 10<|Zo (.bin 47 .add false (.t 46) (.c (.int .i32 65536)))<|Zm 10 47 .nil)<| .rg (Zo (.mv 7 (.c (.int .i32 1))) .nil)) .skip)<| .rg (Zm 48 6<|Zm 49 8<|Zm 50 10<|Zo (.conv 51 .u16 (.t 50))<|Zi 52 1 48 49<|Zs 1 52 51 .nil))<| .rg (Zk 53 .add 24 1<|Zm 24 53 .nil))<|Zr (Zm 54 6<|Zq 55 false 143 [.t 54]<|Zm 4 55<|Zc 5 0 .nil) .ret⟩
theorem agh:Qe Tryz.prog Tryz.f177=some KA:=by kernel_rfl
def LX:aA:=⟨79,[.t 4],Zr (Zo (.mv 4 (.c .aa)) .nil)<|Zr (Zm 11 0<|Zq 12 false 143 [.t 11]<|Zm 13 1<|Zq 14 false 143 [.t 13]<|Zm 0 12<|Zm 1 14 .nil)<| .seq (Zr (Zm 15 0<|Zn 16 15<|Zk 17 .eql 16 0<|Zm 18 17<|Zg 18 false (.mv 19 (.t 1))<|Zg 18 false (.len 20 (.t 19))<|Zg 18 false (.bin 21 .eql false (.t 20) (.c (Zz 0)))<|Zo (.pick 22 (.t 18) (.c (.bool true)) (.t 21)) .nil)<| .cond (.t 22) (Zr (Zo (.mv 4 (.c .aa)) .nil) .ret) .skip)<|Zr (Zm 23 0<|Zn 24 23<|Zm 25 1<|Zn 26 25<|Zb 27 .add 24 26<|Zo (.mk 28 1 2 76 (.int .u16 0) (.t 27) (.t 27))<|Zm 5 28 .nil)<| .seq (Zr (Zm 29 0<|Zn 30 29<|Zc 31 0 .nil)<| .block 0<| .loop<|Zr (Zb 32 .lss 31 30 .nil)<| .seq (.cond (.t 32) .skip (.exit 0))<| .seq (.block 1<|Zr (Zm 33 31<|Zi 34 1 29 31<|Zl 35 1 34<|Zm 6 33<|Zm 7 35 .nil)<|Zr (Zo (.mv 8 (.c (.int .u32 0))) .nil)<| .seq (Zr (Zm 36 1<|Zn 37 36<|Zc 38 0 .nil)<| .block 2<| .loop<|Zr (Zb 39 .lss 38 37 .nil)<| .seq (.cond (.t 39) .skip (.exit 2))<| .seq (.block 3<|Zr (Zm 40 38<|Zi 41 1 36 38<|Zl 42 1 41<|Zm 9 40<|Zm 10 42 .nil)<|Zr (Zm 43 8<|Zm 44 5<|Zm 45 6<|Zm 46 9<|Zb 47 .add 45 46<|Zi 48 1 44 47<|Zl 49 1 48<|Zo (.conv 50 .u32 (.t 49))<|Zm 51 7<|Zo (.conv 52 .u32 (.t 51))<|Zm 53 10<|Zo (.conv 54 .u32 (.t 53))<|Zb 55 .mul 52 54<|Zb 56 .add 50 55<|Zb 57 .add 43 56<|Zm 8 57 .nil)<|Zr (Zm 58 5<|Zm 59 6<|Zm 60 9<|Zb 61 .add 59 60<|Zm 62 8<|Zo (.conv 63 .u16 (.t 62))<|Zi 64 1 58 61<|Zs 1 64 63 .nil)<| .rg (Zm 65 8<|Zo (.bin 66 .shr false (.t 65) (.c (.int .u64 16)))<|Zm 8 66 .nil))<| .rg (Zk 67 .add 38 1<|Zm 38 67 .nil))<| .rg (Zm 68 5<|Zm 69 6<|Zm 70 1<|Zn 71 70<|Zb 72 .add 69 71<|Zm 73 8<|Zo (.conv 74 .u16 (.t 73))<|Zi 75 1 68 72<|Zs 1 75 74 .nil))<| .rg (Zk 76 .add 31 1<|Zm 31 76 .nil))<|Zr (Zm 77 5<|Zq 78 false 143 [.t 77]<|Zm 4 78 .nil) .ret⟩
theorem ajj:Qe Tryz.prog Tryz.f93=some LX:=by kernel_rfl
def JZ:aA:=⟨43,[.t 4,.t 5],Zr (Zo (.mv 4 (.c .aa))<|Zo (.mv 5 (.c (.int .u16 0))) .nil)<|Zr (Zm 9 0<|Zn 10 9<|Zo (.mk 11 1 2 76 (.int .u16 0) (.t 10) (.t 10))<|Zm 6 11 .nil)<|Zr (Zo (.mv 7 (.c (.int .u32 0))) .nil)<| .seq (Zr (Zm 12 0<|Zn 13 12<|Zk 14 .sub 13 1<|Zm 8 14 .nil)<| .block 0<| .loop<| .seq (Zr (Zm 15 8<|Zk 16 .geq 15 0 .nil)<| .cond (.t 16) .skip (.exit 0))<| .seq (.block 1<|Zr (Zm 19 7<|Zo (.bin 20 .shl false (.t 19) (.c (.int .u64 16)))<|Zm 21 0<|Zm 22 8<|Zi 23 1 21 22<|Zl 24 1 23<|Zo (.conv 25 .u32 (.t 24))<|Zb 26 .or 20 25<|Zm 7 26 .nil)<|Zr (Zm 27 6<|Zm 28 8<|Zm 29 7<|Zm 30 1<|Zo (.conv 31 .u32 (.t 30))<|Zb 32 .quo 29 31<|Zo (.conv 33 .u16 (.t 32))<|Zi 34 1 27 28<|Zs 1 34 33 .nil)<| .rg (Zm 35 7<|Zm 36 1<|Zo (.conv 37 .u32 (.t 36))<|Zb 38 .rem 35 37<|Zm 7 38 .nil))<| .rg (Zm 17 8<|Zk 18 .sub 17 1<|Zm 8 18 .nil))<|Zr (Zm 39 6<|Zq 40 false 143 [.t 39]<|Zm 41 7<|Zo (.conv 42 .u16 (.t 41))<|Zm 4 40<|Zm 5 42 .nil) .ret⟩
theorem agi:Qe Tryz.prog Tryz.f145=some JZ:=by kernel_rfl
def LS:aA:=⟨71,[.t 4,.t 5,.t 6],Zr (Zo (.mv 4 (.c .aa))<|Zo (.mv 5 (.c .aa))<|Zc 6 0 .nil)<|Zr (Zm 12 0<|Zq 13 false 143 [.t 12]<|Zm 14 1<|Zq 15 false 143 [.t 14]<|Zm 0 13<|Zm 1 15 .nil)<| .seq (.block 0<|Zr (Zm 17 1<|Zn 18 17<|Zk 19 .eql 18 0<|Zm 16 19 .nil)<| .cond (.t 16) (Zr (Zo (.mv 4 (.c .aa))<|Zo (.mv 5 (.c .aa))<|Zc 6 3 .nil) .ret) (Zr (Zm 21 0<|Zm 22 1<|Zq 23 false 144 [.t 21,.t 22]<|Zk 24 .lss 23 0<|Zm 20 24 .nil)<| .cond (.t 20) (Zr (Zm 25 0<|Zq 26 false 86 [.t 25]<|Zo (.mv 4 (.c .aa))<|Zm 5 26<|Zc 6 0 .nil) .ret) (Zr (Zm 28 1<|Zn 29 28<|Zk 30 .eql 29 1<|Zm 27 30 .nil)<| .cond (.t 27) (Zr (Zm 32 0<|Zm 33 1<|Zo (.idx 34 1 (.t 33) (.c (Zz 0)))<|Zl 35 1 34<|Zq 36 false 145 [.t 32,.t 35]<|Zm 31 36<|Zo (.ext 37 (.t 31) 0)<|Zo (.ext 38 (.t 31) 1)<|Zm 7 37<|Zm 8 38 .nil)<|Zr (Zm 39 7<|Zm 40 8<|Zo (.conv 41 .u64 (.t 40))<|Zq 42 false 88 [.t 41]<|Zm 4 39<|Zm 5 42<|Zc 6 0 .nil) .ret) .skip)))<|Zr (Zm 43 1<|Zm 44 1<|Zn 45 44<|Zk 46 .sub 45 1<|Zi 47 1 43 46<|Zl 48 1 47<|Zq 49 false 146 [.t 48]<|Zm 9 49 .nil)<|Zr (Zm 50 0<|Zm 51 9<|Zq 52 false 147 [.t 50,.t 51]<|Zo (.bs 53 1 76 [.c (.int .u16 0),.c (.int .u16 0)])<|Zo (.app 54 1 2 76 (.t 52) (.t 53))<|Zm 55 0<|Zn 56 55<|Zk 57 .add 56 1<|Zo (.sl 58 1 (.t 54) none (some (.t 57)) none)<|Zm 10 58 .nil)<|Zr (Zm 59 1<|Zm 60 9<|Zq 61 false 147 [.t 59,.t 60]<|Zm 11 61 .nil)<|Zr (Zm 62 10<|Zm 63 11<|Zq 64 false 148 [.t 62,.t 63]<|Zm 4 64 .nil)<|Zr (Zm 65 4<|Zm 66 10<|Zq 67 false 143 [.t 66]<|Zm 68 9<|Zo (.un 69 .neg (.t 68))<|Zq 70 false 147 [.t 67,.t 69]<|Zm 4 65<|Zm 5 70<|Zc 6 0 .nil) .ret⟩
theorem ajk:Qe Tryz.prog Tryz.f89=some LS:=by kernel_rfl
def Kv:aA:=⟨31,[.t 6],Zr (Zo (.mv 6 (.c (.bool false))) .nil)<|Zr (Zl 7 1 0<|Zo (.bin 8 .geq false (.t 7) (.c (.int .u64 65536)))<|Zm 9 8<|Zg 9 false (.ld 10 1 false (.t 0))<|Zg 9 false (.ld 11 1 false (.t 1))<|Zg 9 false (.ld 12 1 false (.t 2))<|Zg 9 false (.bin 13 .sub false (.t 12) (.c (Zz 2)))<|Zg 9 false (.idx 14 1 (.t 11) (.t 13))<|Zg 9 false (.ld 15 1 false (.t 14))<|Zg 9 false (.conv 16 .u64 (.t 15))<|Zg 9 false (.bin 17 .mul false (.t 10) (.t 16))<|Zg 9 false (.ld 18 1 false (.t 3))<|Zg 9 false (.bin 19 .shl false (.t 18) (.c (.int .u64 16)))<|Zg 9 false (.ld 20 1 false (.t 4))<|Zg 9 false (.ld 21 1 false (.t 5))<|Zg 9 false (.ld 22 1 false (.t 2))<|Zg 9 false (.bin 23 .add false (.t 21) (.t 22))<|Zg 9 false (.bin 24 .sub false (.t 23) (.c (Zz 2)))<|Zg 9 false (.idx 25 1 (.t 20) (.t 24))<|Zg 9 false (.ld 26 1 false (.t 25))<|Zg 9 false (.conv 27 .u64 (.t 26))<|Zg 9 false (.bin 28 .or false (.t 19) (.t 27))<|Zg 9 false (.bin 29 .gtr false (.t 17) (.t 28))<|Zo (.pick 30 (.t 9) (.c (.bool true)) (.t 29))<|Zm 6 30 .nil) .ret⟩
theorem agj:Qe Tryz.prog Tryz.f172=some Kv:=by kernel_rfl
def Kw:aA:=⟨54,[.t 6],Zr (Zo (.mv 6 (.c (.bool false))) .nil)<|Zr (Zo (.mv 7 (.c (.int .u32 0))) .nil)<|Zr (Zo (.mv 8 (.c (.int .i32 0))) .nil)<| .seq (Zr (Zm 11 0<|Zn 12 11<|Zc 13 0 .nil)<| .block 0<| .loop<|Zr (Zb 14 .lss 13 12 .nil)<| .seq (.cond (.t 14) .skip (.exit 0))<| .seq (.block 1<|Zr (Zm 15 13<|Zm 9 15 .nil)<| .seq (Zr (Zm 16 9<|Zm 17 1<|Zn 18 17<|Zb 19 .lss 16 18 .nil)<| .cond (.t 19) (.rg (Zm 20 7<|Zm 21 2<|Zm 22 1<|Zm 23 9<|Zi 24 1 22 23<|Zl 25 1 24<|Zo (.conv 26 .u32 (.t 25))<|Zb 27 .mul 21 26<|Zb 28 .add 20 27<|Zm 7 28 .nil)) .skip)<|Zr (Zm 29 0<|Zm 30 9<|Zi 31 1 29 30<|Zl 32 1 31<|Zo (.conv 33 .i32 (.t 32))<|Zm 34 7<|Zo (.conv 35 .u16 (.t 34))<|Zo (.conv 36 .i32 (.t 35))<|Zb 37 .sub 33 36<|Zm 38 8<|Zb 39 .sub 37 38<|Zm 10 39 .nil)<|Zr (Zm 40 7<|Zo (.bin 41 .shr false (.t 40) (.c (.int .u64 16)))<|Zm 7 41 .nil)<|Zr (Zo (.mv 8 (.c (.int .i32 0))) .nil)<| .seq (Zr (Zm 42 10<|Zo (.bin 43 .lss false (.t 42) (.c (.int .i32 0))) .nil)<| .cond (.t 43) (Zr (Zm 44 10<|Zo (.bin 45 .add false (.t 44) (.c (.int .i32 65536)))<|Zm 10 45 .nil)<| .rg (Zo (.mv 8 (.c (.int .i32 1))) .nil)) .skip)<| .rg (Zm 46 0<|Zm 47 9<|Zm 48 10<|Zo (.conv 49 .u16 (.t 48))<|Zi 50 1 46 47<|Zs 1 50 49 .nil))<| .rg (Zk 51 .add 13 1<|Zm 13 51 .nil))<|Zr (Zm 52 8<|Zo (.bin 53 .gtr false (.t 52) (.c (.int .i32 0)))<|Zm 6 53 .nil) .ret⟩
theorem agk:Qe Tryz.prog Tryz.f173=some Kw:=by kernel_rfl
def Kx:aA:=⟨37,[],Zr (Zo (.mv 4 (.c (.int .u32 0))) .nil)<|Zr (Zm 6 0<|Zn 7 6<|Zc 8 0 .nil)<| .block 0<| .loop<|Zr (Zb 9 .lss 8 7 .nil)<| .seq (.cond (.t 9) .skip (.exit 0))<| .seq (.block 1<|Zr (Zm 10 8<|Zm 5 10 .nil)<|Zr (Zm 11 4<|Zm 12 0<|Zm 13 5<|Zi 14 1 12 13<|Zl 15 1 14<|Zo (.conv 16 .u32 (.t 15))<|Zb 17 .add 11 16<|Zm 4 17 .nil)<| .seq (Zr (Zm 18 5<|Zm 19 1<|Zn 20 19<|Zb 21 .lss 18 20 .nil)<| .cond (.t 21) (.rg (Zm 22 4<|Zm 23 1<|Zm 24 5<|Zi 25 1 23 24<|Zl 26 1 25<|Zo (.conv 27 .u32 (.t 26))<|Zb 28 .add 22 27<|Zm 4 28 .nil)) .skip)<|Zr (Zm 29 0<|Zm 30 5<|Zm 31 4<|Zo (.conv 32 .u16 (.t 31))<|Zi 33 1 29 30<|Zs 1 33 32 .nil)<| .rg (Zm 34 4<|Zo (.bin 35 .shr false (.t 34) (.c (.int .u64 16)))<|Zm 4 35 .nil))<| .rg (Zk 36 .add 8 1<|Zm 8 36 .nil)⟩
theorem afK:Qe Tryz.prog Tryz.f174=some Kx:=by kernel_rfl
def K8:aA:=⟨51,[.t 4],Zr (Zo (.mv 4 (.c .aa)) .nil)<|Zr (Zm 12 0<|Zq 13 false 86 [.t 12]<|Zm 14 1<|Zq 15 false 86 [.t 14]<|Zm 0 13<|Zm 1 15 .nil)<| .seq (.block 0<| .loop<| .seq (Zr (Zm 16 1<|Zn 17 16<|Zk 18 .gtr 17 0 .nil)<| .cond (.t 18) .skip (.exit 0))<| .block 1<|Zr (Zm 20 0<|Zq 21 false 87 [.t 20]<|Zm 19 21<|Zo (.ext 22 (.t 19) 0)<|Zo (.ext 23 (.t 19) 1)<|Zm 5 22<|Zm 6 23 .nil)<|Zr (Zm 25 1<|Zq 26 false 87 [.t 25]<|Zm 24 26<|Zo (.ext 27 (.t 24) 0)<|Zo (.ext 28 (.t 24) 1)<|Zm 7 27<|Zm 8 28 .nil)<| .seq (Zr (Zm 29 6<|Zm 30 29<|Zg 30 true (.mv 31 (.t 8))<|Zo (.pick 32 (.t 30) (.t 31) (.c (.bool false))) .nil)<| .cond (.t 32) (.seq (.block 2<| .loop<| .seq (Zr (Zm 33 7<|Zo (.bin 34 .gtr false (.t 33) (.c (.int .u64 0))) .nil)<| .cond (.t 34) .skip (.exit 2))<| .block 3<| .rg (Zm 35 7<|Zm 36 5<|Zm 37 7<|Zb 38 .rem 36 37<|Zm 5 35<|Zm 7 38 .nil))<|Zr (Zm 39 5<|Zq 40 false 88 [.t 39]<|Zm 4 40 .nil) .ret) .skip)<|Zr (Zm 42 0<|Zm 43 1<|Zq 44 false 89 [.t 42,.t 43]<|Zm 41 44<|Zo (.ext 45 (.t 41) 0)<|Zo (.ext 46 (.t 41) 1)<|Zo (.ext 47 (.t 41) 2)<|Zm 9 45<|Zm 10 46<|Zm 11 47 .nil)<| .rg (Zm 48 1<|Zm 49 10<|Zm 0 48<|Zm 1 49 .nil))<|Zr (Zm 50 0<|Zm 4 50 .nil) .ret⟩
theorem ajl:Qe Tryz.prog Tryz.f44=some K8:=by kernel_rfl
def vP:aA:=⟨78,[.t 4],Zr (Zo (.mv 4 (.c .aa)) .nil)<|Zr (Zm 11 0<|Zq 12 false 143 [.t 11]<|Zm 0 12 .nil)<| .seq (Zr (Zm 13 1<|Zk 14 .lss 13 (-1048576)<|Zm 15 14<|Zg 15 false (.mv 16 (.t 1))<|Zg 15 false (.bin 17 .gtr false (.t 16) (.c (Zz 1048576)))<|Zo (.pick 18 (.t 15) (.c (.bool true)) (.t 17))<|Zm 19 18<|Zg 19 false (.mv 20 (.t 0))<|Zg 19 false (.len 21 (.t 20))<|Zg 19 false (.bin 22 .eql false (.t 21) (.c (Zz 0)))<|Zo (.pick 23 (.t 19) (.c (.bool true)) (.t 22)) .nil)<| .cond (.t 23) (Zr (Zo (.mv 4 (.c .aa)) .nil) .ret) .skip)<| .seq (Zr (Zm 24 1<|Zk 25 .lss 24 0 .nil)<| .cond (.t 25) (Zr (Zm 26 0<|Zm 27 1<|Zo (.un 28 .neg (.t 27))<|Zq 29 false 171 [.t 26,.t 28]<|Zm 4 29 .nil) .ret) .skip)<|Zr (Zm 30 1<|Zk 31 .quo 30 16<|Zm 32 1<|Zk 33 .rem 32 16<|Zm 5 31<|Zm 6 33 .nil)<|Zr (Zm 34 0<|Zn 35 34<|Zm 36 5<|Zb 37 .add 35 36<|Zk 38 .add 37 1<|Zm 39 0<|Zn 40 39<|Zm 41 5<|Zb 42 .add 40 41<|Zk 43 .add 42 3<|Zo (.mk 44 1 2 76 (.int .u16 0) (.t 38) (.t 43))<|Zm 7 44 .nil)<| .seq (Zr (Zm 45 0<|Zn 46 45<|Zc 47 0 .nil)<| .block 0<| .loop<|Zr (Zb 48 .lss 47 46 .nil)<| .seq (.cond (.t 48) .skip (.exit 0))<| .seq (.block 1<|Zr (Zm 49 47<|Zi 50 1 45 47<|Zl 51 1 50<|Zm 8 49<|Zm 9 51 .nil)<|Zr (Zm 52 9<|Zo (.conv 53 .u32 (.t 52))<|Zm 54 6<|Zb 55 .shl 53 54<|Zm 10 55 .nil)<|Zr (Zm 56 7<|Zm 57 8<|Zm 58 5<|Zb 59 .add 57 58<|Zi 60 1 56 59<|Zl 61 1 60<|Zm 62 10<|Zo (.conv 63 .u16 (.t 62))<|Zb 64 .or 61 63<|Zi 65 1 56 59<|Zs 1 65 64 .nil)<| .rg (Zm 66 7<|Zm 67 8<|Zm 68 5<|Zb 69 .add 67 68<|Zk 70 .add 69 1<|Zm 71 10<|Zo (.bin 72 .shr false (.t 71) (.c (.int .u64 16)))<|Zo (.conv 73 .u16 (.t 72))<|Zi 74 1 66 70<|Zs 1 74 73 .nil))<| .rg (Zk 75 .add 47 1<|Zm 47 75 .nil))<|Zr (Zm 76 7<|Zq 77 false 143 [.t 76]<|Zm 4 77 .nil) .ret⟩
theorem IU:Qe Tryz.prog Tryz.f147=some vP:=by kernel_rfl
def Ku:aA:=⟨63,[.t 4],Zr (Zo (.mv 4 (.c .aa)) .nil)<|Zr (Zm 10 1<|Zk 11 .quo 10 16<|Zm 12 1<|Zk 13 .rem 12 16<|Zm 5 11<|Zm 6 13 .nil)<| .seq (Zr (Zm 14 5<|Zm 15 0<|Zn 16 15<|Zb 17 .geq 14 16 .nil)<| .cond (.t 17) (Zr (Zo (.mv 4 (.c .aa)) .nil) .ret) .skip)<|Zr (Zm 18 0<|Zn 19 18<|Zm 20 5<|Zb 21 .sub 19 20<|Zo (.mk 22 1 2 76 (.int .u16 0) (.t 21) (.t 21))<|Zm 7 22 .nil)<| .seq (Zr (Zm 23 7<|Zn 24 23<|Zc 25 0 .nil)<| .block 0<| .loop<|Zr (Zb 26 .lss 25 24 .nil)<| .seq (.cond (.t 26) .skip (.exit 0))<| .seq (.block 1<|Zr (Zm 27 25<|Zm 8 27 .nil)<|Zr (Zm 28 0<|Zm 29 8<|Zm 30 5<|Zb 31 .add 29 30<|Zi 32 1 28 31<|Zl 33 1 32<|Zo (.conv 34 .u32 (.t 33))<|Zm 9 34 .nil)<| .seq (Zr (Zm 35 8<|Zm 36 5<|Zb 37 .add 35 36<|Zk 38 .add 37 1<|Zm 39 0<|Zn 40 39<|Zb 41 .lss 38 40 .nil)<| .cond (.t 41) (.rg (Zm 42 9<|Zm 43 0<|Zm 44 8<|Zm 45 5<|Zb 46 .add 44 45<|Zk 47 .add 46 1<|Zi 48 1 43 47<|Zl 49 1 48<|Zo (.conv 50 .u32 (.t 49))<|Zo (.bin 51 .shl false (.t 50) (.c (.int .u64 16)))<|Zb 52 .or 42 51<|Zm 9 52 .nil)) .skip)<| .rg (Zm 53 7<|Zm 54 8<|Zm 55 9<|Zm 56 6<|Zb 57 .shr 55 56<|Zo (.conv 58 .u16 (.t 57))<|Zi 59 1 53 54<|Zs 1 59 58 .nil))<| .rg (Zk 60 .add 25 1<|Zm 25 60 .nil))<|Zr (Zm 61 7<|Zq 62 false 143 [.t 61]<|Zm 4 62 .nil) .ret⟩
theorem afL:Qe Tryz.prog Tryz.f171=some Ku:=by kernel_rfl
def J4:aA:=⟨6,[.t 2],Zr (Zc 2 0 .nil)<|Zr (Zm 3 0<|Zq 4 false 151 [.t 3]<|Zo (.bin 5 .sub false (.c (Zz 16)) (.t 4))<|Zm 2 5 .nil) .ret⟩
theorem afM:Qe Tryz.prog Tryz.f146=some J4:=by kernel_rfl
def KB:aA:=⟨47,[.t 6],Zr (Zo (.mv 6 (.c .aa)) .nil)<|Zr (Zm 11 0<|Zn 12 11<|Zm 13 1<|Zn 14 13<|Zo (.mx 15 (.t 12) (.t 14))<|Zo (.mk 16 1 8 3 (Zz 0) (.t 15) (.t 15))<|Zm 7 16 .nil)<| .seq (Zr (Zm 17 7<|Zn 18 17<|Zc 19 0 .nil)<| .block 0<| .loop<|Zr (Zb 20 .lss 19 18 .nil)<| .seq (.cond (.t 20) .skip (.exit 0))<| .seq (.block 1<|Zr (Zm 21 19<|Zm 8 21 .nil)<|Zr (Zc 9 0<|Zc 10 0 .nil)<| .seq (Zr (Zm 22 8<|Zm 23 0<|Zn 24 23<|Zb 25 .lss 22 24 .nil)<| .cond (.t 25) (.rg (Zm 26 0<|Zm 27 8<|Zi 28 1 26 27<|Zl 29 1 28<|Zm 9 29 .nil)) .skip)<| .seq (Zr (Zm 30 8<|Zm 31 1<|Zn 32 31<|Zb 33 .lss 30 32 .nil)<| .cond (.t 33) (.rg (Zm 34 1<|Zm 35 8<|Zi 36 1 34 35<|Zl 37 1 36<|Zm 10 37 .nil)) .skip)<| .rg (Zm 38 7<|Zm 39 8<|Zm 40 2<|Zm 41 9<|Zm 42 10<|Zo (.call (some 43) false (.t 40) [.t 41,.t 42])<|Zi 44 1 38 39<|Zs 1 44 43 .nil))<| .rg (Zk 45 .add 19 1<|Zm 19 45 .nil))<|Zr (Zm 46 7<|Zm 6 46 .nil) .ret⟩
theorem afN:Qe Tryz.prog Tryz.f178=some KB:=by kernel_rfl
def LU:aA:=⟨24,[.t 2],Zr (Zo (.mv 2 (.c .aa)) .nil)<|Zr (Zm 4 0<|Zn 5 4<|Zm 3 5 .nil)<| .seq (.block 0<| .loop<| .seq (Zr (Zm 6 3<|Zk 7 .gtr 6 0<|Zm 8 7<|Zg 8 true (.mv 9 (.t 0))<|Zg 8 true (.mv 10 (.t 3))<|Zg 8 true (.bin 11 .sub false (.t 10) (.c (Zz 1)))<|Zg 8 true (.idx 12 1 (.t 9) (.t 11))<|Zg 8 true (.ld 13 1 false (.t 12))<|Zg 8 true (.bin 14 .eql false (.t 13) (.c (Zz 0)))<|Zo (.pick 15 (.t 8) (.t 14) (.c (.bool false))) .nil)<| .cond (.t 15) .skip (.exit 0))<| .block 1<| .rg (Zm 16 3<|Zk 17 .sub 16 1<|Zm 3 17 .nil))<| .seq (Zr (Zm 18 3<|Zk 19 .eql 18 0 .nil)<| .cond (.t 19) (Zr (Zo (.mv 2 (.c .aa)) .nil) .ret) .skip)<|Zr (Zm 20 0<|Zm 21 3<|Zm 22 3<|Zo (.sl 23 1 (.t 20) none (some (.t 21)) (some (.t 22)))<|Zm 2 23 .nil) .ret⟩
theorem ajm:Qe Tryz.prog Tryz.f90=some LU:=by kernel_rfl
def LO:aA:=⟨35,[.t 2],Zr (Zo (.mv 2 (.c (.bool false))) .nil)<| .seq (Zr (Zm 5 0<|Zn 6 5<|Zk 7 .gtr 6 64<|Zm 8 7<|Zg 8 false (.mv 9 (.t 0))<|Zg 8 false (.len 10 (.t 9))<|Zg 8 false (.bin 11 .gtr false (.t 10) (.c (Zz 0)))<|Zg 8 false (.mv 12 (.t 11))<|Zg 12 true (.mv 13 (.t 0))<|Zg 12 true (.mv 14 (.t 0))<|Zg 12 true (.len 15 (.t 14))<|Zg 12 true (.bin 16 .sub false (.t 15) (.c (Zz 1)))<|Zg 12 true (.idx 17 1 (.t 13) (.t 16))<|Zg 12 true (.ld 18 1 false (.t 17))<|Zg 12 true (.bin 19 .eql false (.t 18) (.c (Zz 0)))<|Zg 8 false (.pick 20 (.t 12) (.t 19) (.c (.bool false)))<|Zo (.pick 21 (.t 8) (.c (.bool true)) (.t 20)) .nil)<| .cond (.t 21) (Zr (Zo (.mv 2 (.c (.bool false))) .nil) .ret) .skip)<| .seq (Zr (Zm 22 0<|Zn 23 22<|Zc 24 0 .nil)<| .block 0<| .loop<|Zr (Zb 25 .lss 24 23 .nil)<| .seq (.cond (.t 25) .skip (.exit 0))<| .seq (.block 1<|Zr (Zi 26 1 22 24<|Zl 27 1 26<|Zm 4 27 .nil)<|Zr (Zm 28 4<|Zk 29 .lss 28 0<|Zm 30 29<|Zg 30 false (.mv 31 (.t 4))<|Zg 30 false (.bin 32 .gtr false (.t 31) (.c (Zz 1048576)))<|Zo (.pick 33 (.t 30) (.c (.bool true)) (.t 32)) .nil)<| .cond (.t 33) (Zr (Zo (.mv 2 (.c (.bool false))) .nil) .ret) .skip)<| .rg (Zk 34 .add 24 1<|Zm 24 34 .nil))<|Zr (Zo (.mv 2 (.c (.bool true))) .nil) .ret⟩
theorem ajn:Qe Tryz.prog Tryz.f84=some LO:=by kernel_rfl
def Kt:aA:=⟨17,[.t 2],Zr (Zc 2 0 .nil)<|Zr (Zc 3 0 .nil)<| .seq (Zr (Zm 6 0<|Zn 7 6<|Zc 8 0 .nil)<| .block 0<| .loop<|Zr (Zb 9 .lss 8 7 .nil)<| .seq (.cond (.t 9) .skip (.exit 0))<| .seq (.block 1<|Zr (Zi 10 1 6 8<|Zl 11 1 10<|Zm 5 11 .nil)<| .rg (Zm 12 3<|Zm 13 5<|Zb 14 .add 12 13<|Zm 3 14 .nil))<| .rg (Zk 15 .add 8 1<|Zm 8 15 .nil))<|Zr (Zm 16 3<|Zm 2 16 .nil) .ret⟩
theorem afO:Qe Tryz.prog Tryz.f170=some Kt:=by kernel_rfl
def JE:aA:=⟨17,[.t 4],Zr (Zc 4 0 .nil)<| .seq (Zr (Zm 5 1<|Zk 6 .lss 5 0<|Zm 7 6<|Zg 7 false (.mv 8 (.t 1))<|Zg 7 false (.mv 9 (.t 0))<|Zg 7 false (.len 10 (.t 9))<|Zg 7 false (.bin 11 .geq false (.t 8) (.t 10))<|Zo (.pick 12 (.t 7) (.c (.bool true)) (.t 11)) .nil)<| .cond (.t 12) (Zr (Zc 4 0 .nil) .ret) .skip)<|Zr (Zm 13 0<|Zm 14 1<|Zi 15 1 13 14<|Zl 16 1 15<|Zm 4 16 .nil) .ret⟩
theorem afP:Qe Tryz.prog Tryz.f124=some JE:=by kernel_rfl
def K9:aA:=⟨7,[.t 2],Zr (Zc 2 0 .nil)<|Zr (Zm 3 0<|Zq 4 false 90 [.t 3]<|Zn 5 4<|Zk 6 .sub 5 1<|Zm 2 6 .nil) .ret⟩
theorem ajo:Qe Tryz.prog Tryz.f45=some K9:=by kernel_rfl
def Kf:aA:=⟨9,[.t 4],Zr (Zo (.mv 4 (.c .aa)) .nil)<|Zr (Zm 5 0<|Zm 6 1<|Zq 7 false 178 [.t 5,.t 6,.c (.fn 179 [] [])]<|Zq 8 false 90 [.t 7]<|Zm 4 8 .nil) .ret⟩
theorem afQ:Qe Tryz.prog Tryz.f158=some Kf:=by kernel_rfl
def KC:aA:=⟨8,[.t 4],Zr (Zc 4 0 .nil)<|Zr (Zm 5 0<|Zm 6 1<|Zb 7 .add 5 6<|Zm 4 7 .nil) .ret⟩
theorem afR:Qe Tryz.prog Tryz.f179=some KC:=by kernel_rfl
def JX:aA:=⟨46,[.t 6],Zr (Zc 6 0 .nil)<| .seq (Zr (Zm 12 2<|Zk 13 .eql 12 1 .nil)<| .cond (.t 13) (Zr (Zm 14 0<|Zq 15 false 170 [.t 14]<|Zm 16 1<|Zq 17 false 170 [.t 16]<|Zm 7 15<|Zm 8 17 .nil)<|Zr (Zm 18 7<|Zm 19 8<|Zb 20 .neq 18 19 .nil)<| .cond (.t 20) (.seq (Zr (Zm 21 7<|Zm 22 8<|Zb 23 .lss 21 22 .nil)<| .cond (.t 23) (Zr (Zc 6 (-1) .nil) .ret) .skip)<|Zr (Zc 6 1 .nil) .ret) .skip) .skip)<| .seq (Zr (Zm 24 0<|Zn 25 24<|Zm 26 1<|Zn 27 26<|Zo (.mx 28 (.t 25) (.t 27))<|Zk 29 .sub 28 1<|Zm 9 29 .nil)<| .block 0<| .loop<| .seq (Zr (Zm 30 9<|Zk 31 .geq 30 0 .nil)<| .cond (.t 31) .skip (.exit 0))<| .seq (.block 1<|Zr (Zm 34 0<|Zm 35 9<|Zq 36 false 124 [.t 34,.t 35]<|Zm 37 1<|Zm 38 9<|Zq 39 false 124 [.t 37,.t 38]<|Zm 10 36<|Zm 11 39 .nil)<|Zr (Zm 40 10<|Zm 41 11<|Zb 42 .neq 40 41 .nil)<| .cond (.t 42) (.seq (Zr (Zm 43 10<|Zm 44 11<|Zb 45 .lss 43 44 .nil)<| .cond (.t 45) (Zr (Zc 6 (-1) .nil) .ret) .skip)<|Zr (Zc 6 1 .nil) .ret) .skip)<| .rg (Zm 32 9<|Zk 33 .sub 32 1<|Zm 9 33 .nil))<|Zr (Zc 6 0 .nil) .ret⟩
theorem afS:Qe Tryz.prog Tryz.f142=some JX:=by kernel_rfl
def Kc:aA:=⟨97,[.t 8],Zr (Zo (.mv 8 (.c .aa)) .nil)<|Zr (Zm 15 0<|Zn 16 15<|Zm 17 1<|Zn 18 17<|Zb 19 .add 16 18<|Zo (.mk 20 4 80 54 (.agg [.bool false,.aa,.aa,.aa]) (.c (Zz 0)) (.t 19))<|Zm 9 20 .nil)<|Zr (Zc 10 0<|Zc 11 0 .nil)<| .seq (.block 0<| .loop<| .seq (Zr (Zm 21 10<|Zm 22 0<|Zn 23 22<|Zb 24 .lss 21 23<|Zm 25 24<|Zg 25 true (.mv 26 (.t 11))<|Zg 25 true (.mv 27 (.t 1))<|Zg 25 true (.len 28 (.t 27))<|Zg 25 true (.bin 29 .lss false (.t 26) (.t 28))<|Zo (.pick 30 (.t 25) (.t 29) (.c (.bool false))) .nil)<| .cond (.t 30) .skip (.exit 0))<| .block 1<|Zr (Zm 31 2<|Zm 32 0<|Zm 33 10<|Zi 34 4 32 33<|Zh 35 4 34<|Zm 36 1<|Zm 37 11<|Zi 38 4 36 37<|Zh 39 4 38<|Zo (.call (some 40) false (.t 31) [.t 35,.t 39])<|Zm 12 40 .nil)<| .block 2<|Zr (Zm 64 12<|Zk 65 .gtr 64 0<|Zm 63 65 .nil)<| .cond (.t 63) (Zr (Zm 66 9<|Zm 67 0<|Zm 68 10<|Zi 69 4 67 68<|Zh 70 4 69<|Zo (.bs 71 4 54 [.t 70])<|Zo (.app 72 4 80 54 (.t 66) (.t 71))<|Zm 9 72 .nil)<| .rg (Zm 73 10<|Zk 74 .add 73 1<|Zm 10 74 .nil)) (Zr (Zm 76 12<|Zk 77 .lss 76 0<|Zm 75 77 .nil)<| .cond (.t 75) (Zr (Zm 78 9<|Zm 79 1<|Zm 80 11<|Zi 81 4 79 80<|Zh 82 4 81<|Zo (.bs 83 4 54 [.t 82])<|Zo (.app 84 4 80 54 (.t 78) (.t 83))<|Zm 9 84 .nil)<| .rg (Zm 85 11<|Zk 86 .add 85 1<|Zm 11 86 .nil)) (.seq (Zr (Zm 42 3<|Zm 43 0<|Zm 44 10<|Zi 45 4 43 44<|Zh 46 4 45<|Zm 47 1<|Zm 48 11<|Zi 49 4 47 48<|Zh 50 4 49<| .br (Zo (.call (some 51) true (.t 42) [.t 46,.t 50])<|Zm 41 51<|Zo (.ext 52 (.t 41) 0)<|Zo (.ext 53 (.t 41) 1)<|Zo (.alloc 13 4 54 (.agg [.bool false,.aa,.aa,.aa]))<|Zs 4 13 52<|Zm 14 53 .nil) (Zo (.alloc 13 4 54 (.agg [.bool false,.aa,.aa,.aa]))<|Zo (.call (some 51) true (.t 42) [.t 46,.t 50])<|Zm 41 51<|Zo (.ext 52 (.t 41) 0)<|Zo (.ext 53 (.t 41) 1)<|Zs 4 13 52<|Zm 14 53 .nil))<|Zr (Zm 54 14 .nil)<| .cond (.t 54) (.rg (Zm 55 9<|Zh 56 4 13<|Zo (.bs 57 4 54 [.t 56])<|Zo (.app 58 4 80 54 (.t 55) (.t 57))<|Zm 9 58 .nil)) .skip)<|Zr (Zm 59 10<|Zk 60 .add 59 1<|Zm 10 60 .nil)<| .rg (Zm 61 11<|Zk 62 .add 61 1<|Zm 11 62 .nil))))<|Zr (Zm 87 9<|Zm 88 0<|Zm 89 10<|Zo (.sl 90 4 (.t 88) (some (.t 89)) none none)<|Zo (.app 91 4 80 54 (.t 87) (.t 90))<|Zm 9 91 .nil)<|Zr (Zm 92 9<|Zm 93 1<|Zm 94 11<|Zo (.sl 95 4 (.t 93) (some (.t 94)) none none)<|Zo (.app 96 4 80 54 (.t 92) (.t 95))<|Zm 8 96 .nil) .ret⟩
theorem afT:Qe Tryz.prog Tryz.f155=some Kc:=by kernel_rfl
def AV:aA:=⟨10,[.t 4],Zr (Zo (.box 2 4 54 (.t 0))<|Zo (.box 3 4 54 (.t 1))<|Zc 4 0 .nil)<|Zr (Zf 5 3 2<|Zl 6 1 5<|Zf 7 3 3<|Zl 8 1 7<|Zq 9 false 142 [.t 6,.t 8,.c (Zz 0)]<|Zm 4 9 .nil) .ret⟩
theorem Ry:Qe Tryz.prog Tryz.f85=some AV:=by kernel_rfl
def Kd:aA:=⟨19,[.cell 4 4 true,.t 5],Zr (Zo (.box 2 4 54 (.t 0))<|Zo (.box 3 4 54 (.t 1))<|Zo (.alloc 4 4 54 (.agg [.bool false,.aa,.aa,.aa]))<|Zo (.mv 5 (.c (.bool false))) .nil)<|Zr (Zf 7 0 2<|Zh 8 3 7<|Zf 9 0 3<|Zh 10 3 9<|Zq 11 false 48 [.t 8,.t 10]<|Zo (.alloc 6 3 43 (.agg [.bool false,.aa,.aa]))<|Zs 3 6 11 .nil)<|Zr (Zh 12 3 6<|Zf 13 3 2<|Zl 14 1 13<|Zo (.bU 15 [.bool false,.aa,.aa,.aa] [(0,3,.t 12),(3,1,.t 14)])<|Zh 16 3 6<|Zq 17 true 17 [.t 16]<|Zk 18 .neq 17 0<|Zs 4 4 15<|Zm 5 18 .nil) .ret⟩
theorem agv:Qe Tryz.prog Tryz.f156=some Kd:=by kernel_rfl
def zo:aA:=⟨25,[.t 2],Zr (Zo (.mv 2 (.c .aa)) .nil)<| .seq (Zr (Zm 4 0<|Zn 5 4 .nil)<| .block 0<|Zr (Zk 7 .eql 5 0<|Zm 6 7 .nil)<| .cond (.t 6) (Zr (Zo (.mv 2 (.c .aa)) .nil) .ret) (Zr (Zk 9 .eql 5 1<|Zm 8 9 .nil)<| .cond (.t 8) (Zr (Zm 10 0<|Zo (.idx 11 1 (.t 10) (.c (Zz 0)))<|Zl 12 1 11<|Zm 2 12 .nil) .ret) .skip))<|Zr (Zm 13 0<|Zn 14 13<|Zk 15 .quo 14 2<|Zm 3 15 .nil)<|Zr (Zm 16 0<|Zm 17 3<|Zo (.sl 18 1 (.t 16) none (some (.t 17)) none)<|Zm 20 0<|Zm 21 3<|Zo (.sl 22 1 (.t 20) (some (.t 21)) none none)<|Zq 19 false 111 [.t 18]<|Zq 23 false 111 [.t 22]<|Zq 24 false 108 [.t 19,.t 23]<|Zm 2 24 .nil) .ret⟩
theorem QS:Qe Tryz.prog Tryz.f111=some zo:=by kernel_rfl
def JA:aA:=⟨12,[.t 4],Zr (Zo (.box 2 3 43 (.t 0))<|Zo (.mv 4 (.c .aa)) .nil)<| .seq (Zr (Zh 5 3 2<|Zq 6 false 17 [.t 5]<|Zk 7 .eql 6 0 .nil)<| .cond (.t 7) (Zr (Zo (.mv 4 (.c .aa)) .nil) .ret) .skip)<|Zr (Zh 8 3 2<|Zm 9 1<|Zo (.bU 10 [.bool false,.aa,.aa,.aa] [(0,3,.t 8),(3,1,.t 9)])<|Zo (.bs 11 4 54 [.t 10])<|Zm 4 11 .nil) .ret⟩
theorem agw:Qe Tryz.prog Tryz.f119=some JA:=by kernel_rfl
def K4:aA:=⟨43,[.t 2],Zr (Zo (.mv 2 (.c (.bool false))) .nil)<| .seq (Zr (Zm 5 0<|Zn 6 5<|Zc 7 0 .nil)<| .block 0<| .loop<|Zr (Zb 8 .lss 7 6 .nil)<| .seq (.cond (.t 8) .skip (.exit 0))<| .seq (.block 1<|Zr (Zm 9 7<|Zi 10 4 5 7<|Zh 11 4 10<|Zo (.alloc 4 4 54 (.agg [.bool false,.aa,.aa,.aa]))<|Zm 3 9<|Zs 4 4 11 .nil)<|Zr (Zf 12 0 4<|Zh 13 3 12<|Zq 14 true 15 [.t 13]<|Zu 15 14<|Zm 16 15<|Zg 16 false (.cC 17 0 (.t 4))<|Zg 16 false (.ld 18 3 true (.t 17))<|Zg 16 false (.call (some 19) true (.c (.fn 17 [] [])) [.t 18])<|Zg 16 false (.bin 20 .eql false (.t 19) (.c (Zz 0)))<|Zo (.pick 21 (.t 16) (.c (.bool true)) (.t 20))<|Zm 22 21<|Zg 22 false (.cC 23 3 (.t 4))<|Zg 22 false (.ld 24 1 false (.t 23))<|Zg 22 false (.call (some 25) true (.c (.fn 84 [] [])) [.t 24])<|Zg 22 false (.un 26 .not (.t 25))<|Zo (.pick 27 (.t 22) (.c (.bool true)) (.t 26))<|Zm 28 27<|Zg 28 false (.mv 29 (.t 3))<|Zg 28 false (.bin 30 .gtr false (.t 29) (.c (Zz 0)))<|Zg 28 false (.mv 31 (.t 30))<|Zg 31 true (.mv 32 (.t 0))<|Zg 31 true (.mv 33 (.t 3))<|Zg 31 true (.bin 34 .sub false (.t 33) (.c (Zz 1)))<|Zg 31 true (.idx 35 4 (.t 32) (.t 34))<|Zg 31 true (.ld 36 4 true (.t 35))<|Zg 31 true (.ld 37 4 true (.t 4))<|Zg 31 true (.call (some 38) true (.c (.fn 85 [] [])) [.t 36,.t 37])<|Zg 31 true (.bin 39 .leq false (.t 38) (.c (Zz 0)))<|Zg 28 false (.pick 40 (.t 31) (.t 39) (.c (.bool false)))<|Zo (.pick 41 (.t 28) (.c (.bool true)) (.t 40)) .nil)<| .cond (.t 41) (Zr (Zo (.mv 2 (.c (.bool false))) .nil) .ret) .skip)<| .rg (Zk 42 .add 7 1<|Zm 7 42 .nil))<|Zr (Zo (.mv 2 (.c (.bool true))) .nil) .ret⟩
theorem ajp:Qe Tryz.prog Tryz.f40=some K4:=by kernel_rfl
def Lw:aA:=⟨7,[.t 2],Zr (Zo (.box 1 3 43 (.t 0))<|Zo (.mv 2 (.c .aa)) .nil)<|Zr (Zh 3 3 1<|Zq 4 true 26 [.c (Zz 0)]<|Zq 5 true 48 [.t 3,.t 4]<|Zq 6 true 119 [.t 5,.c .aa]<|Zm 2 6 .nil) .ret⟩
theorem ajq:Qe Tryz.prog Tryz.f65=some Lw:=by kernel_rfl
def Ly:aA:=⟨10,[.t 4],Zr (Zc 4 0 .nil)<|Zr (Zo (.mv 5 (.c (.fn 125 [] []))) .nil)<|Zr (Zm 6 0<|Zm 7 1<|Zm 8 5<|Zq 9 false 127 [.t 6,.t 7,.t 8]<|Zm 4 9 .nil) .ret⟩
theorem ajr:Qe Tryz.prog Tryz.f68=some Ly:=by kernel_rfl
def JF:aA:=⟨17,[.t 4],Zr (Zo (.box 2 4 54 (.t 0))<|Zo (.box 3 4 54 (.t 1))<|Zc 4 0 .nil)<| .seq (Zr (Zh 6 4 2<|Zh 7 4 3<|Zq 8 false 85 [.t 6,.t 7]<|Zm 5 8 .nil)<|Zr (Zm 9 5<|Zk 10 .neq 9 0 .nil)<| .cond (.t 10) (Zr (Zm 11 5<|Zm 4 11 .nil) .ret) .skip)<|Zr (Zf 12 0 2<|Zh 13 3 12<|Zf 14 0 3<|Zh 15 3 14<|Zq 16 false 126 [.t 13,.t 15]<|Zm 4 16 .nil) .ret⟩
theorem agx:Qe Tryz.prog Tryz.f125=some JF:=by kernel_rfl
def Ke:aA:=⟨6,[.t 2],Zr (Zo (.mv 2 (.c .aa)) .nil)<|Zr (Zm 3 0<|Zq 4 false 26 [.c (Zz (-1))]<|Zq 5 false 121 [.t 3,.t 4]<|Zm 2 5 .nil) .ret⟩
theorem agy:Qe Tryz.prog Tryz.f157=some Ke:=by kernel_rfl
def Jp:aA:=⟨8,[.t 4],Zr (Zo (.mv 4 (.c .aa)) .nil)<|Zr (Zm 5 0<|Zm 6 1<|Zq 7 false 155 [.t 5,.t 6,.c (.fn 85 [] []),.c (.fn 156 [] [])]<|Zm 4 7 .nil) .ret⟩
theorem agz:Qe Tryz.prog Tryz.f108=some Jp:=by kernel_rfl
def Jq:aA:=⟨9,[.t 4],Zr (Zo (.mv 4 (.c .aa)) .nil)<|Zr (Zm 5 0<|Zm 6 1<|Zq 7 false 157 [.t 6]<|Zq 8 false 108 [.t 5,.t 7]<|Zm 4 8 .nil) .ret⟩
theorem agA:Qe Tryz.prog Tryz.f109=some Jq:=by kernel_rfl
def Js:aA:=⟨38,[.t 4],Zr (Zo (.box 3 4 54 (.t 1))<|Zo (.mv 4 (.c .aa)) .nil)<|Zr (Zm 9 0<|Zn 10 9<|Zo (.mk 11 4 80 54 (.agg [.bool false,.aa,.aa,.aa]) (.c (Zz 0)) (.t 10))<|Zm 5 11 .nil)<| .seq (Zr (Zm 12 0<|Zn 13 12<|Zc 14 0 .nil)<| .block 0<| .loop<|Zr (Zb 15 .lss 14 13 .nil)<| .seq (.cond (.t 15) .skip (.exit 0))<| .seq (.block 1<|Zr (Zi 16 4 12 14<|Zh 17 4 16<|Zo (.alloc 7 4 54 (.agg [.bool false,.aa,.aa,.aa]))<|Zs 4 7 17 .nil)<|Zr (Zf 18 0 7<|Zh 19 3 18<|Zf 20 0 3<|Zh 21 3 20<|Zq 22 false 46 [.t 19,.t 21]<|Zo (.alloc 8 3 43 (.agg [.bool false,.aa,.aa]))<|Zs 3 8 22 .nil)<|Zr (Zh 23 3 8<|Zq 24 false 17 [.t 23]<|Zk 25 .neq 24 0 .nil)<| .cond (.t 25) (.rg (Zm 26 5<|Zh 27 3 8<|Zf 28 3 7<|Zl 29 1 28<|Zf 30 3 3<|Zl 31 1 30<|Zq 32 true 158 [.t 29,.t 31]<|Zo (.bU 33 [.bool false,.aa,.aa,.aa] [(0,3,.t 27),(3,1,.t 32)])<|Zo (.bs 34 4 54 [.t 33])<|Zo (.app 35 4 80 54 (.t 26) (.t 34))<|Zm 5 35 .nil)) .skip)<| .rg (Zk 36 .add 14 1<|Zm 14 36 .nil))<|Zr (Zm 37 5<|Zm 4 37 .nil) .ret⟩
theorem agB:Qe Tryz.prog Tryz.f110=some Js:=by kernel_rfl
def Lp:aA:=⟨33,[.t 4],Zr (Zo (.mv 4 (.c .aa)) .nil)<| .seq (Zr (Zm 8 0<|Zn 9 8<|Zm 10 1<|Zn 11 10<|Zb 12 .gtr 9 11 .nil)<| .cond (.t 12) (.rg (Zm 13 1<|Zm 14 0<|Zm 0 13<|Zm 1 14 .nil)) .skip)<|Zr (Zm 15 0<|Zn 16 15<|Zo (.mk 17 1 24 32 .aa (.c (Zz 0)) (.t 16))<|Zm 5 17 .nil)<| .seq (Zr (Zm 18 0<|Zn 19 18<|Zc 20 0 .nil)<| .block 0<| .loop<|Zr (Zb 21 .lss 20 19 .nil)<| .seq (.cond (.t 21) .skip (.exit 0))<| .seq (.block 1<|Zr (Zi 22 4 18 20<|Zh 23 4 22<|Zo (.alloc 7 4 54 (.agg [.bool false,.aa,.aa,.aa]))<|Zs 4 7 23 .nil)<| .rg (Zm 24 5<|Zm 25 1<|Zh 26 4 7<|Zq 27 false 110 [.t 25,.t 26]<|Zo (.bs 28 1 32 [.t 27])<|Zo (.app 29 1 24 32 (.t 24) (.t 28))<|Zm 5 29 .nil))<| .rg (Zk 30 .add 20 1<|Zm 20 30 .nil))<|Zr (Zm 31 5<|Zq 32 false 111 [.t 31]<|Zm 4 32 .nil) .ret⟩
theorem ajs:Qe Tryz.prog Tryz.f60=some Lp:=by kernel_rfl
def JB:aA:=⟨12,[.t 4],Zr (Zo (.box 3 3 43 (.t 1))<|Zo (.mv 4 (.c .aa)) .nil)<| .seq (Zr (Zh 5 3 3<|Zq 6 false 17 [.t 5]<|Zk 7 .eql 6 0 .nil)<| .cond (.t 7) (Zr (Zo (.mv 4 (.c .aa)) .nil) .ret) .skip)<|Zr (Zm 8 0<|Zh 9 3 3<|Zo (.bU 10 [.bool false,.aa,.aa,.aa] [(0,3,.t 9)])<|Zq 11 false 110 [.t 8,.t 10]<|Zm 4 11 .nil) .ret⟩
theorem agC:Qe Tryz.prog Tryz.f121=some JB:=by kernel_rfl
def Lb:aA:=⟨23,[.cell 4 3 true],Zr (Zo (.box 2 3 43 (.t 0))<|Zo (.alloc 4 3 43 (.agg [.bool false,.aa,.aa])) .nil)<|Zr (Zq 6 false 26 [.c (Zz 1)]<|Zo (.alloc 5 3 43 (.agg [.bool false,.aa,.aa]))<|Zs 3 5 6 .nil)<| .seq (.block 0<| .loop<| .seq (Zr (Zm 7 1<|Zk 8 .gtr 7 0 .nil)<| .cond (.t 8) .skip (.exit 0))<| .seq (.block 1<| .seq (Zr (Zm 11 1<|Zk 12 .rem 11 2<|Zk 13 .eql 12 1 .nil)<| .cond (.t 13) (.rg (Zh 14 3 5<|Zh 15 3 2<|Zq 16 false 46 [.t 14,.t 15]<|Zs 3 5 16 .nil)) .skip)<|Zr (Zm 17 1<|Zk 18 .gtr 17 1 .nil)<| .cond (.t 18) (.rg (Zh 19 3 2<|Zh 20 3 2<|Zq 21 false 46 [.t 19,.t 20]<|Zs 3 2 21 .nil)) .skip)<| .rg (Zm 9 1<|Zk 10 .quo 9 2<|Zm 1 10 .nil))<|Zr (Zh 22 3 5<|Zs 3 4 22 .nil) .ret⟩
theorem ajt:Qe Tryz.prog Tryz.f47=some Lb:=by kernel_rfl
def Kh:aA:=⟨61,[.cell 4 3 true,.t 5],Zr (Zo (.alloc 4 3 43 (.agg [.bool false,.aa,.aa]))<|Zc 5 0 .nil)<| .seq (Zr (Zm 14 0<|Zn 15 14<|Zc 16 0 .nil)<| .block 0<| .loop<|Zr (Zb 17 .lss 16 15 .nil)<| .seq (.cond (.t 17) .skip (.exit 0))<| .seq (.block 1<|Zr (Zi 18 4 14 16<|Zh 19 4 18<|Zo (.alloc 7 4 54 (.agg [.bool false,.aa,.aa,.aa]))<|Zs 4 7 19 .nil)<|Zr (Zf 20 3 7<|Zl 21 1 20<|Zq 22 false 45 [.t 21]<|Zm 23 1<|Zn 24 23<|Zb 25 .geq 22 24 .nil)<| .cond (.t 25) (Zr (Zo (.bU 26 [.bool false,.aa,.aa] [])<|Zs 3 4 26<|Zc 5 2 .nil) .ret) .skip)<| .rg (Zk 27 .add 16 1<|Zm 16 27 .nil))<|Zr (Zq 28 false 26 [.c (Zz 0)]<|Zo (.alloc 8 3 43 (.agg [.bool false,.aa,.aa]))<|Zs 3 8 28 .nil)<| .seq (Zr (Zm 29 0<|Zn 30 29<|Zc 31 0 .nil)<| .block 2<| .loop<|Zr (Zb 32 .lss 31 30 .nil)<| .seq (.cond (.t 32) .skip (.exit 2))<| .seq (.block 3<|Zr (Zi 33 4 29 31<|Zh 34 4 33<|Zo (.alloc 10 4 54 (.agg [.bool false,.aa,.aa,.aa]))<|Zs 4 10 34 .nil)<|Zr (Zf 35 0 10<|Zh 36 3 35<|Zo (.alloc 11 3 43 (.agg [.bool false,.aa,.aa]))<|Zs 3 11 36 .nil)<| .seq (Zr (Zf 37 3 10<|Zl 38 1 37<|Zn 39 38<|Zc 40 0 .nil)<| .block 4<| .loop<|Zr (Zb 41 .lss 40 39 .nil)<| .seq (.cond (.t 41) .skip (.exit 4))<| .seq (.block 5<|Zr (Zm 42 40<|Zi 43 1 38 40<|Zl 44 1 43<|Zm 12 42<|Zm 13 44 .nil)<|Zr (Zm 45 13<|Zk 46 .gtr 45 0 .nil)<| .cond (.t 46) (.rg (Zh 47 3 11<|Zm 48 1<|Zm 49 12<|Zi 50 3 48 49<|Zh 51 3 50<|Zm 52 13<|Zq 53 true 47 [.t 51,.t 52]<|Zq 54 true 46 [.t 47,.t 53]<|Zs 3 11 54 .nil)) .skip)<| .rg (Zk 55 .add 40 1<|Zm 40 55 .nil))<| .rg (Zh 56 3 8<|Zh 57 3 11<|Zq 58 false 48 [.t 56,.t 57]<|Zs 3 8 58 .nil))<| .rg (Zk 59 .add 31 1<|Zm 31 59 .nil))<|Zr (Zh 60 3 8<|Zs 3 4 60<|Zc 5 0 .nil) .ret⟩
theorem aju:Qe Tryz.prog Tryz.f16=some Kh:=by kernel_rfl
def JH:aA:=⟨39,[.t 6],Zr (Zc 6 0 .nil)<| .seq (Zr (Zm 11 0<|Zn 12 11<|Zc 13 0 .nil)<| .block 0<| .loop<|Zr (Zb 14 .lss 13 12 .nil)<| .seq (.cond (.t 14) .skip (.exit 0))<| .seq (.block 1<|Zr (Zm 15 13<|Zi 16 4 11 13<|Zh 17 4 16<|Zo (.alloc 8 4 54 (.agg [.bool false,.aa,.aa,.aa]))<|Zm 7 15<|Zs 4 8 17 .nil)<| .seq (Zr (Zm 18 7<|Zm 19 1<|Zn 20 19<|Zb 21 .geq 18 20 .nil)<| .cond (.t 21) (Zr (Zc 6 1 .nil) .ret) .skip)<|Zr (Zm 22 1<|Zm 23 7<|Zi 24 4 22 23<|Zh 25 4 24<|Zo (.alloc 9 4 54 (.agg [.bool false,.aa,.aa,.aa]))<|Zs 4 9 25 .nil)<|Zr (Zm 26 2<|Zh 27 4 8<|Zh 28 4 9<|Zo (.call (some 29) false (.t 26) [.t 27,.t 28])<|Zm 10 29 .nil)<|Zr (Zm 30 10<|Zk 31 .neq 30 0 .nil)<| .cond (.t 31) (Zr (Zm 32 10<|Zm 6 32 .nil) .ret) .skip)<| .rg (Zk 33 .add 13 1<|Zm 13 33 .nil))<| .seq (Zr (Zm 34 0<|Zn 35 34<|Zm 36 1<|Zn 37 36<|Zb 38 .lss 35 37 .nil)<| .cond (.t 38) (Zr (Zc 6 (-1) .nil) .ret) .skip)<|Zr (Zc 6 0 .nil) .ret⟩
theorem agD:Qe Tryz.prog Tryz.f127=some JH:=by kernel_rfl
def Jt:aA:=⟨9,[.t 4],Zr (Zo (.mv 4 (.c (.bool false))) .nil)<|Zr (Zm 5 0<|Zm 6 1<|Zq 7 false 159 [.t 5,.t 6]<|Zk 8 .geq 7 0<|Zm 4 8 .nil) .ret⟩
theorem agE:Qe Tryz.prog Tryz.f112=some Jt:=by kernel_rfl
def Jv:aA:=⟨9,[.t 4],Zr (Zo (.mv 4 (.c (.bool false))) .nil)<|Zr (Zm 5 0<|Zm 6 1<|Zq 7 false 160 [.t 5,.t 6]<|Zk 8 .geq 7 0<|Zm 4 8 .nil) .ret⟩
theorem agF:Qe Tryz.prog Tryz.f114=some Jv:=by kernel_rfl
def Kg:aA:=⟨19,[.t 4],Zr (Zc 4 0 .nil)<| .seq (Zr (Zm 6 0<|Zn 7 6<|Zc 8 0 .nil)<| .block 0<| .loop<|Zr (Zb 9 .lss 8 7 .nil)<| .seq (.cond (.t 9) .skip (.exit 0))<| .seq (.block 1<|Zr (Zm 10 8<|Zm 5 10 .nil)<|Zr (Zm 11 1<|Zm 12 0<|Zm 13 5<|Zi 14 4 12 13<|Zh 15 4 14<|Zo (.call (some 16) false (.t 11) [.t 15]) .nil)<| .cond (.t 16) (Zr (Zm 17 5<|Zm 4 17 .nil) .ret) .skip)<| .rg (Zk 18 .add 8 1<|Zm 8 18 .nil))<|Zr (Zc 4 (-1) .nil) .ret⟩
theorem agG:Qe Tryz.prog Tryz.f159=some Kg:=by kernel_rfl
def Ki:aA:=⟨19,[.t 4],Zr (Zc 4 0 .nil)<| .seq (Zr (Zm 6 0<|Zn 7 6<|Zc 8 0 .nil)<| .block 0<| .loop<|Zr (Zb 9 .lss 8 7 .nil)<| .seq (.cond (.t 9) .skip (.exit 0))<| .seq (.block 1<|Zr (Zm 10 8<|Zm 5 10 .nil)<|Zr (Zm 11 1<|Zm 12 0<|Zm 13 5<|Zi 14 1 12 13<|Zl 15 1 14<|Zo (.call (some 16) false (.t 11) [.t 15]) .nil)<| .cond (.t 16) (Zr (Zm 17 5<|Zm 4 17 .nil) .ret) .skip)<| .rg (Zk 18 .add 8 1<|Zm 8 18 .nil))<|Zr (Zc 4 (-1) .nil) .ret⟩
theorem agH:Qe Tryz.prog Tryz.f160=some Ki:=by kernel_rfl
def Ky:aA:=⟨15,[.cell 4 2 true],Zr (Zo (.alloc 4 2 41 (.agg [.bool false,.aa])) .nil)<|Zr (Zm 5 1<|Zq 6 false 86 [.t 5]<|Zm 1 6 .nil)<|Zr (Zm 7 0<|Zm 8 7<|Zg 8 true (.mv 9 (.t 1))<|Zg 8 true (.len 10 (.t 9))<|Zg 8 true (.bin 11 .gtr false (.t 10) (.c (Zz 0)))<|Zo (.pick 12 (.t 8) (.t 11) (.c (.bool false)))<|Zm 13 1<|Zo (.bU 14 [.bool false,.aa] [(0,1,.t 12),(1,1,.t 13)])<|Zs 2 4 14 .nil) .ret⟩
theorem agI:Qe Tryz.prog Tryz.f175=some Ky:=by kernel_rfl
def Jz:aA:=⟨13,[.cell 4 2 true],Zr (Zo (.alloc 4 2 41 (.agg [.bool false,.aa])) .nil)<|Zr (Zm 5 0<|Zm 6 5<|Zg 6 true (.mv 7 (.t 1))<|Zg 6 true (.len 8 (.t 7))<|Zg 6 true (.bin 9 .gtr false (.t 8) (.c (Zz 0)))<|Zo (.pick 10 (.t 6) (.t 9) (.c (.bool false)))<|Zm 11 1<|Zo (.bU 12 [.bool false,.aa] [(0,1,.t 10),(1,1,.t 11)])<|Zs 2 4 12 .nil) .ret⟩
theorem agJ:Qe Tryz.prog Tryz.f118=some Jz:=by kernel_rfl
def K6:aA:=⟨27,[.t 2],Zr (Zo (.box 1 2 41 (.t 0))<|Zo (.mv 2 (.c (.bool false))) .nil)<|Zr (Zf 4 1 1<|Zl 5 1 4<|Zn 6 5<|Zm 3 6 .nil)<|Zr (Zm 7 3<|Zk 8 .eql 7 0<|Zm 9 8<|Zg 9 true (.cC 10 0 (.t 1))<|Zg 9 true (.ld 11 1 false (.t 10))<|Zg 9 true (.un 12 .not (.t 11))<|Zo (.pick 13 (.t 9) (.t 12) (.c (.bool false)))<|Zm 14 13<|Zg 14 false (.mv 15 (.t 3))<|Zg 14 false (.bin 16 .gtr false (.t 15) (.c (Zz 0)))<|Zg 14 false (.mv 17 (.t 16))<|Zg 17 true (.cC 18 1 (.t 1))<|Zg 17 true (.ld 19 1 false (.t 18))<|Zg 17 true (.mv 20 (.t 3))<|Zg 17 true (.bin 21 .sub false (.t 20) (.c (Zz 1)))<|Zg 17 true (.idx 22 1 (.t 19) (.t 21))<|Zg 17 true (.ld 23 1 false (.t 22))<|Zg 17 true (.bin 24 .neq false (.t 23) (.c (.int .u16 0)))<|Zg 14 false (.pick 25 (.t 17) (.t 24) (.c (.bool false)))<|Zo (.pick 26 (.t 14) (.c (.bool true)) (.t 25))<|Zm 2 26 .nil) .ret⟩
theorem ajv:Qe Tryz.prog Tryz.f42=some K6:=by kernel_rfl
def J6:aA:=⟨8,[.cell 2 2 true],Zr (Zo (.box 1 2 41 (.t 0))<|Zo (.alloc 2 2 41 (.agg [.bool false,.aa])) .nil)<|Zr (Zf 3 0 1<|Zl 4 1 3<|Zf 5 1 1<|Zl 6 1 5<|Zq 7 false 175 [.t 4,.t 6]<|Zs 2 2 7 .nil) .ret⟩
theorem agK:Qe Tryz.prog Tryz.f149=some J6:=by kernel_rfl
def Lt:aA:=⟨16,[.cell 2 2 true],Zr (Zo (.alloc 2 2 41 (.agg [.bool false,.aa])) .nil)<| .seq (Zr (Zm 3 0<|Zk 4 .lss 3 0 .nil)<| .cond (.t 4) (Zr (Zm 5 0<|Zk 6 .add 5 1<|Zo (.un 7 .neg (.t 6))<|Zo (.conv 8 .u64 (.t 7))<|Zo (.bin 9 .add false (.t 8) (.c (.int .u64 1)))<|Zq 10 false 88 [.t 9]<|Zq 11 false 118 [.c (.bool true),.t 10]<|Zs 2 2 11 .nil) .ret) .skip)<|Zr (Zm 12 0<|Zo (.conv 13 .u64 (.t 12))<|Zq 14 false 88 [.t 13]<|Zq 15 false 118 [.c (.bool false),.t 14]<|Zs 2 2 15 .nil) .ret⟩
theorem ajw:Qe Tryz.prog Tryz.f63=some Lt:=by kernel_rfl
def Le:aA:=⟨11,[.t 2],Zr (Zo (.box 1 2 41 (.t 0))<|Zc 2 0 .nil)<| .seq (.block 0<|Zr (Zf 4 1 1<|Zl 5 1 4<|Zq 6 false 96 [.t 5]<|Zk 7 .eql 6 0<|Zm 3 7 .nil)<| .cond (.t 3) (Zr (Zc 2 0 .nil) .ret) (Zr (Zf 9 0 1<|Zl 10 1 9<|Zm 8 10 .nil)<| .cond (.t 8) (Zr (Zc 2 (-1) .nil) .ret) .skip))<|Zr (Zc 2 1 .nil) .ret⟩
theorem ajx:Qe Tryz.prog Tryz.f50=some Le:=by kernel_rfl
def Kl:aA:=⟨35,[.t 4],Zr (Zo (.box 2 2 41 (.t 0))<|Zo (.box 3 2 41 (.t 1))<|Zc 4 0 .nil)<|Zr (Zh 8 2 2<|Zh 10 2 3<|Zq 9 true 50 [.t 8]<|Zq 11 true 50 [.t 10]<|Zm 5 9<|Zm 6 11 .nil)<|Zr (Zo (.mv 7 (.c (.fn 180 [] []))) .nil)<| .seq (.block 0<|Zr (Zm 13 5<|Zm 14 6<|Zb 15 .lss 13 14<|Zm 12 15 .nil)<| .cond (.t 12) (Zr (Zc 4 (-1) .nil) .ret) (Zr (Zm 17 5<|Zm 18 6<|Zb 19 .gtr 17 18<|Zm 16 19 .nil)<| .cond (.t 16) (Zr (Zc 4 1 .nil) .ret) (Zr (Zm 21 5<|Zk 22 .lss 21 0<|Zm 20 22 .nil)<| .cond (.t 20) (Zr (Zm 23 7<|Zf 24 1 3<|Zl 25 1 24<|Zf 26 1 2<|Zl 27 1 26<|Zo (.call (some 28) false (.t 23) [.t 25,.t 27])<|Zm 4 28 .nil) .ret) .skip)))<|Zr (Zm 29 7<|Zf 30 1 2<|Zl 31 1 30<|Zf 32 1 3<|Zl 33 1 32<|Zo (.call (some 34) false (.t 29) [.t 31,.t 33])<|Zm 4 34 .nil) .ret⟩
theorem agL:Qe Tryz.prog Tryz.f163=some Kl:=by kernel_rfl
def KE:aA:=⟨8,[.t 4],Zr (Zc 4 0 .nil)<|Zr (Zm 5 0<|Zm 6 1<|Zq 7 false 144 [.t 5,.t 6]<|Zm 4 7 .nil) .ret⟩
theorem agM:Qe Tryz.prog Tryz.f180=some KE:=by kernel_rfl
def J8:aA:=⟨40,[.cell 4 2 true],Zr (Zo (.box 2 2 41 (.t 0))<|Zo (.box 3 2 41 (.t 1))<|Zo (.alloc 4 2 41 (.agg [.bool false,.aa])) .nil)<| .seq (Zr (Zf 7 0 2<|Zl 8 1 7<|Zf 9 0 3<|Zl 10 1 9<|Zo (.bin 11 .eql true (.t 8) (.t 10)) .nil)<| .cond (.t 11) (Zr (Zf 12 0 2<|Zl 13 1 12<|Zf 14 1 2<|Zl 15 1 14<|Zf 16 1 3<|Zl 17 1 16<|Zq 18 true 176 [.t 15,.t 17]<|Zq 19 true 118 [.t 13,.t 18]<|Zs 2 4 19 .nil) .ret) .skip)<| .seq (Zr (Zf 20 1 2<|Zl 21 1 20<|Zf 22 1 3<|Zl 23 1 22<|Zq 24 false 144 [.t 21,.t 23]<|Zk 25 .lss 24 0 .nil)<| .cond (.t 25) (.rg (Zh 26 2 3<|Zh 27 2 2<|Zs 2 2 26<|Zs 2 3 27 .nil)) .skip)<|Zr (Zf 29 1 2<|Zl 30 1 29<|Zf 31 1 3<|Zl 32 1 31<|Zq 33 false 177 [.t 30,.t 32]<|Zm 28 33<|Zo (.ext 34 (.t 28) 0)<|Zo (.ext 35 (.t 28) 1)<|Zm 5 34<|Zm 6 35 .nil)<|Zr (Zf 36 0 2<|Zl 37 1 36<|Zm 38 5<|Zq 39 false 118 [.t 37,.t 38]<|Zs 2 4 39 .nil) .ret⟩
theorem agN:Qe Tryz.prog Tryz.f150=some J8:=by kernel_rfl
def LW:aA:=⟨16,[.cell 4 2 true],Zr (Zo (.box 2 2 41 (.t 0))<|Zo (.box 3 2 41 (.t 1))<|Zo (.alloc 4 2 41 (.agg [.bool false,.aa])) .nil)<|Zr (Zf 5 0 2<|Zl 6 1 5<|Zf 7 0 3<|Zl 8 1 7<|Zo (.bin 9 .neq true (.t 6) (.t 8))<|Zf 10 1 2<|Zl 11 1 10<|Zf 12 1 3<|Zl 13 1 12<|Zq 14 true 93 [.t 11,.t 13]<|Zq 15 true 118 [.t 9,.t 14]<|Zs 2 4 15 .nil) .ret⟩
theorem ajy:Qe Tryz.prog Tryz.f92=some LW:=by kernel_rfl
def K7:aA:=⟨17,[.t 2],Zr (Zo (.mv 2 (.c (.bool false))) .nil)<|Zr (Zm 4 0<|Zn 5 4<|Zo (.bU 6 [Zz 0,.int .u16 0] [(0,1,.t 5)])<|Zo (.alloc 3 2 107 (.agg [Zz 0,.int .u16 0]))<|Zs 2 3 6 .nil)<| .seq (Zr (Zm 7 0<|Zn 8 7<|Zk 9 .gtr 8 0 .nil)<| .cond (.t 9) (.rg (Zm 10 0<|Zo (.idx 11 1 (.t 10) (.c (Zz 0)))<|Zl 12 1 11<|Zf 13 1 3<|Zs 1 13 12 .nil)) .skip)<|Zr (Zh 14 2 3<|Zo (.bU 15 [Zz 0,.int .u16 0] [(0,1,.c (Zz 1)),(1,1,.c (.int .u16 1))])<|Zo (.eqs 16 false (.t 14) (.t 15))<|Zm 2 16 .nil) .ret⟩
theorem ajz:Qe Tryz.prog Tryz.f43=some K7:=by kernel_rfl
def Lu:aA:=⟨2,[.t 0],Zr (Zo (.mv 0 (.c .aa)) .nil)<|Zr (Zo (.bs 1 1 76 [.c (.int .u16 1)])<|Zm 0 1 .nil) .ret⟩
theorem ajA:Qe Tryz.prog Tryz.f64=some Lu:=by kernel_rfl
def LV:aA:=⟨52,[.cell 4 3 true],Zr (Zo (.box 2 2 41 (.t 0))<|Zo (.alloc 4 3 43 (.agg [.bool false,.aa,.aa])) .nil)<|Zr (Zm 6 1<|Zq 7 false 86 [.t 6]<|Zm 1 7 .nil)<|Zr (Zh 8 2 2<|Zq 9 false 149 [.t 8]<|Zs 2 2 9 .nil)<| .seq (Zr (Zm 10 1<|Zn 11 10<|Zk 12 .eql 11 0<|Zm 13 12<|Zg 13 false (.cC 14 1 (.t 2))<|Zg 13 false (.ld 15 1 false (.t 14))<|Zg 13 false (.len 16 (.t 15))<|Zg 13 false (.bin 17 .eql false (.t 16) (.c (Zz 0)))<|Zo (.pick 18 (.t 13) (.c (.bool true)) (.t 17)) .nil)<| .cond (.t 18) (Zr (Zq 19 false 64 []<|Zo (.bU 20 [.bool false,.aa,.aa] [(2,1,.t 19)])<|Zs 3 4 20 .nil) .ret) .skip)<| .seq (Zr (Zm 21 1<|Zq 22 false 43 [.t 21] .nil)<| .cond (.t 22) (Zr (Zh 23 2 2<|Zm 24 1<|Zo (.bU 25 [.bool false,.aa,.aa] [(0,2,.t 23),(2,1,.t 24)])<|Zs 3 4 25 .nil) .ret) .skip)<|Zr (Zf 26 1 2<|Zl 27 1 26<|Zm 28 1<|Zq 29 false 44 [.t 27,.t 28]<|Zm 5 29 .nil)<| .seq (Zr (Zm 30 5<|Zq 31 false 43 [.t 30]<|Zu 32 31 .nil)<| .cond (.t 32) (Zr (Zf 34 1 2<|Zl 35 1 34<|Zm 36 5<|Zq 37 false 89 [.t 35,.t 36]<|Zm 33 37<|Zo (.ext 38 (.t 33) 0)<|Zo (.ext 39 (.t 33) 1)<|Zo (.ext 40 (.t 33) 2)<|Zf 41 1 2<|Zs 1 41 38 .nil)<| .rg (Zm 43 1<|Zm 44 5<|Zq 45 false 89 [.t 43,.t 44]<|Zm 42 45<|Zo (.ext 46 (.t 42) 0)<|Zo (.ext 47 (.t 42) 1)<|Zo (.ext 48 (.t 42) 2)<|Zm 1 46 .nil)) .skip)<|Zr (Zh 49 2 2<|Zm 50 1<|Zo (.bU 51 [.bool false,.aa,.aa] [(0,2,.t 49),(2,1,.t 50)])<|Zs 3 4 51 .nil) .ret⟩
theorem ajB:Qe Tryz.prog Tryz.f91=some LV:=by kernel_rfl
def Ld:aA:=⟨14,[.cell 2 2 true,.t 3],Zr (Zo (.box 1 3 43 (.t 0))<|Zo (.alloc 2 2 41 (.agg [.bool false,.aa]))<|Zo (.mv 3 (.c .aa)) .nil)<| .seq (Zr (Zf 4 2 1<|Zl 5 1 4<|Zq 6 false 96 [.t 5]<|Zk 7 .eql 6 0 .nil)<| .cond (.t 7) (Zr (Zo (.bU 8 [.bool false,.aa] [])<|Zq 9 false 64 []<|Zs 2 2 8<|Zm 3 9 .nil) .ret) .skip)<|Zr (Zf 10 0 1<|Zh 11 2 10<|Zf 12 2 1<| .br (Zl 13 1 12<|Zs 2 2 11<|Zm 3 13 .nil) (Zs 2 2 11<|Zl 13 1 12<|Zm 3 13 .nil)) .ret⟩
theorem ajC:Qe Tryz.prog Tryz.f49=some Ld:=by kernel_rfl
def LZ:aA:=⟨5,[.cell 2 2 true],Zr (Zo (.alloc 2 2 41 (.agg [.bool false,.aa])) .nil)<|Zr (Zm 3 0<|Zo (.bU 4 [.bool false,.aa] [(1,1,.t 3)])<|Zs 2 2 4 .nil) .ret⟩
theorem ai4:Qe Tryz.prog Tryz.f95=some LZ:=by kernel_rfl
def J7:aA:=⟨36,[.t 2],Zr (Zo (.box 1 3 43 (.t 0))<|Zo (.mv 2 (.c (.bool false))) .nil)<|Zr (Zf 4 2 1<|Zl 5 1 4<|Zn 6 5<|Zm 3 6 .nil)<| .seq (Zr (Zf 7 0 1<|Zh 8 2 7<|Zq 9 false 42 [.t 8]<|Zu 10 9<|Zm 11 10<|Zg 11 false (.mv 12 (.t 3))<|Zg 11 false (.bin 13 .eql false (.t 12) (.c (Zz 0)))<|Zo (.pick 14 (.t 11) (.c (.bool true)) (.t 13))<|Zm 15 14<|Zg 15 false (.cC 16 2 (.t 1))<|Zg 15 false (.ld 17 1 false (.t 16))<|Zg 15 false (.mv 18 (.t 3))<|Zg 15 false (.bin 19 .sub false (.t 18) (.c (Zz 1)))<|Zg 15 false (.idx 20 1 (.t 17) (.t 19))<|Zg 15 false (.ld 21 1 false (.t 20))<|Zg 15 false (.bin 22 .eql false (.t 21) (.c (.int .u16 0)))<|Zo (.pick 23 (.t 15) (.c (.bool true)) (.t 22)) .nil)<| .cond (.t 23) (Zr (Zo (.mv 2 (.c (.bool false))) .nil) .ret) .skip)<|Zr (Zf 24 2 1<|Zl 25 1 24<|Zq 26 false 43 [.t 25]<|Zm 27 26<|Zg 27 false (.cC 28 0 (.t 1))<|Zg 27 false (.cC 29 1 (.t 28))<|Zg 27 false (.ld 30 1 false (.t 29))<|Zg 27 false (.cC 31 2 (.t 1))<|Zg 27 false (.ld 32 1 false (.t 31))<|Zg 27 false (.call (some 33) false (.c (.fn 44 [] [])) [.t 30,.t 32])<|Zg 27 false (.call (some 34) false (.c (.fn 43 [] [])) [.t 33])<|Zo (.pick 35 (.t 27) (.c (.bool true)) (.t 34))<|Zm 2 35 .nil) .ret⟩
theorem ai5:Qe Tryz.prog Tryz.f15=some J7:=by kernel_rfl
def KQ:aA:=⟨7,[.cell 2 3 true],Zr (Zo (.alloc 2 3 43 (.agg [.bool false,.aa,.aa])) .nil)<|Zr (Zm 3 0<|Zq 4 false 63 [.t 3]<|Zq 5 false 64 []<|Zo (.bU 6 [.bool false,.aa,.aa] [(0,2,.t 4),(2,1,.t 5)])<|Zs 3 2 6 .nil) .ret⟩
theorem ai6:Qe Tryz.prog Tryz.f26=some KQ:=by kernel_rfl
def Ks:aA:=⟨12,[.t 2],Zr (Zo (.box 1 3 43 (.t 0))<|Zc 2 0 .nil)<|Zr (Zh 6 3 1<|Zq 7 false 49 [.t 6]<|Zm 5 7<|Zo (.ext 8 (.t 5) 0)<|Zo (.ext 9 (.t 5) 1)<|Zo (.alloc 3 2 41 (.agg [.bool false,.aa]))<|Zs 2 3 8<|Zm 4 9 .nil)<|Zr (Zh 10 2 3<|Zq 11 false 50 [.t 10]<|Zm 2 11 .nil) .ret⟩
theorem ai7:Qe Tryz.prog Tryz.f17=some Ks:=by kernel_rfl
def JG:aA:=⟨40,[.t 4],Zr (Zo (.box 2 3 43 (.t 0))<|Zo (.box 3 3 43 (.t 1))<|Zc 4 0 .nil)<|Zr (Zh 11 3 2<|Zh 13 3 3<|Zq 12 true 17 [.t 11]<|Zq 14 true 17 [.t 13]<|Zm 5 12<|Zm 6 14 .nil)<| .seq (Zr (Zm 15 5<|Zm 16 6<|Zb 17 .neq 15 16 .nil)<| .cond (.t 17) (.seq (Zr (Zm 18 5<|Zm 19 6<|Zb 20 .lss 18 19 .nil)<| .cond (.t 20) (Zr (Zc 4 (-1) .nil) .ret) .skip)<|Zr (Zc 4 1 .nil) .ret) .skip)<|Zr (Zh 22 3 2<|Zq 23 false 49 [.t 22]<|Zm 21 23<|Zo (.ext 24 (.t 21) 0)<|Zo (.ext 25 (.t 21) 1)<|Zo (.alloc 7 2 41 (.agg [.bool false,.aa]))<|Zs 2 7 24<|Zm 8 25 .nil)<|Zr (Zh 27 3 3<|Zq 28 false 49 [.t 27]<|Zm 26 28<|Zo (.ext 29 (.t 26) 0)<|Zo (.ext 30 (.t 26) 1)<|Zo (.alloc 9 2 41 (.agg [.bool false,.aa]))<|Zs 2 9 29<|Zm 10 30 .nil)<|Zr (Zh 31 2 7<|Zm 32 10<|Zh 35 2 9<|Zm 36 8<|Zq 33 true 95 [.t 32]<|Zq 34 true 92 [.t 31,.t 33]<|Zq 37 true 95 [.t 36]<|Zq 38 true 92 [.t 35,.t 37]<|Zq 39 true 163 [.t 34,.t 38]<|Zm 4 39 .nil) .ret⟩
theorem agO:Qe Tryz.prog Tryz.f126=some JG:=by kernel_rfl
def LY:aA:=⟨17,[.cell 2 2 true],Zr (Zo (.alloc 2 2 41 (.agg [.bool false,.aa])) .nil)<|Zr (Zo (.alloc 3 2 41 (.agg [.bool false,.aa])) .nil)<| .seq (Zr (Zm 6 0<|Zn 7 6<|Zc 8 0 .nil)<| .block 0<| .loop<|Zr (Zb 9 .lss 8 7 .nil)<| .seq (.cond (.t 9) .skip (.exit 0))<| .seq (.block 1<|Zr (Zi 10 2 6 8<|Zh 11 2 10<|Zo (.alloc 5 2 41 (.agg [.bool false,.aa]))<|Zs 2 5 11 .nil)<| .rg (Zh 12 2 3<|Zh 13 2 5<|Zq 14 false 150 [.t 12,.t 13]<|Zs 2 3 14 .nil))<| .rg (Zk 15 .add 8 1<|Zm 8 15 .nil))<|Zr (Zh 16 2 3<|Zs 2 2 16 .nil) .ret⟩
theorem ai8:Qe Tryz.prog Tryz.f94=some LY:=by kernel_rfl
def Lc:aA:=⟨45,[.cell 4 3 true],Zr (Zo (.box 2 3 43 (.t 0))<|Zo (.box 3 3 43 (.t 1))<|Zo (.alloc 4 3 43 (.agg [.bool false,.aa,.aa])) .nil)<|Zr (Zh 10 3 2<|Zq 11 false 49 [.t 10]<|Zm 9 11<|Zo (.ext 12 (.t 9) 0)<|Zo (.ext 13 (.t 9) 1)<|Zo (.alloc 5 2 41 (.agg [.bool false,.aa]))<|Zs 2 5 12<|Zm 6 13 .nil)<|Zr (Zh 15 3 3<|Zq 16 false 49 [.t 15]<|Zm 14 16<|Zo (.ext 17 (.t 14) 0)<|Zo (.ext 18 (.t 14) 1)<|Zo (.alloc 7 2 41 (.agg [.bool false,.aa]))<|Zs 2 7 17<|Zm 8 18 .nil)<| .seq (Zr (Zm 19 6<|Zq 20 false 43 [.t 19]<|Zm 21 20<|Zg 21 true (.mv 22 (.t 8))<|Zg 21 true (.call (some 23) false (.c (.fn 43 [] [])) [.t 22])<|Zo (.pick 24 (.t 21) (.t 23) (.c (.bool false))) .nil)<| .cond (.t 24) (Zr (Zh 25 2 5<|Zh 26 2 7<|Zo (.bs 27 2 41 [.t 25,.t 26])<|Zq 28 false 94 [.t 27]<|Zm 29 6<|Zq 30 false 91 [.t 28,.t 29]<|Zs 3 4 30 .nil) .ret) .skip)<|Zr (Zh 31 2 5<|Zm 32 8<|Zh 35 2 7<|Zm 36 6<|Zm 41 6<|Zm 42 8<|Zq 33 true 95 [.t 32]<|Zq 34 true 92 [.t 31,.t 33]<|Zq 37 true 95 [.t 36]<|Zq 38 true 92 [.t 35,.t 37]<|Zo (.bs 39 2 41 [.t 34,.t 38])<|Zq 40 true 94 [.t 39]<|Zq 43 true 93 [.t 41,.t 42]<|Zq 44 true 91 [.t 40,.t 43]<|Zs 3 4 44 .nil) .ret⟩
theorem ai9:Qe Tryz.prog Tryz.f48=some Lc:=by kernel_rfl
def La:aA:=⟨26,[.cell 4 3 true],Zr (Zo (.box 2 3 43 (.t 0))<|Zo (.box 3 3 43 (.t 1))<|Zo (.alloc 4 3 43 (.agg [.bool false,.aa,.aa])) .nil)<|Zr (Zh 10 3 2<|Zq 11 false 49 [.t 10]<|Zm 9 11<|Zo (.ext 12 (.t 9) 0)<|Zo (.ext 13 (.t 9) 1)<|Zo (.alloc 5 2 41 (.agg [.bool false,.aa]))<|Zs 2 5 12<|Zm 6 13 .nil)<|Zr (Zh 15 3 3<|Zq 16 false 49 [.t 15]<|Zm 14 16<|Zo (.ext 17 (.t 14) 0)<|Zo (.ext 18 (.t 14) 1)<|Zo (.alloc 7 2 41 (.agg [.bool false,.aa]))<|Zs 2 7 17<|Zm 8 18 .nil)<|Zr (Zh 19 2 5<|Zh 20 2 7<|Zq 21 false 92 [.t 19,.t 20]<|Zm 22 6<|Zm 23 8<|Zq 24 false 93 [.t 22,.t 23]<|Zq 25 false 91 [.t 21,.t 24]<|Zs 3 4 25 .nil) .ret⟩
theorem aja:Qe Tryz.prog Tryz.f46=some La:=by kernel_rfl
def Kj:aA:=⟨21,[.cell 4 3 true,.t 5],Zr (Zo (.box 2 2 41 (.t 0))<|Zo (.box 3 2 41 (.t 1))<|Zo (.alloc 4 3 43 (.agg [.bool false,.aa,.aa]))<|Zc 5 0 .nil)<| .seq (Zr (Zh 6 2 3<|Zq 7 false 50 [.t 6]<|Zk 8 .eql 7 0 .nil)<| .cond (.t 8) (Zr (Zo (.bU 9 [.bool false,.aa,.aa] [])<|Zs 3 4 9<|Zc 5 3 .nil) .ret) .skip)<|Zr (Zf 10 0 2<|Zl 11 1 10<|Zf 12 0 3<|Zl 13 1 12<|Zo (.bin 14 .neq true (.t 11) (.t 13))<|Zf 15 1 2<|Zl 16 1 15<|Zo (.bU 17 [.bool false,.aa] [(0,1,.t 14),(1,1,.t 16)])<|Zf 18 1 3<|Zl 19 1 18<|Zq 20 false 91 [.t 17,.t 19]<|Zs 3 4 20<|Zc 5 0 .nil) .ret⟩
theorem agP:Qe Tryz.prog Tryz.f161=some Kj:=by kernel_rfl
def J5:aA:=⟨108,[.t 4],Zr (Zo (.box 2 1 39 (.t 0))<|Zo (.box 3 1 39 (.t 1))<|Zo (.mv 4 (.c .aa)) .nil)<|Zr (Zl 12 1 3<|Zn 13 12<|Zo (.alloc 5 1 3 (Zz 0))<|Zs 1 5 13 .nil)<|Zr (Zl 14 1 2<|Zn 15 14<|Zl 16 1 5<|Zb 17 .sub 15 16<|Zo (.mk 18 1 2 76 (.int .u16 0) (.t 17) (.t 17))<|Zm 6 18 .nil)<| .seq (Zr (Zl 19 1 2<|Zn 20 19<|Zl 21 1 5<|Zb 22 .sub 20 21<|Zk 23 .sub 22 1<|Zo (.alloc 7 1 3 (Zz 0))<|Zs 1 7 23 .nil)<| .block 0<| .loop<| .seq (Zr (Zl 24 1 7<|Zk 25 .geq 24 0 .nil)<| .cond (.t 25) .skip (.exit 0))<| .seq (.block 1<|Zr (Zl 28 1 2<|Zl 29 1 7<|Zl 30 1 5<|Zb 31 .add 29 30<|Zi 32 1 28 31<|Zl 33 1 32<|Zo (.conv 34 .u64 (.t 33))<|Zo (.bin 35 .shl false (.t 34) (.c (.int .u64 16)))<|Zl 36 1 2<|Zl 37 1 7<|Zl 38 1 5<|Zb 39 .add 37 38<|Zk 40 .sub 39 1<|Zi 41 1 36 40<|Zl 42 1 41<|Zo (.conv 43 .u64 (.t 42))<|Zb 44 .or 35 43<|Zm 8 44 .nil)<|Zr (Zm 45 8<|Zl 46 1 3<|Zl 47 1 5<|Zk 48 .sub 47 1<|Zi 49 1 46 48<|Zl 50 1 49<|Zo (.conv 51 .u64 (.t 50))<|Zb 52 .quo 45 51<|Zm 53 8<| .br (Zl 54 1 3<| .br (Zl 55 1 5<|Zk 56 .sub 55 1<|Zi 57 1 54 56<| .br (Zl 58 1 57<|Zo (.conv 59 .u64 (.t 58))<|Zb 60 .rem 53 59<| .br (Zo (.alloc 9 1 101 (.int .u64 0))<|Zo (.alloc 10 1 101 (.int .u64 0))<|Zs 1 9 52<|Zs 1 10 60 .nil) (Zo (.alloc 10 1 101 (.int .u64 0))<|Zo (.alloc 9 1 101 (.int .u64 0))<|Zs 1 9 52<|Zs 1 10 60 .nil)) (.br (Zo (.alloc 9 1 101 (.int .u64 0))<| .br (Zl 58 1 57<|Zo (.conv 59 .u64 (.t 58))<|Zb 60 .rem 53 59<|Zo (.alloc 10 1 101 (.int .u64 0))<|Zs 1 9 52<|Zs 1 10 60 .nil) (Zo (.alloc 10 1 101 (.int .u64 0))<| .br (Zl 58 1 57<|Zo (.conv 59 .u64 (.t 58))<|Zb 60 .rem 53 59<|Zs 1 9 52<|Zs 1 10 60 .nil) (Zs 1 9 52<|Zl 58 1 57<|Zo (.conv 59 .u64 (.t 58))<|Zb 60 .rem 53 59<|Zs 1 10 60 .nil))) (Zo (.alloc 10 1 101 (.int .u64 0))<| .br (Zl 58 1 57<|Zo (.conv 59 .u64 (.t 58))<|Zb 60 .rem 53 59<|Zo (.alloc 9 1 101 (.int .u64 0))<|Zs 1 9 52<|Zs 1 10 60 .nil) (Zo (.alloc 9 1 101 (.int .u64 0))<| .br (Zl 58 1 57<|Zo (.conv 59 .u64 (.t 58))<|Zb 60 .rem 53 59<|Zs 1 9 52<|Zs 1 10 60 .nil) (Zs 1 9 52<|Zl 58 1 57<|Zo (.conv 59 .u64 (.t 58))<|Zb 60 .rem 53 59<|Zs 1 10 60 .nil))))) (.br (Zo (.alloc 9 1 101 (.int .u64 0))<| .br (Zl 55 1 5<|Zk 56 .sub 55 1<|Zi 57 1 54 56<| .br (Zl 58 1 57<|Zo (.conv 59 .u64 (.t 58))<|Zb 60 .rem 53 59<|Zo (.alloc 10 1 101 (.int .u64 0))<|Zs 1 9 52<|Zs 1 10 60 .nil) (Zo (.alloc 10 1 101 (.int .u64 0))<| .br (Zl 58 1 57<|Zo (.conv 59 .u64 (.t 58))<|Zb 60 .rem 53 59<|Zs 1 9 52<|Zs 1 10 60 .nil) (Zs 1 9 52<|Zl 58 1 57<|Zo (.conv 59 .u64 (.t 58))<|Zb 60 .rem 53 59<|Zs 1 10 60 .nil))) (Zo (.alloc 10 1 101 (.int .u64 0))<| .br (Zl 55 1 5<|Zk 56 .sub 55 1<|Zi 57 1 54 56<| .br (Zl 58 1 57<|Zo (.conv 59 .u64 (.t 58))<|Zb 60 .rem 53 59<|Zs 1 9 52<|Zs 1 10 60 .nil) (Zs 1 9 52<|Zl 58 1 57<|Zo (.conv 59 .u64 (.t 58))<|Zb 60 .rem 53 59<|Zs 1 10 60 .nil)) (Zs 1 9 52<|Zl 55 1 5<|Zk 56 .sub 55 1<|Zi 57 1 54 56<|Zl 58 1 57<|Zo (.conv 59 .u64 (.t 58))<|Zb 60 .rem 53 59<|Zs 1 10 60 .nil))) (Zo (.alloc 10 1 101 (.int .u64 0))<| .br (Zl 55 1 5<|Zk 56 .sub 55 1<|Zi 57 1 54 56<| .br (Zl 58 1 57<|Zo (.conv 59 .u64 (.t 58))<|Zb 60 .rem 53 59<|Zo (.alloc 9 1 101 (.int .u64 0))<|Zs 1 9 52<|Zs 1 10 60 .nil) (Zo (.alloc 9 1 101 (.int .u64 0))<| .br (Zl 58 1 57<|Zo (.conv 59 .u64 (.t 58))<|Zb 60 .rem 53 59<|Zs 1 9 52<|Zs 1 10 60 .nil) (Zs 1 9 52<|Zl 58 1 57<|Zo (.conv 59 .u64 (.t 58))<|Zb 60 .rem 53 59<|Zs 1 10 60 .nil))) (Zo (.alloc 9 1 101 (.int .u64 0))<| .br (Zl 55 1 5<|Zk 56 .sub 55 1<|Zi 57 1 54 56<| .br (Zl 58 1 57<|Zo (.conv 59 .u64 (.t 58))<|Zb 60 .rem 53 59<|Zs 1 9 52<|Zs 1 10 60 .nil) (Zs 1 9 52<|Zl 58 1 57<|Zo (.conv 59 .u64 (.t 58))<|Zb 60 .rem 53 59<|Zs 1 10 60 .nil)) (Zs 1 9 52<|Zl 55 1 5<|Zk 56 .sub 55 1<|Zi 57 1 54 56<|Zl 58 1 57<|Zo (.conv 59 .u64 (.t 58))<|Zb 60 .rem 53 59<|Zs 1 10 60 .nil))))) (.br (Zl 55 1 5<|Zk 56 .sub 55 1<| .br (Zl 54 1 3<|Zi 57 1 54 56<| .br (Zl 58 1 57<|Zo (.conv 59 .u64 (.t 58))<|Zb 60 .rem 53 59<| .br (Zo (.alloc 9 1 101 (.int .u64 0))<|Zo (.alloc 10 1 101 (.int .u64 0))<|Zs 1 9 52<|Zs 1 10 60 .nil) (Zo (.alloc 10 1 101 (.int .u64 0))<|Zo (.alloc 9 1 101 (.int .u64 0))<|Zs 1 9 52<|Zs 1 10 60 .nil)) (.br (Zo (.alloc 9 1 101 (.int .u64 0))<| .br (Zl 58 1 57<|Zo (.conv 59 .u64 (.t 58))<|Zb 60 .rem 53 59<|Zo (.alloc 10 1 101 (.int .u64 0))<|Zs 1 9 52<|Zs 1 10 60 .nil) (Zo (.alloc 10 1 101 (.int .u64 0))<| .br (Zl 58 1 57<|Zo (.conv 59 .u64 (.t 58))<|Zb 60 .rem 53 59<|Zs 1 9 52<|Zs 1 10 60 .nil) (Zs 1 9 52<|Zl 58 1 57<|Zo (.conv 59 .u64 (.t 58))<|Zb 60 .rem 53 59<|Zs 1 10 60 .nil))) (Zo (.alloc 10 1 101 (.int .u64 0))<| .br (Zl 58 1 57<|Zo (.conv 59 .u64 (.t 58))<|Zb 60 .rem 53 59<|Zo (.alloc 9 1 101 (.int .u64 0))<|Zs 1 9 52<|Zs 1 10 60 .nil) (Zo (.alloc 9 1 101 (.int .u64 0))<| .br (Zl 58 1 57<|Zo (.conv 59 .u64 (.t 58))<|Zb 60 .rem 53 59<|Zs 1 9 52<|Zs 1 10 60 .nil) (Zs 1 9 52<|Zl 58 1 57<|Zo (.conv 59 .u64 (.t 58))<|Zb 60 .rem 53 59<|Zs 1 10 60 .nil))))) (.br (Zo (.alloc 9 1 101 (.int .u64 0))<| .br (Zl 54 1 3<|Zi 57 1 54 56<| .br (Zl 58 1 57<|Zo (.conv 59 .u64 (.t 58))<|Zb 60 .rem 53 59<|Zo (.alloc 10 1 101 (.int .u64 0))<|Zs 1 9 52<|Zs 1 10 60 .nil) (Zo (.alloc 10 1 101 (.int .u64 0))<| .br (Zl 58 1 57<|Zo (.conv 59 .u64 (.t 58))<|Zb 60 .rem 53 59<|Zs 1 9 52<|Zs 1 10 60 .nil) (Zs 1 9 52<|Zl 58 1 57<|Zo (.conv 59 .u64 (.t 58))<|Zb 60 .rem 53 59<|Zs 1 10 60 .nil))) (Zo (.alloc 10 1 101 (.int .u64 0))<| .br (Zl 54 1 3<|Zi 57 1 54 56<| .br (Zl 58 1 57<|Zo (.conv 59 .u64 (.t 58))<|Zb 60 .rem 53 59<|Zs 1 9 52<|Zs 1 10 60 .nil) (Zs 1 9 52<|Zl 58 1 57<|Zo (.conv 59 .u64 (.t 58))<|Zb 60 .rem 53 59<|Zs 1 10 60 .nil)) (Zs 1 9 52<|Zl 54 1 3<|Zi 57 1 54 56<|Zl 58 1 57<|Zo (.conv 59 .u64 (.t 58))<|Zb 60 .rem 53 59<|Zs 1 10 60 .nil))) (Zo (.alloc 10 1 101 (.int .u64 0))<| .br (Zl 54 1 3<|Zi 57 1 54 56<| .br (Zl 58 1 57<|Zo (.conv 59 .u64 (.t 58))<|Zb 60 .rem 53 59<|Zo (.alloc 9 1 101 (.int .u64 0))<|Zs 1 9 52<|Zs 1 10 60 .nil) (Zo (.alloc 9 1 101 (.int .u64 0))<| .br (Zl 58 1 57<|Zo (.conv 59 .u64 (.t 58))<|Zb 60 .rem 53 59<|Zs 1 9 52<|Zs 1 10 60 .nil) (Zs 1 9 52<|Zl 58 1 57<|Zo (.conv 59 .u64 (.t 58))<|Zb 60 .rem 53 59<|Zs 1 10 60 .nil))) (Zo (.alloc 9 1 101 (.int .u64 0))<| .br (Zl 54 1 3<|Zi 57 1 54 56<| .br (Zl 58 1 57<|Zo (.conv 59 .u64 (.t 58))<|Zb 60 .rem 53 59<|Zs 1 9 52<|Zs 1 10 60 .nil) (Zs 1 9 52<|Zl 58 1 57<|Zo (.conv 59 .u64 (.t 58))<|Zb 60 .rem 53 59<|Zs 1 10 60 .nil)) (Zs 1 9 52<|Zl 54 1 3<|Zi 57 1 54 56<|Zl 58 1 57<|Zo (.conv 59 .u64 (.t 58))<|Zb 60 .rem 53 59<|Zs 1 10 60 .nil))))) (.br (Zo (.alloc 9 1 101 (.int .u64 0))<| .br (Zl 54 1 3<| .br (Zl 55 1 5<|Zk 56 .sub 55 1<|Zi 57 1 54 56<| .br (Zl 58 1 57<|Zo (.conv 59 .u64 (.t 58))<|Zb 60 .rem 53 59<|Zo (.alloc 10 1 101 (.int .u64 0))<|Zs 1 9 52<|Zs 1 10 60 .nil) (Zo (.alloc 10 1 101 (.int .u64 0))<| .br (Zl 58 1 57<|Zo (.conv 59 .u64 (.t 58))<|Zb 60 .rem 53 59<|Zs 1 9 52<|Zs 1 10 60 .nil) (Zs 1 9 52<|Zl 58 1 57<|Zo (.conv 59 .u64 (.t 58))<|Zb 60 .rem 53 59<|Zs 1 10 60 .nil))) (Zo (.alloc 10 1 101 (.int .u64 0))<| .br (Zl 55 1 5<|Zk 56 .sub 55 1<|Zi 57 1 54 56<| .br (Zl 58 1 57<|Zo (.conv 59 .u64 (.t 58))<|Zb 60 .rem 53 59<|Zs 1 9 52<|Zs 1 10 60 .nil) (Zs 1 9 52<|Zl 58 1 57<|Zo (.conv 59 .u64 (.t 58))<|Zb 60 .rem 53 59<|Zs 1 10 60 .nil)) (Zs 1 9 52<|Zl 55 1 5<|Zk 56 .sub 55 1<|Zi 57 1 54 56<|Zl 58 1 57<|Zo (.conv 59 .u64 (.t 58))<|Zb 60 .rem 53 59<|Zs 1 10 60 .nil))) (.br (Zl 55 1 5<|Zk 56 .sub 55 1<| .br (Zl 54 1 3<|Zi 57 1 54 56<| .br (Zl 58 1 57<|Zo (.conv 59 .u64 (.t 58))<|Zb 60 .rem 53 59<|Zo (.alloc 10 1 101 (.int .u64 0))<|Zs 1 9 52<|Zs 1 10 60 .nil) (Zo (.alloc 10 1 101 (.int .u64 0))<| .br (Zl 58 1 57<|Zo (.conv 59 .u64 (.t 58))<|Zb 60 .rem 53 59<|Zs 1 9 52<|Zs 1 10 60 .nil) (Zs 1 9 52<|Zl 58 1 57<|Zo (.conv 59 .u64 (.t 58))<|Zb 60 .rem 53 59<|Zs 1 10 60 .nil))) (Zo (.alloc 10 1 101 (.int .u64 0))<| .br (Zl 54 1 3<|Zi 57 1 54 56<| .br (Zl 58 1 57<|Zo (.conv 59 .u64 (.t 58))<|Zb 60 .rem 53 59<|Zs 1 9 52<|Zs 1 10 60 .nil) (Zs 1 9 52<|Zl 58 1 57<|Zo (.conv 59 .u64 (.t 58))<|Zb 60 .rem 53 59<|Zs 1 10 60 .nil)) (Zs 1 9 52<|Zl 54 1 3<|Zi 57 1 54 56<|Zl 58 1 57<|Zo (.conv 59 .u64 (.t 58))<|Zb 60 .rem 53 59<|Zs 1 10 60 .nil))) (Zo (.alloc 10 1 101 (.int .u64 0))<| .br (Zl 54 1 3<| .br (Zl 55 1 5<|Zk 56 .sub 55 1<|Zi 57 1 54 56<| .br (Zl 58 1 57<|Zo (.conv 59 .u64 (.t 58))<|Zb 60 .rem 53 59<|Zs 1 9 52<|Zs 1 10 60 .nil) (Zs 1 9 52<|Zl 58 1 57<|Zo (.conv 59 .u64 (.t 58))<|Zb 60 .rem 53 59<|Zs 1 10 60 .nil)) (Zs 1 9 52<|Zl 55 1 5<|Zk 56 .sub 55 1<|Zi 57 1 54 56<|Zl 58 1 57<|Zo (.conv 59 .u64 (.t 58))<|Zb 60 .rem 53 59<|Zs 1 10 60 .nil)) (.br (Zl 55 1 5<|Zk 56 .sub 55 1<| .br (Zl 54 1 3<|Zi 57 1 54 56<| .br (Zl 58 1 57<|Zo (.conv 59 .u64 (.t 58))<|Zb 60 .rem 53 59<|Zs 1 9 52<|Zs 1 10 60 .nil) (Zs 1 9 52<|Zl 58 1 57<|Zo (.conv 59 .u64 (.t 58))<|Zb 60 .rem 53 59<|Zs 1 10 60 .nil)) (Zs 1 9 52<|Zl 54 1 3<|Zi 57 1 54 56<|Zl 58 1 57<|Zo (.conv 59 .u64 (.t 58))<|Zb 60 .rem 53 59<|Zs 1 10 60 .nil)) (Zs 1 9 52<| .br (Zl 54 1 3<|Zl 55 1 5<|Zk 56 .sub 55 1<|Zi 57 1 54 56<|Zl 58 1 57<|Zo (.conv 59 .u64 (.t 58))<|Zb 60 .rem 53 59<|Zs 1 10 60 .nil) (Zl 55 1 5<|Zk 56 .sub 55 1<|Zl 54 1 3<|Zi 57 1 54 56<|Zl 58 1 57<|Zo (.conv 59 .u64 (.t 58))<|Zb 60 .rem 53 59<|Zs 1 10 60 .nil)))))) (Zo (.alloc 10 1 101 (.int .u64 0))<| .br (Zl 54 1 3<| .br (Zl 55 1 5<|Zk 56 .sub 55 1<|Zi 57 1 54 56<| .br (Zl 58 1 57<|Zo (.conv 59 .u64 (.t 58))<|Zb 60 .rem 53 59<|Zo (.alloc 9 1 101 (.int .u64 0))<|Zs 1 9 52<|Zs 1 10 60 .nil) (Zo (.alloc 9 1 101 (.int .u64 0))<| .br (Zl 58 1 57<|Zo (.conv 59 .u64 (.t 58))<|Zb 60 .rem 53 59<|Zs 1 9 52<|Zs 1 10 60 .nil) (Zs 1 9 52<|Zl 58 1 57<|Zo (.conv 59 .u64 (.t 58))<|Zb 60 .rem 53 59<|Zs 1 10 60 .nil))) (Zo (.alloc 9 1 101 (.int .u64 0))<| .br (Zl 55 1 5<|Zk 56 .sub 55 1<|Zi 57 1 54 56<| .br (Zl 58 1 57<|Zo (.conv 59 .u64 (.t 58))<|Zb 60 .rem 53 59<|Zs 1 9 52<|Zs 1 10 60 .nil) (Zs 1 9 52<|Zl 58 1 57<|Zo (.conv 59 .u64 (.t 58))<|Zb 60 .rem 53 59<|Zs 1 10 60 .nil)) (Zs 1 9 52<|Zl 55 1 5<|Zk 56 .sub 55 1<|Zi 57 1 54 56<|Zl 58 1 57<|Zo (.conv 59 .u64 (.t 58))<|Zb 60 .rem 53 59<|Zs 1 10 60 .nil))) (.br (Zl 55 1 5<|Zk 56 .sub 55 1<| .br (Zl 54 1 3<|Zi 57 1 54 56<| .br (Zl 58 1 57<|Zo (.conv 59 .u64 (.t 58))<|Zb 60 .rem 53 59<|Zo (.alloc 9 1 101 (.int .u64 0))<|Zs 1 9 52<|Zs 1 10 60 .nil) (Zo (.alloc 9 1 101 (.int .u64 0))<| .br (Zl 58 1 57<|Zo (.conv 59 .u64 (.t 58))<|Zb 60 .rem 53 59<|Zs 1 9 52<|Zs 1 10 60 .nil) (Zs 1 9 52<|Zl 58 1 57<|Zo (.conv 59 .u64 (.t 58))<|Zb 60 .rem 53 59<|Zs 1 10 60 .nil))) (Zo (.alloc 9 1 101 (.int .u64 0))<| .br (Zl 54 1 3<|Zi 57 1 54 56<| .br (Zl 58 1 57<|Zo (.conv 59 .u64 (.t 58))<|Zb 60 .rem 53 59<|Zs 1 9 52<|Zs 1 10 60 .nil) (Zs 1 9 52<|Zl 58 1 57<|Zo (.conv 59 .u64 (.t 58))<|Zb 60 .rem 53 59<|Zs 1 10 60 .nil)) (Zs 1 9 52<|Zl 54 1 3<|Zi 57 1 54 56<|Zl 58 1 57<|Zo (.conv 59 .u64 (.t 58))<|Zb 60 .rem 53 59<|Zs 1 10 60 .nil))) (Zo (.alloc 9 1 101 (.int .u64 0))<| .br (Zl 54 1 3<| .br (Zl 55 1 5<|Zk 56 .sub 55 1<|Zi 57 1 54 56<| .br (Zl 58 1 57<|Zo (.conv 59 .u64 (.t 58))<|Zb 60 .rem 53 59<|Zs 1 9 52<|Zs 1 10 60 .nil) (Zs 1 9 52<|Zl 58 1 57<|Zo (.conv 59 .u64 (.t 58))<|Zb 60 .rem 53 59<|Zs 1 10 60 .nil)) (Zs 1 9 52<|Zl 55 1 5<|Zk 56 .sub 55 1<|Zi 57 1 54 56<|Zl 58 1 57<|Zo (.conv 59 .u64 (.t 58))<|Zb 60 .rem 53 59<|Zs 1 10 60 .nil)) (.br (Zl 55 1 5<|Zk 56 .sub 55 1<| .br (Zl 54 1 3<|Zi 57 1 54 56<| .br (Zl 58 1 57<|Zo (.conv 59 .u64 (.t 58))<|Zb 60 .rem 53 59<|Zs 1 9 52<|Zs 1 10 60 .nil) (Zs 1 9 52<|Zl 58 1 57<|Zo (.conv 59 .u64 (.t 58))<|Zb 60 .rem 53 59<|Zs 1 10 60 .nil)) (Zs 1 9 52<|Zl 54 1 3<|Zi 57 1 54 56<|Zl 58 1 57<|Zo (.conv 59 .u64 (.t 58))<|Zb 60 .rem 53 59<|Zs 1 10 60 .nil)) (Zs 1 9 52<| .br (Zl 54 1 3<|Zl 55 1 5<|Zk 56 .sub 55 1<|Zi 57 1 54 56<|Zl 58 1 57<|Zo (.conv 59 .u64 (.t 58))<|Zb 60 .rem 53 59<|Zs 1 10 60 .nil) (Zl 55 1 5<|Zk 56 .sub 55 1<|Zl 54 1 3<|Zi 57 1 54 56<|Zl 58 1 57<|Zo (.conv 59 .u64 (.t 58))<|Zb 60 .rem 53 59<|Zs 1 10 60 .nil)))))))))<|Zr (Zo (.fn 61 172 [] [.t 9,.t 3,.t 5,.t 10,.t 2,.t 7])<|Zm 11 61 .nil)<| .seq (.block 2<| .loop<| .seq (Zr (Zl 62 1 10<|Zo (.bin 63 .lss false (.t 62) (.c (.int .u64 65536)))<|Zm 64 63<|Zg 64 true (.mv 65 (.t 11))<|Zg 64 true (.call (some 66) false (.t 65) [])<|Zo (.pick 67 (.t 64) (.t 66) (.c (.bool false))) .nil)<| .cond (.t 67) .skip (.exit 2))<| .block 3<|Zr (Zl 68 1 9<|Zo (.bin 69 .sub false (.t 68) (.c (.int .u64 1)))<|Zs 1 9 69 .nil)<| .rg (Zl 70 1 10<|Zl 71 1 3<|Zl 72 1 5<|Zk 73 .sub 72 1<|Zi 74 1 71 73<|Zl 75 1 74<|Zo (.conv 76 .u64 (.t 75))<|Zb 77 .add 70 76<|Zs 1 10 77 .nil))<| .seq (Zr (Zl 78 1 2<|Zl 79 1 7<|Zl 80 1 7<|Zl 81 1 5<|Zb 82 .add 80 81<|Zk 83 .add 82 1<|Zo (.sl 84 1 (.t 78) (some (.t 79)) (some (.t 83)) none)<|Zl 85 1 3<|Zl 86 1 9<|Zo (.conv 87 .u32 (.t 86))<|Zq 88 false 173 [.t 84,.t 85,.t 87] .nil)<| .cond (.t 88) (Zr (Zl 89 1 9<|Zo (.bin 90 .sub false (.t 89) (.c (.int .u64 1)))<|Zs 1 9 90 .nil)<| .rg (Zl 91 1 2<|Zl 92 1 7<|Zl 93 1 7<|Zl 94 1 5<|Zb 95 .add 93 94<|Zk 96 .add 95 1<|Zo (.sl 97 1 (.t 91) (some (.t 92)) (some (.t 96)) none)<|Zl 98 1 3<|Zq 99 false 174 [.t 97,.t 98] .nil)) .skip)<| .rg (Zm 100 6<|Zl 101 1 7<|Zl 102 1 9<|Zo (.conv 103 .u16 (.t 102))<|Zi 104 1 100 101<|Zs 1 104 103 .nil))<| .seq (Zr (Zl 105 1 7 .nil)<| .rg (Zo (.alloc 7 1 3 (Zz 0))<|Zs 1 7 105 .nil))<| .rg (Zl 26 1 7<|Zk 27 .sub 26 1<|Zs 1 7 27 .nil))<|Zr (Zm 106 6<|Zq 107 false 143 [.t 106]<|Zm 4 107 .nil) .ret⟩
theorem agQ:Qe Tryz.prog Tryz.f148=some J5:=by kernel_rfl
theorem iC{l:List Nat}(hv:Qs l)(hl:l.length<2^42):Qc Tryz.prog 143 [PV.nat l] (· =PV.num (val l)):=by
 refine Qf Qo Tryz.func143 rfl QR (by simp[zn]) fun C hP=>?_;simp only[zn,Zo,Zg,Zm,Zc,Zf,Zl,Zh,Zs,Zi,Zb,Zk,Zn,Zu,Zq,Zr,Zz];refine Sz0 ?_;refine qH (fun m fr hp=>m<=l.length/\cut l m=ah (val l)/\fr 0=PV.nat l/\fr 3= .int .i64 m/\hp=aF) l.length ?_ ?_
 ·exact⟨Kac _,Ar hv,rfl,rfl,rfl⟩
 rintro n fr _ ⟨hn,hc,h0,h3,rfl⟩;refine Sz2 h0 h3 ?_;refine gw (fun hg=>?_) (fun hg=>?_)
 ·simp+decide (disch:=first|omega|rfl|(simp+decide only[go_sem,h0,h3,xP,tJ]<;>rfl)|fail) only[go_sem,h0,h3,xP,tJ];obtain _|n:=n
  ·omega
  have e:((n+1:Nat):Int)-1=n:=by omega
  simp only[cut]at hc;refine Qb (fun hz=>?_) (fun hz=>?_)
  ·rw[if_pos (by grind)]at hc;simp+decide (disch:=try exact D3 h0 h3 e) only[go_sem,h0,h3,e];refine nM (m:=n) (by omega) ⟨by omega,hc,?_⟩;exact Tz3 h0 @true_and @and_true
  ·refine Sz3 h0 h3 @Hv ?_;rw[if_neg (by grind)]at hc;exact Qd (by simp[hc]) rfl
 ·obtain rfl:n=0:=by omega
  refine Sz3 h0 h3 @Hv ?_;exact Qd (by simp[<-hc,cut]) rfl
theorem z8{l:List Nat}(hv:Qs l)(hl:l.length<2^42):Qc Tryz.prog 86 [PV.nat l] (· =PV.num (val l)):=by
 have hd:=cm hv;unfold nl at hd;refine Qf Qo Tryz.func86 rfl ajf (by simp[LP]) fun C hP=>?_;simp only[LP,Zo,Zg,Zm,Zc,Zf,Zl,Zh,Zs,Zi,Zb,Zk,Zn,Zu,Zq,Zr,Zz];refine Sz0 ?_;refine Qa hP (iC hv hl) rfl rfl rfl ?_;refine Sz0 ?_;refine Qb (fun hz=>?_) (fun hz=>?_)
 ·refine Sz0 ?_;have:ah (val l)=[]:=Kas.1 (by omega);exact nR (by rw[PV.num,this];exact aiz) rfl
 ·refine Sz0 ?_;rw[afA rfl (by simp)];refine Sz0 ?_;exact Ei rfl (by simp[Kae])
theorem Ax{n:Nat}(hn:n<18446744073709551616):Qc Tryz.prog 88 [.int .u64 n] (· =PV.num n):=by
 have hlen:=rU hn;unfold nl at hlen;refine Qf Qo Tryz.func88 rfl ajg (by simp[LR]) fun C hP=>?_;simp only[LR,Zo,Zg,Zm,Zc,Zf,Zl,Zh,Zs,Zi,Zb,Zk,Zn,Zu,Zq,Zr,Zz];refine Sz0 ?_;refine zT (fun m fr hp=>∃done:List Nat,ah n=done++ah m/\m<=n/\fr 0= .int .u64 m/\fr 3= .ms 12 done.length/\hp 12=some ⟨1,76,done.map fun(x:Nat)=>.int .u16 x,false⟩) n (Rt 3 12 1 76 (by omega) ?_) ?_ ?_
 ·exact Tz0
 ·refine⟨[],?_⟩;simp+decide (disch:=first|omega|rfl|(simp+decide only[go_sem,KaN,Kbu,Kbj,true_and,and_true,Kac]<;>rfl)|fail) only[go_sem,KaN,Kbu,Kbj,true_and,and_true,Kac]
 rintro m fr hp ⟨done,hd,hm,h0,h3,hh⟩;rw[hd,Kap]at hlen;refine Sz1 h0 ?_;refine Qb (fun hz=>?_) (fun hz=>?_)
 ·have aO:m≠0:=by omega
  have gl:ah n=(done++[m%65536])++ah (m/65536):=by rw[hd,tH aO];simp
  refine Sz2 h0 h3 ?_;rw[Ic (xs:=done.map fun(x:Nat)=>.int .u16 x) (Tz1 hh) rfl (by omega) (by simp) (by omega) (by omega)];refine Sz4 h0 h3 @Sx @Ve ?_;refine nM (m:=m/65536) (by omega) ⟨done++[m%65536],gl,by omega,?_⟩;refine Sz3 h0 h3 hh ?_;simp
 ·obtain rfl:m=0:=by omega
  refine Sz1 h3 ?_;exact Ei hh (by simp[PV.num,PV.nat,hd,fQ,Kae])
theorem DT{a b:List Nat}(ha:Qs a)(hb:Qs b)(bC:a.length<2^40)(cT:b.length<2^40):Qc Tryz.prog 144 [PV.nat a,PV.nat b] (· = .int .i64 (g9 (val a) (val b))):=by
 have gM:=cm ha;have jc:=cm hb;have WV:= @OZ (val a) (val b);have WW:= @OZ (val b) (val a);have aoU:=Qp (val a);have aoV:=Qp (val b);have Xl:=Q7 (val a);have Xm:=Q7 (val b);unfold nl at gM jc WV WW;refine Qf Qo Tryz.func144 rfl age (by simp[JY]) fun C hP=>?_;simp only[JY,Zo,Zg,Zm,Zc,Zf,Zl,Zh,Zs,Zi,Zb,Zk,Zn,Zu,Zq,Zr,Zz];refine Sz0 ?_;refine Qa hP (iC ha (by omega)) rfl rfl rfl ?_;refine Sz0 ?_;refine Qa hP (iC hb (by omega)) rfl rfl rfl ?_;refine Sz0 ?_;generalize val a=x at *
 generalize val b=y at *
 refine Qb (fun hz=>?_) (fun hz=>?_)
 ·refine Sz0 ?_;refine Qb (fun hz=>?_) (fun hz=>?_)
  ·refine Sz0 ?_;exact Qd (by rw[IG (WV (by omega))]) rfl
  ·refine Sz0 ?_;exact Qd (by rw[IH (WW (by omega))]) rfl
 refine Sz0 ?_;refine qH (fun m fr hp=>m<=(ah x).length/\val ((ah x).drop m)=val ((ah y).drop m)/\fr 0=PV.num x/\fr 1=PV.num y/\fr 5= .int .i64 ((m:Int)-1)/\hp=aF) (ah x).length ?_ ?_
 ·refine⟨Kac _,?_,?_⟩
  ·rw[Kan (Kac _),Kan (by omega)]
  ·exact Tz2 @true_and @and_true
 rintro m fr _ ⟨hm,hd,h0,h1,h5,rfl⟩;refine Sz3 h0 h1 h5 ?_;refine Qb (fun hg=>?_) (fun hg=>?_)
 ·obtain _|m:=m
  ·omega
  have e:((m+1:Nat):Int)-1=m:=by omega
  have ox:m<(ah x).length:=by omega
  have ko:m<(ah y).length:=by omega
  simp+decide (disch:=try exact D4 h0 h1 h5 e) only[go_sem,h0,h1,h5,e];refine Qb (fun hq=>?_) (fun hq=>?_)
  ·refine Sz0 ?_;exact Qd (by rw[IG];have:=Vg aoU ox ko (by omega) hd;omega) rfl
  simp+decide (disch:=try exact D4 h0 h1 h5 e) only[go_sem,h0,h1,h5,e];refine Qb (fun uB=>?_) (fun uB=>?_)
  ·refine Sz0 ?_;exact Qd (by rw[IH];have:=Vg aoV ko ox (by omega) hd.symm;omega) rfl
  refine Sz4 h0 h1 h5 e ?_;refine nM (m:=m) (by omega) ⟨by omega,?_,?_⟩
  ·rw[lS ox,lS ko,hd];omega
  ·exact Tz4 h0 h1 @true_and @and_true
 ·obtain rfl:m=0:=by omega
  refine Sz0 ?_;refine Qd ?_ rfl;rw[P9];simp at hd;omega
theorem ael{a b:List Nat}(ha:Qs a)(hb:Qs b)(bC:a.length<2^40)(cT:b.length<2^40):Qc Tryz.prog 176 [PV.nat a,PV.nat b] (· =PV.num (val a+val b)):=by
 have gM:=cm ha;have jc:=cm hb;unfold nl at gM jc;refine Qf Qo Tryz.func176 rfl agf (by simp[Kz]) fun C hP=>?_;simp only[Kz,Zo,Zg,Zm,Zc,Zf,Zl,Zh,Zs,Zi,Zb,Zk,Zn,Zu,Zq,Zr,Zz];refine Sz0 ?_;refine Qa hP (iC ha (by omega)) rfl rfl rfl ?_;refine Sz0 ?_;refine Qa hP (iC hb (by omega)) rfl rfl rfl ?_;refine Sz0 ?_;generalize val a=x0 at *
 generalize val b=y0 at *
 refine zV (fun fr hp=>∃x y,x+y=x0+y0/\(ah x).length<2^40/\(ah y).length<=(ah x).length/\fr 0=PV.num x/\fr 1=PV.num y/\hp=aF) ?_ ?_
 ·refine Qb (fun hz=>?_) (fun hz=>?_)
  ·refine Sz0 ?_;refine⟨y0,x0,by omega,by omega,by omega,?_⟩;exact Tz2 @true_and @and_true
  ·refine Sz0 ?_;refine⟨x0,y0,by omega,by omega,by omega,?_⟩;exact Tz2 @true_and @and_true
 rintro fr _ ⟨x,y,ql,hx,hy,h0,h1,rfl⟩;rw[<-ql];clear ql gM jc;have dX:=Qp x;have ig:=Qp y;refine Sz2 h0 h1 ?_;refine qH (fun m fr hp=>∃i c done,m=(ah x).length-i/\i<=(ah x).length/\c<=1/\done.length=i/\done++jr ((ah x).drop i) ((ah y).drop i) c=ah (x+y)/\
  fr 1=PV.num y/\fr 5= .ms 25 (ah x).length/\fr 6= .int .u32 c/\fr 26=PV.num x/\fr 27= .int .i64 (ah x).length/\fr 28= .int .i64 i/\hp=Qz aF 25 ⟨1,76,cn (done++List.replicate ((ah x).length-i) 0),false⟩) (ah x).length ?_ ?_
 ·refine⟨0,0,[],rfl,by omega,by omega,rfl,by simpa using adg hy,?_⟩;simp+decide (disch:=first|omega|rfl|(simp+decide only[go_sem,h0,h1,true_and,and_true,Kcm,KaN]<;>rfl)|fail) only[go_sem,h0,h1,true_and,and_true,Kcm,KaN];simp
 rintro _ fr _ ⟨i,c,done,rfl,hi,hc,fq,hd,h1,h5,h6,ud,ue,uf,rfl⟩;refine Sz3 ud ue uf ?_;refine Qb (fun hg=>?_) (fun hg=>?_)
 ·have aB:i<(ah x).length:=by omega
  have eA:=eM dX aB;rw[abx aB]at hd;have hlen:=Ie (n:=(ah x).length-i) fq (by omega:_=(ah x).length);simp+decide (disch:=try exact D6 h1 h5 h6 ud ue uf) only[go_sem,h1,h5,h6,ud,ue,uf];refine Qb (fun hq=>?_) (fun hq=>?_)
  ·have jN:i<(ah y).length:=by omega
   have uI:=eM ig jN;rw[gE jN]at hd;simp+decide (disch:=try exact D6 h1 h5 h6 ud ue uf) only[go_sem,h1,h5,h6,ud,ue,uf];refine nM (m:=(ah x).length-(i+1)) (by omega) ⟨i+1,_,_,rfl,by omega,?_,?_,(KbK ..).symm.trans hd,?_⟩
   ·omega
   ·simp[fq]
   ·exact Tz10 h1 h5 h6 ud ue uf @true_and @and_true @Ag @Nat.sub_sub
  ·rw[gF (by omega)]at hd;refine Sz6 h1 h5 h6 ud ue uf ?_;refine nM (m:=(ah x).length-(i+1)) (by omega) ⟨i+1,_,_,rfl,by omega,?_,?_,(KbK ..).symm.trans hd,?_⟩
   ·omega
   ·simp[fq]
   ·exact Tz11 h1 h5 h6 ud ue uf @true_and @and_true @Ag @Nat.sub_sub @Nat.add_zero
 ·obtain rfl:i=(ah x).length:=by omega
  rw[Kan (Kac _),Kan hy]at hd;simp+decide (disch:=first|omega|rfl|(simp+decide only[go_sem,h5,h6,KbP,Kba,Kak]<;>rfl)|fail) only[go_sem,h5,h6,KbP,Kba,Kak];refine Qb (fun hq=>?_) (fun hq=>?_)
  ·refine Sz2 h5 h6 ?_;rw[Ic (xs:=cn done) Tz0 rfl (by omega) (by simp[fq]) (by omega) (by omega)];refine Sz1 h5 ?_;refine Ei rfl ?_;rw[jr,if_neg (by omega)]at hd;rw[PV.num,<-hd];simp[cn,fq,Kae];omega
  ·refine Sz1 h5 ?_;refine Ei rfl ?_;rw[jr,if_pos (by omega)]at hd;rw[PV.num,<-hd];simp[cn,fq,Kae]
theorem OT{a b:List Nat}(ha:Qs a)(hb:Qs b)(bC:a.length<2^40)(cT:b.length<2^40)(hle:val b<=val a):Qc Tryz.prog 177 [PV.nat a,PV.nat b] (· = .au [PV.num (val a-val b),.int .i64 0]):=by
 have gM:=cm ha;have jc:=cm hb;have mj:=fS hle;unfold nl at gM jc mj;refine Qf Qo Tryz.func177 rfl agh (by simp[KA]) fun C hP=>?_;simp only[KA,Zo,Zg,Zm,Zc,Zf,Zl,Zh,Zs,Zi,Zb,Zk,Zn,Zu,Zq,Zr,Zz];refine Sz0 ?_;refine Qa hP (DT ha hb bC cT) rfl rfl rfl ?_;have an3:¬g9 (val a) (val b)<0:=by unfold g9;split<;>(try split)<;>omega
 refine Sz0 ?_;refine Qb (fun hz=>absurd hz an3) (fun hz=>?_);refine Sz0 ?_;refine Qa hP (iC ha (by omega)) rfl rfl rfl ?_;refine Sz0 ?_;refine Qa hP (iC hb (by omega)) rfl rfl rfl ?_;refine Sz0 ?_;generalize val a=x at *
 generalize val b=y at *
 have dX:=Qp x;have ig:=Qp y;have gh:=O1 (ah x) (ah y) 0 (by omega) dX ig mj (by rw[Q7,Q7];exact hle);rw[Q7,Q7,KaS]at gh;have kt:=Uc (ah x) (ah y) 0;have sK:=Ti (ah x) (ah y) 0;refine qH (fun m fr hp=>∃i c done,m=(ah x).length-i/\i<=(ah x).length/\c<=1/\done.length=i/\done++lY ((ah x).drop i) ((ah y).drop i) c=lY (ah x) (ah y) 0/\
  fr 1=PV.num y/\fr 6= .ms 21 (ah x).length/\fr 7= .int .i32 (c:Nat)/\fr 22=PV.num x/\fr 23= .int .i64 (ah x).length/\fr 24= .int .i64 i/\hp=Qz aF 21 ⟨1,76,cn (done++List.replicate ((ah x).length-i) 0),false⟩) (ah x).length ?_ ?_
 ·refine⟨0,0,[],rfl,by omega,by omega,rfl,rfl,?_⟩;simp+decide (disch:=first|omega|rfl|(simp+decide only[go_sem,true_and,and_true,Kcm,KaN]<;>rfl)|fail) only[go_sem,true_and,and_true,Kcm,KaN];simp
 rintro _ fr _ ⟨i,c,done,rfl,hi,hc,fq,hd,h1,h6,h7,l7,l8,iv,rfl⟩;refine Sz3 l7 l8 iv ?_;refine Qb (fun hg=>?_) (fun hg=>?_)
 ·have aB:i<(ah x).length:=by omega
  have eA:=eM dX aB;rw[aby aB]at hd;have hlen:=Ie (n:=(ah x).length-i) fq (by omega:_=(ah x).length);simp+decide (disch:=try exact D6 h1 h6 h7 l7 l8 iv) only[go_sem,h1,h6,h7,l7,l8,iv];refine zV (fun fr hp=>fr 1=PV.num y/\fr 6= .ms 21 (ah x).length/\fr 8= .int .i64 i/\fr 10= .int .i32 ((ah x)[i]-(c:Int)-((ah y).getD i 0:Nat))/\(ah y).getD i 0<65536/\fr 22=PV.num x/\fr 23= .int .i64 (ah x).length/\fr 24= .int .i64 i/\hp=Qz aF 21 ⟨1,76,cn (done++List.replicate ((ah x).length-i) 0),false⟩) ?_ ?_
  ·refine Qb (fun hq=>?_) (fun hq=>?_)
   ·have jN:i<(ah y).length:=by omega
    have uI:=eM ig jN;simp+decide (disch:=first|omega|rfl|(simp+decide only[go_sem,h1,h6,h7,l7,l8,iv,gE jN,true_and,and_true]<;>rfl)|fail) only[go_sem,h1,h6,h7,l7,l8,iv,gE jN,true_and,and_true];exact uI
   ·simp+decide (disch:=first|omega|rfl|(simp+decide only[go_sem,h1,h6,h7,l7,l8,iv,true_and,and_true,gF (by omega:¬i<(ah y).length)]<;>rfl)|fail) only[go_sem,h1,h6,h7,l7,l8,iv,true_and,and_true,gF (by omega:¬i<(ah y).length)];simp
  clear h1 h6 l7 l8 iv;rintro fr _ ⟨h1,h6,h8,bK,uI,l7,l8,iv,rfl⟩;generalize hw:(ah y).getD i 0=yi at *
  refine Sz1 bK ?_;refine zV (fun fr hp=>fr 1=PV.num y/\fr 6= .ms 21 (ah x).length/\fr 8= .int .i64 i/\fr 10= .int .i32 (((ah x)[i]+65536-c-yi)%65536:Nat)/\fr 7= .int .i32 ((if(ah x)[i]<c+yi then 1 else 0):Nat)/\fr 22=PV.num x/\fr 23= .int .i64 (ah x).length/\fr 24= .int .i64 i/\hp=Qz aF 21 ⟨1,76,cn (done++List.replicate ((ah x).length-i) 0),false⟩) ?_ ?_
  ·refine Qb (fun hq=>?_) (fun hq=>?_)
   ·rw[if_pos (by omega)];refine Sz9 h1 h6 h8 bK l7 l8 iv @true_and @and_true ?_;simp;omega
   ·rw[if_neg (by omega)];refine Sz9 h1 h6 h8 bK l7 l8 iv @true_and @and_true ?_;simp;omega
  clear h1 h6 h8 bK l7 l8 iv;rintro fr _ ⟨h1,h6,h8,bK,h7,l7,l8,iv,rfl⟩;refine Sz8 h1 h6 h7 h8 bK l7 l8 iv ?_;refine nM (m:=(ah x).length-(i+1)) (by omega) ⟨i+1,_,_,rfl,by omega,?_,?_,(KbK ..).symm.trans hd,?_⟩
  ·split<;>omega
  ·simp[fq]
  ·exact Tz13 h1 h6 h7 h8 bK l7 l8 iv @true_and @and_true @Ag @Nat.sub_sub @Nat.mod_mod
 ·obtain rfl:i=(ah x).length:=by omega
  rw[Kan (Kac _),lY,Kak]at hd;simp+decide (disch:=first|omega|rfl|(simp+decide only[go_sem,h6,KbP,Kba,Kak]<;>rfl)|fail) only[go_sem,h6,KbP,Kba,Kak];rw[hd];refine vh hP (iC kt (by omega)) (Ah rfl sK.symm) rfl fun an=>?_;refine Sz0 ?_;exact eV rfl rfl rfl (tF (by rw[show val (lY (ah x) (ah y) 0)=x-y by omega])) (Qy _)
theorem Am{a b:List Nat}(ha:Qs a)(hb:Qs b)(bC:a.length<2^40)(cT:b.length<2^40):Qc Tryz.prog 93 [PV.nat a,PV.nat b] (· =PV.num (val a*val b)):=by
 have gM:=cm ha;have jc:=cm hb;unfold nl at gM jc;refine Qf Qo Tryz.func93 rfl ajj (by simp[LX]) fun C hP=>?_;simp only[LX,Zo,Zg,Zm,Zc,Zf,Zl,Zh,Zs,Zi,Zb,Zk,Zn,Zu,Zq,Zr,Zz];refine Sz0 ?_;refine Qa hP (iC ha (by omega)) rfl rfl rfl ?_;refine Sz0 ?_;refine Qa hP (iC hb (by omega)) rfl rfl rfl ?_;refine Sz0 ?_;generalize val a=x at *
 generalize val b=y at *
 have dX:=Qp x;have ig:=Qp y;refine dM (fun hz=>?_) (fun hz=>?_)
 ·refine Sz0 ?_;have:=pA (by omega:(ah x).length=0);rw[kE]at this;exact nR (At (by simp[this])) rfl
 refine Sz0 ?_;refine Qb (fun FT=>?_) (fun FT=>?_)
 ·refine Sz0 ?_;have:=pA (by omega:(ah y).length=0);rw[kE]at this;exact nR (At (by simp[this])) rfl
 refine Sz0 ?_;refine qH (fun m fr hp=>∃i lo,m=(ah x).length-i/\i<=(ah x).length/\Qs lo/\lo.length=i+(ah y).length/\val lo=val ((ah x).take i)*val (ah y)/\
  fr 1=PV.num y/\fr 5= .ms 28 ((ah x).length+(ah y).length)/\fr 29=PV.num x/\fr 30= .int .i64 (ah x).length/\fr 31= .int .i64 i/\hp=Qz aF 28 ⟨1,76,cn (lo++List.replicate ((ah x).length-i) 0),false⟩) (ah x).length ?_ ?_
 ·refine⟨0,List.replicate (ah y).length 0,rfl,by omega,?_,by simp,by simp[Vf,val],?_⟩
  ·intro z hz;rw[List.eq_of_mem_replicate hz];omega
  ·refine Sz3 @true_and @and_true @Nat.sub_zero ?_;simp[KbQ]
 rintro _ fr _ ⟨i,lo,rfl,hi,o4,M8,hv,h1,h5,sA,pT,nj,rfl⟩;refine Sz3 sA pT nj ?_;refine Qb (fun hg=>?_) (fun hg=>?_)
 ·have aB:i<(ah x).length:=by omega
  have eA:=eM dX aB;have kO:=adh aB M8 hv;have BB:Qs (lo.take i++jZ (lo.drop i) (ah y) (ah x)[i] 0):=nJ.2 ⟨xk o4 i,Ue _ _ _ _ (by omega) eA (zI o4 i) ig⟩;have ark:(lo.take i++jZ (lo.drop i) (ah y) (ah x)[i] 0).length=i+(ah y).length+1:=by rw[Kap,Tj _ _ _ _ (by simp[M8])];simp;omega
  generalize dY:(ah x)[i]=xi at *
  refine Sz6 h1 h5 sA pT nj dY ?_;refine qH (fun m fr hp=>∃k c p rs,m=(ah y).length-k/\k<=(ah y).length/\c<65536/\Qs rs/\p.length=i+k/\rs.length=(ah y).length-k/\p++jZ rs ((ah y).drop k) xi c=lo.take i++jZ (lo.drop i) (ah y) xi 0/\
   fr 1=PV.num y/\fr 5= .ms 28 ((ah x).length+(ah y).length)/\fr 6= .int .i64 i/\fr 7= .int .u16 xi/\fr 8= .int .u32 c/\fr 29=PV.num x/\fr 30= .int .i64 (ah x).length/\fr 31= .int .i64 i/\fr 36=PV.num y/\fr 37= .int .i64 (ah y).length/\fr 38= .int .i64 k/\
   hp=Qz aF 28 ⟨1,76,cn (p++(rs++List.replicate ((ah x).length-i) 0)),false⟩) (ah y).length ?_ ?_
  ·refine⟨0,0,lo.take i,lo.drop i,rfl,by omega,by omega,zI o4 i,by simp;omega,by simp;omega,rfl,?_⟩;refine Sz7 h1 h5 sA pT nj @true_and @and_true ?_;rw[<-List.append_assoc,Kbo];simp
  clear h1 h5 sA pT nj;rintro _ fr _ ⟨k,c,p,rs,rfl,hk,hc,fu,gS,lE,hinv,h1,h5,h6,h7,h8,sA,pT,nj,EP,ER,ES,rfl⟩;refine Sz3 EP ER ES ?_;refine Qb (fun hq=>?_) (fun hq=>?_)
  ·have en:k<(ah y).length:=by omega
   have hyk:=eM ig en;rw[Kaz en]at hinv;generalize Xx:(ah y)[k]=yk at *
   obtain _|⟨r,rs⟩:=rs
   ·simp at lE;omega
   rw[iq]at fu;have jg:=fu.1;have BV:=tt eA hyk;rw[jZ]at hinv;have ar:i+k<(p++r::(rs++List.replicate ((ah x).length-i) 0)).length:=by simp;omega
   have e9:=Ej gS ar;simp+decide (disch:=first|omega|rfl|(simp+decide only[go_sem,h1,h5,h6,h7,h8,EP,ER,ES,Xx,KaQ,e9]<;>rfl)|fail) only[go_sem,h1,h5,h6,h7,h8,EP,ER,ES,Xx,KaQ,e9];refine nM (m:=(ah y).length-(k+1)) (by omega) ⟨k+1,_,_,_,rfl,by omega,?_,fu.2,?_,?_,(KbK ..).symm.trans hinv,?_⟩
   ·omega
   ·simp[gS];omega
   ·simp at lE;omega
   ·refine Sz14 h1 h5 h6 h7 h8 sA pT nj EP ER ES @true_and @and_true @nS ?_;simp
  ·obtain rfl:k=(ah y).length:=by omega
   obtain rfl:rs=[]:=Kas.1 (by omega);rw[Kan (Kac _),jZ]at hinv
   rotate_left
   ·intros;simp_all
   obtain⟨z,hz⟩:∃z,(ah x).length-i=z+1:=⟨(ah x).length-i-1,by omega⟩
   have ar:i+(ah y).length<(p++0::(List.replicate z 0)).length:=by simp;omega
   simp+decide (disch:=first|omega|rfl|(simp+decide only[go_sem,h1,h5,h6,h8,sA,pT,nj,KaN,hz,Kbq]<;>rfl)|fail) only[go_sem,h1,h5,h6,h8,sA,pT,nj,KaN,hz,Kbq];refine nM (m:=(ah x).length-(i+1)) (by omega) ⟨i+1,lo.take i++jZ (lo.drop i) (ah y) xi 0,rfl,by omega,BB,by omega,?_,?_⟩
   ·rw[kO]
   ·refine Sz8 h1 h5 sA pT nj @true_and @and_true @nS ?_;rw[<-hinv,show(ah x).length-(i+1)=z by omega,KaR hc];simp
 ·obtain rfl:i=(ah x).length:=by omega
  rw[Kar,Q7,Q7]at hv;simp+decide (disch:=first|omega|rfl|(simp+decide only[go_sem,h5,KbP,Kba,Kak]<;>rfl)|fail) only[go_sem,h5,KbP,Kba,Kak];refine vh hP (iC o4 (by omega)) (Ah rfl M8.symm) rfl fun an=>?_;refine Sz0 ?_;exact Qd (by rw[hv]) rfl
theorem YM{pre w post v:List Nat}{j m:Nat}(hw:Qs w)(hv:Qs v)(hj:pre.length=j)(hm:w.length=m)(hle:v.length<=w.length)(hlen:(pre++(w++post)).length<2^43):
  xI Tryz.prog 174 [.ax B0 j m,PV.nat v] 76 (cn (pre++(w++post))) (fun r xs'=>r= .au []/\xs'=cn (pre++(kH w v 0++post))):=by
 simp only[Kap]at hlen;refine Dl Qo Tryz.func174 rfl afK (by simp[Kx]) fun C hP=>?_;simp only[Kx,Zo,Zg,Zm,Zc,Zf,Zl,Zh,Zs,Zi,Zb,Zk,Zn,Zu,Zq,Zr,Zz];refine Sz0 ?_;refine qH (fun k fr hp=>∃i c done,k=w.length-i/\i<=w.length/\c<=1/\done.length=i/\done++kH (w.drop i) (v.drop i) c=kH w v 0/\
  fr 0= .ax 1000000 j m/\fr 1=PV.nat v/\fr 4= .int .u32 c/\fr 7= .int .i64 m/\fr 8= .int .i64 i/\hp=Qz aF 1000000 ⟨1,76,cn ((pre++done)++(w.drop i++post)),false⟩) w.length ?_ ?_
 ·refine⟨0,0,[],rfl,by omega,by omega,rfl,rfl,?_⟩;simp+decide (disch:=first|omega|rfl|(simp+decide only[go_sem,true_and,and_true,Kak,Kbp]<;>rfl)|fail) only[go_sem,true_and,and_true,Kak,Kbp];simp
 rintro _ fr _ ⟨i,c,done,rfl,hi,hc,fq,hd,h0,h1,h4,h7,h8,rfl⟩;refine Sz2 h7 h8 ?_;refine Qb (fun hg=>?_) (fun hg=>?_)
 ·have aB:i<w.length:=by omega
  have hwi:=eM hw aB;rw[ab6 aB]at hd;have gS:(pre++done).length=j+i:=by simp[hj,fq]
  rw[Kaz aB];generalize hww:w[i]=wi at *
  have ar:j+i<((pre++done)++wi::(w.drop (i+1)++post)).length:=by simp;omega
  have e9:=Ej gS ar;simp+decide (disch:=first|omega|rfl|(simp+decide only[go_sem,h0,h1,h4,h7,h8,KaQ,e9]<;>rfl)|fail) only[go_sem,h0,h1,h4,h7,h8,KaQ,e9];refine Qb (fun hq=>?_) (fun hq=>?_)
  ·have jN:i<v.length:=by omega
   have Xo:=eM hv jN;rw[gE jN]at hd;simp+decide (disch:=first|omega|rfl|(simp+decide only[go_sem,h0,h1,h4,h7,h8,nS]<;>rfl)|fail) only[go_sem,h0,h1,h4,h7,h8,nS];refine nM (m:=w.length-(i+1)) (by omega) ⟨i+1,_,_,rfl,by omega,?_,?_,(KbK ..).symm.trans hd,?_⟩
   ·omega
   ·simp[fq]
   ·refine Sz8 h0 h1 h4 h7 h8 @true_and @and_true @nS ?_;simp
  ·rw[gF (by omega)]at hd;refine Sz6 h0 h1 h4 h7 h8 @nS ?_;refine nM (m:=w.length-(i+1)) (by omega) ⟨i+1,_,_,rfl,by omega,?_,?_,(KbK ..).symm.trans hd,?_⟩
   ·omega
   ·simp[fq]
   ·refine Sz8 h0 h1 h4 h7 h8 @true_and @and_true @nS ?_;simp
 ·obtain rfl:i=w.length:=by omega
  rw[Kan (Kac _),kH,Kak]at hd;refine Sz0 ?_;refine aiN rfl (qI _) ?_ ⟨rfl,?_⟩
  ·simp[fq]
  ·rw[Kan (Kac _),hd];simp
theorem Yo{pre w post v:List Nat}{j m q:Nat}(hw:Qs w)(hv:Qs v)(hq:q<65536)(hj:pre.length=j)(hm:w.length=m)(hle:v.length<=w.length)(hlen:(pre++(w++post)).length<2^43):
  xI Tryz.prog 173 [.ax B0 j m,PV.nat v,.int .u32 q] 76 (cn (pre++(w++post))) (fun r xs'=>r= .bool (decide (0<(fL w v q 0 0).2.2))/\xs'=cn (pre++((fL w v q 0 0).1++post))):=by
 simp only[Kap]at hlen;refine Dl Qo Tryz.func173 rfl agk (by simp[Kw]) fun C hP=>?_;simp only[Kw,Zo,Zg,Zm,Zc,Zf,Zl,Zh,Zs,Zi,Zb,Zk,Zn,Zu,Zq,Zr,Zz];refine Sz0 ?_;refine qH (fun k fr hp=>∃i c b done,k=w.length-i/\i<=w.length/\c<65536/\b<=1/\done.length=i/\done++(fL (w.drop i) (v.drop i) q c b).1=(fL w v q 0 0).1/\(fL (w.drop i) (v.drop i) q c b).2=(fL w v q 0 0).2/\
  fr 0= .ax 1000000 j m/\fr 1=PV.nat v/\fr 2= .int .u32 q/\fr 7= .int .u32 c/\fr 8= .int .i32 (b:Nat)/\fr 12= .int .i64 m/\fr 13= .int .i64 i/\hp=Qz aF 1000000 ⟨1,76,cn ((pre++done)++(w.drop i++post)),false⟩) w.length ?_ ?_
 ·refine⟨0,0,0,[],rfl,by omega,by omega,by omega,rfl,rfl,rfl,?_⟩;simp+decide (disch:=first|omega|rfl|(simp+decide only[go_sem,true_and,and_true,Kak,Kbp]<;>rfl)|fail) only[go_sem,true_and,and_true,Kak,Kbp];simp
 rintro _ fr _ ⟨i,c,b,done,rfl,hi,hc,hb,fq,hd,gl,h0,h1,h2,h7,h8,bP,bX,rfl⟩;refine Sz2 bP bX ?_;refine Qb (fun hg=>?_) (fun hg=>?_)
 ·have aB:i<w.length:=by omega
  have hwi:=eM hw aB;rw[ab7 aB]at hd gl;simp only at hd gl;have gS:(pre++done).length=j+i:=by simp[hj,fq]
  rw[Kaz aB];generalize hww:w[i]=wi at *
  have ar:j+i<((pre++done)++wi::(w.drop (i+1)++post)).length:=by simp;omega
  have e9:=Ej gS ar;simp+decide (disch:=first|omega|rfl|(simp+decide only[go_sem,h0,h1,h2,h7,h8,bP,bX,KaQ,e9]<;>rfl)|fail) only[go_sem,h0,h1,h2,h7,h8,bP,bX,KaQ,e9];refine zV (fun fr hp=>c+q*v.getD i 0<=4294967295/\fr 0= .ax 1000000 j m/\fr 1=PV.nat v/\fr 2= .int .u32 q/\fr 7= .int .u32 (c+q*v.getD i 0:Nat)/\fr 8= .int .i32 (b:Nat)/\fr 9= .int .i64 i/\fr 12= .int .i64 m/\fr 13= .int .i64 i/\hp=Qz aF 1000000 ⟨1,76,cn ((pre++done)++wi::(w.drop (i+1)++post)),false⟩) ?_ ?_
  ·refine Qb (fun rp=>?_) (fun rp=>?_)
   ·have jN:i<v.length:=by omega
    have Xo:=eM hv jN;have rp:=tt hq Xo;simp+decide (disch:=first|omega|rfl|(simp+decide only[go_sem,h0,h1,h2,h7,h8,bP,bX,gE jN,true_and,and_true]<;>rfl)|fail) only[go_sem,h0,h1,h2,h7,h8,bP,bX,gE jN,true_and,and_true];omega
   ·simp+decide (disch:=first|omega|rfl|(simp+decide only[go_sem,h0,h1,h2,h7,h8,bP,bX,true_and,and_true,gF (by omega:¬i<v.length),Kb1,KaS]<;>rfl)|fail) only[go_sem,h0,h1,h2,h7,h8,bP,bX,true_and,and_true,gF (by omega:¬i<v.length),Kb1,KaS];omega
  clear h0 h1 h2 h7 h8 bP bX;rintro fr _ ⟨oV,h0,h1,h2,h7,h8,h9,bP,bX,rfl⟩;generalize c+q*v.getD i 0=c1 at *
  refine Sz9 h0 h1 h2 h7 h8 h9 bP bX e9 ?_;refine zV (fun fr hp=>fr 0= .ax 1000000 j m/\fr 1=PV.nat v/\fr 2= .int .u32 q/\fr 7= .int .u32 (c1/65536:Nat)/\fr 8= .int .i32 ((if wi<c1%65536+b then 1 else 0):Nat)/\fr 9= .int .i64 i/\fr 10= .int .i32 ((wi+65536-c1%65536-b)%65536:Nat)/\fr 12= .int .i64 m/\fr 13= .int .i64 i/\hp=Qz aF 1000000 ⟨1,76,cn ((pre++done)++wi::(w.drop (i+1)++post)),false⟩) ?_ ?_
  ·refine Qb (fun hq=>?_) (fun hq=>?_)
   ·rw[if_pos (by omega)];refine Cx h0 h1 h2 h7 h8 h9 bP bX @true_and @and_true ?_;simp;omega
   ·rw[if_neg (by omega)];refine Cx h0 h1 h2 h7 h8 h9 bP bX @true_and @and_true ?_;simp;omega
  clear h0 h1 h2 h7 h8 h9 bP bX;rintro fr _ ⟨h0,h1,h2,h7,h8,h9,bK,bP,bX,rfl⟩;refine Cx h0 h1 h2 h7 h8 h9 bK bP bX @nS ?_;refine nM (m:=w.length-(i+1)) (by omega) ⟨i+1,c1/65536,_,_,rfl,by omega,by omega,?_,?_,(KbK ..).symm.trans hd,gl,?_⟩
  ·split<;>omega
  ·simp[fq]
  ·refine Sz13 h0 h1 h2 h7 h8 h9 bK bP bX @true_and @and_true @nS @Nat.mod_mod ?_;simp
 ·obtain rfl:i=w.length:=by omega
  rw[Kan (Kac _),fL]at hd gl;simp only[Kak]at hd;refine Sz1 h8 ?_;refine Rz (p:=.bool (decide (0<(b:Int)))) rfl (qI _) ?_ Tz0 rfl ⟨?_,?_⟩
  ·simp[fq]
  ·rw[<-gl];simp
  ·rw[Kan (Kac _),hd];simp
theorem Yp{v u:List Nat}{dg n r j:Nat}(hv:Qs v)(hu:Qs u)(hn:2<=n)(jd:n=v.length)(hju:j+n<u.length)(hd:dg<4294967296)(hr:r<65536)(Ns:u.length<2^43):
  Qc Tryz.prog 172 [.pt [.int .u64 dg],.pt [PV.nat v],.pt [.int .i64 n],.pt [.int .u64 r],.pt [PV.nat u],.pt [.int .i64 j]]
   (· = .bool (decide (65536<=dg∨r*65536+u.getD (j+n-2) 0<dg*v.getD (n-2) 0))):=by
 have h1:n-2<v.length:=by omega
 have h2:j+n-2<u.length:=by omega
 have BS:=eM hv h1;have BQ:=eM hu h2;rw[gE h1,gE h2];refine Qf Qo Tryz.func172 rfl agj (by simp[Kv]) fun C hP=>?_;simp only[Kv,Zo,Zg,Zm,Zc,Zf,Zl,Zh,Zs,Zi,Zb,Zk,Zn,Zu,Zq,Zr,Zz];refine Sz0 ?_;refine dM (fun hz=>?_) (fun hz=>?_)
 ·refine Sz0 ?_;exact Qd (by simp;omega) rfl
 ·have wa:dg<65536:=by omega
  have e1:(n:Int)-2=((n-2:Nat):Int):=by omega
  have e2:((j+n:Nat):Int)-2=((j+n-2:Nat):Int):=by omega
  generalize hvv:v[n-2]=vi at *
  generalize huu:u[j+n-2]=ui at *
  have hm:=tt wa BS;refine Sz6 e1 e2 hvv huu @HG @H2 ?_;exact Qd (congrArg PV.bool (decide_eq_decide.2 ⟨fun h=>.inr (by omega),fun h=>by rcases h with h|h<;>omega⟩)) rfl
theorem Q8p{l post:List Nat}(hv:Qs l)(hl:(l++post).length<2^43)(hlen:0<l.length):
  xI Tryz.prog 143 [.ax B0 0 l.length] 76 (cn (l++post)) (fun r xs'=>r= .ax B0 0 (nl (val l))/\xs'=cn (l++post)):=by
 simp only[Kap]at hl;have arj:l.length<=(l++post).length:=by simp
 refine Dl Qo Tryz.func143 rfl QR (by simp[zn]) fun C hP=>?_;simp only[zn,Zo,Zg,Zm,Zc,Zf,Zl,Zh,Zs,Zi,Zb,Zk,Zn,Zu,Zq,Zr,Zz];refine Sz0 ?_;refine qH (fun m fr hp=>m<=l.length/\cut l m=ah (val l)/\fr 0= .ax 1000000 0 l.length/\fr 3= .int .i64 m/\hp=Qz aF 1000000 ⟨1,76,cn (l++post),false⟩) l.length ?_ ?_
 ·exact⟨Kac _,Ar hv,rfl,rfl,rfl⟩
 rintro n fr _ ⟨hn,hc,h0,h3,rfl⟩;refine Sz2 h0 h3 ?_;refine gw (fun hg=>?_) (fun hg=>?_)
 ·obtain _|n:=n
  ·omega
  have e:((n+1:Nat):Int)-1=n:=by omega
  have ar:n<(l++post).length:=by simp;omega
  have e9:(l++post)[n]=l[n]:=by simp[List.getElem_append,show n<l.length by omega]
  refine Sz4 h0 h3 e e9 ?_;simp only[cut]at hc;refine Qb (fun hz=>?_) (fun hz=>?_)
  ·rw[if_pos (by grind)]at hc;refine Sz3 h0 h3 e ?_;refine nM (m:=n) (by omega) ⟨by omega,hc,?_⟩;exact Tz3 h0 @true_and @and_true
  ·rw[if_neg (by grind)]at hc;have mj:nl (val l)=n+1:=by rw[nl,<-hc];simp;omega
   refine Sz2 h0 h3 ?_;exact PL rfl (qI _) (by simp) (Tz1 mj) ⟨rfl,rfl⟩
 ·obtain rfl:n=0:=by omega
  have mj:nl (val l)=0:=by rw[nl,<-hc,cut];rfl
  refine Sz2 h0 h3 ?_;exact PL rfl (qI _) (by simp) (Tz1 mj) ⟨rfl,rfl⟩
theorem G0{a:List Nat}{s:Nat}(ha:Qs a)(bC:a.length<2^40)(hs:s<=15)(aO:val a≠0):Au Tryz.prog 147 [PV.nat a,.int .i64 s] 76 (fun ys=>ys=cn (ah (val a*2^s))):=by
 have gM:=cm ha;unfold nl at gM;have oy:(ah (val a)).length≠0:=by intro h;exact aO (kE.1 (pA h))
 refine abB Qo Tryz.func147 rfl IU (by simp[vP]) fun C hP=>?_;simp only[vP,Zo,Zg,Zm,Zc,Zf,Zl,Zh,Zs,Zi,Zb,Zk,Zn,Zu,Zq,Zr,Zz];refine Sz0 ?_;refine Qa hP (iC ha (by omega)) rfl rfl rfl ?_;refine Sz0 ?_;generalize val a=x at *
 have dX:=Qp x;have e1:s/16=0:=Kcc (by omega);have e2:s%16=s:=KaR (by omega);refine dM (fun hz=>by omega) (fun hz=>?_);refine Sz0 ?_;refine dM (fun hz=>by omega) (fun hz=>?_);refine Sz0 ?_;refine Qb (fun hz=>by omega) (fun hz=>?_);refine Sz0 ?_;refine Qb (fun hz=>by omega) (fun hz=>?_);refine Sz4 @Vj @Vk e1 e2 ?_;refine qH (fun k fr hp=>∃i c done,k=(ah x).length-i/\i<=(ah x).length/\c<2^s/\done.length=i/\done++od s ((ah x).drop i) c=od s (ah x) 0/\
  fr 5= .int .i64 (0:Nat)/\fr 6= .int .i64 s/\fr 7= .ms 44 ((ah x).length+1)/\fr 45=PV.num x/\fr 46= .int .i64 (ah x).length/\fr 47= .int .i64 i/\
  hp=Qz aF 44 ⟨1,76,cn (done++c::List.replicate ((ah x).length-i) 0),false⟩) (ah x).length ?_ ?_
 ·refine⟨0,0,[],rfl,by omega,KbN (by omega),rfl,rfl,?_⟩;simp+decide (disch:=first|omega|rfl|(simp+decide only[go_sem,true_and,and_true,KaN,Kcm]<;>rfl)|fail) only[go_sem,true_and,and_true,KaN,Kcm];simp[Kbq]
 rintro _ fr _ ⟨i,c,done,rfl,hi,hc,fq,hd,h5,h6,h7,ET,EU,EV,rfl⟩;refine Sz3 ET EU EV ?_;have arz:2^s<=2^15:=KbE (by omega) hs;refine Qb (fun hg=>?_) (fun hg=>?_)
 ·have aB:i<(ah x).length:=by omega
  have eA:=eM dX aB;rw[Kaz aB,od]at hd;generalize dY:(ah x)[i]=xi at *
  obtain⟨z,hz⟩:∃z,(ah x).length-i=z+1:=⟨(ah x).length-i-1,by omega⟩
  have ar:i<(done++c::List.replicate (z+1) 0).length:=by simp;omega
  have e9:=Ej fq ar;have gD:=O6 (x:=xi) (show s<=16 by omega) hc;have fo:=Vl (show s<=16 by omega) eA;have hl:=aiP hs eA;refine Sz13 h5 h6 h7 ET EU EV dY hz e9 @PN @aiO gD.2 @nS ?_;have ks:∀v u,(done++v::List.replicate (z+1) 0).set (i+1) u=(done++[v])++u::List.replicate z 0:=fun v u=>by rw[KbK,Kbq,nS (by simp[fq])]
  rw[Rn (by simp;omega),ks,KaR (by omega:xi*2^s/65536<65536)];refine Sz6 h5 h6 h7 ET EU EV ?_;refine nM (m:=(ah x).length-(i+1)) (by omega) ⟨i+1,xi*2^s/65536,done++[xi*2^s%65536+c],rfl,by omega,fo,by simp[fq],(KbK ..).symm.trans hd,?_⟩;refine Sz8 h5 h6 h7 ET EU EV @true_and @and_true ?_;rw[show(ah x).length-(i+1)=z by omega]
 ·obtain rfl:i=(ah x).length:=by omega
  rw[Kan (Kac _),od]at hd;have qe:=Uj hs (ah x) 0 dX (KbN (by omega));have gu:=O5 s (ah x) 0;have sK:=Tn s (ah x) 0;rw[Q7,KaS]at gu;rw[<-hd]at qe gu sK;have arw:x*2^s≠0:=Nat.mul_ne_zero aO (Nat.ne_of_gt (KbN (by omega)));simp+decide (disch:=first|omega|rfl|(simp+decide only[go_sem,h7,KbP,Kba]<;>rfl)|fail) only[go_sem,h7,KbP,Kba];have ht:=Q8p (l:=done++[c]) (post:=[]) qe (by simp[fq];omega) (by simp);rw[Kak,gu]at ht;refine EC hP ht (β:=44) Tz0 (qI _) (by simp) (by simp[jB,sK]) rfl ?_;rintro r xs' _ _ ⟨rfl,rfl⟩;simp+decide (disch:=first|omega|rfl|(simp+decide only[go_sem,nV]<;>rfl)|fail) only[go_sem,nV];refine⟨4,44,nl (x*2^s),_,rfl,by simp+decide (disch:=try exact D0) only[go_sem],rfl,by simp+decide (disch:=try exact D0) only[go_sem];rfl,qI _,?_,?_⟩
  ·have:= @xl (x*2^s);omega
  ·rw[<-gu,<-List.map_take,adj qe]
theorem Q8q{a:List Nat}{s:Nat}(ha:Qs a)(bC:a.length<2^42)(hs:s<=15):Qc Tryz.prog 171 [PV.nat a,.int .i64 s] (· =PV.num (val a/2^s)):=by
 have e1:s/16=0:=Kcc (by omega);have e2:s%16=s:=KaR (by omega);refine Qf Qo Tryz.func171 rfl afL (by simp[Ku]) fun C hP=>?_;simp only[Ku,Zo,Zg,Zm,Zc,Zf,Zl,Zh,Zs,Zi,Zb,Zk,Zn,Zu,Zq,Zr,Zz];refine Sz4 @Vj @Vk e1 e2 ?_;refine Qb (fun hz=>?_) (fun hz=>?_)
 ·have:a=[]:=Kas.1 (by omega);subst this;refine Sz0 ?_;exact nR (At (by simp[val])) rfl
 have e3:((a.length:Int)-((0:Nat):Int))=((a.length:Nat):Int):=by omega
 refine Sz1 e3 ?_;refine Qw (by repeat (first|exact Qr|exact Qk|exact Ql|exact Qm|exact Qn|apply Qj|apply Qq|apply Qx|apply Q5|apply Q6|apply Qi)) [(8,9),(25,60)] [] (fun k J hp=>∃i done,k=a.length-i/\i<=a.length/\done.length=i/\done++mZ s (a.drop i)=mZ s a/\J 25= .int .i64 i/\
  hp=Qz aF 22 ⟨1,76,cn (done++List.replicate (a.length-i) 0),false⟩) a.length ?_ ?_
 ·refine⟨0,[],rfl,by omega,rfl,rfl,?_⟩;simp+decide (disch:=first|omega|rfl|(simp+decide only[go_sem,true_and,and_true,KaN,Kcm]<;>rfl)|fail) only[go_sem,true_and,and_true,KaN,Kcm];simp
 rintro _ J _ ⟨i,done,rfl,hi,fq,hd,vV,rfl⟩;refine Sz1 vV ?_;refine Qb (fun hg=>?_) (fun hg=>?_)
 ·have aB:i<a.length:=by omega
  have Fh:=eM ha aB;rw[acb aB]at hd;generalize dY:a[i]=xi at *
  have hlen:=Ie (n:=a.length-i) fq (by omega:_=a.length);refine Sz2 vV dY ?_;refine Qb (fun hq=>?_) (fun hq=>?_)
  ·have jN:i+1<a.length:=by omega
   have haj:=eM ha jN;rw[gE jN]at hd;simp+decide (disch:=first|omega|rfl|(simp+decide only[go_sem,vV,HH,Vi,II]<;>rfl)|fail) only[go_sem,vV,HH,Vi,II];refine Qg (a.length-(i+1)) (by omega) ⟨i+1,_,rfl,by omega,by simp[fq],(KbK ..).symm.trans hd,?_⟩;exact Tz5 vV @true_and @and_true @Ag @Nat.sub_sub
  ·rw[gF (by omega),KbI,Kbe]at hd;refine Sz2 vV @II ?_;refine Qg (a.length-(i+1)) (by omega) ⟨i+1,_,rfl,by omega,by simp[fq],(KbK ..).symm.trans hd,?_⟩;exact Tz5 vV @true_and @and_true @Ag @Nat.sub_sub
 ·obtain rfl:i=a.length:=by omega
  rw[Kan (Kac _),mZ,Kak]at hd;simp+decide (disch:=first|omega|rfl|(simp+decide only[go_sem,KbP,Kba,Kak]<;>rfl)|fail) only[go_sem,KbP,Kba,Kak];rw[hd];refine vh hP (iC (Uk s a) (by rw[GZ];exact bC)) (Ah rfl (GZ s a).symm) rfl fun an=>?_;refine Sz0 ?_;exact Qd (by rw[O8 (by omega) a ha]) rfl
theorem YX{x V d q:Nat}(hd:0<d)(h:q=V/d):(V%d*65536+x)/d+65536*q=(x+65536*V)/d/\(V%d*65536+x)%d=(x+65536*V)%d:=by
 subst h;have e:x+65536*V=(V%d*65536+x)+d*(65536*(V/d)):=by
  have:=Kbr V d
  calc x+65536*V=x+65536*(d*(V/d)+V%d):=by rw[this]
   _=_:=by rw[Ka1,Kbz];omega
 rw[e,Kcs _ _ hd,Kcp];exact⟨rfl,rfl⟩
theorem YY{a:List Nat}{d:Nat}(ha:Qs a)(bC:a.length<2^42)(hd:0<d)(gl:d<65536):Qc Tryz.prog 145 [PV.nat a,.int .u16 d] (· = .au [PV.num (val a/d),.int .u16 (val a%d:Nat)]):=by
 refine Qf Qo Tryz.func145 rfl agi (by simp[JZ]) fun C hP=>?_;simp only[JZ,Zo,Zg,Zm,Zc,Zf,Zl,Zh,Zs,Zi,Zb,Zk,Zn,Zu,Zq,Zr,Zz];refine Sz0 ?_;refine Qw (by repeat (first|exact Qr|exact Qk|exact Ql|exact Qm|exact Qn|apply Qj|apply Qq|apply Qx|apply Q5|apply Q6|apply Qi)) [(7,8),(15,38)] [] (fun k J hp=>∃qs,k<=a.length/\qs.length=a.length-k/\Qs qs/\val qs=val (a.drop k)/d/\J 7= .int .u32 (val (a.drop k)%d:Nat)/\J 8= .int .i64 ((k:Int)-1)/\
  hp=Qz aF 11 ⟨1,76,cn (List.replicate k 0++qs),false⟩) a.length ?_ ?_
 ·refine⟨[],Kac _,by simp,nO,by simp[val],?_⟩;refine Sz2 @true_and @and_true ?_;simp[val]
 rintro k J _ ⟨qs,hk,sQ,o6,hv,h7,h8,rfl⟩;refine Sz2 h7 h8 ?_;have hr:=Kbw (val (a.drop k)) hd;refine Qb (fun hg=>?_) (fun hg=>?_)
 ·obtain _|n:=k
  ·omega
  have hn:n<a.length:=by omega
  have v7:=eM ha hn;have e:((n+1:Nat):Int)-1=n:=by omega
  have aG:=YX (x:=a[n]) hd hv;rw[<-lS hn]at aG;have ar:(val (a.drop (n+1))%d*65536+a[n])/d<65536:=by rw[Kbn hd];have:(val (a.drop (n+1))%d+1)*65536<=d*65536:=Kaf _ hr;omega
  generalize dY:a[n]=xn at *
  generalize val (a.drop (n+1))%d=r at *
  have hlen:n<(List.replicate (n+1) 0++qs).length:=by simp;omega
  refine Sz8 h7 h8 e dY @HH @adi @afG @pJ ?_;refine Qg n (by omega) ⟨(r*65536+xn)/d::qs,by omega,?_,?_,?_,?_⟩
  ·simp;omega
  ·rw[iq];exact⟨ar,o6⟩
  ·rw[val,aG.1]
  ·refine Sz5 h7 h8 @true_and @and_true aG.2 ?_;rw[KaR ar,List.replicate_succ',KbL,List.singleton_append,nS (by simp)]
 ·obtain rfl:k=0:=by omega
  rw[Kbp]at hv h7;have ar:=Kbw (val a) hd;simp+decide (disch:=first|omega|rfl|(simp+decide only[go_sem,h7,h8,Kba,KaN]<;>rfl)|fail) only[go_sem,h7,h8,Kba,KaN];refine vh hP (iC o6 (by omega)) (Ah rfl (by omega)) rfl fun an=>?_;refine Sz1 h7 ?_;refine eV rfl rfl rfl (tF (by rw[hv])) (tF ?_);rw[KaR (by omega)]
theorem Up{x:Nat}(h:x<65536):Qc Tryz.prog 151 [.int .u16 x] (· = .int .i64 (Lib.bitLen x:Nat)):=
 ZH (by simp[oQ];exact⟨rfl,by decide⟩) (fun w=>YZ x w (by omega) (by omega)) (fun _ _=>Qu.int _ _)
theorem G1{x:Nat}(h:x<65536):Lib.bitLen x<=16:=Lib.bitLen_le x 16 (by omega) (by omega)
theorem Ho{x:Nat}(h:x<65536)(h0:x≠0):1<=Lib.bitLen x:=by have:=Lib.bitLen_half x h0 (by omega);omega
theorem Za:Lib.bitLen 0=0:=by decide
theorem Q8r:∀(n x:Nat),Lib.bitLen x=n->x≠0->x<65536->2^n<=2*x/\x<2^n:=by
 intro n;induction n with
 |zero=>intro x h h0 hx;have:=Ho hx h0;omega
 | succ n ih=>
  intro x h h0 hx;have e:=Lib.bitLen_half x h0 (by omega);by_cases h2:x/2=0
  ·have:x=1:=by omega
   subst this;have:n=0:=by rw[h]at e;simp[Za]at e;exact e
   subst this;simp
  ·have:=ih (x/2) (by omega) h2 (by omega);rw[KbB];omega
theorem Qrw{x:Nat}(h:x<65536):Qc Tryz.prog 146 [.int .u16 x] (· = .int .i64 (16-Lib.bitLen x:Nat)):=by have:=G1 h;refine Qf Qo Tryz.func146 rfl afM (by simp[J4]) fun C hP=>?_;simp only[J4,Zo,Zg,Zm,Zc,Zf,Zl,Zh,Zs,Zi,Zb,Zk,Zn,Zu,Zq,Zr,Zz];refine Sz0 ?_;refine Qa hP (Up h) rfl rfl rfl ?_;refine Sz0 ?_;exact Qd (by congr 1;omega) rfl
theorem Ok{a:List Nat}(ha:Qs a)(bC:a.length<2^40):Qc Tryz.prog 96 [PV.nat a] (fun r=>∃n:Nat,r= .int .i64 n/\(n=0↔val a=0)):=by
 have hd:=cm ha;unfold nl at hd;refine Qf Qo Tryz.func96 rfl aji (by simp[L4]) fun C hP=>?_;simp only[L4,Zo,Zg,Zm,Zc,Zf,Zl,Zh,Zs,Zi,Zb,Zk,Zn,Zu,Zq,Zr,Zz];refine Sz0 ?_;refine Qa hP (iC ha (by omega)) rfl rfl rfl ?_;refine Sz0 ?_;refine Qb (fun hz=>?_) (fun hz=>?_)
 ·refine Sz0 ?_;have:val a=0:=kE.1 (Kas.1 (by omega));exact⟨rfl,_,Qy _,0,rfl,by simp[this]⟩
 ·have aO:val a≠0:=fun h=>by rw[h,fQ]at hz;simp at hz
  have jy:=Af (val a);have FB:=Qp (val a);generalize val a=x at *
  obtain⟨k,hk⟩:∃k,(ah x).length=k+1:=⟨(ah x).length-1,by omega⟩
  have ar:k<(ah x).length:=by omega
  have sV:=eM FB ar;have oy:(ah x)[k]≠0:=by intro h;apply jy;rw[Ka4,hk,Nat.add_sub_cancel,Kam ar,h]
  have e:((k+1:Nat):Int)-1=k:=by omega
  generalize dY:(ah x)[k]=xi at *
  have hb:=G1 sV;have oU:=Ho sV oy;refine Sz3 hk e dY ?_;refine Qa hP (Up sV) rfl rfl rfl ?_;have e2:(16:Int)*(k:Int)=((16*k:Nat):Int):=by omega
  refine Sz1 e2 ?_;exact⟨rfl,_,Qy _,16*k+Lib.bitLen xi,rfl,by omega⟩
theorem akW(i:Nat):2^(16*i)=65536^i:=by rw[Nat.pow_mul]
theorem HW{a:List Nat}(ha:Qs a)(bC:a.length<2^40):Qc Tryz.prog 87 [PV.nat a] (· =if nl (val a)<=4 then .au [.int .u64 (val a),.bool true]else .au [.int .u64 0,.bool false]):=by
 have hd:=cm ha;unfold nl at hd;refine Qf Qo Tryz.func87 rfl ajh (by simp[LQ]) fun C hP=>?_;simp only[LQ,Zo,Zg,Zm,Zc,Zf,Zl,Zh,Zs,Zi,Zb,Zk,Zn,Zu,Zq,Zr,Zz];refine Sz0 ?_;refine Qa hP (iC ha (by omega)) rfl rfl rfl ?_;refine Sz0 ?_;have FB:=Qp (val a);have gh:=Q7 (val a);unfold nl;generalize val a=x at *
 refine Qb (fun hz=>?_) (fun hz=>?_)
 ·refine Sz0 ?_;rw[if_neg (by omega)];exact eV rfl rfl rfl (Qy _) (Qy _)
 ·refine Sz0 ?_;rw[if_pos (by omega)];refine Qw (by repeat (first|exact Qr|exact Qk|exact Ql|exact Qm|exact Qn|apply Qj|apply Qq|apply Qx|apply Q5|apply Q6|apply Qi)) [(4,6),(14,26)] [] (fun k J hp=>∃i,k=(ah x).length-i/\i<=(ah x).length/\J 14= .int .i64 i/\J 4= .int .u64 (val ((ah x).take i))/\hp=aF) (ah x).length ?_ ?_
  ·refine⟨0,rfl,by omega,?_⟩;simp+decide (disch:=first|omega|rfl|(simp+decide only[go_sem,true_and,and_true,Kb5]<;>rfl)|fail) only[go_sem,true_and,and_true,Kb5];simp[val]
  rintro _ J _ ⟨i,rfl,hi,cI,h4,rfl⟩;refine Sz2 cI h4 ?_;refine Qb (fun hg=>?_) (fun hg=>?_)
  ·have aB:i<(ah x).length:=by omega
   have eA:=eM FB aB;have lF:=zt aB;have uG:=tj FB i (by omega);generalize dY:(ah x)[i]=xi at *
   have e2:(16:Int)*(i:Int)=((16*i:Nat):Int):=by omega
   have hb:xi*2^(16*i)+2^(16*i)<=18446744073709551616:=by have h3:2^(16*i)<=2^48:=KbE (by omega) (by omega);have:(xi+1)*2^(16*i)<=65536*2^48:=KaK (by omega) h3;rw[KaF]at this;omega
   have hpp:0<2^(16*i):=KbN (by omega);rw[<-akW]at lF uG;have yS:(val ((ah x).take i)|||xi*2^(16*i))=val ((ah x).take (i+1)):=by rw[Nat.or_comm,AH uG,lF,KaU,KbQ]
   refine Sz7 cI h4 dY e2 @PM @RA yS ?_;refine Qg ((ah x).length-(i+1)) (by omega) ⟨i+1,rfl,by omega,?_⟩;exact Tz3 cI @true_and @and_true
  ·obtain rfl:i=(ah x).length:=by omega
   rw[Kar,gh]at h4;refine Sz1 h4 ?_;exact eV rfl rfl rfl (Qy _) (Qy _)
set_option maxHeartbeats 2000000 in
theorem ab5{u v ex:List Nat}(hu:Qs u)(hv:Qs v)(hn:2<=v.length)(ar:v.length<u.length)(Xk:32768<=v.getD (v.length-1) 0)(aoF:val (u.drop (u.length-v.length))<val v)(Ns:u.length+ex.length<2^42):
  xI Tryz.prog 148 [.ax B0 0 u.length,PV.nat v] 76 (cn (u++ex)) (fun r xs'=>r=PV.num (val u/val v)/\∃l,xs'=cn (l++ex)/\Qs l/\l.length=u.length/\val l=val u%val v):=by
 obtain⟨n,jd⟩:∃n,v.length=n+2:=⟨v.length-2,by omega⟩
 have e1:(u.length:Int)-(v.length:Int)=((u.length-v.length:Nat):Int):=by omega
 have uG:=PS jd;have BR:=tj hv n (by omega);have apJ:=oK hv;have BS:=eM hv (show n+1<v.length by omega);have sU:=eM hv (show n<v.length by omega);have o0:v[n+1]'(by omega)=v.getD (n+1) 0:=(gE _).symm;have fF:v[n]'(by omega)=v.getD n 0:=(gE _).symm;have apz:32768<=v.getD (n+1) 0:=by rw[jd]at Xk;exact Xk
 rw[o0]at BS;rw[fF]at sU;rw[jd]at apJ;have hvp:0<val v:=by rw[uG];have:0<65536^n:=KbN (by omega);have:0<(v.getD (n+1) 0*65536+v.getD n 0)*65536^n:=Kce (by omega) this;omega
 refine Dl Qo Tryz.func148 rfl agQ (by simp[J5]) fun C hP=>?_;simp only[J5,Zo,Zg,Zm,Zc,Zf,Zl,Zh,Zs,Zi,Zb,Zk,Zn,Zu,Zq,Zr,Zz];refine Sz1 e1 ?_;refine O9 (by repeat (first|exact Qr|exact Qk|exact Ql|exact Qm|exact Qn|apply Qj|apply Qq|apply Qx|apply Q5|apply Q6|apply Qi)) [(7,11),(24,105)] [7,9,10] (fun k J hp=>∃l qs,k+qs.length=u.length-v.length/\Qs l/\l.length=u.length/\Qs qs/\val (l.drop k)<val v/\val u=val l+val v*(65536^k*val qs)/\J 7= .mp 7 0 0/\
  hp 7=some ⟨1,3,[.int .i64 ((k:Int)-1)],false⟩/\hp 1000000=some ⟨1,76,cn (l++ex),false⟩/\hp 18=some ⟨1,76,cn (List.replicate k 0++qs),false⟩/\
  hp 3=some ⟨1,39,[PV.nat v],false⟩/\hp 5=some ⟨1,3,[.int .i64 v.length],false⟩) (u.length-v.length) ?_ ?_
 ·refine⟨u,[],rfl,hu,rfl,nO,aoF,by simp[val],?_⟩;refine Sz2 @true_and @and_true ?_;simp
 intro F hF;have lz:F 2= .rb 1000000 0 u.length:=by rw[hF];simp+decide (disch:=try exact D0) only[go_sem]
 have ju:F 3= .mp 3 0 0:=by rw[hF];simp+decide (disch:=try exact D0) only[go_sem]
 have jv:F 5= .mp 5 0 0:=by rw[hF];simp+decide (disch:=try exact D0) only[go_sem]
 have jx:F 6= .ms 18 (u.length-v.length):=by rw[hF];simp+decide (disch:=try exact D0) only[go_sem]
 have Fx:∀β,[7,9,10].contains β=true->cK β F=F:=fun β h=>by rw[hF];exact CJ h
 have hk9:=Fx 9 rfl;have arc:=Fx 10 rfl;have Fw:=Fx 7 rfl;have By:bG [9,10] F=F:=by rw[hF];exact Yj rfl
 clear Fx hF;rintro k J h ⟨l,qs,ql,hl,rh,o6,FJ,gh,gK,nt,lB,qa,bB,dV⟩;refine Cx @gK nt @lB qa bB dV @lz @ju @jv @jx ?_;refine Qb (fun hg=>?_) (fun hg=>?_)
 ·obtain _|j:=k
  ·omega
  have e2:((j+1:Nat):Int)-1=j:=by omega
  have e3:((n+2:Nat):Int)-1=((n+1:Nat):Int):=by omega
  have e4:((j+(n+2):Nat):Int)-1=((j+(n+1):Nat):Int):=by omega
  obtain⟨pre,w,post,M9,gS,uH,yU,hw,qg,Nh,sH,Xs,w0,FM,wK⟩:=aiR (n:=n) hl (by omega) (by omega) FJ;have gB:=eM hl (show j+(n+2)<l.length by omega);have me:=eM hl (show j+(n+1)<l.length by omega);have ix:=eM hl (show j+n<l.length by omega);have ari:(l++ex).length=u.length+ex.length:=by rw[Kap,rh]
  have Wt:(l++ex)[j+(n+2)]'(by omega)=l.getD (j+(n+2)) 0:=by rw[Kcv (by omega)];exact(gE _).symm
  have Ws:(l++ex)[j+(n+1)]'(by omega)=l.getD (j+(n+1)) 0:=by rw[Kcv (by omega)];exact(gE _).symm
  rw[<-gE (by omega)]at gB me;have BO:(cn (l++ex)).take u.length=cn l:=by rw[<-List.map_take,<-rh,List.take_left]
  have WL:l++ex=pre++(w++(post++ex)):=by rw[M9];simp
  generalize l.getD (j+(n+2)) 0=w2 at *
  generalize l.getD (j+(n+1)) 0=w1 at *
  simp+decide (disch:=first|omega|rfl|(simp+decide only[go_sem,gK,nt,lB,qa,bB,dV,lz,ju,jv,jx,jd,e2,e3,e4,Wt,Ws,o0,HG,H2,Av,pJ]<;>rfl)|fail) only[go_sem,gK,nt,lB,qa,bB,dV,lz,ju,jv,jx,jd,e2,e3,e4,Wt,Ws,o0,HG,H2,Av,pJ];have arM:w.length=n+3:=uH;have an8:=Q74 uG wK FM (by rw[<-gE (show j+n<l.length by omega)]at ix;omega) (by omega:0<v.getD (n+1) 0);have uy:=ad1 uG wK BR Xs (KbN (by omega));have ur:=Kbr (w2*65536+w1) (v.getD (n+1) 0);have aq6:(w2*65536+w1)/v.getD (n+1) 0<131072:=by rw[Kbn (by omega)];omega
  have arE:=Kbw (w2*65536+w1) (by omega:0<v.getD (n+1) 0);rw[KaU]at ur;generalize jL:(w2*65536+w1)/v.getD (n+1) 0=d0 at *
  generalize jg:(w2*65536+w1)%v.getD (n+1) 0=r0 at *
  have MO:∀(h:HP) v w,Qz (Qz h 10 v) 9 w=Qz (Qz h 9 w) 10 v:=fun h v w=>ace 10 9 (by decide) h v w;refine afg (fun J=>J 7= .mp 7 0 0/\J 52= .int .u64 d0/\J 53= .int .u64 (w2*65536+w1:Nat)) (Tz3 @gK @true_and @and_true) ?_;clear gK;rintro J ⟨gK,Mo,Mp⟩;refine ad2 (by repeat (first|exact Qr|exact Qk|exact Ql|exact Qm|exact Qn|apply Qj|apply Qq|apply Qx|apply Q5|apply Q6|apply Qi)) [9,10] (fun J2 ft=>J2 7= .mp 7 0 0/\J2 9= .mp 9 0 0/\J2 10= .mp 10 0 0/\ft=Qz (Qz h 9 ⟨1,101,[.int .u64 d0],false⟩) 10 ⟨1,101,[.int .u64 r0],false⟩) ?_ ?_
  ·intro F' Bb;have VI:F' 3= .mp 3 0 0:=by rw[Bb];simp+decide (disch:=try exact D1 ju) only[go_sem,ju]
   have VJ:F' 5= .mp 5 0 0:=by rw[Bb];simp+decide (disch:=try exact D1 jv) only[go_sem,jv]
   have WD:cK 9 F'=F':=by rw[Bb];exact CJ rfl
   have WB:cK 10 F'=F':=by rw[Bb];exact CJ rfl
   clear Bb
   repeat' (first|refine nP ?_ ?_|simp+decide (disch:=first|omega|rfl|(simp+decide only[go_sem,gK,Mo,Mp,bB,dV,VI,VJ,WD,WB,jd,e3,o0,pJ]<;>rfl)|fail) only[go_sem,gK,Mo,Mp,bB,dV,VI,VJ,WD,WB,jd,e3,o0,pJ])
   all_goals refine Aw (J:=_) ?_
   all_goals simp+decide (disch:=try exact D5 gK jg MO true_and and_true) only[go_sem,gK,jg,MO,true_and,and_true]
  clear gK Mo Mp J;rintro J _ ⟨gK,ot,oq,rfl⟩;simp+decide (disch:=first|omega|rfl|(simp+decide only[go_sem,gK,ot,oq,lz,ju,jv,jx,Vv,List.all_cons,List.all_nil,KaQ,KaN,true_and]<;>rfl)|fail) only[go_sem,gK,ot,oq,lz,ju,jv,jx,Vv,List.all_cons,List.all_nil,KaQ,KaN,true_and];refine O9 (by repeat (first|exact Qr|exact Qk|exact Ql|exact Qm|exact Qn|apply Qj|apply Qq|apply Qx|apply Q5|apply Q6|apply Qi)) [(62,77)] [] (fun m J hp=>∃d r,m=d/\d*v.getD (n+1) 0+r=w2*65536+w1/\val w<(d+1)*val v/\hp=Qz (Qz h 9 ⟨1,101,[.int .u64 d],false⟩) 10 ⟨1,101,[.int .u64 r],false⟩) d0 ?_ ?_
  ·exact⟨d0,r0,rfl,ur,an8,rfl⟩
  intro F1 yE;have EZ:F1 9= .mp 9 0 0:=by rw[yE,jR];simp+decide (disch:=try exact D1 ot) only[go_sem,ot]
  have EX:F1 10= .mp 10 0 0:=by rw[yE,jR];simp+decide (disch:=try exact D1 oq) only[go_sem,oq]
  have Mj:F1 11= .fn 172 [] [.mp 9 0 0,.mp 3 0 0,.mp 5 0 0,.mp 10 0 0,.rb 1000000 0 u.length,.mp 7 0 0]:=by rw[yE,jR];simp+decide (disch:=try exact D0) only[go_sem]
  have yD:F1 3= .mp 3 0 0:=by rw[yE,jR];simp+decide (disch:=try exact D1 ju) only[go_sem,ju]
  have qU:F1 5= .mp 5 0 0:=by rw[yE,jR];simp+decide (disch:=try exact D1 jv) only[go_sem,jv]
  rintro d J2 _ ⟨_,r,rfl,uu,MQ,rfl⟩;have aq5:d<131072:=by have:d*32768<=d*v.getD (n+1) 0:=Ka7 _ apz;omega
  refine Sz3 @EZ @EX @Mj ?_;refine ZI (by repeat (first|exact Qr|exact Qk|exact Ql|exact Qm|exact Qn|apply Qj|apply Qq|apply Qx|apply Q5|apply Q6|apply Qi)) [(62,67)] [] (fun J hp=>J 67= .bool (decide (r<65536/\(65536<=d∨r*65536+l.getD (j+n) 0<d*v.getD n 0)))/\hp=Qz (Qz h 9 ⟨1,101,[.int .u64 d],false⟩) 10 ⟨1,101,[.int .u64 r],false⟩) ?_ ?_
  ·refine gw (fun hr=>?_) (fun hr=>?_)
   ·refine Sz3 @EZ @EX @Mj ?_;refine abC hP (Yp (dg:=d) (r:=r) (j:=j) hv hl hn rfl (by omega) (by omega) (by omega) (by omega)) (by simp+decide (disch:=first|omega|rfl|(simp+decide only[go_sem,fU,lB,bB,dV,nt,e2,Kak,KaN,List.getElem?_cons_zero,Kbp,Kae]<;>rfl)|fail) only[go_sem,fU,lB,bB,dV,nt,e2,Kak,KaN,List.getElem?_cons_zero,Kbp,Kae];simp only[Kbp,BO]) rfl rfl ?_;refine Sz1 jd ?_;refine Aw ⟨?_,rfl⟩;refine Sz0 ?_;rw[show j+(n+2)-2=j+n by omega,show n+2-2=n by omega];exact congrArg PV.bool (decide_eq_decide.2 ⟨fun h=>⟨by omega,h⟩,fun h=>h.2⟩)
   ·refine Sz3 @EZ @EX @Mj ?_;refine Aw ⟨?_,rfl⟩;refine Sz0 ?_;simp;omega
  rintro J3 _ ⟨h67,rfl⟩;simp (disch:=decide) only[jR,mM];refine Sz1 h67 ?_;refine Qb (fun ht=>?_) (fun ht=>?_)
  ·obtain⟨hr,ht⟩:=ht;have wz:val w<d*val v:=by
    rcases ht with ht|ht
    ·exact KaO Xs (Kaf _ ht)
    ·exact adZ uG wK FM uu ht
   obtain _|d:=d
   ·omega
   have e5:((d+1:Nat):Int)-1=(d:Nat):=by omega
   refine Sz11 @EZ @EX @yD @qU bB dV jd e3 e5 o0 MO ?_;refine Qg d (by omega) ⟨d,r+v.getD (n+1) 0,rfl,?_,wz,rfl⟩;rw[KaF]at uu;omega
  have wc:d<65536:=by apply Decidable.byContradiction;intro gm;apply ht;refine⟨?_,.inl (by omega)⟩;have:65536*v.getD (n+1) 0<=d*v.getD (n+1) 0:=Kaf _ (by omega);omega
  have apy:¬r*65536+l.getD (j+n) 0<d*v.getD n 0:=by
   intro aoY;by_cases hr:r<65536
   ·exact ht ⟨hr,.inr aoY⟩
   ·have:=tt wc sU;omega
  have e5:j+(n+2)+1-j=n+3:=by omega
  subst yE;simp (disch:=decide) only[jR,By,mM];refine Sz14 @gK @ot @oq @lz @ju @jv @jx bB dV nt @lB e2 jd e5 ?_;have BN:=O4 w v d 0 0 hw (by omega) (by omega);have Fl:=Ul w v d 0 0 (by omega) (by omega) wc hv;have cJ:=Ui w v d 0 0;have Xe:=Tl w v d 0 0;have Xr:=oK hw;rw[uH]at BN Xr;refine EC hP (Yo (pre:=pre) (w:=w) (post:=post++ex) (j:=j) (m:=n+3) (q:=d) hw hv wc gS uH (by omega) (by rw[<-WL];omega)) (β:=1000000) (Tz2 @lB WL) (qI _) (by simp;omega) (by simp[jB,B0]) rfl ?_;rintro _ _ _ _ ⟨rfl,rfl⟩;generalize fL w v d 0 0=sq at *
  obtain⟨⟨BN,oU⟩,Fl⟩:=And.intro BN Fl;have VT:=oK cJ;rw[Xe,uH]at VT;have arA:pre.length+(w.length+post.length)=u.length:=by rw[<-rh,M9];simp
  have arG:j<(List.replicate (j+1) 0++qs).length:=by simp;omega
  have Xp:val l=val pre+65536^j*val w:=by rw[M9,mH,mH,Nh,gS,Kb1,KaS]
  simp+decide (disch:=first|omega|rfl|(simp+decide only[go_sem,nV,gK,ot,oq,lz,ju,jv,jx]<;>rfl)|fail) only[go_sem,nV,gK,ot,oq,lz,ju,jv,jx];refine Qb (fun hb=>?_) (fun hb=>?_)
  ·have fm:sq.2.2=1:=by omega
   rw[Fl,fm]at BN;obtain _|d:=d
   ·omega
   have Wp:=ad0 uG wK BR (by omega) wc uu apy;obtain⟨k,hk⟩:=O3 sq.1 v 0 (by omega);have lE:=Uh sq.1 v 0;have W4:=Tk sq.1 v 0;rw[Xe,uH]at hk W4;have W1:=oK lE;rw[W4]at W1;obtain⟨Mt,Mu⟩:=afh (B:=65536^(n+3)) (S:=val sq.1) (e:=d) (by omega) VT Wp (by omega) W1 Xr;have e6:((d+1:Nat):Int)-1=(d:Nat):=by omega
   simp+decide (disch:=first|omega|rfl|(simp+decide only[go_sem,gK,ot,oq,lz,ju,jv,jx,bB,dV,nt,lB,e2,e6,jd,e5]<;>rfl)|fail) only[go_sem,gK,ot,oq,lz,ju,jv,jx,bB,dV,nt,lB,e2,e6,jd,e5];refine EC hP (YM (pre:=pre) (w:=sq.1) (post:=post++ex) (j:=j) (m:=n+3) cJ hv gS (by omega) (by omega) (by simp;omega)) (β:=1000000) Tz0 (qI _) (by simp;omega) (by simp[jB,B0]) rfl ?_;rintro _ _ _ _ ⟨rfl,rfl⟩;have Bj:=Vm (q:=d) (R:=kH sq.1 v 0) gS Nh gh Xp Mu;simp+decide (disch:=first|omega|rfl|(simp+decide only[go_sem,nV,gK,ot,oq,lz,ju,jv,jx,bB,dV,nt,lB,qa,e2,e6,jd,e5,Em,KaR (by omega:d<65536),Fw]<;>rfl)|fail) only[go_sem,nV,gK,ot,oq,lz,ju,jv,jx,bB,dV,nt,lB,qa,e2,e6,jd,e5,Em,KaR (by omega:d<65536),Fw];refine Qg j (by omega) ⟨pre++(kH sq.1 v 0++post),d::qs,by simp;omega,?_,?_,?_,?_,Bj.2,?_⟩
   ·rw[nJ,nJ];exact⟨yU,lE,qg⟩
   ·simp;omega
   ·rw[iq];exact⟨by omega,o6⟩
   ·rw[Bj.1];exact Mt
   ·simp+decide (disch:=first|omega|rfl|(simp+decide only[go_sem,bB,dV,true_and,and_true,jd,KbL]<;>rfl)|fail) only[go_sem,bB,dV,true_and,and_true,jd,KbL]
  ·have fm:sq.2.2=0:=by omega
   rw[Fl,fm]at BN;obtain⟨Mt,Mu⟩:=aiS (S:=val sq.1) (d:=d) (by omega) MQ;have Bj:=Vm (q:=d) (R:=sq.1) gS Nh gh Xp Mu;simp+decide (disch:=first|omega|rfl|(simp+decide only[go_sem,nV,gK,ot,oq,lz,ju,jv,jx,bB,dV,nt,lB,qa,e2,jd,e5,Em,KaR wc,Fw]<;>rfl)|fail) only[go_sem,nV,gK,ot,oq,lz,ju,jv,jx,bB,dV,nt,lB,qa,e2,jd,e5,Em,KaR wc,Fw];refine Qg j (by omega) ⟨pre++(sq.1++post),d::qs,by simp;omega,?_,?_,?_,?_,Bj.2,?_⟩
   ·rw[nJ,nJ];exact⟨yU,cJ,qg⟩
   ·simp;omega
   ·rw[iq];exact⟨wc,o6⟩
   ·rw[Bj.1];exact Mt
   ·simp+decide (disch:=first|omega|rfl|(simp+decide only[go_sem,bB,dV,true_and,and_true,jd,KbL]<;>rfl)|fail) only[go_sem,bB,dV,true_and,and_true,jd,KbL]
 ·obtain rfl:k=0:=by omega
  rw[Kbp]at FJ;rw[Nat.pow_zero,KcW]at gh;have hdiv:val u/val v=val qs:=by rw[gh,Kcs _ _ hvp,Kcc FJ,Kbe]
  have BE:val u%val v=val l:=by rw[gh,Kcp,KaR FJ]
  simp+decide (disch:=first|omega|rfl|(simp+decide only[go_sem,gK,nt,lB,qa,bB,dV,lz,ju,jv,jx,Kba,KaN]<;>rfl)|fail) only[go_sem,gK,nt,lB,qa,bB,dV,lz,ju,jv,jx,Kba,KaN];refine iQ hP (iC o6 (by omega)) (Ah (ty:=76) (fz:=false) (by simp+decide (disch:=first|omega|rfl|(simp+decide only[go_sem,qa,Kba,KaN]<;>rfl)|fail) only[go_sem,qa,Kba,KaN]) (by omega)) rfl ?_;refine Sz0 ?_;refine Rz (xs':=cn (l++ex)) (p:=PV.num (val qs)) ?_ (qI _) (by simp;omega) Tz0 rfl ⟨by rw[hdiv],l,rfl,hl,rh,BE.symm⟩;show FW.cf h [18] 1000000=_;simp only[FW.cf];rw[if_neg (by decide),lB]
theorem Q8s{a:List Nat}{s:Nat}(ha:Qs a)(bC:a.length<2^40)(hs:s<=15):Qc Tryz.prog 147 [PV.nat a,.int .i64 (-(s:Int))] (· =PV.num (val a/2^s)):=by
 have gM:=cm ha;unfold nl at gM;by_cases h0:val a=0
 ·refine Qf Qo Tryz.func147 rfl IU (by simp[vP]) fun C hP=>?_;simp only[vP,Zo,Zg,Zm,Zc,Zf,Zl,Zh,Zs,Zi,Zb,Zk,Zn,Zu,Zq,Zr,Zz];refine Sz0 ?_;refine Qa hP (iC ha (by omega)) rfl rfl rfl ?_;refine Sz0 ?_;refine dM (fun hz=>by omega) (fun hz=>?_);refine Sz0 ?_;refine dM (fun hz=>by omega) (fun hz=>?_);refine Sz0 ?_;refine Qb (fun hz=>?_) (fun hz=>absurd (by rw[h0,fQ];rfl) hz);refine Sz0 ?_;exact nR (At (by simp[h0])) rfl
 by_cases BL:s=0
 ·subst BL;have:=(G0 (s:=0) ha bC (by omega) h0).XY;rw[Nat.pow_zero,KbF]at this;rw[Nat.pow_zero,Nat.div_one];exact this
 have oy:(ah (val a)).length≠0:=fun h=>h0 (kE.1 (pA h));refine Qf Qo Tryz.func147 rfl IU (by simp[vP]) fun C hP=>?_;simp only[vP,Zo,Zg,Zm,Zc,Zf,Zl,Zh,Zs,Zi,Zb,Zk,Zn,Zu,Zq,Zr,Zz];refine Sz0 ?_;refine Qa hP (iC ha (by omega)) rfl rfl rfl ?_;refine Sz0 ?_;refine dM (fun hz=>by omega) (fun hz=>?_);refine Sz0 ?_;refine dM (fun hz=>by omega) (fun hz=>?_);refine Sz0 ?_;refine Qb (fun hz=>by omega) (fun hz=>?_);refine Sz0 ?_;refine Qb (fun hz=>?_) (fun hz=>by omega);have e:(0:Int)- -(s:Int)=(s:Nat):=by omega
 refine Sz1 e ?_;refine Qa hP (Q8q (Qp (val a)) (by omega) hs) rfl rfl rfl ?_;refine Sz1 @Q7 ?_;exact Qd rfl rfl
theorem Q8t{x d:Nat}(hx:(ah x).length<2^42)(hd:0<d)(gl:d<65536):Qc Tryz.prog 145 [PV.num x,.int .u16 d] (· = .au [PV.num (x/d),.int .u16 (x%d:Nat)]):=by
 have:=YY (Qp x) hx hd gl
 rwa[Q7]at this
theorem G2{a b:List Nat}(ha:Qs a)(hb:Qs b)(bC:a.length<2^38)(cT:b.length<2^38):Qc Tryz.prog 89 [PV.nat a,PV.nat b]
  (· =if val b=0 then .au [PV.num 0,PV.num 0,.int .i64 3]else .au [PV.num (val a/val b),PV.num (val a%val b),.int .i64 0]):=by
 have gM:=cm ha;have jc:=cm hb;unfold nl at gM jc;refine Qf Qo Tryz.func89 rfl ajk (by simp[LS]) fun C hP=>?_;simp only[LS,Zo,Zg,Zm,Zc,Zf,Zl,Zh,Zs,Zi,Zb,Zk,Zn,Zu,Zq,Zr,Zz];refine Sz0 ?_;refine Qa hP (iC ha (by omega)) rfl rfl rfl ?_;refine Sz0 ?_;refine Qa hP (iC hb (by omega)) rfl rfl rfl ?_;refine Sz0 ?_;have dX:=Qp (val a);have ig:=Qp (val b);have qm:=Q7 (val a);have sW:=Q7 (val b);have apZ:=Af (val b);generalize val a=x at *
 generalize val b=y at *
 refine Qb (fun hz=>?_) (fun hz=>?_)
 ·have cX:y=0:=kE.1 (pA (by omega));refine Sz0 ?_;rw[if_pos cX];exact tV rfl rfl rfl rfl xF xF (Qy _)
 have cX:y≠0:=fun h=>by rw[h,fQ]at hz;simp at hz
 rw[if_neg cX];refine Sz0 ?_;refine Qa hP (DT dX ig (by omega) (by omega)) rfl rfl rfl ?_;refine Sz2 qm sW ?_;refine Qb (fun hc=>?_) (fun hc=>?_)
 ·have ar:x<y:=by
   unfold g9 at hc;split at hc
   ·assumption
   ·split at hc<;>omega
  refine Sz0 ?_;refine Qa hP (z8 dX (by omega)) rfl rfl rfl ?_;refine Sz1 qm ?_;exact tV rfl rfl rfl rfl (At (Kcc ar)) (tF (by rw[KaR ar])) (Qy _)
 have gm:y<=x:=by unfold g9 at hc;split at hc<;>omega
 refine Sz0 ?_;refine Qb (fun h1=>?_) (fun h1=>?_)
 ·obtain⟨d,hd⟩:∃d,ah y=[d]:=by
   match h:ah y,h1 with
   | [d],_=>exact⟨d,rfl⟩
   | [],h1=>simp at h1
   |_::_::_,h1=>simp at h1;omega
  have Xv:y=d:=by rw[<-sW,hd];simp[val]
  have fM:d<65536:=by rw[hd]at ig;exact ig d (by simp)
  simp+decide (disch:=first|omega|rfl|(simp+decide only[go_sem,hd,Kbd,Kbu,KaW,Kbj]<;>rfl)|fail) only[go_sem,hd,Kbd,Kbu,KaW,Kbj];refine Qa hP (Q8t (x:=x) (d:=d) (by omega) (by omega) fM) (by rw[PV.num];rfl) rfl rfl ?_;have hm:x%d<18446744073709551616:=by have:=Kbw x (show 0<d by omega);omega
  refine Sz0 ?_;refine Qa hP (Ax hm) rfl rfl rfl ?_;refine Sz0 ?_;rw[Xv];exact tV rfl rfl rfl rfl (Qy _) (Qy _) (Qy _)
 obtain⟨n,hn⟩:∃n,(ah y).length=n+2:=⟨(ah y).length-2,by omega⟩
 obtain⟨m,hm⟩:∃m,(ah x).length=m+2:=by have:=fS gm;unfold nl at this;exact⟨(ah x).length-2,by omega⟩
 have e1:((n+2:Nat):Int)-1=((n+1:Nat):Int):=by omega
 have jy:(ah y)[n+1]'(by omega)≠0:=by
  intro h;apply apZ;have:(ah y).getLast? =some ((ah y)[n+1]'(by omega)):=by rw[Ka4,show(ah y).length-1=n+1 by omega];exact Kam _
  rw[this,h]
 have FR:=eM ig (show n+1<(ah y).length by omega);have aq7:val (ah y)=y:=Q7 y;generalize uI:(ah y)[n+1]'(by omega)=yi at *
 have qW:=G1 FR;have hbp:=Ho FR jy;obtain⟨aV,apB⟩:=Q8r _ yi rfl jy FR;obtain⟨s,hs,uE⟩:∃s,16-Lib.bitLen yi=s/\s<=15:=⟨_,rfl,by omega⟩
 refine Sz3 hn e1 uI ?_;refine Qa hP (Qrw FR) rfl rfl rfl ?_;refine Sz1 hs ?_;have hso:=G0 (a:=ah x) (s:=s) dX (by omega) uE (by rw[qm];omega);refine aiM hP hso rfl rfl rfl (by decide) ?_;rintro _ _ rfl;rw[qm];have hDl:(ah (x*2^s)).length<=m+3:=by have h1:=gV x (2^s);have h2:nl (2^s)<=1:=mR.2 (by have:2^s<=2^15:=KbE (by omega) uE;omega);unfold nl at h1 h2;omega
 have aqV:m+2<=(ah (x*2^s)).length:=by have:=fS (show x<=x*2^s from KcA _ (KbN (by omega)));unfold nl at this;omega
 refine Sz1 hm ?_;rw[G' (ys:=cn [0,0]) (xs:=cn (ah (x*2^s))) (by simp+decide (disch:=first|omega|rfl|(simp+decide only[go_sem,jE]<;>rfl)|fail) only[go_sem,jE];rfl) Tz0 (by omega) (by simp) (by simp;omega) (by simp;omega)];rw[Kae (by simp),<-List.map_append];simp+decide (disch:=first|omega|rfl|(simp+decide only[go_sem,hm,KaW,Kbj]<;>rfl)|fail) only[go_sem,hm,KaW,Kbj];have Xg:=(G0 (a:=ah y) (s:=s) ig (by omega) uE (by rw[sW];omega)).XY;rw[sW]at Xg;refine Qa hP Xg rfl rfl rfl ?_;obtain⟨g1,g2⟩:=ach uE (by rw[show 16-s=Lib.bitLen yi by omega];exact aV) (by rw[show 16-s=Lib.bitLen yi by omega];exact apB);obtain⟨V',hYt,anT⟩:=ZJ hn uI g1 g2;have kp:n<=m:=by have:=fS gm;unfold nl at this;omega
 obtain⟨u,ex,BQ,wJ,hu3,hu4,hu5,hu6⟩:=ZK (s:=s) hm uE kp anT;have aoa:x*2^s/(y*2^s)=x/y:=Nat.mul_div_mul_right _ _ (KbN (by omega));have aob:x*2^s%(y*2^s)=x%y*2^s:=Nat.mul_mod_mul_right _ _ _;rw[BQ];refine Sz0 ?_;have ow:=ab5 (u:=u) (v:=ah (y*2^s)) (ex:=ex) hu3 (Qp _) (by omega) (by omega) (by rw[V'];exact hYt) (by rw[V',wJ,Q7];exact hu6) (by omega);rw[wJ,hu4,Q7,aoa,aob]at ow;refine EC hP ow (β:=52) Tz0 (qI _) (by simp;omega) (by simp[jB]) rfl ?_;rintro _ _ _ _ ⟨rfl,l,rfl,me,gB,Bz⟩;have e5:IntKind.i64.wrap (0-(s:Int))= -(s:Int):=by rw[vk (by omega) (by omega)];omega
 have bj:(cn (l++ex)).take (m+2+1)=cn l:=by rw[<-List.map_take,show m+2+1=l.length by omega,List.take_left]
 simp+decide (disch:=first|omega|rfl|(simp+decide only[go_sem,nV]<;>rfl)|fail) only[go_sem,nV];refine iQ hP (iC me (by omega)) (by simp[aK,cE,bN,Qz,<-List.map_append,bj]) rfl ?_;refine Sz1 e5 ?_;rw[Bz];have uF:=Q8s (a:=ah (x%y*2^s)) (s:=s) (Qp _) (by have:=fS (show x%y*2^s<=x*2^s from Kaf _ (Nat.mod_le _ _));unfold nl at this;omega) uE;rw[Q7,Nat.mul_div_cancel _ (KbN (by omega))]at uF;refine Qa hP uF rfl rfl rfl ?_;refine Sz0 ?_;exact tV rfl rfl rfl rfl (Qy _) (Qy _) (Qy _)
theorem Pm{a b:List Nat}(ha:Qs a)(hb:Qs b)(bC:a.length<2^38)(cT:b.length<2^38):Qc Tryz.prog 44 [PV.nat a,PV.nat b] (· =PV.num (Nat.gcd (val a) (val b))):=by
 have gM:=cm ha;have jc:=cm hb;unfold nl at gM jc;refine Qf Qo Tryz.func44 rfl ajl (by simp[K8]) fun C hP=>?_;simp only[K8,Zo,Zg,Zm,Zc,Zf,Zl,Zh,Zs,Zi,Zb,Zk,Zn,Zu,Zq,Zr,Zz];refine Sz0 ?_;refine Qa hP (z8 ha (by omega)) rfl rfl rfl ?_;refine Sz0 ?_;refine Qa hP (z8 hb (by omega)) rfl rfl rfl ?_;refine Sz0 ?_;refine Qw (by repeat (first|exact Qr|exact Qk|exact Ql|exact Qm|exact Qn|apply Qj|apply Qq|apply Qx|apply Q5|apply Q6|apply Qi)) [(0,1),(4,11),(16,49)] [] (fun m J hp=>∃x,Nat.gcd x m=Nat.gcd (val a) (val b)/\(ah x).length<2^38/\(ah m).length<2^38/\J 0=PV.num x/\J 1=PV.num m/\hp=aF) (val b) ?_ ?_
 ·refine⟨val a,rfl,by omega,by omega,?_⟩;exact Tz2 @true_and @and_true
 rintro y J _ ⟨x,hg,hx,hy,h0,h1,rfl⟩;generalize Nat.gcd (val a) (val b)=g at *
 refine Sz2 h0 h1 ?_;refine Qb (fun hc=>?_) (fun hc=>?_)
 ·have cX:y≠0:=fun h=>by rw[h,fQ]at hc;simp at hc
  have BE:(ah (x%y)).length<2^38:=by have:=fS (Nat.le_of_lt (Kbw x (KaY cX)));unfold nl at this;omega
  refine Sz2 h0 h1 ?_;refine Qa hP (HW (Qp x) (by omega)) rfl rfl rfl ?_;refine Sz2 h0 h1 ?_;rw[Q7];by_cases gC:nl x<=4
  ·have FQ:=Dk.1 gC;rw[if_pos gC];refine Sz2 h0 h1 ?_;refine Qa hP (HW (Qp y) (by omega)) rfl rfl rfl ?_;rw[Q7];by_cases fw:nl y<=4
   ·have qn:=Dk.1 fw;rw[if_pos fw];refine Sz2 h0 h1 ?_;refine Qw (by repeat (first|exact Qr|exact Qk|exact Ql|exact Qm|exact Qn|apply Qj|apply Qq|apply Qx|apply Q5|apply Q6|apply Qi)) [(5,5),(7,7),(33,38)] [] (fun m J hp=>∃p,Nat.gcd p m=g/\p<18446744073709551616/\m<18446744073709551616/\J 5= .int .u64 p/\J 7= .int .u64 m/\hp=aF) y ?_ ?_
    ·refine⟨x,hg,FQ,qn,?_⟩;exact Tz2 @true_and @and_true
    rintro q J2 _ ⟨p,fF,jf,ft,h5,h7,rfl⟩;refine Sz2 h5 h7 ?_;refine Qb (fun hq=>?_) (fun hq=>?_)
    ·have iL:0<q:=by omega
     refine Sz3 h5 h7 @pJ ?_;refine Qg (p%q) (Kbw _ iL) ⟨q,?_,ft,?_,?_⟩
     ·rw[<-fF,Kcx p q,Nat.gcd_rec q p,Kcx]
     ·have:=Kbw p iL;omega
     ·exact Tz2 @true_and @and_true
    ·obtain rfl:q=0:=by omega
     refine Sz2 h5 h7 ?_;refine Qa hP (Ax jf) rfl rfl rfl ?_;refine Sz0 ?_;exact Qd (by rw[<-fF,Kc4]) rfl
   ·rw[if_neg fw];refine Sz2 h0 h1 ?_;refine Qa hP (G2 (Qp x) (Qp y) (by omega) (by omega)) rfl rfl rfl ?_;rw[Q7,Q7,if_neg cX];refine Sz2 h0 h1 ?_;refine Qg (x%y) (Kbw _ (KaY cX)) ⟨y,?_,hy,BE,?_⟩
    ·rw[<-hg,Kcx x y,Nat.gcd_rec y x,Kcx]
    ·exact Tz2 @true_and @and_true
  ·rw[if_neg gC];refine Sz2 h0 h1 ?_;refine Qa hP (HW (Qp y) (by omega)) rfl rfl rfl ?_;obtain⟨r1,r2,hr⟩:∃r1 r2,(if nl (val (ah y))<=4 then PV.au [.int .u64 (val (ah y)),.bool true]else .au [.int .u64 0,.bool false])= .au [.int .u64 r1,.bool r2]:=by split<;>exact⟨_,_,rfl⟩
   rw[hr];refine Sz2 h0 h1 ?_;refine Qa hP (G2 (Qp x) (Qp y) (by omega) (by omega)) rfl rfl rfl ?_;rw[Q7,Q7,if_neg cX];refine Sz2 h0 h1 ?_;refine Qg (x%y) (Kbw _ (KaY cX)) ⟨y,?_,hy,BE,?_⟩
   ·rw[<-hg,Kcx x y,Nat.gcd_rec y x,Kcx]
   ·exact Tz2 @true_and @and_true
 ·have cX:y=0:=kE.1 (pA (by omega));subst cX;refine Sz1 h0 ?_;exact Qd (by rw[<-hg,Kc4]) rfl
theorem xg(n:Bool)(x:Nat):Qc Tryz.prog 118 [.bool n,PV.num x] (· =PV.zz (if n then -(x:Int)else x)):=by
 refine Qf Qo Tryz.func118 rfl agJ (by simp[Jz]) fun C hP=>?_;simp only[Jz,Zo,Zg,Zm,Zc,Zf,Zl,Zh,Zs,Zi,Zb,Zk,Zn,Zu,Zq,Zr,Zz];refine Sz0 ?_;refine xj (fun hn=>?_) (fun hn=>?_)
 all_goals
  refine Sz0 ?_;refine dC ?_;refine Sz0 ?_;exact Qd (by rw[<-IL,hn];simp) rfl
theorem acx{n:Bool}{a:List Nat}(ha:Qs a)(bC:a.length<2^42):Qc Tryz.prog 175 [.bool n,PV.nat a] (· =PV.zz (zv n a)):=by
 refine Qf Qo Tryz.func175 rfl agI (by simp[Ky]) fun C hP=>?_;simp only[Ky,Zo,Zg,Zm,Zc,Zf,Zl,Zh,Zs,Zi,Zb,Zk,Zn,Zu,Zq,Zr,Zz];refine Sz0 ?_;refine Qa hP (z8 ha bC) rfl rfl rfl ?_;refine Sz0 ?_;refine xj (fun hn=>?_) (fun hn=>?_)
 all_goals
  refine Sz0 ?_;refine dC ?_;refine Sz0 ?_;exact Qd (by have:=IL n (val a);rw[hn]at this;subst hn;simpa[zv]using this) rfl
theorem Zd{n:Bool}{a:List Nat}(ha:Qs a)(bC:a.length<2^42):Qc Tryz.prog 149 [PV.zi n a] (· =PV.zz (zv n a)):=by refine Qf Qo Tryz.func149 rfl agK (by simp[J6]) fun C hP=>?_;simp only[J6,Zo,Zg,Zm,Zc,Zf,Zl,Zh,Zs,Zi,Zb,Zk,Zn,Zu,Zq,Zr,Zz];refine Sz0 ?_;refine Qa hP (acx ha bC) rfl rfl rfl ?_;refine Sz0 ?_;refine dC ?_;refine Sz0 ?_;exact Qd rfl rfl
theorem CY{n:Bool}{a:List Nat}(ha:Qs a)(bC:a.length<2^40):Qc Tryz.prog 50 [PV.zi n a] (· = .int .i64 (fH (zv n a))):=by
 refine Qf Qo Tryz.func50 rfl ajx (by simp[Le]) fun C hP=>?_;simp only[Le,Zo,Zg,Zm,Zc,Zf,Zl,Zh,Zs,Zi,Zb,Zk,Zn,Zu,Zq,Zr,Zz];refine Sz0 ?_;refine rI hP (Ok ha bC) rfl rfl rfl ?_;rintro _ ⟨k,rfl,hk⟩;refine Sz0 ?_;rw[Gm];refine Qb (fun hz=>?_) (fun hz=>?_)
 ·refine Sz0 ?_;rw[if_pos (hk.1 (by omega))];exact Qd rfl rfl
 ·rw[if_neg (fun h=>hz (by rw[hk.2 h];rfl))];refine Sz0 ?_;refine zS (fun hn=>?_) (fun hn=>?_)
  ·refine Sz0 ?_;exact Qd (by simp[hn]) rfl
  ·refine Sz0 ?_;exact Qd (by simp[hn]) rfl
theorem S'{a b:List Nat}(ha:Qs a)(hb:Qs b)(bC:a.length<2^40)(cT:b.length<2^40):Qc Tryz.prog 180 [PV.nat a,PV.nat b] (· = .int .i64 (g9 (val a) (val b))):=by refine Qf Qo Tryz.func180 rfl agM (by simp[KE]) fun C hP=>?_;simp only[KE,Zo,Zg,Zm,Zc,Zf,Zl,Zh,Zs,Zi,Zb,Zk,Zn,Zu,Zq,Zr,Zz];refine Sz0 ?_;refine Qa hP (DT ha hb bC cT) rfl rfl rfl ?_;refine Sz0 ?_;exact Qd rfl rfl
theorem Q8u{n m:Bool}{a b:List Nat}(ha:Qs a)(hb:Qs b)(bC:a.length<2^40)(cT:b.length<2^40):Qc Tryz.prog 163 [PV.zi n a,PV.zi m b] (· = .int .i64 (cY (zv n a) (zv m b))):=by
 have hx:=Gm n a;have hy:=Gm m b;refine Qf Qo Tryz.func163 rfl agL (by simp[Kl]) fun C hP=>?_;simp only[Kl,Zo,Zg,Zm,Zc,Zf,Zl,Zh,Zs,Zi,Zb,Zk,Zn,Zu,Zq,Zr,Zz];refine Sz0 ?_;refine Qa hP (CY ha bC) rfl rfl rfl ?_;refine Sz0 ?_;refine Qa hP (CY hb cT) rfl rfl rfl ?_;refine Sz0 ?_;refine Qb (fun hs=>?_) (fun hs=>?_)
 ·refine Sz0 ?_;exact Qd (by rw[afl hs]) rfl
 refine Sz0 ?_;refine Qb (fun fw=>?_) (fun fw=>?_)
 ·refine Sz0 ?_;exact Qd (by rw[afm fw]) rfl
 have he:fH (zv n a)=fH (zv m b):=by omega
 refine Sz0 ?_;refine Qb (fun wG=>?_) (fun wG=>?_)
 ·refine Sz0 ?_;refine Qa hP (S' hb ha cT bC) rfl rfl rfl ?_;refine Sz0 ?_;exact Qd (by rw[afn (xJ.1 wG) (xJ.1 (he▸wG))]) rfl
 ·refine Sz0 ?_;refine Qa hP (S' ha hb bC cT) rfl rfl rfl ?_;refine Sz0 ?_;exact Qd (by rw[afo (fun h=>wG (xJ.2 h)) (fun h=>wG (he▸xJ.2 h))]) rfl
theorem Uq{n m:Bool}{a b:List Nat}(ha:Qs a)(hb:Qs b)(bC:a.length<2^40)(cT:b.length<2^40):Qc Tryz.prog 150 [PV.zi n a,PV.zi m b] (· =PV.zz (zv n a+zv m b)):=by
 refine Qf Qo Tryz.func150 rfl agN (by simp[J8]) fun C hP=>?_;simp only[J8,Zo,Zg,Zm,Zc,Zf,Zl,Zh,Zs,Zi,Zb,Zk,Zn,Zu,Zq,Zr,Zz];refine Sz0 ?_;refine zS (fun kp=>?_) (fun kp=>?_)
 ·have kp:n=m:=by simpa using kp
  subst kp;refine Sz0 ?_;refine Qa hP (ael ha hb bC cT) rfl rfl rfl ?_;refine Sz0 ?_;refine Qa hP (xg n (val a+val b)) rfl rfl rfl ?_;refine Sz0 ?_;refine dC ?_;refine Sz0 ?_;exact Qd (congrArg PV.zz (by unfold zv;split<;>simp<;>omega)) rfl
 have kp:n= !m:=by cases n<;>cases m<;>simp_all
 subst kp;refine Sz0 ?_;refine Qa hP (DT ha hb bC cT) rfl rfl rfl ?_;refine Sz0 ?_;refine Qb (fun hc=>?_) (fun hc=>?_)
 ·rw[DL]at hc;refine Sz0 ?_;refine Qa hP (OT hb ha cT bC (by omega)) rfl rfl rfl ?_;refine Sz0 ?_;refine Qa hP (xg m (val b-val a)) rfl rfl rfl ?_;refine Sz0 ?_;refine dC ?_;refine Sz0 ?_;exact Qd (congrArg PV.zz (by unfold zv;cases m<;>simp<;>omega)) rfl
 ·rw[DL]at hc;refine Sz0 ?_;refine Qa hP (OT ha hb bC cT (by omega)) rfl rfl rfl ?_;refine Sz0 ?_;refine Qa hP (xg (!m) (val a-val b)) rfl rfl rfl ?_;refine Sz0 ?_;refine dC ?_;refine Sz0 ?_;exact Qd (congrArg PV.zz (by unfold zv;cases m<;>simp<;>omega)) rfl
theorem u7{n m:Bool}{a b:List Nat}(ha:Qs a)(hb:Qs b)(bC:a.length<2^40)(cT:b.length<2^40):Qc Tryz.prog 92 [PV.zi n a,PV.zi m b] (· =PV.zz (zv n a*zv m b)):=by refine Qf Qo Tryz.func92 rfl ajy (by simp[LW]) fun C hP=>?_;simp only[LW,Zo,Zg,Zm,Zc,Zf,Zl,Zh,Zs,Zi,Zb,Zk,Zn,Zu,Zq,Zr,Zz];refine Sz0 ?_;refine Qa hP (Am ha hb bC cT) rfl rfl rfl ?_;refine Sz0 ?_;refine Qa hP (xg (!(n==m)) (val a*val b)) rfl rfl rfl ?_;refine Sz0 ?_;refine dC ?_;refine Sz0 ?_;exact Qd (congrArg PV.zz (by unfold zv;cases n<;>cases m<;>simp[Int.neg_mul,Int.mul_neg])) rfl
theorem DU{a:List Nat}(hl:a.length<2^43):Qc Tryz.prog 43 [PV.nat a] (· = .bool (decide (a=[1]))):=by
 refine Qf Qo Tryz.func43 rfl ajz (by simp[K7]) fun C hP=>?_;simp only[K7,Zo,Zg,Zm,Zc,Zf,Zl,Zh,Zs,Zi,Zb,Zk,Zn,Zu,Zq,Zr,Zz];refine Sz0 ?_;refine Qb (fun hz=>?_) (fun hz=>?_)
 ·obtain⟨x,xs,rfl⟩:∃x xs,a=x::xs:=by
   match a,hz with
   |x::xs,_=>exact⟨x,xs,rfl⟩
  simp+decide (disch:=first|omega|rfl|(simp+decide only[go_sem,Kbd,KcF]<;>rfl)|fail) only[go_sem,Kbd,KcF];refine Qd (congrArg PV.bool ?_) rfl;rw[<-Bool.decide_and];exact decide_eq_decide.2 ⟨fun⟨h1,h2⟩=>by
   have:xs=[]:=Kas.1 (by omega);subst this;congr 1;omega,fun h=>by
   injection h with h1 h2;subst h1 h2;simp⟩
 ·have:a=[]:=Kas.1 (by omega);subst this;refine Sz0 ?_;exact Qd rfl rfl
theorem Ta(x:Nat):(ah x=[1])↔x=1:=⟨fun h=>by have:=Q7 x;rw[h]at this;simpa[val]using this.symm,fun h=>by rw[h,rY]⟩
theorem IV{x:Nat}(hl:(ah x).length<2^43):Qc Tryz.prog 43 [PV.num x] (· = .bool (decide (x=1))):=by
 have:=DU hl
 rwa[decide_eq_decide.2 (Ta x)]at this
theorem Ds:Qc Tryz.prog 64 [] (· =PV.nat [1]):=by refine Qf Qo Tryz.func64 rfl ajA (by simp[Lu]) fun C hP=>?_;simp only[Lu,Zo,Zg,Zm,Zc,Zf,Zl,Zh,Zs,Zi,Zb,Zk,Zn,Zu,Zq,Zr,Zz];refine Sz0 ?_;exact Qd rfl rfl
theorem Hp{x y:Nat}(hx:(ah x).length<2^38)(hy:(ah y).length<2^38)(h0:y≠0):Qc Tryz.prog 89 [PV.num x,PV.num y] (· = .au [PV.num (x/y),PV.num (x%y),.int .i64 0]):=by
 have:=G2 (Qp x) (Qp y) hx hy
 rwa[Q7,Q7,if_neg h0]at this
theorem IX{x y:Nat}(hx:(ah x).length<2^38)(hy:(ah y).length<2^38):Qc Tryz.prog 44 [PV.num x,PV.num y] (· =PV.num (Nat.gcd x y)):=by
 have:=Pm (Qp x) (Qp y) hx hy
 rwa[Q7,Q7]at this
theorem SM{n:Bool}{a d:List Nat}(ha:Qs a)(hd:Qs d)(bC:a.length<2^38)(wv:d.length<2^38):Qc Tryz.prog 91 [PV.zi n a,PV.nat d] (· =PV.rat (rv n a d)):=by
 have BF:=cm ha;have Nd:=cm hd;rw[<-jS n a]at BF;unfold rv;unfold nl at BF Nd;refine Qf Qo Tryz.func91 rfl ajB (by simp[LV]) fun C hP=>?_;simp only[LV,Zo,Zg,Zm,Zc,Zf,Zl,Zh,Zs,Zi,Zb,Zk,Zn,Zu,Zq,Zr,Zz];refine Sz0 ?_;refine Qa hP (z8 hd (by omega)) rfl rfl rfl ?_;refine Sz0 ?_;refine Qa hP (Zd ha (by omega)) rfl rfl rfl ?_;refine Sz0 ?_;generalize zv n a=z at *
 generalize val d=D at *
 have hlen:∀x:Nat,((ah x).length:Int)=0↔x=0:=fun x=>by rw[<-kE,<-List.length_eq_zero_iff];omega
 have VB:∀ {fr:Fr} {hp:HP},(D=0∨z=0)->yh (· =PV.rat (mkRat z D)) (.agg [.bool false,.aa,PV.nat [1]]):=fun h=>by rw[To h];exact nR PU rfl
 refine dM (fun hz=>?_) (fun hz=>?_)
 ·refine Sz0 ?_;refine Qa hP Ds rfl rfl rfl ?_;refine Sz0 ?_;refine dC ?_;refine Sz0 ?_;exact VB (fr:=bI) (hp:=aF) (.inl ((hlen _).1 hz))
 refine Sz0 ?_;refine Qb (fun FT=>?_) (fun FT=>?_)
 ·refine Sz0 ?_;refine Qa hP Ds rfl rfl rfl ?_;refine Sz0 ?_;refine dC ?_;refine Sz0 ?_;exact VB (fr:=bI) (hp:=aF) (.inr (Int.natAbs_eq_zero.1 ((hlen _).1 FT)))
 have hD:D≠0:=fun h=>hz ((hlen _).2 h);refine Sz0 ?_;refine Qa hP (IV (by omega)) rfl rfl rfl ?_;refine Sz0 ?_;refine Qb (fun h1=>?_) (fun h1=>?_)
 ·subst h1;refine Sz0 ?_;refine dC ?_;refine Sz0 ?_;exact Qd (by rw[<-alm];simp only[rY]) rfl
 refine Sz0 ?_;refine Qa hP (IX (by omega) (by omega)) rfl rfl rfl ?_;have iw:Nat.gcd z.natAbs D≠0:=fun h=>hD (Kcr h);have pY:(ah (Nat.gcd z.natAbs D)).length<2^38:=by have:=fS (Kdf z.natAbs (KaY hD));unfold nl at this;omega
 have ki:=RE (z:=z) hD;generalize Nat.gcd z.natAbs D=g at *
 refine Sz0 ?_;refine Qa hP (IV (by omega)) rfl rfl rfl ?_;refine Sz0 ?_;refine zS (fun h2=>?_) (fun h2=>?_)
 ·refine Sz0 ?_;refine Qa hP (Hp (by omega) pY iw) rfl rfl rfl ?_;refine Sz0 ?_;refine Qa hP (Hp (by omega) pY iw) rfl rfl rfl ?_;refine Sz0 ?_;refine dC ?_;refine Sz0 ?_;exact Qd ki rfl
 ·have:g=1:=by simpa using h2
  subst this;rw[Nat.div_one,Nat.div_one]at ki;refine Sz0 ?_;refine dC ?_;refine Sz0 ?_;exact Qd ki rfl
theorem xo(a:List Nat):Qc Tryz.prog 95 [PV.nat a] (· =PV.zi false a):=by refine Qf Qo Tryz.func95 rfl ai4 (by simp[LZ]) fun C hP=>?_;simp only[LZ,Zo,Zg,Zm,Zc,Zf,Zl,Zh,Zs,Zi,Zb,Zk,Zn,Zu,Zq,Zr,Zz];refine Sz0 ?_;refine dC ?_;refine Sz0 ?_;exact Qd rfl rfl
def ajb(k:Nat)(q:Rat)(r:PV):Prop:=∃n a d,r= .au [PV.zi n a,PV.nat d]/\Qs a/\Qs d/\a.length<=k/\d.length<=k/\val d≠0/\rv n a d=q
theorem u9{n:Bool}{a d:List Nat}{k:Nat}(ha:Qs a)(hd:Qs d)(hk:1<=k)(bC:a.length<=k)(wv:d.length<=k)(ny:k<2^38):Qc Tryz.prog 49 [PV.rr n a d] (ajb k (rv n a d)):=by
 refine Qf Qo Tryz.func49 rfl ajC (by simp[Ld]) fun C hP=>?_;simp only[Ld,Zo,Zg,Zm,Zc,Zf,Zl,Zh,Zs,Zi,Zb,Zk,Zn,Zu,Zq,Zr,Zz];refine Sz0 ?_;refine rI hP (Ok hd (by omega)) rfl rfl rfl ?_;rintro _ ⟨b,rfl,hb⟩;refine Sz0 ?_;refine Qb (fun hz=>?_) (fun hz=>?_)
 ·have h0:val d=0:=hb.1 (by omega);refine Sz0 ?_;refine Qa hP Ds rfl rfl rfl ?_;refine Sz0 ?_;refine iS ?_;refine Sz0 ?_;refine⟨⟨rfl,rfl⟩,.au [PV.zi false [],PV.nat [1]],⟨⟨rfl,trivial,trivial⟩,Qy _,trivial⟩,false,[],[1],rfl,nO,by intro x hx;simp at hx;omega,by simp,by simpa using hk,by simp[val],?_⟩;unfold rv;rw[h0,Rat.mkRat_zero];rfl
 ·have h0:val d≠0:=fun h=>hz (by rw[hb.2 h];rfl);refine Sz0 ?_;refine nP ?_ ?_
  all_goals
   refine Sz0 ?_;refine iS ?_;refine Sz0 ?_;exact⟨⟨rfl,rfl⟩,.au [PV.zi n a,PV.nat d],⟨Qy _,Qy _,trivial⟩,n,a,d,rfl,ha,hd,bC,wv,h0,rfl⟩
theorem aem{z:Int}{m:Bool}{b:List Nat}(hb:Qs b)(bC:nl z.natAbs<2^40)(cT:b.length<2^40):Qc Tryz.prog 150 [PV.zz z,PV.zi m b] (· =PV.zz (z+zv m b)):=by
 have:=Uq (n:=decide (z<0)) (a:=ah z.natAbs) (m:=m) (Qp _) hb bC cT
 rwa[lU]at this
theorem Pn{n m:Bool}{a b:List Nat}(ha:Qs a)(hb:Qs b)(bC:a.length<2^39)(cT:b.length<2^39):Qc Tryz.prog 94 [.sl 2 [PV.zi n a,PV.zi m b]] (· =PV.zz (zv n a+zv m b)):=by
 have BF:=cm ha;rw[<-jS n a]at BF;refine Qf Qo Tryz.func94 rfl ai8 (by simp[LY]) fun C hP=>?_;simp only[LY,Zo,Zg,Zm,Zc,Zf,Zl,Zh,Zs,Zi,Zb,Zk,Zn,Zu,Zq,Zr,Zz];refine Sz0 ?_;refine Qw (by repeat (first|exact Qr|exact Qk|exact Ql|exact Qm|exact Qn|apply Qj|apply Qq|apply Qx|apply Q5|apply Q6|apply Qi)) [(5,5),(8,15)] [5] (fun k J hp=>∃i,k=2-i/\i<=2/\J 8= .int .i64 (i:Nat)/\hp 2=some ⟨2,41,[.agg [.bool false,.aa]],false⟩/\hp 3=some ⟨2,41,[if i=0 then .agg [.bool false,.aa]else if i=1 then PV.zz (zv n a)else PV.zz (zv n a+zv m b)],false⟩) 2 ?_ ?_
 ·refine⟨0,rfl,by omega,?_⟩;refine Sz0 ?_;simp
 rintro _ J h ⟨i,rfl,hi,h8,gO,bB⟩;refine Sz1 h8 ?_;refine Qb (fun hg=>?_) (fun hg=>?_)
 ·have mc:i=0∨i=1:=by have:i<2:=(by omega);omega
  rcases mc with rfl|rfl
  ·have AZ:J 8= .int .i64 0:=h8;refine Sz3 AZ gO bB ?_;refine Qa hP ((Uq (n:=false) (a:=[]) (m:=n) (b:=a) nO ha (by simp) (by omega)).le (args':=[.agg [.bool false,.aa],PV.zi n a]) ⟨⟨rfl,trivial,trivial⟩,Qy _,trivial⟩) rfl rfl rfl ?_;refine Sz3 AZ gO bB ?_;refine Qg 1 (by omega) ⟨1,rfl,by omega,?_⟩;refine Sz2 gO bB ?_;simp[zv,val]
  ·rw[if_neg (by omega),if_pos rfl]at bB;have AZ:J 8= .int .i64 1:=h8;refine Sz3 AZ gO bB ?_;refine Qa hP (aem (z:=zv n a) hb (by omega) (by omega)) rfl rfl rfl ?_;refine Sz3 AZ gO bB ?_;refine Qg 0 (by omega) ⟨2,rfl,by omega,?_⟩;refine Sz2 gO bB ?_;simp
 ·obtain rfl:i=2:=by simp at hg;omega
  rw[if_neg (by omega),if_neg (by omega)]at bB;refine Sz3 h8 gO bB ?_;refine dC ?_;refine Sz2 gO bB ?_;exact Qd rfl rfl
theorem Da{z:Int}{d:List Nat}(hd:Qs d)(hz:nl z.natAbs<2^38)(wv:d.length<2^38):Qc Tryz.prog 91 [PV.zz z,PV.nat d] (· =PV.rat (mkRat z (val d))):=by
 have:=SM (n:=decide (z<0)) (Qp z.natAbs) hd hz wv
 rwa[rv,lU]at this
theorem RM{x y:Int}(hx:nl x.natAbs<2^39)(hy:nl y.natAbs<2^39):Qc Tryz.prog 94 [.sl 2 [PV.zz x,PV.zz y]] (· =PV.zz (x+y)):=by
 have:=Pn (n:=decide (x<0)) (m:=decide (y<0)) (Qp x.natAbs) (Qp y.natAbs) hx hy
 rwa[lU,lU]at this
theorem aen{x y:Int}(hx:nl x.natAbs<2^40)(hy:nl y.natAbs<2^40):Qc Tryz.prog 163 [PV.zz x,PV.zz y] (· = .int .i64 (cY x y)):=by
 have:=Q8u (n:=decide (x<0)) (m:=decide (y<0)) (Qp x.natAbs) (Qp y.natAbs) hx hy
 rwa[lU,lU]at this
structure Raw(k:Nat)(n:Bool)(a d:List Nat):Prop where
 la:Qs a
 ld:Qs d
 sa:a.length<=k
 sd:d.length<=k
 k1:1<=k
theorem iG{q:Rat}{k:Nat}(h:rs q<=k):Raw k (decide (q.num<0)) (ah q.num.natAbs) (ah q.den):=by
 have:=RF q;unfold rs nl at *
 exact⟨Qp _,Qp _,by omega,by omega,by omega⟩
theorem Raw.rs{n:Bool}{a d:List Nat}{k:Nat}(h:Raw k n a d):FW.rs (rv n a d)<=k:=aiY (k:=k) (n:=k) h.la h.ld h.sa h.sd h.k1
theorem Ol{n m:Bool}{a d b c:List Nat}{k:Nat}(hp:Raw k n a d)(hq:Raw k m b c)(hk:k<2^36):Qc Tryz.prog 48 [PV.rr n a d,PV.rr m b c] (· =PV.rat (rv n a d+rv m b c)):=by
 refine Qf Qo Tryz.func48 rfl ai9 (by simp[Lc]) fun C hP=>?_;simp only[Lc,Zo,Zg,Zm,Zc,Zf,Zl,Zh,Zs,Zi,Zb,Zk,Zn,Zu,Zq,Zr,Zz];refine Sz0 ?_;refine rI hP (u9 hp.la hp.ld hp.k1 hp.sa hp.sd (by omega)) rfl rfl rfl ?_;rintro _ ⟨n',a',d',rfl,g1,g2,g3,g4,g5,g6⟩;refine Sz0 ?_;refine rI hP (u9 hq.la hq.ld hq.k1 hq.sa hq.sd (by omega)) rfl rfl rfl ?_;rintro _ ⟨m',b',c',rfl,e1,e2,e3,e4,e5,e6⟩;refine Sz0 ?_;refine Qa hP (DU (by omega)) rfl rfl rfl ?_;have key:=Rat.mkRat_add_mkRat (zv n' a') (zv m' b') g5 e5;have BY:nl (zv n' a').natAbs<=k:=by rw[jS];exact Kaw (cm g1) g3
 have Xy:nl (zv m' b').natAbs<=k:=by rw[jS];exact Kaw (cm e1) e3
 have Xn:nl (val d')<=k:=Kaw (cm g2) g4;have yX:nl (val c')<=k:=Kaw (cm e2) e4;rw[<-g6,<-e6];unfold rv;rw[key];refine Sz0 ?_;refine gw (fun h1=>?_) (fun h1=>?_)
 ·refine Sz0 ?_;refine Qa hP (DU (by omega)) rfl rfl rfl ?_;refine Sz0 ?_;refine Qb (fun h2=>?_) (fun h2=>?_)
  ·subst h1 h2;refine Sz0 ?_;refine iQ hP (Pn (n:=n') (m:=m') g1 e1 (by omega) (by omega)) yt rfl ?_;refine eQ ?_;have hs:=zu (zv n' a') (zv m' b');refine Qa hP (Da g2 (by omega) (by omega)) rfl rfl rfl ?_;refine eQ ?_;refine dC ?_;refine eQ ?_;exact Qd (congrArg PV.rat (by simp[val])) rfl
  ·refine Sz0 ?_;refine Qa hP (xo _) rfl rfl rfl ?_;refine Sz0 ?_;refine Qa hP (u7 (n:=n') (m:=false) g1 e2 (by omega) (by omega)) rfl rfl rfl ?_;refine Sz0 ?_;refine Qa hP (xo _) rfl rfl rfl ?_;refine Sz0 ?_;refine Qa hP (u7 (n:=m') (m:=false) e1 g2 (by omega) (by omega)) rfl rfl rfl ?_;rw[tA,tA];have h3:=lN (zv n' a') (val c');have h4:=lN (zv m' b') (val d');have h5:=zu (zv n' a'*(val c':Int)) (zv m' b'*(val d':Int));have h6:=gV (val d') (val c');rw[KaD]at h3 h4;refine Sz0 ?_;refine iQ hP (RM (x:=zv n' a'*(val c':Int)) (y:=zv m' b'*(val d':Int)) (by omega) (by omega)) yt rfl ?_;refine eQ ?_;refine Qa hP (Am g2 e2 (by omega) (by omega)) rfl rfl rfl ?_;refine eQ ?_;refine Qa hP (Da (z:=zv n' a'*(val c':Int)+zv m' b'*(val d':Int)) (Qp _) (by omega) (by show nl _<_;omega)) rfl rfl rfl ?_;refine eQ ?_;refine dC ?_;refine eQ ?_;exact Qd (by rw[Q7]) rfl
 · simp+decide (disch:=try exact D0) only[go_sem]
   refine Qa hP (xo _) rfl rfl rfl ?_;refine Sz0 ?_;refine Qa hP (u7 (n:=n') (m:=false) g1 e2 (by omega) (by omega)) rfl rfl rfl ?_;refine Sz0 ?_;refine Qa hP (xo _) rfl rfl rfl ?_;refine Sz0 ?_;refine Qa hP (u7 (n:=m') (m:=false) e1 g2 (by omega) (by omega)) rfl rfl rfl ?_;rw[tA,tA];have h3:=lN (zv n' a') (val c');have h4:=lN (zv m' b') (val d');have h5:=zu (zv n' a'*(val c':Int)) (zv m' b'*(val d':Int));have h6:=gV (val d') (val c');rw[KaD]at h3 h4;refine Sz0 ?_;refine iQ hP (RM (x:=zv n' a'*(val c':Int)) (y:=zv m' b'*(val d':Int)) (by omega) (by omega)) yt rfl ?_;refine eQ ?_;refine Qa hP (Am g2 e2 (by omega) (by omega)) rfl rfl rfl ?_;refine eQ ?_;refine Qa hP (Da (z:=zv n' a'*(val c':Int)+zv m' b'*(val d':Int)) (Qp _) (by omega) (by show nl _<_;omega)) rfl rfl rfl ?_;refine eQ ?_;refine dC ?_;refine eQ ?_;exact Qd (by rw[Q7]) rfl
theorem acy{n m:Bool}{a d b c:List Nat}{k:Nat}(hp:Raw k n a d)(hq:Raw k m b c)(hk:k<2^36):Qc Tryz.prog 46 [PV.rr n a d,PV.rr m b c] (· =PV.rat (rv n a d*rv m b c)):=by
 refine Qf Qo Tryz.func46 rfl aja (by simp[La]) fun C hP=>?_;simp only[La,Zo,Zg,Zm,Zc,Zf,Zl,Zh,Zs,Zi,Zb,Zk,Zn,Zu,Zq,Zr,Zz];refine Sz0 ?_;refine rI hP (u9 hp.la hp.ld hp.k1 hp.sa hp.sd (by omega)) rfl rfl rfl ?_;rintro _ ⟨n',a',d',rfl,g1,g2,g3,g4,g5,g6⟩;refine Sz0 ?_;refine rI hP (u9 hq.la hq.ld hq.k1 hq.sa hq.sd (by omega)) rfl rfl rfl ?_;rintro _ ⟨m',b',c',rfl,e1,e2,e3,e4,e5,e6⟩;refine Sz0 ?_;have BY:nl (zv n' a').natAbs<=k:=by rw[jS];exact Kaw (cm g1) g3
 have Xy:nl (zv m' b').natAbs<=k:=by rw[jS];exact Kaw (cm e1) e3
 have Xn:nl (val d')<=k:=Kaw (cm g2) g4;have yX:nl (val c')<=k:=Kaw (cm e2) e4;have h3:=lN (zv n' a') (zv m' b');have h6:=gV (val d') (val c');refine Qa hP (u7 (n:=n') (m:=m') g1 e1 (by omega) (by omega)) rfl rfl rfl ?_;refine Sz0 ?_;refine Qa hP (Am g2 e2 (by omega) (by omega)) rfl rfl rfl ?_;refine Sz0 ?_;refine Qa hP (Da (z:=zv n' a'*zv m' b') (Qp _) (by omega) (by show nl _<_;omega)) rfl rfl rfl ?_;refine Sz0 ?_;refine dC ?_;refine Sz0 ?_;refine Qd ?_ rfl;rw[Q7,<-g6,<-e6];unfold rv;rw[Rat.mkRat_mul_mkRat]
theorem Db{n:Bool}{a d:List Nat}{k:Nat}(hp:Raw k n a d)(hk:k<2^36):Qc Tryz.prog 17 [PV.rr n a d] (· = .int .i64 (fk (rv n a d))):=by refine Qf Qo Tryz.func17 rfl ai7 (by simp[Ks]) fun C hP=>?_;simp only[Ks,Zo,Zg,Zm,Zc,Zf,Zl,Zh,Zs,Zi,Zb,Zk,Zn,Zu,Zq,Zr,Zz];refine Sz0 ?_;refine rI hP (u9 hp.la hp.ld hp.k1 hp.sa hp.sd (by omega)) rfl rfl rfl ?_;rintro _ ⟨n',a',d',rfl,g1,g2,g3,g4,g5,g6⟩;refine Sz0 ?_;refine Qa hP (CY g1 (by omega)) rfl rfl rfl ?_;refine Sz0 ?_;exact Qd (by rw[<-g6];unfold rv;rw[ack g5]) rfl
theorem acz{n m:Bool}{a d b c:List Nat}{k:Nat}(hp:Raw k n a d)(hq:Raw k m b c)(hk:k<2^36):Qc Tryz.prog 126 [PV.rr n a d,PV.rr m b c] (· = .int .i64 (oe (rv n a d) (rv m b c))):=by
 refine Qf Qo Tryz.func126 rfl agO (by simp[JG]) fun C hP=>?_;simp only[JG,Zo,Zg,Zm,Zc,Zf,Zl,Zh,Zs,Zi,Zb,Zk,Zn,Zu,Zq,Zr,Zz];refine Sz0 ?_;refine Qa hP (Db hp hk) rfl rfl rfl ?_;refine Sz0 ?_;refine Qa hP (Db hq hk) rfl rfl rfl ?_;refine Sz0 ?_;refine Qb (fun h1=>?_) (fun h1=>?_)
 ·refine Sz0 ?_;refine Qb (fun h2=>?_) (fun h2=>?_)
  ·refine Sz0 ?_;exact Qd (by rw[Pb h2]) rfl
  ·refine Sz0 ?_;exact Qd (by rw[aed (by omega)]) rfl
 refine Sz0 ?_;refine rI hP (u9 hp.la hp.ld hp.k1 hp.sa hp.sd (by omega)) rfl rfl rfl ?_;rintro _ ⟨n',a',d',rfl,g1,g2,g3,g4,g5,g6⟩;refine Sz0 ?_;refine rI hP (u9 hq.la hq.ld hq.k1 hq.sa hq.sd (by omega)) rfl rfl rfl ?_;rintro _ ⟨m',b',c',rfl,e1,e2,e3,e4,e5,e6⟩;have BY:nl (zv n' a').natAbs<=k:=by rw[jS];exact Kaw (cm g1) g3
 have Xy:nl (zv m' b').natAbs<=k:=by rw[jS];exact Kaw (cm e1) e3
 have Xn:nl (val d')<=k:=Kaw (cm g2) g4;have yX:nl (val c')<=k:=Kaw (cm e2) e4;have h3:=lN (zv n' a') (val c');have h4:=lN (zv m' b') (val d');rw[KaD]at h3 h4;refine Sz0 ?_;refine Qa hP (xo _) rfl rfl rfl ?_;refine Sz0 ?_;refine Qa hP (u7 (n:=n') (m:=false) g1 e2 (by omega) (by omega)) rfl rfl rfl ?_;refine Sz0 ?_;refine Qa hP (xo _) rfl rfl rfl ?_;refine Sz0 ?_;refine Qa hP (u7 (n:=m') (m:=false) e1 g2 (by omega) (by omega)) rfl rfl rfl ?_;rw[tA,tA];refine Sz0 ?_;refine Qa hP (aen (x:=zv n' a'*(val c':Int)) (y:=zv m' b'*(val d':Int)) (by omega) (by omega)) rfl rfl rfl ?_;refine Sz0 ?_;exact Qd (by rw[<-g6,<-e6];unfold rv;rw[PW g5 e5]) rfl
theorem acA{x:Int}(h1: -9223372036854775808<=x)(h2:x<=9223372036854775807):Qc Tryz.prog 63 [.int .i64 x] (· =PV.zz x):=by
 refine Qf Qo Tryz.func63 rfl ajw (by simp[Lt]) fun C hP=>?_;simp only[Lt,Zo,Zg,Zm,Zc,Zf,Zl,Zh,Zs,Zi,Zb,Zk,Zn,Zu,Zq,Zr,Zz];refine Sz0 ?_;refine Qb (fun hc=>?_) (fun hc=>?_)
 ·obtain⟨y,hy⟩:∃y:Nat,x= -((y:Int)+1):=⟨(-(x+1)).toNat,by omega⟩
  have e1:IntKind.i64.wrap (x+1)= -(y:Int):=by rw[vk (by omega) (by omega)];omega
  have e2:IntKind.i64.wrap (0- -(y:Int))=(y:Int):=by rw[vk (by omega) (by omega)];omega
  have e3:IntKind.u64.wrap (y:Int)=(y:Int):=rT (by omega) (by omega);have e4:IntKind.u64.wrap ((y+1:Nat):Int)=((y+1:Nat):Int):=rT (by omega) (by omega);refine Sz4 e1 e2 e3 e4 ?_;refine Qa hP (Ax (by omega)) rfl rfl rfl ?_;refine Sz0 ?_;refine Qa hP (xg true (y+1)) rfl rfl rfl ?_;refine Sz0 ?_;refine dC ?_;refine Sz0 ?_;exact Qd (congrArg PV.zz (by simp;omega)) rfl
 ·obtain⟨y,rfl⟩:∃y:Nat,x=y:=⟨x.toNat,by omega⟩
  refine Sz0 ?_;refine Qa hP (Ax (by omega)) rfl rfl rfl ?_;refine Sz0 ?_;refine Qa hP (xg false y) rfl rfl rfl ?_;refine Sz0 ?_;refine dC ?_;refine Sz0 ?_;exact Qd (congrArg PV.zz (by simp)) rfl
theorem rN{x:Int}(h1: -9223372036854775808<=x)(h2:x<=9223372036854775807):Qc Tryz.prog 26 [.int .i64 x] (· =PV.rat (x:Rat)):=by refine Qf Qo Tryz.func26 rfl ai6 (by simp[KQ]) fun C hP=>?_;simp only[KQ,Zo,Zg,Zm,Zc,Zf,Zl,Zh,Zs,Zi,Zb,Zk,Zn,Zu,Zq,Zr,Zz];refine Sz0 ?_;refine Qa hP (acA h1 h2) rfl rfl rfl ?_;refine Sz0 ?_;refine Qa hP Ds rfl rfl rfl ?_;refine Sz0 ?_;refine dC ?_;refine Sz0 ?_;exact Qd (by rw[PV.rat,Rat.num_intCast,Rat.den_intCast,PV.num,PV.num,rY];rfl) rfl
theorem YN{n:Bool}{a:List Nat}(ha:Qs a)(bC:a.length<2^42):Qc Tryz.prog 42 [PV.zi n a] (· = .bool (nX n a)):=by
 refine Qf Qo Tryz.func42 rfl ajv (by simp[K6]) fun C hP=>?_;simp only[K6,Zo,Zg,Zm,Zc,Zf,Zl,Zh,Zs,Zi,Zb,Zk,Zn,Zu,Zq,Zr,Zz];refine Sz0 ?_;refine gw (fun h0=>?_) (fun h0=>?_)
 ·have:a=[]:=Kas.1 (by omega);subst this;refine Sz0 ?_;cases n
  ·refine Sz0 ?_;refine Qd (congrArg PV.bool ?_) rfl;simp[nX]
  ·refine Sz0 ?_;refine Qd (congrArg PV.bool ?_) rfl;simp[nX]
 ·obtain⟨k,hk⟩:∃k,a.length=k+1:=⟨a.length-1,by omega⟩
  have aO:a≠[]:=fun h=>by rw[h]at hk;simp at hk
  have hl:=SR hk;have e:((k+1:Nat):Int)-1=k:=by omega
  generalize hx:a[k]'(by omega)=x at *
  refine Sz3 hk e hx ?_;refine gw (fun h=>?_) (fun h=>absurd (by omega) h);refine Sz3 hk e hx ?_;refine Qd (congrArg PV.bool ?_) rfl;unfold nX;rw[if_neg aO,hl];exact decide_eq_decide.2 ⟨fun h h'=>h (by injection h' with h';rw[h'];rfl),fun h h'=>h (by rw[show x=0 by omega])⟩
theorem Tb{n:Bool}{a d:List Nat}{k:Nat}(hp:Raw k n a d)(hk:k<2^36):Qc Tryz.prog 15 [PV.rr n a d] (· = .bool (mS n a d)):=by
 obtain⟨ha,hd,sa,sd,k1⟩:=hp;refine Qf Qo Tryz.func15 rfl ai5 (by simp[J7]) fun C hP=>?_;simp only[J7,Zo,Zg,Zm,Zc,Zf,Zl,Zh,Zs,Zi,Zb,Zk,Zn,Zu,Zq,Zr,Zz];refine Sz0 ?_;refine Qa hP (YN ha (by omega)) rfl rfl rfl ?_;unfold mS;refine Sz0 ?_;cases hio:nX n a
 ·refine Sz1 @Bool.not_false ?_;exact Qd (by simp) rfl
 rw[KbZ];refine Sz1 @Bool.not_true ?_;refine dM (fun h0=>?_) (fun h0=>?_)
 ·have:d=[]:=Kas.1 (by omega);subst this;refine Sz0 ?_;exact Qd (by simp) rfl
 obtain⟨k',en⟩:∃k,d.length=k+1:=⟨d.length-1,by omega⟩
 have aO:d≠[]:=fun h=>by rw[h]at en;simp at en
 have hl:=SR en;have e:((k'+1:Nat):Int)-1=k':=by omega
 generalize hx:d[k']'(by omega)=x at *
 refine Sz3 en e hx ?_;refine Qb (fun h1=>?_) (fun h1=>?_)
 ·refine Sz0 ?_;refine Qd (congrArg PV.bool ?_) rfl;rw[hl,show x=0 by omega];simp
 have bw:x≠0:=by omega
 refine Sz0 ?_;refine Qa hP (DU (by omega)) rfl rfl rfl ?_;refine Sz0 ?_;refine dM (fun h2=>?_) (fun h2=>?_)
 ·subst h2;refine Sz0 ?_;refine Qd (congrArg PV.bool ?_) rfl;simp[val]
 ·refine Sz0 ?_;refine Qa hP (Pm ha hd (by omega) (by omega)) rfl rfl rfl ?_;have hD:0<val d:=by apply KaY;intro h0;have qX:=Aq hd (by rw[hl];simpa using bw);rw[h0,fQ]at qX;exact aO qX.symm
  have pY:(ah (Nat.gcd (val a) (val d))).length<2^43:=by have h3:=fS (Kdf (val a) hD);have h4:=cm hd;unfold nl at h3 h4;omega
  refine Sz0 ?_;refine Qa hP (IV pY) rfl rfl rfl ?_;refine Sz0 ?_;refine Qd (congrArg PV.bool ?_) rfl;rw[hl];simp[aO,bw]
theorem Tp{a:List Int}(hl:a.length<2^42):Qc Tryz.prog 90 [PV.mono a] (· =PV.mono (gZ a)):=by
 refine Qf Qo Tryz.func90 rfl ajm (by simp[LU]) fun C hP=>?_;simp only[LU,Zo,Zg,Zm,Zc,Zf,Zl,Zh,Zs,Zi,Zb,Zk,Zn,Zu,Zq,Zr,Zz];refine Sz0 ?_;refine Qw (by repeat (first|exact Qr|exact Qk|exact Ql|exact Qm|exact Qn|apply Qj|apply Qq|apply Qx|apply Q5|apply Q6|apply Qi)) [(3,3),(6,17)] [] (fun n J hp=>n<=a.length/\kI a n=gZ a/\J 3= .int .i64 n/\hp=aF) a.length ?_ ?_
 ·refine⟨Kac _,rfl,?_⟩;exact Tz0
 rintro n J _ ⟨hn,hc,h3,rfl⟩;refine Sz1 h3 ?_;refine gw (fun hg=>?_) (fun hg=>?_)
 ·obtain _|n:=n
  ·omega
  have e:((n+1:Nat):Int)-1=n:=by omega
  simp only[kI]at hc;simp+decide (disch:=try exact D2 h3 e) only[go_sem,h3,e];refine Qb (fun hz=>?_) (fun hz=>?_)
  ·rw[if_pos (by simp[hz,show n<a.length by omega])]at hc;refine Sz2 h3 e ?_;refine Qg n (by omega) ⟨by omega,hc,?_⟩;exact Tz0
  ·rw[if_neg (by simpa[show n<a.length by omega]using hz)]at hc;refine Sz2 h3 e ?_;refine Qb (fun h=>by omega) (fun h=>?_);refine Sz2 h3 e ?_;exact Qd (congrArg PV.mono hc) rfl
 ·obtain rfl:n=0:=by omega
  refine Sz1 h3 ?_;exact nR (UO (by rw[<-hc];rfl)) rfl
theorem YO{a:List Int}(hl:a.length<2^42):Qc Tryz.prog 84 [PV.mono a] (· = .bool (fK a)):=by
 refine Qf Qo Tryz.func84 rfl ajn (by simp[LO]) fun C hP=>?_;simp only[LO,Zo,Zg,Zm,Zc,Zf,Zl,Zh,Zs,Zi,Zb,Zk,Zn,Zu,Zq,Zr,Zz];refine Sz0 ?_;have bad:(64<a.length∨a.getLast? =some 0∨∃x∈a,x<0∨1048576<x)->fK a=false:=fun h=>by
  cases hb:fK a with
  |false=>rfl
  |true=>
   have:=MB.uN hb;simp only[fK,Kat,decide_eq_true_eq]at hb;rcases h with h|h|⟨x,hx,h⟩
   ·omega
   ·exact absurd h hb.2.1
   ·have h5:=this.lo x hx;have h6:=this.hi x hx;omega
 refine dM (fun h1=>?_) (fun h1=>?_)
 ·refine Sz0 ?_;exact Qd (by rw[bad (.inl (by omega))]) rfl
 refine Sz0 ?_;have fin:a.length<=64->a.getLast? ≠some 0->(∀x∈a,0<=x/\x<=1048576)->fK a=true:=fun h1 h2 h3=>by simp only[fK,Kat,decide_eq_true_eq,Kav];exact⟨h1,h2,h3⟩
 refine gw (fun h2=>?_) (fun h2=>?_)
 ·obtain⟨k,hk⟩:∃k,a.length=k+1:=⟨a.length-1,by omega⟩
  have jy:=DQ hk;have e:((k+1:Nat):Int)-1=k:=by omega
  generalize hy:a[k]'(by omega)=y at *
  refine Sz3 hk e hy ?_;refine Qb (fun h3=>?_) (fun h3=>?_)
  ·refine Sz0 ?_;exact Qd (by rw[bad (.inr (.inl (by rw[jy,h3])))]) rfl
  have jy:a.getLast? ≠some 0:=by rw[jy];simpa using h3
  rw[<-hk]at *
  refine Sz0 ?_;refine Qw (by repeat (first|exact Qr|exact Qk|exact Ql|exact Qm|exact Qn|apply Qj|apply Qq|apply Qx|apply Q5|apply Q6|apply Qi)) [(2,2),(4,4),(24,34)] [] (fun k J hp=>∃i,k=a.length-i/\i<=a.length/\(∀x∈a.take i,0<=x/\x<=1048576)/\J 24= .int .i64 i/\hp=aF) a.length ?_ ?_
  ·refine⟨0,rfl,by omega,by simp,?_⟩;refine Sz0 ?_;rfl
  rintro _ J _ ⟨i,rfl,hi,bz,iv,rfl⟩;refine Sz1 iv ?_;refine Qb (fun hg=>?_) (fun hg=>?_)
  ·have aB:i<a.length:=by omega
   have eo:=Kag aB;have bj:∀x∈a.take (i+1),x∈a.take i∨x=a[i]:=fun x hx=>by
    rw[Kah aB]at hx;rcases KaT.1 hx with h|h
    ·exact .inl h
    ·exact .inr (KaL.1 h)
   generalize hx:a[i]=x at *
   refine Sz2 iv hx ?_;refine dM (fun h5=>?_) (fun h5=>?_)
   ·refine Sz0 ?_;exact Qd (by rw[bad (.inr (.inr ⟨x,eo,.inl h5⟩))]) rfl
   ·refine Sz0 ?_;refine Qb (fun h6=>?_) (fun h6=>?_)
    ·refine Sz0 ?_;exact Qd (by rw[bad (.inr (.inr ⟨x,eo,.inr h6⟩))]) rfl
    ·refine Sz1 iv ?_;refine Qg (a.length-(i+1)) (by omega) ⟨i+1,rfl,by omega,fun y hy=>?_,?_⟩
     ·rcases bj y hy with h|rfl
      ·exact bz y h
      ·omega
     ·exact Tz0
  ·rw[Kae (by omega)]at bz;refine Sz0 ?_;exact Qd (by rw[fin (by omega) jy bz]) rfl
 ·have FE:a=[]:=Kas.1 (by omega);have jy:a.getLast? ≠some 0:=by rw[FE];simp
  refine Sz0 ?_;refine Qw (by repeat (first|exact Qr|exact Qk|exact Ql|exact Qm|exact Qn|apply Qj|apply Qq|apply Qx|apply Q5|apply Q6|apply Qi)) [(2,2),(4,4),(24,34)] [] (fun k J hp=>∃i,k=a.length-i/\i<=a.length/\(∀x∈a.take i,0<=x/\x<=1048576)/\J 24= .int .i64 i/\hp=aF) a.length ?_ ?_
  ·refine⟨0,rfl,by omega,by simp,?_⟩;refine Sz0 ?_;rfl
  rintro _ J _ ⟨i,rfl,hi,bz,iv,rfl⟩;refine Sz1 iv ?_;refine Qb (fun hg=>?_) (fun hg=>?_)
  ·have aB:i<a.length:=by omega
   have eo:=Kag aB;have bj:∀x∈a.take (i+1),x∈a.take i∨x=a[i]:=fun x hx=>by
    rw[Kah aB]at hx;rcases KaT.1 hx with h|h
    ·exact .inl h
    ·exact .inr (KaL.1 h)
   generalize hx:a[i]=x at *
   refine Sz2 iv hx ?_;refine dM (fun h5=>?_) (fun h5=>?_)
   ·refine Sz0 ?_;exact Qd (by rw[bad (.inr (.inr ⟨x,eo,.inl h5⟩))]) rfl
   ·refine Sz0 ?_;refine Qb (fun h6=>?_) (fun h6=>?_)
    ·refine Sz0 ?_;exact Qd (by rw[bad (.inr (.inr ⟨x,eo,.inr h6⟩))]) rfl
    ·refine Sz1 iv ?_;refine Qg (a.length-(i+1)) (by omega) ⟨i+1,rfl,by omega,fun y hy=>?_,?_⟩
     ·rcases bj y hy with h|rfl
      ·exact bz y h
      ·omega
     ·exact Tz0
  ·rw[Kae (by omega)]at bz;refine Sz0 ?_;exact Qd (by rw[fin (by omega) jy bz]) rfl
theorem SB{a:List Int}(hl:a.length<=1048576)(hb:∀x∈a,0<=x/\x<=1099511627776):Qc Tryz.prog 170 [PV.mono a] (· = .int .i64 (fB a)):=by
 refine Qf Qo Tryz.func170 rfl afO (by simp[Kt]) fun C hP=>?_;simp only[Kt,Zo,Zg,Zm,Zc,Zf,Zl,Zh,Zs,Zi,Zb,Zk,Zn,Zu,Zq,Zr,Zz];refine Sz0 ?_;refine Qw (by repeat (first|exact Qr|exact Qk|exact Ql|exact Qm|exact Qn|apply Qj|apply Qq|apply Qx|apply Q5|apply Q6|apply Qi)) [(3,3),(5,5),(8,15)] [] (fun k J hp=>∃(i:Nat)(s:Int),k=a.length-i/\i<=a.length/\0<=s/\s<=1099511627776*i/\s+(a.drop i).sum=fB a/\J 8= .int .i64 (i:Nat)/\J 3= .int .i64 s/\hp=aF) a.length ?_ ?_
 ·refine⟨0,0,rfl,by omega,by omega,by omega,by simp[fB],?_⟩;refine Sz0 ?_;simp
 rintro _ J _ ⟨i,s,rfl,hi,BL,gC,ql,h8,h3,rfl⟩;refine Sz2 h8 h3 ?_;refine Qb (fun hg=>?_) (fun hg=>?_)
 ·have aB:i<a.length:=by omega
  have hx:=hb _ (Kag aB);rw[Kaz aB,Kdj]at ql;generalize dY:a[i]=x at *
  refine Sz3 h8 h3 dY ?_;refine Qg (a.length-(i+1)) (by omega) ⟨i+1,s+x,rfl,by omega,by omega,by push_cast;omega,by omega,?_⟩;exact Tz0
 ·rw[Kan (by omega),List.sum_nil,Int.add_zero]at ql;refine Sz1 h3 ?_;exact Qd (by rw[ql]) rfl
theorem Ur{a:List Int}{v:Int}(hl:a.length<2^42):Qc Tryz.prog 124 [PV.mono a,.int .i64 v] (· = .int .i64 (if v<0 then 0 else eN a v.toNat)):=by
 refine Qf Qo Tryz.func124 rfl afP (by simp[JE]) fun C hP=>?_;simp only[JE,Zo,Zg,Zm,Zc,Zf,Zl,Zh,Zs,Zi,Zb,Zk,Zn,Zu,Zq,Zr,Zz];refine Sz0 ?_;refine dM (fun h1=>?_) (fun h1=>?_)
 ·refine Sz0 ?_;exact Qd (by rw[if_pos h1]) rfl
 ·obtain⟨n,rfl⟩:∃n:Nat,v=n:=⟨v.toNat,by omega⟩
  rw[if_neg h1];refine Sz0 ?_;refine Qb (fun h2=>?_) (fun h2=>?_)
  ·refine Sz0 ?_;exact Qd (by rw[fA (by omega)]) rfl
  ·have hn:n<a.length:=by omega
   refine Sz0 ?_;exact Qd (by rw[fj hn]) rfl
theorem Dt{a:List Int}{i:Nat}(hl:a.length<2^42):Qc Tryz.prog 124 [PV.mono a,.int .i64 i] (· = .int .i64 (eN a i)):=by
 have:=Ur (v:=i) hl
 rwa[if_neg (by omega),KbD]at this
theorem Qyr{a b:List Int}{f:Nat}{g:Int->Int->Int}(bC:a.length<2^40)(cT:b.length<2^40)(hf:∀i,Qc Tryz.prog f [.int .i64 (eN a i),.int .i64 (eN b i)] (· = .int .i64 (g (eN a i) (eN b i)))):
  Qc Tryz.prog 178 [PV.mono a,PV.mono b,.fn f [] []] (· =PV.mono (j9 g a b)):=by
 refine Qf Qo Tryz.func178 rfl afN (by simp[KB]) fun C hP=>?_;simp only[KB,Zo,Zg,Zm,Zc,Zf,Zl,Zh,Zs,Zi,Zb,Zk,Zn,Zu,Zq,Zr,Zz];refine Sz0 ?_;refine Qw (by repeat (first|exact Qr|exact Qk|exact Ql|exact Qm|exact Qn|apply Qj|apply Qq|apply Qx|apply Q5|apply Q6|apply Qi)) [(8,10),(19,45)] [] (fun k J hp=>∃i,k=max a.length b.length-i/\i<=max a.length b.length/\J 19= .int .i64 (i:Nat)/\hp=Qz aF 16 ⟨1,3,iV ((j9 g a b).take i++List.replicate (max a.length b.length-i) 0),false⟩) (max a.length b.length) ?_ ?_
 ·refine⟨0,rfl,by omega,?_⟩;refine Sz0 ?_;simp
 rintro _ J _ ⟨i,rfl,hi,jt,rfl⟩;refine Sz1 jt ?_;refine Qb (fun hg=>?_) (fun hg=>?_)
 ·have aB:i<max a.length b.length:=by omega
  have wg:=hf i;have ry:((j9 g a b).take i).length=i:=by rw[KaH,oH];omega
  have ks:=fun v=>acn (v:=v) (z:=(0:Int)) ry (show 0<max a.length b.length-i by omega);have hlen:i<((j9 g a b).take i++List.replicate (max a.length b.length-i) (0:Int)).length:=by rw[Kap,ry,List.length_replicate];omega
  have bj:=HO (g:=g) aB;have fin:∀x y,x=eN a i->y=eN b i->Qc Tryz.prog f [.int .i64 x,.int .i64 y] (· = .int .i64 (g (eN a i) (eN b i))):=by rintro _ _ rfl rfl;exact wg
  refine Sz1 jt ?_;refine Qb (fun h1=>?_) (fun h1=>?_)
  ·have jI:i<a.length:=by omega
   simp+decide (disch:=try exact D1 jt) only[go_sem,jt];refine Qb (fun h2=>?_) (fun h2=>?_)
   ·have nh:i<b.length:=by omega
    simp+decide (disch:=try exact D1 jt) only[go_sem,jt];refine Qa hP (fin _ _ (fj jI).symm (fj nh).symm) rfl rfl rfl ?_;simp+decide (disch:=first|omega|rfl|(simp+decide only[go_sem,jt,ks,<-bj]<;>rfl)|fail) only[go_sem,jt,ks,<-bj];refine Qg (max a.length b.length-(i+1)) (by omega) ⟨i+1,rfl,by omega,?_⟩;exact Tz1 @Nat.sub_sub
   ·refine Sz1 jt ?_;refine Qa hP (fin _ _ (fj jI).symm (fA (by omega)).symm) rfl rfl rfl ?_;simp+decide (disch:=first|omega|rfl|(simp+decide only[go_sem,jt,ks,<-bj]<;>rfl)|fail) only[go_sem,jt,ks,<-bj];refine Qg (max a.length b.length-(i+1)) (by omega) ⟨i+1,rfl,by omega,?_⟩;exact Tz1 @Nat.sub_sub
  ·refine Sz1 jt ?_;refine Qb (fun h2=>?_) (fun h2=>by omega);have nh:i<b.length:=by omega
   simp+decide (disch:=try exact D1 jt) only[go_sem,jt];refine Qa hP (fin _ _ (fA (by omega)).symm (fj nh).symm) rfl rfl rfl ?_;simp+decide (disch:=first|omega|rfl|(simp+decide only[go_sem,jt,ks,<-bj]<;>rfl)|fail) only[go_sem,jt,ks,<-bj];refine Qg (max a.length b.length-(i+1)) (by omega) ⟨i+1,rfl,by omega,?_⟩;exact Tz1 @Nat.sub_sub
 ·obtain rfl:i=max a.length b.length:=by omega
  refine eQ ?_;exact Qd (by simp[Kae,oH]) rfl
theorem Ze{x y:Int}(h1: -9223372036854775808<=x+y)(h2:x+y<=9223372036854775807):Qc Tryz.prog 179 [.int .i64 x,.int .i64 y] (· = .int .i64 (x+y)):=by refine Qf Qo Tryz.func179 rfl afR (by simp[KC]) fun C hP=>?_;simp only[KC,Zo,Zg,Zm,Zc,Zf,Zl,Zh,Zs,Zi,Zb,Zk,Zn,Zu,Zq,Zr,Zz];refine Sz0 ?_;exact Qd rfl rfl
theorem Q8v{k:Nat}{a b:List Int}(ha:MB k a)(hb:MB k b)(hk:k<=1099511627776):Qc Tryz.prog 158 [PV.mono a,PV.mono b] (· =PV.mono (bm a b)):=by have h1:=ha.len;have h2:=hb.len;have hz:=oH (· + ·) a b;refine Qf Qo Tryz.func158 rfl afQ (by simp[Kf]) fun C hP=>?_;simp only[Kf,Zo,Zg,Zm,Zc,Zf,Zl,Zh,Zs,Zi,Zb,Zk,Zn,Zu,Zq,Zr,Zz];refine Sz0 ?_;refine Qa hP (Qyr (f:=179) (g:=(· + ·)) (by omega) (by omega) (fun i=>Ze (by have:=ha.eN i;have:=hb.eN i;omega) (by have:=ha.eN i;have:=hb.eN i;omega))) rfl rfl rfl ?_;refine Sz0 ?_;refine Qa hP (Tp (by omega)) rfl rfl rfl ?_;refine Sz0 ?_;exact Qd rfl rfl
theorem Tq{a:List Int}(hl:a.length<2^42):Qc Tryz.prog 45 [PV.mono a] (· = .int .i64 ((gZ a).length-1)):=by have:=rH a;refine Qf Qo Tryz.func45 rfl ajo (by simp[K9]) fun C hP=>?_;simp only[K9,Zo,Zg,Zm,Zc,Zf,Zl,Zh,Zs,Zi,Zb,Zk,Zn,Zu,Zq,Zr,Zz];refine Sz0 ?_;refine Qa hP (Tp hl) rfl rfl rfl ?_;refine Sz0 ?_;exact Qd rfl rfl
theorem Us{k:Nat}{a b:List Int}{o:Int}(ha:MB k a)(hb:MB k b)(hk:k<=1099511627776):Qc Tryz.prog 142 [PV.mono a,PV.mono b,.int .i64 o] (· = .int .i64 (kb o a b)):=by
 have h1:=ha.len;have h2:=hb.len;have gM:∀x∈a,0<=x/\x<=1099511627776:=fun x hx=>by have:=ha.lo x hx;have:=ha.hi x hx;omega
 have jc:∀x∈b,0<=x/\x<=1099511627776:=fun x hx=>by have:=hb.lo x hx;have:=hb.hi x hx;omega
 refine Qf Qo Tryz.func142 rfl afS (by simp[JX]) fun C hP=>?_;simp only[JX,Zo,Zg,Zm,Zc,Zf,Zl,Zh,Zs,Zi,Zb,Zk,Zn,Zu,Zq,Zr,Zz];refine Sz0 ?_;refine Qb (fun ho=>?_) (fun ho=>?_)
 ·refine Sz0 ?_;refine Qa hP (SB (by omega) gM) rfl rfl rfl ?_;refine Sz0 ?_;refine Qa hP (SB (by omega) jc) rfl rfl rfl ?_;refine Sz0 ?_;refine Qb (fun hd=>?_) (fun hd=>?_)
  ·have kq:kb o a b=cY (fB a) (fB b):=by unfold kb;rw[if_pos ⟨ho,hd⟩]
   refine Sz0 ?_;refine Qb (fun h5=>?_) (fun h5=>?_)
   ·refine Sz0 ?_;exact Qd (by rw[kq,cY,if_pos h5]) rfl
   ·refine Sz0 ?_;exact Qd (by rw[kq,cY,if_neg h5,if_pos (by omega)]) rfl
  have kq:kb o a b=aS a b:=by unfold kb;rw[if_neg (fun h=>hd h.2)]
  refine Sz0 ?_;refine Qw (by repeat (first|exact Qr|exact Qk|exact Ql|exact Qm|exact Qn|apply Qj|apply Qq|apply Qx|apply Q5|apply Q6|apply Qi)) [(6,6),(9,11),(30,45)] [] (fun n J hp=>n<=max a.length b.length/\dw a b n=aS a b/\J 9= .int .i64 ((n:Int)-1)/\hp=aF) (max a.length b.length) ?_ ?_
  ·refine⟨by omega,rfl,?_⟩;exact Tz0
  rintro n J _ ⟨hn,hc,h9,rfl⟩;refine Sz1 h9 ?_;refine Qb (fun hg=>?_) (fun hg=>?_)
  ·obtain _|n:=n
   ·omega
   have e:((n+1:Nat):Int)-1=n:=by omega
   rw[dw]at hc;refine Sz2 h9 e ?_;refine Qa hP (Dt (by omega)) rfl rfl rfl ?_;refine Sz2 h9 e ?_;refine Qa hP (Dt (by omega)) rfl rfl rfl ?_;refine Sz2 h9 e ?_;refine Qb (fun h4=>?_) (fun h4=>?_)
   ·rw[if_neg h4]at hc;refine Sz2 h9 e ?_;refine Qb (fun h5=>?_) (fun h5=>?_)
    ·refine Sz2 h9 e ?_;exact Qd (by rw[kq,<-hc,cY,if_pos h5]) rfl
    ·refine Sz2 h9 e ?_;exact Qd (by rw[kq,<-hc,cY,if_neg h5,if_pos (by omega)]) rfl
   ·rw[if_pos (by omega)]at hc;refine Sz2 h9 e ?_;refine Qg n (by omega) ⟨by omega,hc,?_⟩;exact Tz0
  ·obtain rfl:n=0:=by omega
   refine Sz0 ?_;exact Qd (by rw[kq,<-hc];rfl) rfl
 ·have kq:kb o a b=aS a b:=by unfold kb;rw[if_neg (fun h=>ho h.1)]
  refine Sz0 ?_;refine Qw (by repeat (first|exact Qr|exact Qk|exact Ql|exact Qm|exact Qn|apply Qj|apply Qq|apply Qx|apply Q5|apply Q6|apply Qi)) [(6,6),(9,11),(30,45)] [] (fun n J hp=>n<=max a.length b.length/\dw a b n=aS a b/\J 9= .int .i64 ((n:Int)-1)/\hp=aF) (max a.length b.length) ?_ ?_
  ·refine⟨by omega,rfl,?_⟩;exact Tz0
  rintro n J _ ⟨hn,hc,h9,rfl⟩;refine Sz1 h9 ?_;refine Qb (fun hg=>?_) (fun hg=>?_)
  ·obtain _|n:=n
   ·omega
   have e:((n+1:Nat):Int)-1=n:=by omega
   rw[dw]at hc;refine Sz2 h9 e ?_;refine Qa hP (Dt (by omega)) rfl rfl rfl ?_;refine Sz2 h9 e ?_;refine Qa hP (Dt (by omega)) rfl rfl rfl ?_;refine Sz2 h9 e ?_;refine Qb (fun h4=>?_) (fun h4=>?_)
   ·rw[if_neg h4]at hc;refine Sz2 h9 e ?_;refine Qb (fun h5=>?_) (fun h5=>?_)
    ·refine Sz2 h9 e ?_;exact Qd (by rw[kq,<-hc,cY,if_pos h5]) rfl
    ·refine Sz2 h9 e ?_;exact Qd (by rw[kq,<-hc,cY,if_neg h5,if_pos (by omega)]) rfl
   ·rw[if_pos (by omega)]at hc;refine Sz2 h9 e ?_;refine Qg n (by omega) ⟨by omega,hc,?_⟩;exact Tz0
  ·obtain rfl:n=0:=by omega
   refine Sz0 ?_;exact Qd (by rw[kq,<-hc];rfl) rfl
theorem Se{a b:Rat}{k:Nat}(ha:rs a<=k)(hb:rs b<=k)(hk:k<2^36):Qc Tryz.prog 48 [PV.rat a,PV.rat b] (· =PV.rat (a+b)):=by
 have:=Ol (iG ha) (iG hb) hk
 rwa[gY,gY]at this
theorem AM{a b:Rat}{k:Nat}(ha:rs a<=k)(hb:rs b<=k)(hk:k<2^36):Qc Tryz.prog 46 [PV.rat a,PV.rat b] (· =PV.rat (a*b)):=by
 have:=acy (iG ha) (iG hb) hk
 rwa[gY,gY]at this
theorem alv{a b:Rat}{k:Nat}(ha:rs a<=k)(hb:rs b<=k)(hk:k<2^36):Qc Tryz.prog 126 [PV.rat a,PV.rat b] (· = .int .i64 (oe a b)):=by
 have:=acz (iG ha) (iG hb) hk
 rwa[gY,gY]at this
theorem vF{a:Rat}(ha:rs a<2^36):Qc Tryz.prog 17 [PV.rat a] (· = .int .i64 (fk a)):=by
 have:=Db (iG (Kac (rs a))) ha
 rwa[gY]at this
theorem Ut{s t:Tm}{E:Nat}(hs:MB E s.2)(ht:MB E t.2)(hE:E<=2^38):Qc Tryz.prog 85 [PV.term s,PV.term t] (· = .int .i64 (aS s.2 t.2)):=by refine Qf Qo Tryz.func85 rfl Ry (by simp[AV]) fun C hP=>?_;simp only[AV,Zo,Zg,Zm,Zc,Zf,Zl,Zh,Zs,Zi,Zb,Zk,Zn,Zu,Zq,Zr,Zz];refine Sz0 ?_;refine Qa hP (Us (o:=0) hs ht (by omega)) rfl rfl rfl ?_;refine Sz0 ?_;exact Qd (by rw[ED]) rfl
theorem YP{s t:Tm}{k:Nat}(hs:rs s.1<=k)(ht:rs t.1<=k)(hk:k<2^34):Qc Tryz.prog 156 [PV.term s,PV.term t] (· = .au [PV.term (s.1+t.1,s.2),.bool (decide (¬s.1+t.1=0))]):=by have hr:=xS s.1 t.1;refine Qf Qo Tryz.func156 rfl agv (by simp[Kd]) fun C hP=>?_;simp only[Kd,Zo,Zg,Zm,Zc,Zf,Zl,Zh,Zs,Zi,Zb,Zk,Zn,Zu,Zq,Zr,Zz];refine Sz0 ?_;refine Qa hP (Se (a:=s.1) (b:=t.1) hs ht (by omega)) rfl rfl rfl ?_;refine Sz0 ?_;refine Qa hP (vF (a:=s.1+t.1) (by omega)) rfl rfl rfl ?_;refine Sz0 ?_;refine iS ?_;refine Sz0 ?_;exact eV rfl rfl rfl (Qy _) (tF (congrArg PV.bool (decide_eq_decide.2 (not_congr gG))))
theorem Yq{c:Rat}{m:List Int}(hc:rs c<2^36):Qc Tryz.prog 119 [PV.rat c,PV.mono m] (· =PV.aj (if c=0 then []else [(c,m)])):=by
 refine Qf Qo Tryz.func119 rfl agw (by simp[JA]) fun C hP=>?_;simp only[JA,Zo,Zg,Zm,Zc,Zf,Zl,Zh,Zs,Zi,Zb,Zk,Zn,Zu,Zq,Zr,Zz];refine Sz0 ?_;refine Qa hP (vF (a:=c) hc) rfl rfl rfl ?_;refine Sz0 ?_;refine Qb (fun h0=>?_) (fun h0=>?_)
 ·rw[if_pos (gG.1 h0)];refine Sz0 ?_;exact nR pH rfl
 ·rw[if_neg (fun h=>h0 (gG.2 h))];refine eQ ?_;exact Qd rfl rfl
theorem YQ{p q:List Tm}{K E:Nat}(hp:PB K E p)(hq:PB K E q)(hK:K<=2^33)(hE:E<=2^38)(bV:p.length<=2^36)(iy:q.length<=2^36):
  Qc Tryz.prog 155 [PV.aj p,PV.aj q,.fn 85 [] [],.fn 156 [] []] (· =PV.aj (Q8 p q)):=by
 refine Qf Qo Tryz.func155 rfl afT (by simp[Kc]) fun C hP=>?_;simp only[Kc,Zo,Zg,Zm,Zc,Zf,Zl,Zh,Zs,Zi,Zb,Zk,Zn,Zu,Zq,Zr,Zz];refine Sz0 ?_;refine Qw (by repeat (first|exact Qr|exact Qk|exact Ql|exact Qm|exact Qn|apply Qj|apply Qq|apply Qx|apply Q5|apply Q6|apply Qi)) [(9,14),(21,86)] [13,20,57,58,71,72,83,84] (fun n J hp=>∃i k out,n=(p.length-i)+(q.length-k)/\i<=p.length/\k<=q.length/\out.length<=i+k/\out++Q8 (p.drop i) (q.drop k)=Q8 p q/\
  J 9= .ms 20 out.length/\J 10= .int .i64 (i:Nat)/\J 11= .int .i64 (k:Nat)/\hp 20=some ⟨4,54,out.map PV.term,false⟩) (p.length+q.length) ?_ ?_
 ·refine⟨0,0,[],by omega,by omega,by omega,by simp,rfl,?_⟩;refine Sz0 ?_;simp
 rintro _ J h ⟨i,k,out,rfl,hi,hk,fN,eu,h9,bK,cu,hh⟩;refine Sz3 h9 bK cu ?_;refine gw (fun hg=>?_) (fun hg=>?_)
 ·have aB:i<p.length:=by omega
  refine Sz3 h9 bK cu ?_;refine Qb (fun fF=>?_) (fun fF=>?_)
  ·have en:k<q.length:=by omega
   have aV:=hp.get aB;have oA:=hq.get en;rw[UP aB en]at eu;have c1:=aV.c;have c2:=oA.c;generalize hx:p[i]=x at *
   generalize hy:q[k]=y at *
   refine Sz5 h9 bK cu hx hy ?_;refine Qa hP (Ut (s:=x) (t:=y) aV.m oA.m hE) rfl rfl rfl ?_;refine Sz5 h9 bK cu hx hy ?_;refine Qb (fun hc=>?_) (fun hc=>?_)
   ·rw[if_pos hc]at eu;refine Sz5 h9 bK cu hx hy ?_;rw[Q9 (f:=PV.term) (y:=x) (xs:=out) (ty':=54) (fz:=false) (Tz1 hh) cH (by omega) rfl (by omega) (by omega)];refine Sz5 h9 bK cu hx hy ?_;refine Qg ((p.length-(i+1))+(q.length-k)) (by omega) ⟨i+1,k,out++[x],rfl,by omega,hk,by simp;omega,by simpa using eu,?_⟩;refine Sz3 h9 bK cu ?_;simp
   rw[if_neg hc]at eu;refine Sz5 h9 bK cu hx hy ?_;refine Qb (fun iZ=>?_) (fun iZ=>?_)
   ·rw[if_pos iZ]at eu;refine Sz5 h9 bK cu hx hy ?_;rw[Q9 (f:=PV.term) (y:=y) (xs:=out) (ty':=54) (fz:=false) (Tz1 hh) cH (by omega) rfl (by omega) (by omega)];refine Sz5 h9 bK cu hx hy ?_;refine Qg ((p.length-i)+(q.length-(k+1))) (by omega) ⟨i,k+1,out++[y],rfl,hi,by omega,by simp;omega,by simpa using eu,?_⟩;refine Sz3 h9 bK cu ?_;simp
   rw[if_neg iZ]at eu;refine Sz5 h9 bK cu hx hy ?_;refine nP ?_ ?_
   all_goals
    refine Sz5 h9 bK cu hx hy ?_;refine Qa hP (YP (s:=x) (t:=y) (k:=2^33) (by omega) (by omega) (by omega)) rfl rfl rfl ?_;refine Sz5 h9 bK cu hx hy ?_;refine Qb (fun hz=>?_) (fun hz=>?_)
    ·rw[if_neg hz]at eu;refine Sz5 h9 bK cu hx hy ?_;rw[Q9 (f:=PV.term) (y:=(x.1+y.1,x.2)) (xs:=out) (ty':=54) (fz:=false) (Tz1 hh) cH (by omega) rfl (by omega) (by omega)];refine Sz5 h9 bK cu hx hy ?_;refine Qg ((p.length-(i+1))+(q.length-(k+1))) (by omega) ⟨i+1,k+1,out++[(x.1+y.1,x.2)],rfl,by omega,by omega,by simp;omega,by simpa using eu,?_⟩;refine Sz3 h9 bK cu ?_;simp
    ·rw[if_pos (Decidable.not_not.1 hz)]at eu;refine Sz5 h9 bK cu hx hy ?_;refine Qg ((p.length-(i+1))+(q.length-(k+1))) (by omega) ⟨i+1,k+1,out,rfl,by omega,by omega,by omega,eu,?_⟩;exact Tz4 h9 bK cu hh
  ·have ki:(out++p.drop i++q.drop k).take (out.length+(p.drop i).length+(q.drop k).length)=Q8 p q:=by rw[Kae (by simp;omega),<-eu,Kan (by omega:q.length<=k),lf,Kak]
   refine Sz3 h9 bK cu ?_;rw[mN (f:=PV.term) (xs:=out) (ys:=p.drop i) (Tz1 hh) rfl (by omega) (by simp;omega) (by simp;omega)];refine Sz3 h9 bK cu ?_;rw[mN (f:=PV.term) (xs:=out++p.drop i) (ys:=q.drop k) Tz0 (by simp) (by omega) (by simp;omega) (by simp;omega)];refine AN h9 bK cu ?_;exact Qd (by rw[<-List.map_take,ki]) rfl
 ·have ki:(out++p.drop i++q.drop k).take (out.length+(p.drop i).length+(q.drop k).length)=Q8 p q:=by rw[Kae (by simp;omega),<-eu,Kan (by omega:p.length<=i),pG,Kak]
  refine Sz3 h9 bK cu ?_;rw[mN (f:=PV.term) (xs:=out) (ys:=p.drop i) (Tz1 hh) rfl (by omega) (by simp;omega) (by simp;omega)];refine Sz3 h9 bK cu ?_;rw[mN (f:=PV.term) (xs:=out++p.drop i) (ys:=q.drop k) Tz0 (by simp) (by omega) (by simp;omega) (by simp;omega)];refine AN h9 bK cu ?_;exact Qd (by rw[<-List.map_take,ki]) rfl
theorem Hq{p q:List Tm}{K E:Nat}(hp:PB K E p)(hq:PB K E q)(hK:K<=2^33)(hE:E<=2^38)(bV:p.length<=2^36)(iy:q.length<=2^36):
  Qc Tryz.prog 108 [PV.aj p,PV.aj q] (· =PV.aj (Q8 p q)):=by
 refine Qf Qo Tryz.func108 rfl agz (by simp[Jp]) fun C hP=>?_;simp only[Jp,Zo,Zg,Zm,Zc,Zf,Zl,Zh,Zs,Zi,Zb,Zk,Zn,Zu,Zq,Zr,Zz];refine Sz0 ?_;refine Qa hP (YQ hp hq hK hE bV iy) rfl rfl rfl ?_;refine Sz0 ?_;exact Qd rfl rfl
theorem Uu{K E:Nat}(hE:E<=2^38):∀(n:Nat)(l:List (List Tm)),l.length<=n->(∀p∈l,PB K E p)->l.length*K<=2^33->l.length<=2^36->sn l<=2^36->Qc Tryz.prog 111 [PV.ch l] (· =PV.aj (cQ l)):=by
 intro n;induction n with
 |zero=>intro l hl _ _ _ _;have:l=[]:=Kas.1 (by omega);subst this;refine Qf Qo Tryz.func111 rfl QS (by simp[zo]) fun C hP=>?_;simp only[zo,Zo,Zg,Zm,Zc,Zf,Zl,Zh,Zs,Zi,Zb,Zk,Zn,Zu,Zq,Zr,Zz];simp+decide (disch:=first|omega|rfl|(simp+decide only[go_sem,Kbu,Kbj]<;>rfl)|fail) only[go_sem,Kbu,Kbj];exact nR (HQ (by rw[cQ])) rfl
 | succ n ih=>
  intro l hl hb hK rh gS;refine Qf Qo Tryz.func111 rfl QS (by simp[zo]) fun C hP=>?_;simp only[zo,Zo,Zg,Zm,Zc,Zf,Zl,Zh,Zs,Zi,Zb,Zk,Zn,Zu,Zq,Zr,Zz];refine Sz0 ?_;refine Qb (fun h0=>?_) (fun h0=>?_)
  ·have:l=[]:=Kas.1 (by omega);subst this;refine Sz0 ?_;exact nR (HQ (by rw[cQ])) rfl
  refine Sz0 ?_;refine Qb (fun h1=>?_) (fun h1=>?_)
  ·obtain⟨p,rfl⟩:∃p,l=[p]:=List.length_eq_one_iff.1 (by omega);simp+decide (disch:=first|omega|rfl|(simp+decide only[go_sem,Kbd,Kbu]<;>rfl)|fail) only[go_sem,Kbd,Kbu];exact Qd (by rw[cQ];rfl) rfl
  have h2:2<=l.length:=by omega
  have hs:=Un l (l.length/2);have e:(2:Int)=((2:Nat):Int):=rfl;have hq:∀d fr hp K,cg .quo false (.int .i64 (l.length:Int)) (.int .i64 2) d fr hp K=K (af fr d (.int .i64 ((l.length/2:Nat):Int))) hp:=fun d fr hp K=>by rw[e,Ek (by omega) (by omega)]
  have b1:=Hk (K:=K) (E:=E) _ (l.take (l.length/2)) (Kac _) (fun p hp=>hb p (Kbc hp));have b2:=Hk (K:=K) (E:=E) _ (l.drop (l.length/2)) (Kac _) (fun p hp=>hb p (Kbx hp));have l1:(l.take (l.length/2)).length*K<=l.length*K:=Kaf _ (by rw[KaH];omega);have l2:(l.drop (l.length/2)).length*K<=l.length*K:=Kaf _ (by rw[Ka5];omega);refine Sz1 hq ?_;refine Qa hP (ih (l.take (l.length/2)) (by rw[KaH];omega) (fun p hp=>hb p (Kbc hp)) (by omega) (by rw[KaH];omega) (by omega)) rfl rfl rfl ?_;refine Sz1 hq ?_;refine Qa hP (ih (l.drop (l.length/2)) (by rw[Ka5];omega) (fun p hp=>hb p (Kbx hp)) (by omega) (by rw[Ka5];omega) (by omega)) rfl rfl rfl ?_;refine Sz1 hq ?_;refine Qa hP (Hq (b1.1.mono (K':=l.length*K) l1 (Kac _)) (b2.1.mono l2 (Kac _)) hK hE (by omega) (by omega)) rfl rfl rfl ?_;refine Sz0 ?_;exact Qd (by rw[zY h2]) rfl
theorem G3{p:List Tm}{t:Tm}{i:Nat}(h:i<p.length):bd (p.take (i+1)) t=bd (p.take i) t++(if p[i].1*t.1=0 then []else [(p[i].1*t.1,bm p[i].2 t.2)]):=by rw[Kah h,bd,KcO,bd];congr 1;simp only[Kbl,List.filterMap_nil];split<;>split<;>simp_all
theorem GR{p:List Tm}{t:Tm}{K E:Nat}(hp:PB K E p)(ht:TB K E t)(hK:K<=2^33)(hE:E<=2^38)(bV:p.length<=2^36):
  Qc Tryz.prog 110 [PV.aj p,PV.term t] (· =PV.aj (bd p t)):=by
 refine Qf Qo Tryz.func110 rfl agB (by simp[Js]) fun C hP=>?_;simp only[Js,Zo,Zg,Zm,Zc,Zf,Zl,Zh,Zs,Zi,Zb,Zk,Zn,Zu,Zq,Zr,Zz];refine Sz0 ?_;refine Qw (by repeat (first|exact Qr|exact Qk|exact Ql|exact Qm|exact Qn|apply Qj|apply Qq|apply Qx|apply Q5|apply Q6|apply Qi)) [(5,5),(7,8),(14,36)] [7,8,11,34,35] (fun n J hp=>∃i,n=p.length-i/\i<=p.length/\J 5= .ms 11 (bd (p.take i) t).length/\J 14= .int .i64 (i:Nat)/\hp 3=some ⟨4,54,[PV.term t],false⟩/\hp 11=some ⟨4,54,(bd (p.take i) t).map PV.term,false⟩) p.length ?_ ?_
 ·refine⟨0,rfl,by omega,?_⟩;refine Sz0 ?_;simp[bd]
 rintro _ J h ⟨i,rfl,hi,h5,cI,bB,Fv⟩;refine Sz2 h5 cI ?_;refine Qb (fun hg=>?_) (fun hg=>?_)
 ·have aB:i<p.length:=by omega
  have aV:=hp.get aB;have bj:=G3 (t:=t) aB;have hlen:=uV (p.take i) t;rw[KaH]at hlen;have c1:=aV.c;have c2:=ht.c;have hrm:=xT p[i].1 t.1;generalize hx:p[i]=x at *
  refine Sz4 h5 cI bB hx ?_;refine Qa hP (AM (a:=x.1) (b:=t.1) (k:=2^33) (by omega) (by omega) (by omega)) rfl rfl rfl ?_;refine Sz4 h5 cI bB hx ?_;refine Qa hP (vF (a:=x.1*t.1) (by omega)) rfl rfl rfl ?_;refine Sz4 h5 cI bB hx ?_;refine Qb (fun hz=>?_) (fun hz=>?_)
  ·rw[if_neg (fun h=>hz (gG.2 h))]at bj;refine Sz4 h5 cI bB hx ?_;refine Qa hP (Q8v aV.m ht.m (by omega)) rfl rfl rfl ?_;refine Sz4 h5 cI bB hx ?_;rw[Q9 (f:=PV.term) (y:=(x.1*t.1,bm x.2 t.2)) (xs:=bd (p.take i) t) (ty':=54) (fz:=false) (Tz1 Fv) cH (by omega) rfl (by omega) (by omega)];rw[<-bj];refine Sz4 h5 cI bB hx ?_;refine Qg (p.length-(i+1)) (by omega) ⟨i+1,rfl,by omega,?_⟩;rw[bj];simp+decide (disch:=first|omega|rfl|(simp+decide only[go_sem,h5,cI,bB,Kap]<;>rfl)|fail) only[go_sem,h5,cI,bB,Kap]
  ·rw[if_pos (gG.1 (Decidable.not_not.1 hz)),Kak]at bj;refine Sz4 h5 cI bB hx ?_;refine Qg (p.length-(i+1)) (by omega) ⟨i+1,rfl,by omega,?_⟩;rw[bj];exact Tz4 h5 cI bB Fv
 ·obtain rfl:i=p.length:=by omega
  rw[Kar]at h5 Fv;refine lk h5 Fv ?_;exact Qd (by simp[Kae]) rfl
theorem rP{p q:List Tm}{K E:Nat}(hp:PB K E p)(hq:PB K E q)(hE:E<=2^37)(bV:p.length<=2^30)(iy:q.length<=2^30)(wy:p.length*q.length<=2^36)(hK:min p.length q.length*(K+K)<=2^33)(l9:K<=2^33):
  Qc Tryz.prog 60 [PV.aj p,PV.aj q] (· =PV.aj (Q4 p q)):=by
 have main:∀(p q:List Tm),PB K E p->PB K E q->p.length<=2^30->q.length<=2^30->p.length*q.length<=2^36->p.length*(K+K)<=2^33->p.length<=q.length->True:=fun _ _ _ _ _ _ _ _ _=>trivial;refine Qf Qo Tryz.func60 rfl ajs (by simp[Lp]) fun C hP=>?_;simp only[Lp,Zo,Zg,Zm,Zc,Zf,Zl,Zh,Zs,Zi,Zb,Zk,Zn,Zu,Zq,Zr,Zz];refine Sz0 ?_;refine Qb (fun hg=>?_) (fun hg=>?_)
 ·have ki:oM q p=Q4 p q:=by rw[Q4,if_pos (by omega)]
  have VK:q.length*(K+K)<=2^33:=by rw[Kde (by omega)]at hK;exact hK
  have arl:q.length*p.length<=2^36:=by rw[KaU];exact wy
  refine Sz0 ?_;refine Qw (by repeat (first|exact Qr|exact Qk|exact Ql|exact Qm|exact Qn|apply Qj|apply Qq|apply Qx|apply Q5|apply Q6|apply Qi)) [(5,5),(7,7),(20,30)] [7,17,28,29] (fun n J hp=>∃i,n=q.length-i/\i<=q.length/\J 5= .ms 17 i/\J 20= .int .i64 (i:Nat)/\hp 17=some ⟨1,32,((q.take i).map (bd p)).map PV.aj,false⟩) q.length ?_ ?_
  ·refine⟨0,rfl,by omega,?_⟩;refine Sz0 ?_;simp
  rintro _ J h ⟨i,rfl,hi,h5,pS,hh⟩;refine Sz2 h5 pS ?_;refine Qb (fun fF=>?_) (fun fF=>?_)
  ·have aB:i<q.length:=by omega
   have aV:=hq.get aB;have bj:(q.take (i+1)).map (bd p)=(q.take i).map (bd p)++[bd p q[i]]:=by rw[Kah aB,List.map_append];rfl
   generalize hx:q[i]=x at *
   refine Sz3 h5 pS hx ?_;refine Qa hP (GR (t:=x) hp aV l9 (by omega) (by omega)) rfl rfl rfl ?_;refine Sz3 h5 pS hx ?_;rw[Q9 (f:=PV.aj) (y:=bd p x) (xs:=(q.take i).map (bd p)) (ty':=32) (fz:=false) (Tz1 hh) cH (by omega) (by simp;omega) (by omega) (by omega)];rw[<-bj];refine Sz3 h5 pS hx ?_;refine Qg (q.length-(i+1)) (by omega) ⟨i+1,rfl,by omega,?_⟩;exact Tz2 h5 pS
  ·obtain rfl:i=q.length:=by omega
   rw[Kar]at hh;have gS:=GJ q p;refine Sz2 h5 hh ?_;refine iQ hP (Uu (K:=K+K) (E:=E+E) (by omega) _ (q.map (bd p)) (Kac _) (fun x hx=>by obtain⟨t,ht,rfl⟩:=KaE.1 hx;exact tu hp (hq t ht)) (by rw[KaV];omega) (by rw[KaV];omega) (by omega)) (by simp+decide (disch:=try exact E1 hh) only[go_sem,hh,et,Kax,KaC,Kau,KaA,Kak];simp[Kae]) rfl ?_;refine Sz0 ?_;exact Qd (congrArg PV.aj ki) rfl
 ·have ki:oM p q=Q4 p q:=by rw[Q4,if_neg (by omega)]
  have VK:p.length*(K+K)<=2^33:=by rw[KbY (by omega)]at hK;exact hK
  refine Sz0 ?_;refine Qw (by repeat (first|exact Qr|exact Qk|exact Ql|exact Qm|exact Qn|apply Qj|apply Qq|apply Qx|apply Q5|apply Q6|apply Qi)) [(5,5),(7,7),(20,30)] [7,17,28,29] (fun n J hp=>∃i,n=p.length-i/\i<=p.length/\J 5= .ms 17 i/\J 20= .int .i64 (i:Nat)/\hp 17=some ⟨1,32,((p.take i).map (bd q)).map PV.aj,false⟩) p.length ?_ ?_
  ·refine⟨0,rfl,by omega,?_⟩;refine Sz0 ?_;simp
  rintro _ J h ⟨i,rfl,hi,h5,pS,hh⟩;refine Sz2 h5 pS ?_;refine Qb (fun fF=>?_) (fun fF=>?_)
  ·have aB:i<p.length:=by omega
   have aV:=hp.get aB;have bj:(p.take (i+1)).map (bd q)=(p.take i).map (bd q)++[bd q p[i]]:=by rw[Kah aB,List.map_append];rfl
   generalize hx:p[i]=x at *
   refine Sz3 h5 pS hx ?_;refine Qa hP (GR (t:=x) hq aV l9 (by omega) (by omega)) rfl rfl rfl ?_;refine Sz3 h5 pS hx ?_;rw[Q9 (f:=PV.aj) (y:=bd q x) (xs:=(p.take i).map (bd q)) (ty':=32) (fz:=false) (Tz1 hh) cH (by omega) (by simp;omega) (by omega) (by omega)];rw[<-bj];refine Sz3 h5 pS hx ?_;refine Qg (p.length-(i+1)) (by omega) ⟨i+1,rfl,by omega,?_⟩;exact Tz2 h5 pS
  ·obtain rfl:i=p.length:=by omega
   rw[Kar]at hh;have gS:=GJ p q;refine Sz2 h5 hh ?_;refine iQ hP (Uu (K:=K+K) (E:=E+E) (by omega) _ (p.map (bd q)) (Kac _) (fun x hx=>by obtain⟨t,ht,rfl⟩:=KaE.1 hx;exact tu hq (hp t ht)) (by rw[KaV];omega) (by rw[KaV];omega) (by omega)) (by simp+decide (disch:=try exact E1 hh) only[go_sem,hh,et,Kax,KaC,Kau,KaA,Kak];simp[Kae]) rfl ?_;refine Sz0 ?_;exact Qd (congrArg PV.aj ki) rfl
theorem CK{p:List Tm}{a:Rat}{K E:Nat}(hp:PB K E p)(ha:rs a+1<=K)(hK:K<=2^33)(hE:E<=2^38)(bV:p.length<=2^36):Qc Tryz.prog 121 [PV.aj p,PV.rat a] (· =PV.aj (b8 p a)):=by
 refine Qf Qo Tryz.func121 rfl agC (by simp[JB]) fun C hP=>?_;simp only[JB,Zo,Zg,Zm,Zc,Zf,Zl,Zh,Zs,Zi,Zb,Zk,Zn,Zu,Zq,Zr,Zz];refine Sz0 ?_;refine Qa hP (vF (a:=a) (by omega)) rfl rfl rfl ?_;refine Sz0 ?_;refine Qb (fun h0=>?_) (fun h0=>?_)
 ·refine Sz0 ?_;exact nR (HQ (by rw[b8,if_pos (gG.1 h0)])) rfl
 ·refine Sz0 ?_;refine Qa hP ((GR (t:=(a,[])) hp (TB.num ha) hK hE bV).le (args':=[PV.aj p,.agg [.bool (decide (a.num<0)),PV.num a.num.natAbs,PV.num a.den,.aa]]) ⟨Qy _,⟨rfl,Ae _,Ae _,trivial,trivial⟩,trivial⟩) rfl rfl rfl ?_;refine Sz0 ?_;exact Qd (by rw[b8,if_neg (fun h=>h0 (gG.2 h))]) rfl
theorem Q8w{p:List Tm}{K E:Nat}(hp:PB K E p)(l9:2<=K)(hK:K<=2^33)(hE:E<=2^38)(bV:p.length<=2^36):Qc Tryz.prog 157 [PV.aj p] (· =PV.aj (lj p)):=by have h1:=Gy;refine Qf Qo Tryz.func157 rfl agy (by simp[Ke]) fun C hP=>?_;simp only[Ke,Zo,Zg,Zm,Zc,Zf,Zl,Zh,Zs,Zi,Zb,Zk,Zn,Zu,Zq,Zr,Zz];refine Sz0 ?_;refine Qa hP (rN (x:= -1) (by omega) (by omega)) rfl rfl rfl ?_;refine Sz0 ?_;refine Qa hP (CK (a:=((-1:Int):Rat)) hp (by have:((-1:Int):Rat)= -1:=rfl;rw[this];omega) hK hE bV) rfl rfl rfl ?_;refine Sz0 ?_;exact Qd rfl rfl
theorem Hr{p q:List Tm}{K E:Nat}(hp:PB K E p)(hq:PB K E q)(l9:2<=K)(hK:K<=2^32)(hE:E<=2^38)(bV:p.length<=2^36)(iy:q.length<=2^36):Qc Tryz.prog 109 [PV.aj p,PV.aj q] (· =PV.aj (fV p q)):=by have hl:=uW q (-1);refine Qf Qo Tryz.func109 rfl agA (by simp[Jq]) fun C hP=>?_;simp only[Jq,Zo,Zg,Zm,Zc,Zf,Zl,Zh,Zs,Zi,Zb,Zk,Zn,Zu,Zq,Zr,Zz];refine Sz0 ?_;refine Qa hP (Q8w hq l9 (by omega) hE iy) rfl rfl rfl ?_;refine Sz0 ?_;refine Qa hP (Hq (hp.mono (K':=K+2) (by omega) (Kac _)) (xK hq) (by omega) hE bV (by show(b8 q (-1)).length<=_;omega)) rfl rfl rfl ?_;refine Sz0 ?_;exact Qd rfl rfl
theorem Q8x{n:Bool}{a d:List Nat}{k:Nat}(hp:Raw k n a d)(hk:k<2^36):Qc Tryz.prog 48 [PV.rr n a d,PV.rat ((0:Int):Rat)] (· =PV.rat (rv n a d)):=by
 have h0:rs ((0:Int):Rat)<=k:=by have:=NU;have:=hp.k1;have e:((0:Int):Rat)=0:=rfl;rw[e];omega
 have:=Ol hp (iG h0) hk;rw[gY]at this;have e:rv n a d+((0:Int):Rat)=rv n a d:=Rat.add_zero _
 rwa[e]at this
theorem YR{n:Bool}{a d:List Nat}{k:Nat}(hp:Raw k n a d)(hk:k<2^36):Qc Tryz.prog 65 [PV.rr n a d] (· =PV.aj (dm (rv n a d))):=by have hr:=hp.rs;refine Qf Qo Tryz.func65 rfl ajq (by simp[Lw]) fun C hP=>?_;simp only[Lw,Zo,Zg,Zm,Zc,Zf,Zl,Zh,Zs,Zi,Zb,Zk,Zn,Zu,Zq,Zr,Zz];refine Sz0 ?_;refine Qa hP (rN (x:=0) (by omega) (by omega)) rfl rfl rfl ?_;refine Sz0 ?_;refine Qa hP (Q8x hp hk) rfl rfl rfl ?_;refine Sz0 ?_;refine Qa hP ((Yq (c:=rv n a d) (m:=[]) (by omega)).le (args':=[PV.rat (rv n a d),.aa]) ⟨Qy _,trivial,trivial⟩) rfl rfl rfl ?_;refine Sz0 ?_;exact Qd rfl rfl
theorem Zj{s t:Tm}{K E:Nat}(hs:TB K E s)(ht:TB K E t)(hK:K<=2^33)(hE:E<=2^38):Qc Tryz.prog 125 [PV.term s,PV.term t] (· = .int .i64 (mW s t)):=by
 have c1:=hs.c;have c2:=ht.c;refine Qf Qo Tryz.func125 rfl agx (by simp[JF]) fun C hP=>?_;simp only[JF,Zo,Zg,Zm,Zc,Zf,Zl,Zh,Zs,Zi,Zb,Zk,Zn,Zu,Zq,Zr,Zz];refine Sz0 ?_;refine Qa hP (Ut (s:=s) (t:=t) hs.m ht.m hE) rfl rfl rfl ?_;refine Sz0 ?_;refine Qb (fun h=>?_) (fun h=>?_)
 ·refine Sz0 ?_;exact Qd (by rw[mW,if_pos h]) rfl
 ·refine Sz0 ?_;refine Qa hP (alv (a:=s.1) (b:=t.1) (k:=2^33) (by omega) (by omega) (by omega)) rfl rfl rfl ?_;refine Sz0 ?_;exact Qd (by rw[mW,if_neg h]) rfl
theorem Qso{p q:List Tm}{K E:Nat}(hp:PB K E p)(hq:PB K E q)(hK:K<=2^33)(hE:E<=2^38)(bV:p.length<=2^36)(iy:q.length<=2^36):
  Qc Tryz.prog 127 [PV.aj p,PV.aj q,.fn 125 [] []] (· = .int .i64 (ia p q)):=by
 refine Qf Qo Tryz.func127 rfl agD (by simp[JH]) fun C hP=>?_;simp only[JH,Zo,Zg,Zm,Zc,Zf,Zl,Zh,Zs,Zi,Zb,Zk,Zn,Zu,Zq,Zr,Zz];refine Sz0 ?_;refine Qw (by repeat (first|exact Qr|exact Qk|exact Ql|exact Qm|exact Qn|apply Qj|apply Qq|apply Qx|apply Q5|apply Q6|apply Qi)) [(6,10),(13,33)] [8,9] (fun n J hp=>∃i,n=p.length-i/\i<=p.length/\(i<=q.length)/\ia (p.drop i) (q.drop i)=ia p q/\J 13= .int .i64 (i:Nat)) p.length ?_ ?_
 ·refine⟨0,rfl,by omega,by omega,rfl,?_⟩;refine Sz0 ?_;rfl
 rintro _ J h ⟨i,rfl,hi,mc,gq,bX⟩;refine Sz1 bX ?_;refine Qb (fun hg=>?_) (fun hg=>?_)
 ·have aB:i<p.length:=by omega
  have aV:=hp.get aB;have hdp:p.drop i=p[i]::p.drop (i+1):=Kaz aB;have Ng:=fun hk=>UQ (q:=q) aB hk;generalize hx:p[i]=x at *
  refine Sz2 bX hx ?_;refine Qb (fun hk=>?_) (fun hk=>?_)
  ·rw[hdp,Kan (show q.length<=i by omega),ia]at gq;refine Sz0 ?_;exact Qd (by rw[gq]) rfl
  ·have en:i<q.length:=by omega
   have oA:=hq.get en;have Ng:=Ng en;generalize hy:q[i]=y at *
   rw[Ng]at gq;refine Sz3 bX hx hy ?_;refine Qa hP (Zj (s:=x) (t:=y) aV oA hK hE) rfl rfl rfl ?_;refine Sz3 bX hx hy ?_;refine Qb (fun hc=>?_) (fun hc=>?_)
   ·rw[if_pos hc]at gq;refine Sz0 ?_;exact Qd (by rw[gq]) rfl
   ·rw[if_neg hc]at gq;refine Sz1 bX ?_;refine Qg (p.length-(i+1)) (by omega) ⟨i+1,rfl,by omega,by omega,gq,?_⟩;exact Tz0
 ·obtain rfl:i=p.length:=by omega
  rw[Kan (Kac _),Aj]at gq;refine Sz0 ?_;refine Qb (fun hk=>?_) (fun hk=>?_)
  ·rw[if_neg (by rw[Ka5];omega)]at gq;refine Sz0 ?_;exact Qd (by rw[gq]) rfl
  ·rw[if_pos (by rw[Ka5];omega)]at gq;refine Sz0 ?_;exact Qd (by rw[gq]) rfl
theorem Q8y{p q:List Tm}{K E:Nat}(hp:PB K E p)(hq:PB K E q)(hK:K<=2^33)(hE:E<=2^38)(bV:p.length<=2^36)(iy:q.length<=2^36):Qc Tryz.prog 68 [PV.aj p,PV.aj q] (· = .int .i64 (ia p q)):=by refine Qf Qo Tryz.func68 rfl ajr (by simp[Ly]) fun C hP=>?_;simp only[Ly,Zo,Zg,Zm,Zc,Zf,Zl,Zh,Zs,Zi,Zb,Zk,Zn,Zu,Zq,Zr,Zz];refine Sz0 ?_;refine Qa hP (Qso hp hq hK hE bV iy) rfl rfl rfl ?_;refine Sz0 ?_;exact Qd rfl rfl
end Go.Proofs.YtdjoomkeehihmaaGreat
namespace Go.FW
open Go
def aR(φ:List Int->Rat):List Tm->Rat
 | []=>0
 |t::p=>t.1*φ t.2+aR φ p
theorem gX(φ:List Int->Rat):aR φ []=0:=rfl
theorem dF(φ:List Int->Rat)(t:Tm)(p:List Tm):aR φ (t::p)=t.1*φ t.2+aR φ p:=rfl
theorem TT(φ:List Int->Rat):∀(p q:List Tm),aR φ (p++q)=aR φ p+aR φ q
 | [],q=>by rw[KaN,gX];grind
 |t::p,q=>by rw[KaQ,dF,dF,TT φ p q];grind
theorem jT{φ ψ:List Int->Rat}:∀ {p:List Tm},(∀t∈p,φ t.2=ψ t.2)->aR φ p=aR ψ p
 | [],_=>rfl
 |t::p,h=>by rw[dF,dF,h t (by simp),jT (p:=p) (fun x hx=>h x (by simp[hx]))]
theorem QT(φ ψ:List Int->Rat):∀(p:List Tm),aR (fun m=>φ m+ψ m) p=aR φ p+aR ψ p
 | []=>by simp only[gX];grind
 |t::p=>by simp only[dF];rw[QT φ ψ p];grind
theorem DW(c:Rat)(φ:List Int->Rat):∀(p:List Tm),aR (fun m=>c*φ m) p=c*aR φ p
 | []=>by simp only[gX];grind
 |t::p=>by simp only[dF];rw[DW c φ p];grind
theorem Po:∀(p:List Tm),aR (fun _=>0) p=0
 | []=>rfl
 |t::p=>by simp only[dF];rw[Po p];grind
theorem xG(ψ:List Int->List Int->Rat)(q:List Tm):∀(p:List Tm),aR (fun m=>aR (fun n=>ψ m n) q) p=aR (fun n=>aR (fun m=>ψ m n) p) q
 | []=>by simp only[gX];rw[Po]
 |t::p=>by simp only[dF];rw[xG ψ q p,QT (fun n=>t.1*ψ t.2 n),DW]
def Can(p:List Tm):Prop:=∀t∈p,t.2.getLast? ≠some 0
def NZ(p:List Tm):Prop:=∀t∈p,t.1≠0
structure az(p:List Tm):Prop where
 c:Can p
 z:NZ p
 s:fi p
theorem Can.cons{t:Tm}{p:List Tm}:Can (t::p)↔t.2.getLast? ≠some 0/\Can p:=by simp[Can]
theorem NZ.cons{t:Tm}{p:List Tm}:NZ (t::p)↔t.1≠0/\NZ p:=by simp[NZ]
theorem az.nil:az []:=⟨by simp[Can],by simp[NZ],trivial⟩
theorem az.tail{t:Tm}{p:List Tm}(h:az (t::p)):az p:=⟨(Can.cons.1 h.c).2,(NZ.cons.1 h.z).2,h.s.2⟩
theorem az.one{t:Tm}(h:t.1≠0)(hm:t.2.getLast? ≠some 0):az [t]:=⟨by simpa[Can]using hm,by simpa[NZ]using h,⟨by simp,trivial⟩⟩
theorem rG.nF{p:List Tm}(h:rG p):az p:=⟨fun t ht=>SV (h.t t ht).m,fun t ht=>(h.t t ht).c,h.s⟩
theorem HX{E:Nat}{a:List Int}(h:MB E a)(hE:E<=1048576)(hl:a.getLast? ≠some 0):fK a=true:=by simp only[fK,Kat,decide_eq_true_eq,Kav];exact⟨h.len,hl,fun x hx=>⟨h.lo x hx,by have:=h.hi x hx;omega⟩⟩
theorem az.NO{K E:Nat}{p:List Tm}(h:az p)(hb:PB K E p)(hE:E<=1048576):rG p:=
 ⟨fun t ht=>⟨h.z t ht,HX (hb t ht).m hE (hb t ht).l⟩,h.s⟩
theorem pI{φ:List Int->Rat}:∀ {p q:List Tm},Can p->Can q->aR φ (Q8 p q)=aR φ p+aR φ q:=by
 intro p q;induction p,q using Q8.induct with
 |case1 q=>rw[Q8,gX];intros;grind
 |case2 p h=>rw[lf,gX];intros;grind
 |case3 c m p d l q h ih=>intro hp hq;rw[Q8,if_pos h,dF,dF,ih (Can.cons.1 hp).2 hq];grind
 |case4 c m p d l q h1 h2 ih=>intro hp hq;rw[Q8,if_neg h1,if_pos h2,dF,ih hp (Can.cons.1 hq).2,dF φ (d,l)];grind
 |case5 c m p d l q h1 h2 h3 ih=>
  intro hp hq;have e:=Hl h1 h2 (Can.cons.1 hp).1 (Can.cons.1 hq).1;rw[Q8,if_neg h1,if_neg h2,if_pos h3,ih (Can.cons.1 hp).2 (Can.cons.1 hq).2,dF,dF];subst e;have:c*φ m+d*φ m=0:=by rw[<-Rat.add_mul,h3];grind
  grind
 |case6 c m p d l q h1 h2 h3 ih=>intro hp hq;have e:=Hl h1 h2 (Can.cons.1 hp).1 (Can.cons.1 hq).1;rw[Q8,if_neg h1,if_neg h2,if_neg h3,dF,ih (Can.cons.1 hp).2 (Can.cons.1 hq).2,dF,dF];subst e;grind
theorem tD:∀ {p q:List Tm} {t:Tm},t∈Q8 p q->(∃s∈p,s.2=t.2)∨(∃s∈q,s.2=t.2):=by
 intro p q;induction p,q using Q8.induct with
 |case1 q=>rw[Q8];intro t ht;exact Or.inr ⟨t,ht,rfl⟩
 |case2 p h=>rw[lf];intro t ht;exact Or.inl ⟨t,ht,rfl⟩
 | case3 c m p d l q h ih=>
  intro t ht;rw[Q8,if_pos h]at ht;rcases KaP.1 ht with rfl|ht
  ·exact Or.inl ⟨_,by simp,rfl⟩
  ·rcases ih ht with⟨s,h1,h2⟩|h1
   ·exact Or.inl ⟨s,by simp[h1],h2⟩
   ·exact Or.inr h1
 | case4 c m p d l q h1 h2 ih=>
  intro t ht;rw[Q8,if_neg h1,if_pos h2]at ht;rcases KaP.1 ht with rfl|ht
  ·exact Or.inr ⟨_,by simp,rfl⟩
  ·rcases ih ht with h3|⟨s,h3,h4⟩
   ·exact Or.inl h3
   ·exact Or.inr ⟨s,by simp[h3],h4⟩
 |case5 c m p d l q h1 h2 h3 ih=>
  intro t ht;rw[Q8,if_neg h1,if_neg h2,if_pos h3]at ht;rcases ih ht with⟨s,h4,h5⟩|⟨s,h4,h5⟩
  ·exact Or.inl ⟨s,by simp[h4],h5⟩
  ·exact Or.inr ⟨s,by simp[h4],h5⟩
 | case6 c m p d l q h1 h2 h3 ih=>
  intro t ht;rw[Q8,if_neg h1,if_neg h2,if_neg h3]at ht;rcases KaP.1 ht with rfl|ht
  ·exact Or.inl ⟨(c,m),by simp,rfl⟩
  ·rcases ih ht with⟨s,h4,h5⟩|⟨s,h4,h5⟩
   ·exact Or.inl ⟨s,by simp[h4],h5⟩
   ·exact Or.inr ⟨s,by simp[h4],h5⟩
theorem Pp{p q:List Tm}(hp:Can p)(hq:Can q):Can (Q8 p q):=fun t ht=>by
 rcases tD ht with⟨s,h1,h2⟩|⟨s,h1,h2⟩
 ·rw[<-h2];exact hp s h1
 ·rw[<-h2];exact hq s h1
theorem agR:∀ {p q:List Tm},NZ p->NZ q->NZ (Q8 p q):=by
 intro p q;induction p,q using Q8.induct with
 |case1 q=>rw[Q8];exact fun _ h=>h
 |case2 p h=>rw[lf];exact fun h _=>h
 |case3 c m p d l q h ih=>intro hp hq;rw[Q8,if_pos h,NZ.cons];exact⟨(NZ.cons.1 hp).1,ih (NZ.cons.1 hp).2 hq⟩
 |case4 c m p d l q h1 h2 ih=>intro hp hq;rw[Q8,if_neg h1,if_pos h2,NZ.cons];exact⟨(NZ.cons.1 hq).1,ih hp (NZ.cons.1 hq).2⟩
 |case5 c m p d l q h1 h2 h3 ih=>intro hp hq;rw[Q8,if_neg h1,if_neg h2,if_pos h3];exact ih (NZ.cons.1 hp).2 (NZ.cons.1 hq).2
 |case6 c m p d l q h1 h2 h3 ih=>intro hp hq;rw[Q8,if_neg h1,if_neg h2,if_neg h3,NZ.cons];exact⟨h3,ih (NZ.cons.1 hp).2 (NZ.cons.1 hq).2⟩
theorem Q8z{a b c:List Int}(h:aS a b=0)(h2:0<aS b c):0<aS a c:=by
 have e:∀i,eN a i=eN b i:=by
  intro i;have:=(Dr a b _).1 h;by_cases hi:i<max a.length b.length
  ·exact this i hi
  ·rw[fA (by omega),fA (by omega)]
 rw[Q8d e (fun _=>rfl)];exact h2
theorem Tr:∀ {p q:List Tm},fi p->fi q->fi (Q8 p q):=by
 intro p q;induction p,q using Q8.induct with
 |case1 q=>rw[Q8];exact fun _ h=>h
 |case2 p h=>rw[lf];exact fun h _=>h
 | case3 c m p d l q h ih=>
  intro hp hq;rw[Q8,if_pos h];refine⟨fun t ht=>?_,ih hp.2 hq⟩;rcases tD ht with⟨s,h1,h2⟩|⟨s,h1,h2⟩
  ·rw[<-h2];exact hp.1 s h1
  ·rw[<-h2];rcases KaP.1 h1 with rfl|h1
   ·exact h
   ·exact xd h (hq.1 s h1)
 | case4 c m p d l q h1 h2 ih=>
  intro hp hq;rw[Q8,if_neg h1,if_pos h2];have nh:0<aS l m:=by have:=vm m l;omega
  refine⟨fun t ht=>?_,ih hp hq.2⟩;rcases tD ht with⟨s,h3,h4⟩|⟨s,h3,h4⟩
  ·rw[<-h4];rcases KaP.1 h3 with rfl|h3
   ·exact nh
   ·exact xd nh (hp.1 s h3)
  ·rw[<-h4];exact hq.1 s h3
 |case5 c m p d l q h1 h2 h3 ih=>intro hp hq;rw[Q8,if_neg h1,if_neg h2,if_pos h3];exact ih hp.2 hq.2
 |case6 c m p d l q h1 h2 h3 ih=>
  intro hp hq;rw[Q8,if_neg h1,if_neg h2,if_neg h3];refine⟨fun t ht=>?_,ih hp.2 hq.2⟩;rcases tD ht with⟨s,h4,h5⟩|⟨s,h4,h5⟩
  ·rw[<-h5];exact hp.1 s h4
  ·rw[<-h5];exact Q8z (b:=l) (by show aS m l=0;omega) (hq.1 s h4)
theorem nQ{p q:List Tm}(hp:az p)(hq:az q):az (Q8 p q):=⟨Pp hp.c hq.c,agR hp.z hq.z,Tr hp.s hq.s⟩
def ind(m:List Int):List Int->Rat:=fun n=>if n=m then 1 else 0
theorem CZ{m:List Int}:∀ {p:List Tm},(∀t∈p,t.2≠m)->aR (ind m) p=0
 | [],_=>rfl
 |t::p,h=>by rw[dF,CZ (p:=p) (fun x hx=>h x (by simp[hx])),ind,if_neg (h t (by simp))];grind
theorem tO{a b:List Int}(h:0<aS a b):b≠a:=by rintro rfl;rw[zX]at h;omega
theorem xh{t:Tm}{p:List Tm}(h:fi (t::p)):aR (ind t.2) (t::p)=t.1:=by rw[dF,CZ (fun s hs=>tO (h.1 s hs)),ind,if_pos rfl];grind
theorem r6:∀ {p q:List Tm},az p->az q->(∀φ,aR φ p=aR φ q)->p=q
 | [],[],_,_,_=>rfl
 | [],t::q,_,hq,h=>by have:=h (ind t.2);rw[xh hq.s,gX]at this;exact absurd this.symm (hq.z t (by simp))
 |t::p,[],hp,_,h=>by have:=h (ind t.2);rw[xh hp.s,gX]at this;exact absurd this (hp.z t (by simp))
 | s ::p,t::q,hp,hq,h=>by
  by_cases h1:0<aS s.2 t.2
  ·have:=h (ind s.2);rw[xh hp.s,CZ (fun x hx=>?_)]at this
   ·exact absurd this (hp.z s (by simp))
   ·rcases KaP.1 hx with rfl|hx
    ·exact tO h1
    ·exact tO (xd h1 (hq.s.1 x hx))
  ·by_cases h2:aS s.2 t.2<0
   ·have nh:0<aS t.2 s.2:=by have:=vm s.2 t.2;omega
    have:=h (ind t.2);rw[xh hq.s,CZ (fun x hx=>?_)]at this
    ·exact absurd this.symm (hq.z t (by simp))
    ·rcases KaP.1 hx with rfl|hx
     ·exact tO nh
     ·exact tO (xd nh (hp.s.1 x hx))
   ·have e:=Hl h1 h2 (hp.c s (by simp)) (hq.c t (by simp));have e2:=h (ind s.2);rw[xh hp.s,e,xh hq.s]at e2;have e3:s=t:=Prod.ext e2 e;subst e3;rw[r6 hp.tail hq.tail (fun φ=>by have:=h φ;rw[dF,dF]at this;grind)]
theorem acB{φ:List Int->Rat}:∀(n:Nat)(l:List (List Tm)),l.length<=n->(∀p∈l,Can p)->Can (cQ l)/\aR φ (cQ l)=(l.map (aR φ)).sum:=by
 intro n;induction n with
 |zero=>intro l hl _;have:l=[]:=Kas.1 (by omega);subst this;rw[cQ];exact⟨az.nil.c,rfl⟩
 | succ n ih=>
  intro l hl h
  match l,h with
  | [],_=>rw[cQ];exact⟨az.nil.c,rfl⟩
  | [p],h=>rw[cQ];exact⟨h p (by simp),by simp;grind⟩
  |p::q::r,h=>
   rw[zY (by simp)];generalize hL:p::q::r=L at *
   have hlen:2<=L.length:=by rw[<-hL];simp
   obtain⟨a1,a2⟩:=ih (L.take (L.length/2)) (by rw[KaH];omega) (fun x hx=>h x (Kbc hx));obtain⟨b1,b2⟩:=ih (L.drop (L.length/2)) (by rw[Ka5];omega) (fun x hx=>h x (Kbx hx));refine⟨Pp a1 b1,?_⟩;rw[pI a1 b1,a2,b2,<-List.sum_append,<-List.map_append,Kbo]
theorem aeo:∀(n:Nat)(l:List (List Tm)),l.length<=n->(∀p∈l,az p)->az (cQ l):=by
 intro n;induction n with
 |zero=>intro l hl _;have:l=[]:=Kas.1 (by omega);subst this;rw[cQ];exact az.nil
 | succ n ih=>
  intro l hl h
  match l,h with
  | [],_=>rw[cQ];exact az.nil
  | [p],h=>rw[cQ];exact h p (by simp)
  | p::q::r,h=>
   rw[zY (by simp)];generalize hL:p::q::r=L at *
   have hlen:2<=L.length:=by rw[<-hL];simp
   exact nQ (ih (L.take (L.length/2)) (by rw[KaH];omega) (fun x hx=>h x (Kbc hx)))
    (ih (L.drop (L.length/2)) (by rw[Ka5];omega) (fun x hx=>h x (Kbx hx)))
theorem Dc(φ:List Int->Rat)(t:Tm):∀(p:List Tm),aR φ (bd p t)=t.1*aR (fun m=>φ (bm m t.2)) p
 | []=>by rw[bd,List.filterMap_nil,gX,gX];grind
 | s::p=>by
  have ih:=Dc φ t p;rw[bd]at ih⊢;rw[Kbl];by_cases h:s.1*t.1=0
  ·simp only[h,if_true,dF];rw[ih];have:t.1*(s.1*φ (bm s.2 t.2))=(s.1*t.1)*φ (bm s.2 t.2):=by grind
   rw[Rat.mul_add,this,h];grind
  ·simp only[h,if_false,dF];rw[ih];grind
theorem Hs(p:List Tm)(t:Tm):Can (bd p t):=by
 intro x hx;simp only[bd,KbR]at hx;obtain⟨y,hy,h⟩:=hx;split at h
 ·cases h
 ·cases h;exact pC _ _
theorem acC(p:List Tm)(t:Tm):NZ (bd p t):=by
 intro x hx;simp only[bd,KbR]at hx;obtain⟨y,hy,h⟩:=hx;split at h
 ·cases h
 ·rename_i h0;cases h;exact h0
theorem SD(t:Tm):∀(p:List Tm),fi p->fi (bd p t)
 | [],_=>trivial
 | s ::p,hp=>by
  have ih:=SD t p hp.2;rw[bd]at ih⊢;rw[Kbl];split
  ·exact ih
  ·rename_i b hb;split at hb
   ·cases hb
   ·cases hb;refine⟨fun x hx=>?_,ih⟩;simp only[KbR]at hx;obtain⟨y,hy,h⟩:=hx;split at h
    ·cases h
    ·cases h;simp only[aef];exact hp.1 y hy
theorem Ht{p:List Tm}(t:Tm)(hp:fi p):az (bd p t):=⟨Hs _ _,acC _ _,SD t p hp⟩
theorem TU(φ:List Int->Rat)(q:List Tm):∀(p:List Tm),((p.map (bd q)).map (aR φ)).sum=aR (fun m=>aR (fun n=>φ (bm m n)) q) p
 | []=>rfl
 |t::p=>by rw[Kbd,Kbd,Kdj,TU φ q p,Dc,dF];congr 2;exact jT fun s _=>by rw[xv]
theorem Om(φ:List Int->Rat)(p q:List Tm):aR φ (oM p q)=aR (fun m=>aR (fun n=>φ (bm m n)) q) p:=by rw[oM,(acB (φ:=φ) _ _ (Kac _) ?_).2,TU];intro x hx;obtain⟨t,_,rfl⟩:=KaE.1 hx;exact Hs _ _
theorem gU(φ:List Int->Rat)(p q:List Tm):aR φ (Q4 p q)=aR (fun m=>aR (fun n=>φ (bm m n)) q) p:=by
 unfold Q4;split
 ·rw[Om,xG (fun m n=>φ (bm m n))];exact jT fun s _=>jT fun t _=>by rw[xv]
 ·exact Om φ p q
theorem On{p q:List Tm}(hq:fi q):az (oM p q):=aeo _ _ (Kac _) fun x hx=>by obtain⟨t,_,rfl⟩:=KaE.1 hx;exact Ht t hq
theorem dN{p q:List Tm}(hp:fi p)(hq:fi q):az (Q4 p q):=by
 unfold Q4;split
 ·exact On hp
 ·exact On hq
theorem He(φ:List Int->Rat){p:List Tm}(hp:Can p)(a:Rat):aR φ (b8 p a)=a*aR φ p:=by
 unfold b8;split
 ·rename_i h;rw[h,gX];grind
 ·rw[Dc];congr 1;exact jT fun s hs=>by rw[tC (hp s hs)]
theorem qC{p:List Tm}(hp:fi p)(a:Rat):az (b8 p a):=by
 unfold b8;split
 ·exact az.nil
 ·exact Ht _ hp
theorem aep(φ:List Int->Rat){p:List Tm}(hp:Can p):aR φ (lj p)= -aR φ p:=by rw[lj,He φ hp];grind
theorem H6(φ:List Int->Rat){p q:List Tm}(hp:Can p)(hq:az q):aR φ (fV p q)=aR φ p-aR φ q:=by rw[fV,pI hp (show Can (lj q)from(qC hq.s _).c),aep φ hq.c];grind
theorem vn{p q:List Tm}(hp:az p)(hq:az q):az (fV p q):=nQ hp (qC hq.s _)
theorem Du{p q:List Tm}(hp:az p)(hq:az q):Q4 p q=Q4 q p:=
 r6 (dN hp.s hq.s) (dN hq.s hp.s) fun φ=>by rw[gU,gU,xG (fun m n=>φ (bm m n))];exact jT fun s _=>jT fun t _=>by rw[xv]
theorem Dd{p q r:List Tm}(hp:az p)(hq:az q)(hr:az r):Q4 (Q4 p q) r=Q4 p (Q4 q r):=
 r6 (dN (dN hp.s hq.s).s hr.s) (dN hp.s (dN hq.s hr.s).s) fun φ=>by rw[gU,gU,gU];refine jT fun s _=>?_;rw[gU (fun n=>φ (bm s.2 n))];exact jT fun t _=>jT fun u _=>by rw[Q8e]
theorem Oo{p q r:List Tm}(hp:az p)(hq:az q)(hr:az r):Q4 (Q8 p q) r=Q8 (Q4 p r) (Q4 q r):=
 r6 (dN (Tr hp.s hq.s) hr.s) (nQ (dN hp.s hr.s) (dN hq.s hr.s)) fun φ=>by rw[gU,pI (dN hp.s hr.s).c (dN hq.s hr.s).c,gU,gU,pI hp.c hq.c]
theorem xp(a:Rat):az (dm a):=by
 unfold dm;split
 ·exact az.nil
 ·rename_i h;exact az.one h (by simp)
theorem Q80(φ:List Int->Rat)(a:Rat):aR φ (dm a)=a*φ []:=by
 unfold dm;split
 ·rename_i h;rw[h,gX];grind
 ·rw[dF,gX];grind
theorem Pq{p:List Tm}(hp:az p):Q4 (dm 1) p=p:=
 r6 (dN (xp 1).s hp.s) hp fun φ=>by
  rw[gU,Q80];have:aR (fun n=>φ (bm [] n)) p=aR φ p:=jT fun s hs=>by rw[xv,tC (hp.c s hs)]
  rw[this];grind
def mU(p q:List Tm):List Tm:=q.foldl (fun out t=>Q8 out (bd p t)) []
theorem Oq(p:List Tm)(hp:az p):∀(q out:List Tm),az out->az (q.foldl (fun out t=>Q8 out (bd p t)) out)/\
  ∀φ,aR φ (q.foldl (fun out t=>Q8 out (bd p t)) out)=aR φ out+aR (fun m=>aR (fun n=>φ (bm n m)) p) q
 | [],out,h=>⟨h,fun φ=>by rw[List.foldl_nil,gX];grind⟩
 |t::q,out,h=>by obtain⟨h1,h2⟩:=Oq p hp q (Q8 out (bd p t)) (nQ h (Ht t hp.s));refine⟨h1,fun φ=>?_⟩;rw[KcK,h2,pI h.c (Hs _ _),Dc,dF];grind
theorem vr{p q:List Tm}(hp:az p)(hq:az q):mU p q=Q4 p q:=by obtain⟨h1,h2⟩:=Oq p hp q [] az.nil;refine r6 h1 (dN hp.s hq.s) fun φ=>?_;rw[mU,h2,gU,gX,xG (fun m n=>φ (bm m n))];grind
variable {C : Ctx} {fr : Fr} {hp : HP} {w : World} {K R : Qh}
theorem Zp{e by_ ty d:Nat}(h0:0<e):iU e by_ ty .aa (.sl e []) d fr hp K=K (af (cK d fr) d (.ms d 0)) (Qz hp d ⟨e,ty,[],false⟩):=by have:=C7 (fr:=fr) (hp:=hp) (K:=K) (e:=e) (by_:=by_) (ty:=ty) (d:=d) (x:=.sl e []) (ys:=[]) rfl h0 (by simp) (by simp);simpa using this
def bh(p:List Tm):Bool:=decide (4000<p.length)||p.any fun t=>t.2.any fun x=>decide (1048576<x)
end Go.FW
namespace Go.FW
open Go
theorem IY{m:List Int}{c:Rat}:∀ {u v:List Tm},(∀t∈u,0<aS t.2 m)->(∀t∈v,aS t.2 m<0)->Q8 (u++v) [(c,m)]=u++(c,m)::v
 | [],[],_,_=>by rw[KaN,pG];rfl
 | [],t::v,_,hv=>by have h1:=hv t (by simp);rw[KaN,zZ,if_neg (by show ¬0<aS t.2 m;omega),if_pos (by exact h1),lf];rfl
 |t::u,v,hu,hv=>by rw[KaQ,zZ,if_pos (by exact hu t (by simp)),IY (fun s hs=>hu s (by simp[hs])) hv];rfl
theorem QU{m:List Int}{c d:Rat}:∀ {u v:List Tm},(∀t∈u,0<aS t.2 m)->Q8 (u++(d,m)::v) [(c,m)]=u++(if d+c=0 then []else [(d+c,m)])++v
 | [],v,_=>by have h0:=zX m;rw[KaN,zZ,if_neg (by show ¬0<aS m m;omega),if_neg (by show ¬aS m m<0;omega)];show(if d+c=0 then Q8 v []else(d+c,m)::Q8 v [])=_;rw[lf];split<;>rfl
 |t::u,v,hu=>by rw[KaQ,zZ,if_pos (by exact hu t (by simp)),QU (fun s hs=>hu s (by simp[hs]))];simp
def jq(p:List Tm)(c:Rat)(m:List Int):List Tm:=Q8 p (if c=0 then []else [(c,m)])
theorem YS{p:List Tm}(hs:fi p):∀ {i:Nat} (h:i<p.length),∀t∈p.take i,0<aS t.2 p[i].2:=by
 induction p with
 |nil=>intro i h;simp at h
 | cons s p ih=>
  intro i h t ht;cases i with
  |zero=>simp at ht
  |succ i=>
   simp only[List.take_succ_cons,KaP]at ht;have hi:i<p.length:=by simpa using h
   show 0<aS t.2 p[i].2;rcases ht with rfl|ht
   ·exact hs.1 _ (Kag hi)
   ·exact ih hs.2 hi t ht
theorem RN{c:Rat}{m:List Int}(hl:m.getLast? ≠some 0):az (if c=0 then []else [(c,m)]):=by
 split
 ·exact az.nil
 ·rename_i h;exact az.one h hl
theorem acD{p:List Tm}{c:Rat}{m:List Int}(hp:az p)(hl:m.getLast? ≠some 0):az (jq p c m):=nQ hp (RN hl)
theorem acE{φ:List Int->Rat}{p:List Tm}{c:Rat}{m:List Int}(hp:Can p)(hl:m.getLast? ≠some 0):aR φ (jq p c m)=aR φ p+c*φ m:=by
 rw[jq,pI hp (RN hl).c];split
 ·rename_i h;rw[h,gX];grind
 ·rw[dF,gX];grind
def cy(p:List Tm):Nat->List Tm
 |0=>dm 1
 |n+1=>Q4 (cy p n) p
theorem tE{p:List Tm}(hp:az p):∀n,az (cy p n)
 |0=>xp 1
 |n+1=>dN (tE hp n).s hp.s
def sj{α:Type}(g:α->Bool)(l:List α):Int:=match l.findIdx? g with
 |some i=>i
 |none=> -1
theorem HY{α:Type}(g:α->Bool)(l:List α):decide (0<=sj g l)=l.any g:=by
 unfold sj;cases h:l.findIdx? g with
 |none=>rw[List.findIdx?_eq_none_iff]at h;symm;show l.any g=decide ((0:Int)<= -1);rw[show decide ((0:Int)<= -1)=false from rfl,Kbs];intro x hx;simp[h x hx]
 |some i=>obtain⟨hi,h1,_⟩:=List.findIdx?_eq_some_iff_getElem.1 h;symm;show l.any g=decide ((0:Int)<=(i:Int));rw[decide_eq_true (by omega),Ka2];exact⟨_,Kag hi,h1⟩
theorem H7{α:Type}{g:α->Bool}{l:List α}{i:Nat}(hi:i<l.length)(h1:g l[i]=true)(h2:∀j (h:j<l.length),j<i->g l[j]=false):sj g l=i:=by unfold sj;rw[List.findIdx?_eq_some_iff_getElem.2 ⟨hi,h1,fun j hj=>by simp[h2 j (by omega) hj]⟩]
theorem Hf{α:Type}{g:α->Bool}{l:List α}(h2:∀j (h:j<l.length),g l[j]=false):sj g l= -1:=by unfold sj;rw[List.findIdx?_eq_none_iff.2 (fun x hx=>by obtain⟨j,hj,rfl⟩:=Ka8 hx;exact h2 j hj)]
end Go.FW
