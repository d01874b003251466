/- Part 4 of the proof of TriangularElements: C1, CM, CP, CI, C1b, N1, N2, N3, N4, N5, N6, N7, N8, N9, N10, N11, N12, N13, N14, N15, I1, R1, R2, R3, R4, M1, M2, P1, P2, P3, FwQA, FwSD. Own lemmas; no conditions. -/
import Derived.Test.YtdjoomkeehihmaaGreatTriangularElementsPart3
import Derived.Test.YtdjoomkeehihmaaGreatProg
set_option maxHeartbeats 1000000
set_option linter.unusedSimpArgs false
set_option linter.unusedVariables false
set_option linter.unnecessarySimpa false
set_option maxRecDepth 100000
namespace Go.Proofs.YtdjoomkeehihmaaGreat
open Go Go.FW
theorem Qj:Tryz.prog.follows .mixedOrders=true:=by kernel_rfl
def y6:aA:=⟨21,[.t 2],Zr (Zo (.mv 2 (.c .aa)) .nil)<|Zr (Zm 4 0<|Zn 5 4<|Zm 3 5 .nil)<| .seq (.block 0<| .loop<| .seq (Zr (Zm 6 3<|Zk 7 .gtr 6 0<|Zm 8 7<|Zg 8 true (.mv 9 (.t 0))<|Zg 8 true (.mv 10 (.t 3))<|Zg 8 true (.bin 11 .sub false (.t 10) (.c (Zz 1)))<|Zg 8 true (.idx 12 1 (.t 9) (.t 11))<|Zg 8 true (.ld 13 1 false (.t 12))<|Zg 8 true (.bin 14 .eql false (.t 13) (.c (.int .u16 0)))<|Zo (.pick 15 (.t 8) (.t 14) (.c (.bool false))) .nil)<| .cond (.t 15) .skip (.exit 0))<| .block 1<| .rg (Zm 16 3<|Zk 17 .sub 16 1<|Zm 3 17 .nil))<|Zr (Zm 18 0<|Zm 19 3<|Zo (.sl 20 1 (.t 18) none (some (.t 19)) none)<|Zm 2 20 .nil) .ret⟩
theorem O5:Qe Tryz.prog Tryz.f143=some y6:=by kernel_rfl
def Lq:aA:=⟨16,[.t 2],Zr (Zo (.mv 2 (.c .aa)) .nil)<|Zr (Zm 4 0<|Zq 5 false 143 [.t 4]<|Zm 0 5 .nil)<| .seq (Zr (Zm 6 0<|Zn 7 6<|Zk 8 .eql 7 0 .nil)<| .cond (.t 8) (Zr (Zo (.mv 2 (.c .aa)) .nil) .ret) .skip)<|Zr (Zm 9 0<|Zn 10 9<|Zo (.mk 11 1 2 76 (.int .u16 0) (.t 10) (.t 10))<|Zm 3 11 .nil)<|Zr (Zm 12 3<|Zm 13 0<|Zo (.tX 14 1 (.t 12) (.t 13)) .nil)<|Zr (Zm 15 3<|Zm 2 15 .nil) .ret⟩
theorem aiu:Qe Tryz.prog Tryz.f86=some Lq:=by kernel_rfl
def Lt:aA:=⟨14,[.t 2],Zr (Zo (.mv 2 (.c .aa)) .nil)<|Zr (Zo (.mv 3 (.c .aa)) .nil)<| .seq (.block 0<| .loop<| .seq (Zr (Zm 4 0<|Zo (.bin 5 .gtr false (.t 4) (.c (.int .u64 0))) .nil)<| .cond (.t 5) .skip (.exit 0))<| .seq (.block 1<| .rg (Zm 8 3<|Zm 9 0<|Zo (.conv 10 .u16 (.t 9))<|Zo (.bs 11 1 76 [.t 10])<|Zo (.app 12 1 2 76 (.t 8) (.t 11))<|Zm 3 12 .nil))<| .rg (Zm 6 0<|Zo (.bin 7 .shr false (.t 6) (.c (.int .u64 16)))<|Zm 0 7 .nil))<|Zr (Zm 13 3<|Zm 2 13 .nil) .ret⟩
theorem aiv:Qe Tryz.prog Tryz.f88=some Lt:=by kernel_rfl
def Lr:aA:=⟨28,[.t 2,.t 3],Zr (Zo (.mv 2 (.c (.int .u64 0)))<|Zo (.mv 3 (.c (.bool false))) .nil)<|Zr (Zm 7 0<|Zq 8 false 143 [.t 7]<|Zm 0 8 .nil)<| .seq (Zr (Zm 9 0<|Zn 10 9<|Zk 11 .gtr 10 4 .nil)<| .cond (.t 11) (Zr (Zo (.mv 2 (.c (.int .u64 0)))<|Zo (.mv 3 (.c (.bool false))) .nil) .ret) .skip)<|Zr (Zo (.mv 4 (.c (.int .u64 0))) .nil)<| .seq (Zr (Zm 12 0<|Zn 13 12<|Zc 14 0 .nil)<| .block 0<| .loop<|Zr (Zb 15 .lss 14 13 .nil)<| .seq (.cond (.t 15) .skip (.exit 0))<| .seq (.block 1<|Zr (Zm 16 14<|Zi 17 1 12 14<|Zl 18 1 17<|Zm 5 16<|Zm 6 18 .nil)<| .rg (Zm 19 4<|Zm 20 6<|Zo (.conv 21 .u64 (.t 20))<|Zm 22 5<|Zo (.bin 23 .mul false (.c (Zz 16)) (.t 22))<|Zb 24 .shl 21 23<|Zb 25 .or 19 24<|Zm 4 25 .nil))<| .rg (Zk 26 .add 14 1<|Zm 14 26 .nil))<|Zr (Zm 27 4<|Zm 2 27<|Zo (.mv 3 (.c (.bool true))) .nil) .ret⟩
theorem aiw:Qe Tryz.prog Tryz.f87=some Lr:=by kernel_rfl
def LC:aA:=⟨20,[.t 2],Zr (Zc 2 0 .nil)<|Zr (Zm 3 0<|Zq 4 false 143 [.t 3]<|Zm 0 4 .nil)<| .seq (Zr (Zm 5 0<|Zn 6 5<|Zk 7 .eql 6 0 .nil)<| .cond (.t 7) (Zr (Zc 2 0 .nil) .ret) .skip)<|Zr (Zm 8 0<|Zn 9 8<|Zk 10 .sub 9 1<|Zo (.bin 11 .mul false (.c (Zz 16)) (.t 10))<|Zm 12 0<|Zm 13 0<|Zn 14 13<|Zk 15 .sub 14 1<|Zi 16 1 12 15<|Zl 17 1 16<|Zq 18 false 151 [.t 17]<|Zb 19 .add 11 18<|Zm 2 19 .nil) .ret⟩
theorem aix:Qe Tryz.prog Tryz.f96=some LC:=by kernel_rfl
def JF:aA:=⟨45,[.t 4],Zr (Zc 4 0 .nil)<|Zr (Zm 6 0<|Zq 7 false 143 [.t 6]<|Zm 8 1<|Zq 9 false 143 [.t 8]<|Zm 0 7<|Zm 1 9 .nil)<| .seq (Zr (Zm 10 0<|Zn 11 10<|Zm 12 1<|Zn 13 12<|Zb 14 .neq 11 13 .nil)<| .cond (.t 14) (.seq (Zr (Zm 15 0<|Zn 16 15<|Zm 17 1<|Zn 18 17<|Zb 19 .lss 16 18 .nil)<| .cond (.t 19) (Zr (Zc 4 (-1) .nil) .ret) .skip)<|Zr (Zc 4 1 .nil) .ret) .skip)<| .seq (Zr (Zm 20 0<|Zn 21 20<|Zk 22 .sub 21 1<|Zm 5 22 .nil)<| .block 0<| .loop<| .seq (Zr (Zm 23 5<|Zk 24 .geq 23 0 .nil)<| .cond (.t 24) .skip (.exit 0))<| .seq (.block 1<| .seq (Zr (Zm 27 0<|Zm 28 5<|Zi 29 1 27 28<|Zl 30 1 29<|Zm 31 1<|Zm 32 5<|Zi 33 1 31 32<|Zl 34 1 33<|Zb 35 .lss 30 34 .nil)<| .cond (.t 35) (Zr (Zc 4 (-1) .nil) .ret) .skip)<|Zr (Zm 36 0<|Zm 37 5<|Zi 38 1 36 37<|Zl 39 1 38<|Zm 40 1<|Zm 41 5<|Zi 42 1 40 41<|Zl 43 1 42<|Zb 44 .gtr 39 43 .nil)<| .cond (.t 44) (Zr (Zc 4 1 .nil) .ret) .skip)<| .rg (Zm 25 5<|Zk 26 .sub 25 1<|Zm 5 26 .nil))<|Zr (Zc 4 0 .nil) .ret⟩
theorem afv:Qe Tryz.prog Tryz.f144=some JF:=by kernel_rfl
def Kf:aA:=⟨64,[.t 4],Zr (Zo (.mv 4 (.c .aa)) .nil)<|Zr (Zm 9 0<|Zq 10 false 143 [.t 9]<|Zm 11 1<|Zq 12 false 143 [.t 11]<|Zm 0 10<|Zm 1 12 .nil)<| .seq (Zr (Zm 13 0<|Zn 14 13<|Zm 15 1<|Zn 16 15<|Zb 17 .lss 14 16 .nil)<| .cond (.t 17) (.rg (Zm 18 1<|Zm 19 0<|Zm 0 18<|Zm 1 19 .nil)) .skip)<|Zr (Zm 20 0<|Zn 21 20<|Zm 22 0<|Zn 23 22<|Zk 24 .add 23 1<|Zo (.mk 25 1 2 76 (.int .u16 0) (.t 21) (.t 24))<|Zm 5 25 .nil)<|Zr (Zo (.mv 6 (.c (.int .u32 0))) .nil)<| .seq (Zr (Zm 26 0<|Zn 27 26<|Zc 28 0 .nil)<| .block 0<| .loop<|Zr (Zb 29 .lss 28 27 .nil)<| .seq (.cond (.t 29) .skip (.exit 0))<| .seq (.block 1<|Zr (Zm 30 28<|Zi 31 1 26 28<|Zl 32 1 31<|Zm 7 30<|Zm 8 32 .nil)<|Zr (Zm 33 6<|Zm 34 8<|Zo (.conv 35 .u32 (.t 34))<|Zb 36 .add 33 35<|Zm 6 36 .nil)<| .seq (Zr (Zm 37 7<|Zm 38 1<|Zn 39 38<|Zb 40 .lss 37 39 .nil)<| .cond (.t 40) (.rg (Zm 41 6<|Zm 42 1<|Zm 43 7<|Zi 44 1 42 43<|Zl 45 1 44<|Zo (.conv 46 .u32 (.t 45))<|Zb 47 .add 41 46<|Zm 6 47 .nil)) .skip)<|Zr (Zm 48 5<|Zm 49 7<|Zm 50 6<|Zo (.conv 51 .u16 (.t 50))<|Zi 52 1 48 49<|Zs 1 52 51 .nil)<| .rg (Zm 53 6<|Zo (.bin 54 .shr false (.t 53) (.c (.int .u64 16)))<|Zm 6 54 .nil))<| .rg (Zk 55 .add 28 1<|Zm 28 55 .nil))<| .seq (Zr (Zm 56 6<|Zo (.bin 57 .gtr false (.t 56) (.c (.int .u32 0))) .nil)<| .cond (.t 57) (.rg (Zm 58 5<|Zm 59 6<|Zo (.conv 60 .u16 (.t 59))<|Zo (.bs 61 1 76 [.t 60])<|Zo (.app 62 1 2 76 (.t 58) (.t 61))<|Zm 5 62 .nil)) .skip)<|Zr (Zm 63 5<|Zm 4 63 .nil) .ret⟩
theorem afw:Qe Tryz.prog Tryz.f176=some Kf:=by kernel_rfl
def Kg:aA:=⟨56,[.t 4,.t 5],Zr (Zo (.mv 4 (.c .aa))<|Zc 5 0 .nil)<| .seq (Zr (Zm 11 0<|Zm 12 1<|Zq 13 false 144 [.t 11,.t 12]<|Zk 14 .lss 13 0 .nil)<| .cond (.t 14) (Zr (Zo (.mv 4 (.c .aa))<|Zc 5 2 .nil) .ret) .skip)<|Zr (Zm 15 0<|Zq 16 false 143 [.t 15]<|Zm 17 1<|Zq 18 false 143 [.t 17]<|Zm 0 16<|Zm 1 18 .nil)<|Zr (Zm 19 0<|Zn 20 19<|Zo (.mk 21 1 2 76 (.int .u16 0) (.t 20) (.t 20))<|Zm 6 21 .nil)<|Zr (Zo (.mv 7 (.c (.int .i32 0))) .nil)<| .seq (Zr (Zm 22 0<|Zn 23 22<|Zc 24 0 .nil)<| .block 0<| .loop<|Zr (Zb 25 .lss 24 23 .nil)<| .seq (.cond (.t 25) .skip (.exit 0))<| .seq (.block 1<|Zr (Zm 26 24<|Zi 27 1 22 24<|Zl 28 1 27<|Zm 8 26<|Zm 9 28 .nil)<|Zr (Zm 29 9<|Zo (.conv 30 .i32 (.t 29))<|Zm 31 7<|Zb 32 .sub 30 31<|Zm 10 32 .nil)<| .seq (Zr (Zm 33 8<|Zm 34 1<|Zn 35 34<|Zb 36 .lss 33 35 .nil)<| .cond (.t 36) (.rg (Zm 37 10<|Zm 38 1<|Zm 39 8<|Zi 40 1 38 39<|Zl 41 1 40<|Zo (.conv 42 .i32 (.t 41))<|Zb 43 .sub 37 42<|Zm 10 43 .nil)) .skip)<|Zr (Zo (.mv 7 (.c (.int .i32 0))) .nil)<| .seq (Zr (Zm 44 10<|Zo (.bin 45 .lss false (.t 44) (.c (.int .i32 0))) .nil)<| .cond (.t 45) (Zr (Zm 46 10<|Zo (.bin 47 .add false (.t 46) (.c (.int .i32 65536)))<|Zm 10 47 .nil)<| .rg (Zo (.mv 7 (.c (.int .i32 1))) .nil)) .skip)<| .rg (Zm 48 6<|Zm 49 8<|Zm 50 10<|Zo (.conv 51 .u16 (.t 50))<|Zi 52 1 48 49<|Zs 1 52 51 .nil))<| .rg (Zk 53 .add 24 1<|Zm 24 53 .nil))<|Zr (Zm 54 6<|Zq 55 false 143 [.t 54]<|Zm 4 55<|Zc 5 0 .nil) .ret⟩
theorem afx:Qe Tryz.prog Tryz.f177=some Kg:=by kernel_rfl
def Lz:aA:=⟨79,[.t 4],Zr (Zo (.mv 4 (.c .aa)) .nil)<|Zr (Zm 11 0<|Zq 12 false 143 [.t 11]<|Zm 13 1<|Zq 14 false 143 [.t 13]<|Zm 0 12<|Zm 1 14 .nil)<| .seq (Zr (Zm 15 0<|Zn 16 15<|Zk 17 .eql 16 0<|Zm 18 17<|Zg 18 false (.mv 19 (.t 1))<|Zg 18 false (.len 20 (.t 19))<|Zg 18 false (.bin 21 .eql false (.t 20) (.c (Zz 0)))<|Zo (.pick 22 (.t 18) (.c (.bool true)) (.t 21)) .nil)<| .cond (.t 22) (Zr (Zo (.mv 4 (.c .aa)) .nil) .ret) .skip)<|Zr (Zm 23 0<|Zn 24 23<|Zm 25 1<|Zn 26 25<|Zb 27 .add 24 26<|Zo (.mk 28 1 2 76 (.int .u16 0) (.t 27) (.t 27))<|Zm 5 28 .nil)<| .seq (Zr (Zm 29 0<|Zn 30 29<|Zc 31 0 .nil)<| .block 0<| .loop<|Zr (Zb 32 .lss 31 30 .nil)<| .seq (.cond (.t 32) .skip (.exit 0))<| .seq (.block 1<|Zr (Zm 33 31<|Zi 34 1 29 31<|Zl 35 1 34<|Zm 6 33<|Zm 7 35 .nil)<|Zr (Zo (.mv 8 (.c (.int .u32 0))) .nil)<| .seq (Zr (Zm 36 1<|Zn 37 36<|Zc 38 0 .nil)<| .block 2<| .loop<|Zr (Zb 39 .lss 38 37 .nil)<| .seq (.cond (.t 39) .skip (.exit 2))<| .seq (.block 3<|Zr (Zm 40 38<|Zi 41 1 36 38<|Zl 42 1 41<|Zm 9 40<|Zm 10 42 .nil)<|Zr (Zm 43 8<|Zm 44 5<|Zm 45 6<|Zm 46 9<|Zb 47 .add 45 46<|Zi 48 1 44 47<|Zl 49 1 48<|Zo (.conv 50 .u32 (.t 49))<|Zm 51 7<|Zo (.conv 52 .u32 (.t 51))<|Zm 53 10<|Zo (.conv 54 .u32 (.t 53))<|Zb 55 .mul 52 54<|Zb 56 .add 50 55<|Zb 57 .add 43 56<|Zm 8 57 .nil)<|Zr (Zm 58 5<|Zm 59 6<|Zm 60 9<|Zb 61 .add 59 60<|Zm 62 8<|Zo (.conv 63 .u16 (.t 62))<|Zi 64 1 58 61<|Zs 1 64 63 .nil)<| .rg (Zm 65 8<|Zo (.bin 66 .shr false (.t 65) (.c (.int .u64 16)))<|Zm 8 66 .nil))<| .rg (Zk 67 .add 38 1<|Zm 38 67 .nil))<| .rg (Zm 68 5<|Zm 69 6<|Zm 70 1<|Zn 71 70<|Zb 72 .add 69 71<|Zm 73 8<|Zo (.conv 74 .u16 (.t 73))<|Zi 75 1 68 72<|Zs 1 75 74 .nil))<| .rg (Zk 76 .add 31 1<|Zm 31 76 .nil))<|Zr (Zm 77 5<|Zq 78 false 143 [.t 77]<|Zm 4 78 .nil) .ret⟩
theorem aiy:Qe Tryz.prog Tryz.f93=some Lz:=by kernel_rfl
def JG:aA:=⟨43,[.t 4,.t 5],Zr (Zo (.mv 4 (.c .aa))<|Zo (.mv 5 (.c (.int .u16 0))) .nil)<|Zr (Zm 9 0<|Zn 10 9<|Zo (.mk 11 1 2 76 (.int .u16 0) (.t 10) (.t 10))<|Zm 6 11 .nil)<|Zr (Zo (.mv 7 (.c (.int .u32 0))) .nil)<| .seq (Zr (Zm 12 0<|Zn 13 12<|Zk 14 .sub 13 1<|Zm 8 14 .nil)<| .block 0<| .loop<| .seq (Zr (Zm 15 8<|Zk 16 .geq 15 0 .nil)<| .cond (.t 16) .skip (.exit 0))<| .seq (.block 1<|Zr (Zm 19 7<|Zo (.bin 20 .shl false (.t 19) (.c (.int .u64 16)))<|Zm 21 0<|Zm 22 8<|Zi 23 1 21 22<|Zl 24 1 23<|Zo (.conv 25 .u32 (.t 24))<|Zb 26 .or 20 25<|Zm 7 26 .nil)<|Zr (Zm 27 6<|Zm 28 8<|Zm 29 7<|Zm 30 1<|Zo (.conv 31 .u32 (.t 30))<|Zb 32 .quo 29 31<|Zo (.conv 33 .u16 (.t 32))<|Zi 34 1 27 28<|Zs 1 34 33 .nil)<| .rg (Zm 35 7<|Zm 36 1<|Zo (.conv 37 .u32 (.t 36))<|Zb 38 .rem 35 37<|Zm 7 38 .nil))<| .rg (Zm 17 8<|Zk 18 .sub 17 1<|Zm 8 18 .nil))<|Zr (Zm 39 6<|Zq 40 false 143 [.t 39]<|Zm 41 7<|Zo (.conv 42 .u16 (.t 41))<|Zm 4 40<|Zm 5 42 .nil) .ret⟩
theorem afy:Qe Tryz.prog Tryz.f145=some JG:=by kernel_rfl
def Lu:aA:=⟨71,[.t 4,.t 5,.t 6],Zr (Zo (.mv 4 (.c .aa))<|Zo (.mv 5 (.c .aa))<|Zc 6 0 .nil)<|Zr (Zm 12 0<|Zq 13 false 143 [.t 12]<|Zm 14 1<|Zq 15 false 143 [.t 14]<|Zm 0 13<|Zm 1 15 .nil)<| .seq (.block 0<|Zr (Zm 17 1<|Zn 18 17<|Zk 19 .eql 18 0<|Zm 16 19 .nil)<| .cond (.t 16) (Zr (Zo (.mv 4 (.c .aa))<|Zo (.mv 5 (.c .aa))<|Zc 6 3 .nil) .ret) (Zr (Zm 21 0<|Zm 22 1<|Zq 23 false 144 [.t 21,.t 22]<|Zk 24 .lss 23 0<|Zm 20 24 .nil)<| .cond (.t 20) (Zr (Zm 25 0<|Zq 26 false 86 [.t 25]<|Zo (.mv 4 (.c .aa))<|Zm 5 26<|Zc 6 0 .nil) .ret) (Zr (Zm 28 1<|Zn 29 28<|Zk 30 .eql 29 1<|Zm 27 30 .nil)<| .cond (.t 27) (Zr (Zm 32 0<|Zm 33 1<|Zo (.idx 34 1 (.t 33) (.c (Zz 0)))<|Zl 35 1 34<|Zq 36 false 145 [.t 32,.t 35]<|Zm 31 36<|Zo (.ext 37 (.t 31) 0)<|Zo (.ext 38 (.t 31) 1)<|Zm 7 37<|Zm 8 38 .nil)<|Zr (Zm 39 7<|Zm 40 8<|Zo (.conv 41 .u64 (.t 40))<|Zq 42 false 88 [.t 41]<|Zm 4 39<|Zm 5 42<|Zc 6 0 .nil) .ret) .skip)))<|Zr (Zm 43 1<|Zm 44 1<|Zn 45 44<|Zk 46 .sub 45 1<|Zi 47 1 43 46<|Zl 48 1 47<|Zq 49 false 146 [.t 48]<|Zm 9 49 .nil)<|Zr (Zm 50 0<|Zm 51 9<|Zq 52 false 147 [.t 50,.t 51]<|Zo (.bs 53 1 76 [.c (.int .u16 0),.c (.int .u16 0)])<|Zo (.app 54 1 2 76 (.t 52) (.t 53))<|Zm 55 0<|Zn 56 55<|Zk 57 .add 56 1<|Zo (.sl 58 1 (.t 54) none (some (.t 57)) none)<|Zm 10 58 .nil)<|Zr (Zm 59 1<|Zm 60 9<|Zq 61 false 147 [.t 59,.t 60]<|Zm 11 61 .nil)<|Zr (Zm 62 10<|Zm 63 11<|Zq 64 false 148 [.t 62,.t 63]<|Zm 4 64 .nil)<|Zr (Zm 65 4<|Zm 66 10<|Zq 67 false 143 [.t 66]<|Zm 68 9<|Zo (.un 69 .neg (.t 68))<|Zq 70 false 147 [.t 67,.t 69]<|Zm 4 65<|Zm 5 70<|Zc 6 0 .nil) .ret⟩
theorem aiz:Qe Tryz.prog Tryz.f89=some Lu:=by kernel_rfl
def Kb:aA:=⟨31,[.t 6],Zr (Zo (.mv 6 (.c (.bool false))) .nil)<|Zr (Zl 7 1 0<|Zo (.bin 8 .geq false (.t 7) (.c (.int .u64 65536)))<|Zm 9 8<|Zg 9 false (.ld 10 1 false (.t 0))<|Zg 9 false (.ld 11 1 false (.t 1))<|Zg 9 false (.ld 12 1 false (.t 2))<|Zg 9 false (.bin 13 .sub false (.t 12) (.c (Zz 2)))<|Zg 9 false (.idx 14 1 (.t 11) (.t 13))<|Zg 9 false (.ld 15 1 false (.t 14))<|Zg 9 false (.conv 16 .u64 (.t 15))<|Zg 9 false (.bin 17 .mul false (.t 10) (.t 16))<|Zg 9 false (.ld 18 1 false (.t 3))<|Zg 9 false (.bin 19 .shl false (.t 18) (.c (.int .u64 16)))<|Zg 9 false (.ld 20 1 false (.t 4))<|Zg 9 false (.ld 21 1 false (.t 5))<|Zg 9 false (.ld 22 1 false (.t 2))<|Zg 9 false (.bin 23 .add false (.t 21) (.t 22))<|Zg 9 false (.bin 24 .sub false (.t 23) (.c (Zz 2)))<|Zg 9 false (.idx 25 1 (.t 20) (.t 24))<|Zg 9 false (.ld 26 1 false (.t 25))<|Zg 9 false (.conv 27 .u64 (.t 26))<|Zg 9 false (.bin 28 .or false (.t 19) (.t 27))<|Zg 9 false (.bin 29 .gtr false (.t 17) (.t 28))<|Zo (.pick 30 (.t 9) (.c (.bool true)) (.t 29))<|Zm 6 30 .nil) .ret⟩
theorem afz:Qe Tryz.prog Tryz.f172=some Kb:=by kernel_rfl
def Kc:aA:=⟨54,[.t 6],Zr (Zo (.mv 6 (.c (.bool false))) .nil)<|Zr (Zo (.mv 7 (.c (.int .u32 0))) .nil)<|Zr (Zo (.mv 8 (.c (.int .i32 0))) .nil)<| .seq (Zr (Zm 11 0<|Zn 12 11<|Zc 13 0 .nil)<| .block 0<| .loop<|Zr (Zb 14 .lss 13 12 .nil)<| .seq (.cond (.t 14) .skip (.exit 0))<| .seq (.block 1<|Zr (Zm 15 13<|Zm 9 15 .nil)<| .seq (Zr (Zm 16 9<|Zm 17 1<|Zn 18 17<|Zb 19 .lss 16 18 .nil)<| .cond (.t 19) (.rg (Zm 20 7<|Zm 21 2<|Zm 22 1<|Zm 23 9<|Zi 24 1 22 23<|Zl 25 1 24<|Zo (.conv 26 .u32 (.t 25))<|Zb 27 .mul 21 26<|Zb 28 .add 20 27<|Zm 7 28 .nil)) .skip)<|Zr (Zm 29 0<|Zm 30 9<|Zi 31 1 29 30<|Zl 32 1 31<|Zo (.conv 33 .i32 (.t 32))<|Zm 34 7<|Zo (.conv 35 .u16 (.t 34))<|Zo (.conv 36 .i32 (.t 35))<|Zb 37 .sub 33 36<|Zm 38 8<|Zb 39 .sub 37 38<|Zm 10 39 .nil)<|Zr (Zm 40 7<|Zo (.bin 41 .shr false (.t 40) (.c (.int .u64 16)))<|Zm 7 41 .nil)<|Zr (Zo (.mv 8 (.c (.int .i32 0))) .nil)<| .seq (Zr (Zm 42 10<|Zo (.bin 43 .lss false (.t 42) (.c (.int .i32 0))) .nil)<| .cond (.t 43) (Zr (Zm 44 10<|Zo (.bin 45 .add false (.t 44) (.c (.int .i32 65536)))<|Zm 10 45 .nil)<| .rg (Zo (.mv 8 (.c (.int .i32 1))) .nil)) .skip)<| .rg (Zm 46 0<|Zm 47 9<|Zm 48 10<|Zo (.conv 49 .u16 (.t 48))<|Zi 50 1 46 47<|Zs 1 50 49 .nil))<| .rg (Zk 51 .add 13 1<|Zm 13 51 .nil))<|Zr (Zm 52 8<|Zo (.bin 53 .gtr false (.t 52) (.c (.int .i32 0)))<|Zm 6 53 .nil) .ret⟩
theorem afA:Qe Tryz.prog Tryz.f173=some Kc:=by kernel_rfl
def Kd:aA:=⟨37,[],Zr (Zo (.mv 4 (.c (.int .u32 0))) .nil)<|Zr (Zm 6 0<|Zn 7 6<|Zc 8 0 .nil)<| .block 0<| .loop<|Zr (Zb 9 .lss 8 7 .nil)<| .seq (.cond (.t 9) .skip (.exit 0))<| .seq (.block 1<|Zr (Zm 10 8<|Zm 5 10 .nil)<|Zr (Zm 11 4<|Zm 12 0<|Zm 13 5<|Zi 14 1 12 13<|Zl 15 1 14<|Zo (.conv 16 .u32 (.t 15))<|Zb 17 .add 11 16<|Zm 4 17 .nil)<| .seq (Zr (Zm 18 5<|Zm 19 1<|Zn 20 19<|Zb 21 .lss 18 20 .nil)<| .cond (.t 21) (.rg (Zm 22 4<|Zm 23 1<|Zm 24 5<|Zi 25 1 23 24<|Zl 26 1 25<|Zo (.conv 27 .u32 (.t 26))<|Zb 28 .add 22 27<|Zm 4 28 .nil)) .skip)<|Zr (Zm 29 0<|Zm 30 5<|Zm 31 4<|Zo (.conv 32 .u16 (.t 31))<|Zi 33 1 29 30<|Zs 1 33 32 .nil)<| .rg (Zm 34 4<|Zo (.bin 35 .shr false (.t 34) (.c (.int .u64 16)))<|Zm 4 35 .nil))<| .rg (Zk 36 .add 8 1<|Zm 8 36 .nil)⟩
theorem afB:Qe Tryz.prog Tryz.f174=some Kd:=by kernel_rfl
def KK:aA:=⟨51,[.t 4],Zr (Zo (.mv 4 (.c .aa)) .nil)<|Zr (Zm 12 0<|Zq 13 false 86 [.t 12]<|Zm 14 1<|Zq 15 false 86 [.t 14]<|Zm 0 13<|Zm 1 15 .nil)<| .seq (.block 0<| .loop<| .seq (Zr (Zm 16 1<|Zn 17 16<|Zk 18 .gtr 17 0 .nil)<| .cond (.t 18) .skip (.exit 0))<| .block 1<|Zr (Zm 20 0<|Zq 21 false 87 [.t 20]<|Zm 19 21<|Zo (.ext 22 (.t 19) 0)<|Zo (.ext 23 (.t 19) 1)<|Zm 5 22<|Zm 6 23 .nil)<|Zr (Zm 25 1<|Zq 26 false 87 [.t 25]<|Zm 24 26<|Zo (.ext 27 (.t 24) 0)<|Zo (.ext 28 (.t 24) 1)<|Zm 7 27<|Zm 8 28 .nil)<| .seq (Zr (Zm 29 6<|Zm 30 29<|Zg 30 true (.mv 31 (.t 8))<|Zo (.pick 32 (.t 30) (.t 31) (.c (.bool false))) .nil)<| .cond (.t 32) (.seq (.block 2<| .loop<| .seq (Zr (Zm 33 7<|Zo (.bin 34 .gtr false (.t 33) (.c (.int .u64 0))) .nil)<| .cond (.t 34) .skip (.exit 2))<| .block 3<| .rg (Zm 35 7<|Zm 36 5<|Zm 37 7<|Zb 38 .rem 36 37<|Zm 5 35<|Zm 7 38 .nil))<|Zr (Zm 39 5<|Zq 40 false 88 [.t 39]<|Zm 4 40 .nil) .ret) .skip)<|Zr (Zm 42 0<|Zm 43 1<|Zq 44 false 89 [.t 42,.t 43]<|Zm 41 44<|Zo (.ext 45 (.t 41) 0)<|Zo (.ext 46 (.t 41) 1)<|Zo (.ext 47 (.t 41) 2)<|Zm 9 45<|Zm 10 46<|Zm 11 47 .nil)<| .rg (Zm 48 1<|Zm 49 10<|Zm 0 48<|Zm 1 49 .nil))<|Zr (Zm 50 0<|Zm 4 50 .nil) .ret⟩
theorem aiA:Qe Tryz.prog Tryz.f44=some KK:=by kernel_rfl
def vH:aA:=⟨78,[.t 4],Zr (Zo (.mv 4 (.c .aa)) .nil)<|Zr (Zm 11 0<|Zq 12 false 143 [.t 11]<|Zm 0 12 .nil)<| .seq (Zr (Zm 13 1<|Zk 14 .lss 13 (-1048576)<|Zm 15 14<|Zg 15 false (.mv 16 (.t 1))<|Zg 15 false (.bin 17 .gtr false (.t 16) (.c (Zz 1048576)))<|Zo (.pick 18 (.t 15) (.c (.bool true)) (.t 17))<|Zm 19 18<|Zg 19 false (.mv 20 (.t 0))<|Zg 19 false (.len 21 (.t 20))<|Zg 19 false (.bin 22 .eql false (.t 21) (.c (Zz 0)))<|Zo (.pick 23 (.t 19) (.c (.bool true)) (.t 22)) .nil)<| .cond (.t 23) (Zr (Zo (.mv 4 (.c .aa)) .nil) .ret) .skip)<| .seq (Zr (Zm 24 1<|Zk 25 .lss 24 0 .nil)<| .cond (.t 25) (Zr (Zm 26 0<|Zm 27 1<|Zo (.un 28 .neg (.t 27))<|Zq 29 false 171 [.t 26,.t 28]<|Zm 4 29 .nil) .ret) .skip)<|Zr (Zm 30 1<|Zk 31 .quo 30 16<|Zm 32 1<|Zk 33 .rem 32 16<|Zm 5 31<|Zm 6 33 .nil)<|Zr (Zm 34 0<|Zn 35 34<|Zm 36 5<|Zb 37 .add 35 36<|Zk 38 .add 37 1<|Zm 39 0<|Zn 40 39<|Zm 41 5<|Zb 42 .add 40 41<|Zk 43 .add 42 3<|Zo (.mk 44 1 2 76 (.int .u16 0) (.t 38) (.t 43))<|Zm 7 44 .nil)<| .seq (Zr (Zm 45 0<|Zn 46 45<|Zc 47 0 .nil)<| .block 0<| .loop<|Zr (Zb 48 .lss 47 46 .nil)<| .seq (.cond (.t 48) .skip (.exit 0))<| .seq (.block 1<|Zr (Zm 49 47<|Zi 50 1 45 47<|Zl 51 1 50<|Zm 8 49<|Zm 9 51 .nil)<|Zr (Zm 52 9<|Zo (.conv 53 .u32 (.t 52))<|Zm 54 6<|Zb 55 .shl 53 54<|Zm 10 55 .nil)<|Zr (Zm 56 7<|Zm 57 8<|Zm 58 5<|Zb 59 .add 57 58<|Zi 60 1 56 59<|Zl 61 1 60<|Zm 62 10<|Zo (.conv 63 .u16 (.t 62))<|Zb 64 .or 61 63<|Zi 65 1 56 59<|Zs 1 65 64 .nil)<| .rg (Zm 66 7<|Zm 67 8<|Zm 68 5<|Zb 69 .add 67 68<|Zk 70 .add 69 1<|Zm 71 10<|Zo (.bin 72 .shr false (.t 71) (.c (.int .u64 16)))<|Zo (.conv 73 .u16 (.t 72))<|Zi 74 1 66 70<|Zs 1 74 73 .nil))<| .rg (Zk 75 .add 47 1<|Zm 47 75 .nil))<|Zr (Zm 76 7<|Zq 77 false 143 [.t 76]<|Zm 4 77 .nil) .ret⟩
theorem Iz:Qe Tryz.prog Tryz.f147=some vH:=by kernel_rfl
def Ka:aA:=⟨63,[.t 4],Zr (Zo (.mv 4 (.c .aa)) .nil)<|Zr (Zm 10 1<|Zk 11 .quo 10 16<|Zm 12 1<|Zk 13 .rem 12 16<|Zm 5 11<|Zm 6 13 .nil)<| .seq (Zr (Zm 14 5<|Zm 15 0<|Zn 16 15<|Zb 17 .geq 14 16 .nil)<| .cond (.t 17) (Zr (Zo (.mv 4 (.c .aa)) .nil) .ret) .skip)<|Zr (Zm 18 0<|Zn 19 18<|Zm 20 5<|Zb 21 .sub 19 20<|Zo (.mk 22 1 2 76 (.int .u16 0) (.t 21) (.t 21))<|Zm 7 22 .nil)<| .seq (Zr (Zm 23 7<|Zn 24 23<|Zc 25 0 .nil)<| .block 0<| .loop<|Zr (Zb 26 .lss 25 24 .nil)<| .seq (.cond (.t 26) .skip (.exit 0))<| .seq (.block 1<|Zr (Zm 27 25<|Zm 8 27 .nil)<|Zr (Zm 28 0<|Zm 29 8<|Zm 30 5<|Zb 31 .add 29 30<|Zi 32 1 28 31<|Zl 33 1 32<|Zo (.conv 34 .u32 (.t 33))<|Zm 9 34 .nil)<| .seq (Zr (Zm 35 8<|Zm 36 5<|Zb 37 .add 35 36<|Zk 38 .add 37 1<|Zm 39 0<|Zn 40 39<|Zb 41 .lss 38 40 .nil)<| .cond (.t 41) (.rg (Zm 42 9<|Zm 43 0<|Zm 44 8<|Zm 45 5<|Zb 46 .add 44 45<|Zk 47 .add 46 1<|Zi 48 1 43 47<|Zl 49 1 48<|Zo (.conv 50 .u32 (.t 49))<|Zo (.bin 51 .shl false (.t 50) (.c (.int .u64 16)))<|Zb 52 .or 42 51<|Zm 9 52 .nil)) .skip)<| .rg (Zm 53 7<|Zm 54 8<|Zm 55 9<|Zm 56 6<|Zb 57 .shr 55 56<|Zo (.conv 58 .u16 (.t 57))<|Zi 59 1 53 54<|Zs 1 59 58 .nil))<| .rg (Zk 60 .add 25 1<|Zm 25 60 .nil))<|Zr (Zm 61 7<|Zq 62 false 143 [.t 61]<|Zm 4 62 .nil) .ret⟩
theorem afC:Qe Tryz.prog Tryz.f171=some Ka:=by kernel_rfl
def JH:aA:=⟨6,[.t 2],Zr (Zc 2 0 .nil)<|Zr (Zm 3 0<|Zq 4 false 151 [.t 3]<|Zo (.bin 5 .sub false (.c (Zz 16)) (.t 4))<|Zm 2 5 .nil) .ret⟩
theorem afD:Qe Tryz.prog Tryz.f146=some JH:=by kernel_rfl
def Kh:aA:=⟨47,[.t 6],Zr (Zo (.mv 6 (.c .aa)) .nil)<|Zr (Zm 11 0<|Zn 12 11<|Zm 13 1<|Zn 14 13<|Zo (.mx 15 (.t 12) (.t 14))<|Zo (.mk 16 1 8 3 (Zz 0) (.t 15) (.t 15))<|Zm 7 16 .nil)<| .seq (Zr (Zm 17 7<|Zn 18 17<|Zc 19 0 .nil)<| .block 0<| .loop<|Zr (Zb 20 .lss 19 18 .nil)<| .seq (.cond (.t 20) .skip (.exit 0))<| .seq (.block 1<|Zr (Zm 21 19<|Zm 8 21 .nil)<|Zr (Zc 9 0<|Zc 10 0 .nil)<| .seq (Zr (Zm 22 8<|Zm 23 0<|Zn 24 23<|Zb 25 .lss 22 24 .nil)<| .cond (.t 25) (.rg (Zm 26 0<|Zm 27 8<|Zi 28 1 26 27<|Zl 29 1 28<|Zm 9 29 .nil)) .skip)<| .seq (Zr (Zm 30 8<|Zm 31 1<|Zn 32 31<|Zb 33 .lss 30 32 .nil)<| .cond (.t 33) (.rg (Zm 34 1<|Zm 35 8<|Zi 36 1 34 35<|Zl 37 1 36<|Zm 10 37 .nil)) .skip)<| .rg (Zm 38 7<|Zm 39 8<|Zm 40 2<|Zm 41 9<|Zm 42 10<|Zo (.call (some 43) false (.t 40) [.t 41,.t 42])<|Zi 44 1 38 39<|Zs 1 44 43 .nil))<| .rg (Zk 45 .add 19 1<|Zm 19 45 .nil))<|Zr (Zm 46 7<|Zm 6 46 .nil) .ret⟩
theorem afE:Qe Tryz.prog Tryz.f178=some Kh:=by kernel_rfl
def Lw:aA:=⟨24,[.t 2],Zr (Zo (.mv 2 (.c .aa)) .nil)<|Zr (Zm 4 0<|Zn 5 4<|Zm 3 5 .nil)<| .seq (.block 0<| .loop<| .seq (Zr (Zm 6 3<|Zk 7 .gtr 6 0<|Zm 8 7<|Zg 8 true (.mv 9 (.t 0))<|Zg 8 true (.mv 10 (.t 3))<|Zg 8 true (.bin 11 .sub false (.t 10) (.c (Zz 1)))<|Zg 8 true (.idx 12 1 (.t 9) (.t 11))<|Zg 8 true (.ld 13 1 false (.t 12))<|Zg 8 true (.bin 14 .eql false (.t 13) (.c (Zz 0)))<|Zo (.pick 15 (.t 8) (.t 14) (.c (.bool false))) .nil)<| .cond (.t 15) .skip (.exit 0))<| .block 1<| .rg (Zm 16 3<|Zk 17 .sub 16 1<|Zm 3 17 .nil))<| .seq (Zr (Zm 18 3<|Zk 19 .eql 18 0 .nil)<| .cond (.t 19) (Zr (Zo (.mv 2 (.c .aa)) .nil) .ret) .skip)<|Zr (Zm 20 0<|Zm 21 3<|Zm 22 3<|Zo (.sl 23 1 (.t 20) none (some (.t 21)) (some (.t 22)))<|Zm 2 23 .nil) .ret⟩
theorem aiB:Qe Tryz.prog Tryz.f90=some Lw:=by kernel_rfl
def Lp:aA:=⟨35,[.t 2],Zr (Zo (.mv 2 (.c (.bool false))) .nil)<| .seq (Zr (Zm 5 0<|Zn 6 5<|Zk 7 .gtr 6 64<|Zm 8 7<|Zg 8 false (.mv 9 (.t 0))<|Zg 8 false (.len 10 (.t 9))<|Zg 8 false (.bin 11 .gtr false (.t 10) (.c (Zz 0)))<|Zg 8 false (.mv 12 (.t 11))<|Zg 12 true (.mv 13 (.t 0))<|Zg 12 true (.mv 14 (.t 0))<|Zg 12 true (.len 15 (.t 14))<|Zg 12 true (.bin 16 .sub false (.t 15) (.c (Zz 1)))<|Zg 12 true (.idx 17 1 (.t 13) (.t 16))<|Zg 12 true (.ld 18 1 false (.t 17))<|Zg 12 true (.bin 19 .eql false (.t 18) (.c (Zz 0)))<|Zg 8 false (.pick 20 (.t 12) (.t 19) (.c (.bool false)))<|Zo (.pick 21 (.t 8) (.c (.bool true)) (.t 20)) .nil)<| .cond (.t 21) (Zr (Zo (.mv 2 (.c (.bool false))) .nil) .ret) .skip)<| .seq (Zr (Zm 22 0<|Zn 23 22<|Zc 24 0 .nil)<| .block 0<| .loop<|Zr (Zb 25 .lss 24 23 .nil)<| .seq (.cond (.t 25) .skip (.exit 0))<| .seq (.block 1<|Zr (Zi 26 1 22 24<|Zl 27 1 26<|Zm 4 27 .nil)<|Zr (Zm 28 4<|Zk 29 .lss 28 0<|Zm 30 29<|Zg 30 false (.mv 31 (.t 4))<|Zg 30 false (.bin 32 .gtr false (.t 31) (.c (Zz 1048576)))<|Zo (.pick 33 (.t 30) (.c (.bool true)) (.t 32)) .nil)<| .cond (.t 33) (Zr (Zo (.mv 2 (.c (.bool false))) .nil) .ret) .skip)<| .rg (Zk 34 .add 24 1<|Zm 24 34 .nil))<|Zr (Zo (.mv 2 (.c (.bool true))) .nil) .ret⟩
theorem aiC:Qe Tryz.prog Tryz.f84=some Lp:=by kernel_rfl
def J9:aA:=⟨17,[.t 2],Zr (Zc 2 0 .nil)<|Zr (Zc 3 0 .nil)<| .seq (Zr (Zm 6 0<|Zn 7 6<|Zc 8 0 .nil)<| .block 0<| .loop<|Zr (Zb 9 .lss 8 7 .nil)<| .seq (.cond (.t 9) .skip (.exit 0))<| .seq (.block 1<|Zr (Zi 10 1 6 8<|Zl 11 1 10<|Zm 5 11 .nil)<| .rg (Zm 12 3<|Zm 13 5<|Zb 14 .add 12 13<|Zm 3 14 .nil))<| .rg (Zk 15 .add 8 1<|Zm 8 15 .nil))<|Zr (Zm 16 3<|Zm 2 16 .nil) .ret⟩
theorem afF:Qe Tryz.prog Tryz.f170=some J9:=by kernel_rfl
def Jk:aA:=⟨17,[.t 4],Zr (Zc 4 0 .nil)<| .seq (Zr (Zm 5 1<|Zk 6 .lss 5 0<|Zm 7 6<|Zg 7 false (.mv 8 (.t 1))<|Zg 7 false (.mv 9 (.t 0))<|Zg 7 false (.len 10 (.t 9))<|Zg 7 false (.bin 11 .geq false (.t 8) (.t 10))<|Zo (.pick 12 (.t 7) (.c (.bool true)) (.t 11)) .nil)<| .cond (.t 12) (Zr (Zc 4 0 .nil) .ret) .skip)<|Zr (Zm 13 0<|Zm 14 1<|Zi 15 1 13 14<|Zl 16 1 15<|Zm 4 16 .nil) .ret⟩
theorem afG:Qe Tryz.prog Tryz.f124=some Jk:=by kernel_rfl
def KL:aA:=⟨7,[.t 2],Zr (Zc 2 0 .nil)<|Zr (Zm 3 0<|Zq 4 false 90 [.t 3]<|Zn 5 4<|Zk 6 .sub 5 1<|Zm 2 6 .nil) .ret⟩
theorem ah9:Qe Tryz.prog Tryz.f45=some KL:=by kernel_rfl
def JS:aA:=⟨9,[.t 4],Zr (Zo (.mv 4 (.c .aa)) .nil)<|Zr (Zm 5 0<|Zm 6 1<|Zq 7 false 178 [.t 5,.t 6,.c (.fn 179 [] [])]<|Zq 8 false 90 [.t 7]<|Zm 4 8 .nil) .ret⟩
theorem afH:Qe Tryz.prog Tryz.f158=some JS:=by kernel_rfl
def Ki:aA:=⟨8,[.t 4],Zr (Zc 4 0 .nil)<|Zr (Zm 5 0<|Zm 6 1<|Zb 7 .add 5 6<|Zm 4 7 .nil) .ret⟩
theorem afJ:Qe Tryz.prog Tryz.f179=some Ki:=by kernel_rfl
def JE:aA:=⟨46,[.t 6],Zr (Zc 6 0 .nil)<| .seq (Zr (Zm 12 2<|Zk 13 .eql 12 1 .nil)<| .cond (.t 13) (Zr (Zm 14 0<|Zq 15 false 170 [.t 14]<|Zm 16 1<|Zq 17 false 170 [.t 16]<|Zm 7 15<|Zm 8 17 .nil)<|Zr (Zm 18 7<|Zm 19 8<|Zb 20 .neq 18 19 .nil)<| .cond (.t 20) (.seq (Zr (Zm 21 7<|Zm 22 8<|Zb 23 .lss 21 22 .nil)<| .cond (.t 23) (Zr (Zc 6 (-1) .nil) .ret) .skip)<|Zr (Zc 6 1 .nil) .ret) .skip) .skip)<| .seq (Zr (Zm 24 0<|Zn 25 24<|Zm 26 1<|Zn 27 26<|Zo (.mx 28 (.t 25) (.t 27))<|Zk 29 .sub 28 1<|Zm 9 29 .nil)<| .block 0<| .loop<| .seq (Zr (Zm 30 9<|Zk 31 .geq 30 0 .nil)<| .cond (.t 31) .skip (.exit 0))<| .seq (.block 1<|Zr (Zm 34 0<|Zm 35 9<|Zq 36 false 124 [.t 34,.t 35]<|Zm 37 1<|Zm 38 9<|Zq 39 false 124 [.t 37,.t 38]<|Zm 10 36<|Zm 11 39 .nil)<|Zr (Zm 40 10<|Zm 41 11<|Zb 42 .neq 40 41 .nil)<| .cond (.t 42) (.seq (Zr (Zm 43 10<|Zm 44 11<|Zb 45 .lss 43 44 .nil)<| .cond (.t 45) (Zr (Zc 6 (-1) .nil) .ret) .skip)<|Zr (Zc 6 1 .nil) .ret) .skip)<| .rg (Zm 32 9<|Zk 33 .sub 32 1<|Zm 9 33 .nil))<|Zr (Zc 6 0 .nil) .ret⟩
theorem afK:Qe Tryz.prog Tryz.f142=some JE:=by kernel_rfl
def JP:aA:=⟨97,[.t 8],Zr (Zo (.mv 8 (.c .aa)) .nil)<|Zr (Zm 15 0<|Zn 16 15<|Zm 17 1<|Zn 18 17<|Zb 19 .add 16 18<|Zo (.mk 20 4 80 54 (.agg [.bool false,.aa,.aa,.aa]) (.c (Zz 0)) (.t 19))<|Zm 9 20 .nil)<|Zr (Zc 10 0<|Zc 11 0 .nil)<| .seq (.block 0<| .loop<| .seq (Zr (Zm 21 10<|Zm 22 0<|Zn 23 22<|Zb 24 .lss 21 23<|Zm 25 24<|Zg 25 true (.mv 26 (.t 11))<|Zg 25 true (.mv 27 (.t 1))<|Zg 25 true (.len 28 (.t 27))<|Zg 25 true (.bin 29 .lss false (.t 26) (.t 28))<|Zo (.pick 30 (.t 25) (.t 29) (.c (.bool false))) .nil)<| .cond (.t 30) .skip (.exit 0))<| .block 1<|Zr (Zm 31 2<|Zm 32 0<|Zm 33 10<|Zi 34 4 32 33<|Zh 35 4 34<|Zm 36 1<|Zm 37 11<|Zi 38 4 36 37<|Zh 39 4 38<|Zo (.call (some 40) false (.t 31) [.t 35,.t 39])<|Zm 12 40 .nil)<| .block 2<|Zr (Zm 64 12<|Zk 65 .gtr 64 0<|Zm 63 65 .nil)<| .cond (.t 63) (Zr (Zm 66 9<|Zm 67 0<|Zm 68 10<|Zi 69 4 67 68<|Zh 70 4 69<|Zo (.bs 71 4 54 [.t 70])<|Zo (.app 72 4 80 54 (.t 66) (.t 71))<|Zm 9 72 .nil)<| .rg (Zm 73 10<|Zk 74 .add 73 1<|Zm 10 74 .nil)) (Zr (Zm 76 12<|Zk 77 .lss 76 0<|Zm 75 77 .nil)<| .cond (.t 75) (Zr (Zm 78 9<|Zm 79 1<|Zm 80 11<|Zi 81 4 79 80<|Zh 82 4 81<|Zo (.bs 83 4 54 [.t 82])<|Zo (.app 84 4 80 54 (.t 78) (.t 83))<|Zm 9 84 .nil)<| .rg (Zm 85 11<|Zk 86 .add 85 1<|Zm 11 86 .nil)) (.seq (Zr (Zm 42 3<|Zm 43 0<|Zm 44 10<|Zi 45 4 43 44<|Zh 46 4 45<|Zm 47 1<|Zm 48 11<|Zi 49 4 47 48<|Zh 50 4 49<| .br (Zo (.call (some 51) true (.t 42) [.t 46,.t 50])<|Zm 41 51<|Zo (.ext 52 (.t 41) 0)<|Zo (.ext 53 (.t 41) 1)<|Zo (.alloc 13 4 54 (.agg [.bool false,.aa,.aa,.aa]))<|Zs 4 13 52<|Zm 14 53 .nil) (Zo (.alloc 13 4 54 (.agg [.bool false,.aa,.aa,.aa]))<|Zo (.call (some 51) true (.t 42) [.t 46,.t 50])<|Zm 41 51<|Zo (.ext 52 (.t 41) 0)<|Zo (.ext 53 (.t 41) 1)<|Zs 4 13 52<|Zm 14 53 .nil))<|Zr (Zm 54 14 .nil)<| .cond (.t 54) (.rg (Zm 55 9<|Zh 56 4 13<|Zo (.bs 57 4 54 [.t 56])<|Zo (.app 58 4 80 54 (.t 55) (.t 57))<|Zm 9 58 .nil)) .skip)<|Zr (Zm 59 10<|Zk 60 .add 59 1<|Zm 10 60 .nil)<| .rg (Zm 61 11<|Zk 62 .add 61 1<|Zm 11 62 .nil))))<|Zr (Zm 87 9<|Zm 88 0<|Zm 89 10<|Zo (.sl 90 4 (.t 88) (some (.t 89)) none none)<|Zo (.app 91 4 80 54 (.t 87) (.t 90))<|Zm 9 91 .nil)<|Zr (Zm 92 9<|Zm 93 1<|Zm 94 11<|Zo (.sl 95 4 (.t 93) (some (.t 94)) none none)<|Zo (.app 96 4 80 54 (.t 92) (.t 95))<|Zm 8 96 .nil) .ret⟩
theorem afL:Qe Tryz.prog Tryz.f155=some JP:=by kernel_rfl
def AH:aA:=⟨10,[.t 4],Zr (Zo (.box 2 4 54 (.t 0))<|Zo (.box 3 4 54 (.t 1))<|Zc 4 0 .nil)<|Zr (Zf 5 3 2<|Zl 6 1 5<|Zf 7 3 3<|Zl 8 1 7<|Zq 9 false 142 [.t 6,.t 8,.c (Zz 0)]<|Zm 4 9 .nil) .ret⟩
theorem QR:Qe Tryz.prog Tryz.f85=some AH:=by kernel_rfl
def JQ:aA:=⟨19,[.cell 4 4 true,.t 5],Zr (Zo (.box 2 4 54 (.t 0))<|Zo (.box 3 4 54 (.t 1))<|Zo (.alloc 4 4 54 (.agg [.bool false,.aa,.aa,.aa]))<|Zo (.mv 5 (.c (.bool false))) .nil)<|Zr (Zf 7 0 2<|Zh 8 3 7<|Zf 9 0 3<|Zh 10 3 9<|Zq 11 false 48 [.t 8,.t 10]<|Zo (.alloc 6 3 43 (.agg [.bool false,.aa,.aa]))<|Zs 3 6 11 .nil)<|Zr (Zh 12 3 6<|Zf 13 3 2<|Zl 14 1 13<|Zo (.bU 15 [.bool false,.aa,.aa,.aa] [(0,3,.t 12),(3,1,.t 14)])<|Zh 16 3 6<|Zq 17 true 17 [.t 16]<|Zk 18 .neq 17 0<|Zs 4 4 15<|Zm 5 18 .nil) .ret⟩
theorem afM:Qe Tryz.prog Tryz.f156=some JQ:=by kernel_rfl
def y7:aA:=⟨25,[.t 2],Zr (Zo (.mv 2 (.c .aa)) .nil)<| .seq (Zr (Zm 4 0<|Zn 5 4 .nil)<| .block 0<|Zr (Zk 7 .eql 5 0<|Zm 6 7 .nil)<| .cond (.t 6) (Zr (Zo (.mv 2 (.c .aa)) .nil) .ret) (Zr (Zk 9 .eql 5 1<|Zm 8 9 .nil)<| .cond (.t 8) (Zr (Zm 10 0<|Zo (.idx 11 1 (.t 10) (.c (Zz 0)))<|Zl 12 1 11<|Zm 2 12 .nil) .ret) .skip))<|Zr (Zm 13 0<|Zn 14 13<|Zk 15 .quo 14 2<|Zm 3 15 .nil)<|Zr (Zm 16 0<|Zm 17 3<|Zo (.sl 18 1 (.t 16) none (some (.t 17)) none)<|Zm 20 0<|Zm 21 3<|Zo (.sl 22 1 (.t 20) (some (.t 21)) none none)<|Zq 19 false 111 [.t 18]<|Zq 23 false 111 [.t 22]<|Zq 24 false 108 [.t 19,.t 23]<|Zm 2 24 .nil) .ret⟩
theorem O6:Qe Tryz.prog Tryz.f111=some y7:=by kernel_rfl
def Jf:aA:=⟨12,[.t 4],Zr (Zo (.box 2 3 43 (.t 0))<|Zo (.mv 4 (.c .aa)) .nil)<| .seq (Zr (Zh 5 3 2<|Zq 6 false 17 [.t 5]<|Zk 7 .eql 6 0 .nil)<| .cond (.t 7) (Zr (Zo (.mv 4 (.c .aa)) .nil) .ret) .skip)<|Zr (Zh 8 3 2<|Zm 9 1<|Zo (.bU 10 [.bool false,.aa,.aa,.aa] [(0,3,.t 8),(3,1,.t 9)])<|Zo (.bs 11 4 54 [.t 10])<|Zm 4 11 .nil) .ret⟩
theorem afN:Qe Tryz.prog Tryz.f119=some Jf:=by kernel_rfl
def KG:aA:=⟨43,[.t 2],Zr (Zo (.mv 2 (.c (.bool false))) .nil)<| .seq (Zr (Zm 5 0<|Zn 6 5<|Zc 7 0 .nil)<| .block 0<| .loop<|Zr (Zb 8 .lss 7 6 .nil)<| .seq (.cond (.t 8) .skip (.exit 0))<| .seq (.block 1<|Zr (Zm 9 7<|Zi 10 4 5 7<|Zh 11 4 10<|Zo (.alloc 4 4 54 (.agg [.bool false,.aa,.aa,.aa]))<|Zm 3 9<|Zs 4 4 11 .nil)<|Zr (Zf 12 0 4<|Zh 13 3 12<|Zq 14 true 15 [.t 13]<|Zu 15 14<|Zm 16 15<|Zg 16 false (.cE 17 0 (.t 4))<|Zg 16 false (.ld 18 3 true (.t 17))<|Zg 16 false (.call (some 19) true (.c (.fn 17 [] [])) [.t 18])<|Zg 16 false (.bin 20 .eql false (.t 19) (.c (Zz 0)))<|Zo (.pick 21 (.t 16) (.c (.bool true)) (.t 20))<|Zm 22 21<|Zg 22 false (.cE 23 3 (.t 4))<|Zg 22 false (.ld 24 1 false (.t 23))<|Zg 22 false (.call (some 25) true (.c (.fn 84 [] [])) [.t 24])<|Zg 22 false (.un 26 .not (.t 25))<|Zo (.pick 27 (.t 22) (.c (.bool true)) (.t 26))<|Zm 28 27<|Zg 28 false (.mv 29 (.t 3))<|Zg 28 false (.bin 30 .gtr false (.t 29) (.c (Zz 0)))<|Zg 28 false (.mv 31 (.t 30))<|Zg 31 true (.mv 32 (.t 0))<|Zg 31 true (.mv 33 (.t 3))<|Zg 31 true (.bin 34 .sub false (.t 33) (.c (Zz 1)))<|Zg 31 true (.idx 35 4 (.t 32) (.t 34))<|Zg 31 true (.ld 36 4 true (.t 35))<|Zg 31 true (.ld 37 4 true (.t 4))<|Zg 31 true (.call (some 38) true (.c (.fn 85 [] [])) [.t 36,.t 37])<|Zg 31 true (.bin 39 .leq false (.t 38) (.c (Zz 0)))<|Zg 28 false (.pick 40 (.t 31) (.t 39) (.c (.bool false)))<|Zo (.pick 41 (.t 28) (.c (.bool true)) (.t 40)) .nil)<| .cond (.t 41) (Zr (Zo (.mv 2 (.c (.bool false))) .nil) .ret) .skip)<| .rg (Zk 42 .add 7 1<|Zm 7 42 .nil))<|Zr (Zo (.mv 2 (.c (.bool true))) .nil) .ret⟩
theorem aia:Qe Tryz.prog Tryz.f40=some KG:=by kernel_rfl
def K8:aA:=⟨7,[.t 2],Zr (Zo (.box 1 3 43 (.t 0))<|Zo (.mv 2 (.c .aa)) .nil)<|Zr (Zh 3 3 1<|Zq 4 true 26 [.c (Zz 0)]<|Zq 5 true 48 [.t 3,.t 4]<|Zq 6 true 119 [.t 5,.c .aa]<|Zm 2 6 .nil) .ret⟩
theorem aib:Qe Tryz.prog Tryz.f65=some K8:=by kernel_rfl
def La:aA:=⟨10,[.t 4],Zr (Zc 4 0 .nil)<|Zr (Zo (.mv 5 (.c (.fn 125 [] []))) .nil)<|Zr (Zm 6 0<|Zm 7 1<|Zm 8 5<|Zq 9 false 127 [.t 6,.t 7,.t 8]<|Zm 4 9 .nil) .ret⟩
theorem aic:Qe Tryz.prog Tryz.f68=some La:=by kernel_rfl
def Jl:aA:=⟨17,[.t 4],Zr (Zo (.box 2 4 54 (.t 0))<|Zo (.box 3 4 54 (.t 1))<|Zc 4 0 .nil)<| .seq (Zr (Zh 6 4 2<|Zh 7 4 3<|Zq 8 false 85 [.t 6,.t 7]<|Zm 5 8 .nil)<|Zr (Zm 9 5<|Zk 10 .neq 9 0 .nil)<| .cond (.t 10) (Zr (Zm 11 5<|Zm 4 11 .nil) .ret) .skip)<|Zr (Zf 12 0 2<|Zh 13 3 12<|Zf 14 0 3<|Zh 15 3 14<|Zq 16 false 126 [.t 13,.t 15]<|Zm 4 16 .nil) .ret⟩
theorem afO:Qe Tryz.prog Tryz.f125=some Jl:=by kernel_rfl
def JR:aA:=⟨6,[.t 2],Zr (Zo (.mv 2 (.c .aa)) .nil)<|Zr (Zm 3 0<|Zq 4 false 26 [.c (Zz (-1))]<|Zq 5 false 121 [.t 3,.t 4]<|Zm 2 5 .nil) .ret⟩
theorem afP:Qe Tryz.prog Tryz.f157=some JR:=by kernel_rfl
def I5:aA:=⟨8,[.t 4],Zr (Zo (.mv 4 (.c .aa)) .nil)<|Zr (Zm 5 0<|Zm 6 1<|Zq 7 false 155 [.t 5,.t 6,.c (.fn 85 [] []),.c (.fn 156 [] [])]<|Zm 4 7 .nil) .ret⟩
theorem afQ:Qe Tryz.prog Tryz.f108=some I5:=by kernel_rfl
def I6:aA:=⟨9,[.t 4],Zr (Zo (.mv 4 (.c .aa)) .nil)<|Zr (Zm 5 0<|Zm 6 1<|Zq 7 false 157 [.t 6]<|Zq 8 false 108 [.t 5,.t 7]<|Zm 4 8 .nil) .ret⟩
theorem afR:Qe Tryz.prog Tryz.f109=some I6:=by kernel_rfl
def I8:aA:=⟨38,[.t 4],Zr (Zo (.box 3 4 54 (.t 1))<|Zo (.mv 4 (.c .aa)) .nil)<|Zr (Zm 9 0<|Zn 10 9<|Zo (.mk 11 4 80 54 (.agg [.bool false,.aa,.aa,.aa]) (.c (Zz 0)) (.t 10))<|Zm 5 11 .nil)<| .seq (Zr (Zm 12 0<|Zn 13 12<|Zc 14 0 .nil)<| .block 0<| .loop<|Zr (Zb 15 .lss 14 13 .nil)<| .seq (.cond (.t 15) .skip (.exit 0))<| .seq (.block 1<|Zr (Zi 16 4 12 14<|Zh 17 4 16<|Zo (.alloc 7 4 54 (.agg [.bool false,.aa,.aa,.aa]))<|Zs 4 7 17 .nil)<|Zr (Zf 18 0 7<|Zh 19 3 18<|Zf 20 0 3<|Zh 21 3 20<|Zq 22 false 46 [.t 19,.t 21]<|Zo (.alloc 8 3 43 (.agg [.bool false,.aa,.aa]))<|Zs 3 8 22 .nil)<|Zr (Zh 23 3 8<|Zq 24 false 17 [.t 23]<|Zk 25 .neq 24 0 .nil)<| .cond (.t 25) (.rg (Zm 26 5<|Zh 27 3 8<|Zf 28 3 7<|Zl 29 1 28<|Zf 30 3 3<|Zl 31 1 30<|Zq 32 true 158 [.t 29,.t 31]<|Zo (.bU 33 [.bool false,.aa,.aa,.aa] [(0,3,.t 27),(3,1,.t 32)])<|Zo (.bs 34 4 54 [.t 33])<|Zo (.app 35 4 80 54 (.t 26) (.t 34))<|Zm 5 35 .nil)) .skip)<| .rg (Zk 36 .add 14 1<|Zm 14 36 .nil))<|Zr (Zm 37 5<|Zm 4 37 .nil) .ret⟩
theorem afS:Qe Tryz.prog Tryz.f110=some I8:=by kernel_rfl
def K3:aA:=⟨33,[.t 4],Zr (Zo (.mv 4 (.c .aa)) .nil)<| .seq (Zr (Zm 8 0<|Zn 9 8<|Zm 10 1<|Zn 11 10<|Zb 12 .gtr 9 11 .nil)<| .cond (.t 12) (.rg (Zm 13 1<|Zm 14 0<|Zm 0 13<|Zm 1 14 .nil)) .skip)<|Zr (Zm 15 0<|Zn 16 15<|Zo (.mk 17 1 24 32 .aa (.c (Zz 0)) (.t 16))<|Zm 5 17 .nil)<| .seq (Zr (Zm 18 0<|Zn 19 18<|Zc 20 0 .nil)<| .block 0<| .loop<|Zr (Zb 21 .lss 20 19 .nil)<| .seq (.cond (.t 21) .skip (.exit 0))<| .seq (.block 1<|Zr (Zi 22 4 18 20<|Zh 23 4 22<|Zo (.alloc 7 4 54 (.agg [.bool false,.aa,.aa,.aa]))<|Zs 4 7 23 .nil)<| .rg (Zm 24 5<|Zm 25 1<|Zh 26 4 7<|Zq 27 false 110 [.t 25,.t 26]<|Zo (.bs 28 1 32 [.t 27])<|Zo (.app 29 1 24 32 (.t 24) (.t 28))<|Zm 5 29 .nil))<| .rg (Zk 30 .add 20 1<|Zm 20 30 .nil))<|Zr (Zm 31 5<|Zq 32 false 111 [.t 31]<|Zm 4 32 .nil) .ret⟩
theorem aid:Qe Tryz.prog Tryz.f60=some K3:=by kernel_rfl
def Jh:aA:=⟨12,[.t 4],Zr (Zo (.box 3 3 43 (.t 1))<|Zo (.mv 4 (.c .aa)) .nil)<| .seq (Zr (Zh 5 3 3<|Zq 6 false 17 [.t 5]<|Zk 7 .eql 6 0 .nil)<| .cond (.t 7) (Zr (Zo (.mv 4 (.c .aa)) .nil) .ret) .skip)<|Zr (Zm 8 0<|Zh 9 3 3<|Zo (.bU 10 [.bool false,.aa,.aa,.aa] [(0,3,.t 9)])<|Zq 11 false 110 [.t 8,.t 10]<|Zm 4 11 .nil) .ret⟩
theorem afT:Qe Tryz.prog Tryz.f121=some Jh:=by kernel_rfl
def Jn:aA:=⟨39,[.t 6],Zr (Zc 6 0 .nil)<| .seq (Zr (Zm 11 0<|Zn 12 11<|Zc 13 0 .nil)<| .block 0<| .loop<|Zr (Zb 14 .lss 13 12 .nil)<| .seq (.cond (.t 14) .skip (.exit 0))<| .seq (.block 1<|Zr (Zm 15 13<|Zi 16 4 11 13<|Zh 17 4 16<|Zo (.alloc 8 4 54 (.agg [.bool false,.aa,.aa,.aa]))<|Zm 7 15<|Zs 4 8 17 .nil)<| .seq (Zr (Zm 18 7<|Zm 19 1<|Zn 20 19<|Zb 21 .geq 18 20 .nil)<| .cond (.t 21) (Zr (Zc 6 1 .nil) .ret) .skip)<|Zr (Zm 22 1<|Zm 23 7<|Zi 24 4 22 23<|Zh 25 4 24<|Zo (.alloc 9 4 54 (.agg [.bool false,.aa,.aa,.aa]))<|Zs 4 9 25 .nil)<|Zr (Zm 26 2<|Zh 27 4 8<|Zh 28 4 9<|Zo (.call (some 29) false (.t 26) [.t 27,.t 28])<|Zm 10 29 .nil)<|Zr (Zm 30 10<|Zk 31 .neq 30 0 .nil)<| .cond (.t 31) (Zr (Zm 32 10<|Zm 6 32 .nil) .ret) .skip)<| .rg (Zk 33 .add 13 1<|Zm 13 33 .nil))<| .seq (Zr (Zm 34 0<|Zn 35 34<|Zm 36 1<|Zn 37 36<|Zb 38 .lss 35 37 .nil)<| .cond (.t 38) (Zr (Zc 6 (-1) .nil) .ret) .skip)<|Zr (Zc 6 0 .nil) .ret⟩
theorem afj:Qe Tryz.prog Tryz.f127=some Jn:=by kernel_rfl
def I9:aA:=⟨9,[.t 4],Zr (Zo (.mv 4 (.c (.bool false))) .nil)<|Zr (Zm 5 0<|Zm 6 1<|Zq 7 false 159 [.t 5,.t 6]<|Zk 8 .geq 7 0<|Zm 4 8 .nil) .ret⟩
theorem afk:Qe Tryz.prog Tryz.f112=some I9:=by kernel_rfl
def Ja:aA:=⟨9,[.t 4],Zr (Zo (.mv 4 (.c (.bool false))) .nil)<|Zr (Zm 5 0<|Zm 6 1<|Zq 7 false 160 [.t 5,.t 6]<|Zk 8 .geq 7 0<|Zm 4 8 .nil) .ret⟩
theorem afl:Qe Tryz.prog Tryz.f114=some Ja:=by kernel_rfl
def JT:aA:=⟨19,[.t 4],Zr (Zc 4 0 .nil)<| .seq (Zr (Zm 6 0<|Zn 7 6<|Zc 8 0 .nil)<| .block 0<| .loop<|Zr (Zb 9 .lss 8 7 .nil)<| .seq (.cond (.t 9) .skip (.exit 0))<| .seq (.block 1<|Zr (Zm 10 8<|Zm 5 10 .nil)<|Zr (Zm 11 1<|Zm 12 0<|Zm 13 5<|Zi 14 4 12 13<|Zh 15 4 14<|Zo (.call (some 16) false (.t 11) [.t 15]) .nil)<| .cond (.t 16) (Zr (Zm 17 5<|Zm 4 17 .nil) .ret) .skip)<| .rg (Zk 18 .add 8 1<|Zm 8 18 .nil))<|Zr (Zc 4 (-1) .nil) .ret⟩
theorem afm:Qe Tryz.prog Tryz.f159=some JT:=by kernel_rfl
def JU:aA:=⟨19,[.t 4],Zr (Zc 4 0 .nil)<| .seq (Zr (Zm 6 0<|Zn 7 6<|Zc 8 0 .nil)<| .block 0<| .loop<|Zr (Zb 9 .lss 8 7 .nil)<| .seq (.cond (.t 9) .skip (.exit 0))<| .seq (.block 1<|Zr (Zm 10 8<|Zm 5 10 .nil)<|Zr (Zm 11 1<|Zm 12 0<|Zm 13 5<|Zi 14 1 12 13<|Zl 15 1 14<|Zo (.call (some 16) false (.t 11) [.t 15]) .nil)<| .cond (.t 16) (Zr (Zm 17 5<|Zm 4 17 .nil) .ret) .skip)<| .rg (Zk 18 .add 8 1<|Zm 8 18 .nil))<|Zr (Zc 4 (-1) .nil) .ret⟩
theorem afn:Qe Tryz.prog Tryz.f160=some JU:=by kernel_rfl
def Ke:aA:=⟨15,[.cell 4 2 true],Zr (Zo (.alloc 4 2 41 (.agg [.bool false,.aa])) .nil)<|Zr (Zm 5 1<|Zq 6 false 86 [.t 5]<|Zm 1 6 .nil)<|Zr (Zm 7 0<|Zm 8 7<|Zg 8 true (.mv 9 (.t 1))<|Zg 8 true (.len 10 (.t 9))<|Zg 8 true (.bin 11 .gtr false (.t 10) (.c (Zz 0)))<|Zo (.pick 12 (.t 8) (.t 11) (.c (.bool false)))<|Zm 13 1<|Zo (.bU 14 [.bool false,.aa] [(0,1,.t 12),(1,1,.t 13)])<|Zs 2 4 14 .nil) .ret⟩
theorem afo:Qe Tryz.prog Tryz.f175=some Ke:=by kernel_rfl
def Je:aA:=⟨13,[.cell 4 2 true],Zr (Zo (.alloc 4 2 41 (.agg [.bool false,.aa])) .nil)<|Zr (Zm 5 0<|Zm 6 5<|Zg 6 true (.mv 7 (.t 1))<|Zg 6 true (.len 8 (.t 7))<|Zg 6 true (.bin 9 .gtr false (.t 8) (.c (Zz 0)))<|Zo (.pick 10 (.t 6) (.t 9) (.c (.bool false)))<|Zm 11 1<|Zo (.bU 12 [.bool false,.aa] [(0,1,.t 10),(1,1,.t 11)])<|Zs 2 4 12 .nil) .ret⟩
theorem afp:Qe Tryz.prog Tryz.f118=some Je:=by kernel_rfl
def KI:aA:=⟨27,[.t 2],Zr (Zo (.box 1 2 41 (.t 0))<|Zo (.mv 2 (.c (.bool false))) .nil)<|Zr (Zf 4 1 1<|Zl 5 1 4<|Zn 6 5<|Zm 3 6 .nil)<|Zr (Zm 7 3<|Zk 8 .eql 7 0<|Zm 9 8<|Zg 9 true (.cE 10 0 (.t 1))<|Zg 9 true (.ld 11 1 false (.t 10))<|Zg 9 true (.un 12 .not (.t 11))<|Zo (.pick 13 (.t 9) (.t 12) (.c (.bool false)))<|Zm 14 13<|Zg 14 false (.mv 15 (.t 3))<|Zg 14 false (.bin 16 .gtr false (.t 15) (.c (Zz 0)))<|Zg 14 false (.mv 17 (.t 16))<|Zg 17 true (.cE 18 1 (.t 1))<|Zg 17 true (.ld 19 1 false (.t 18))<|Zg 17 true (.mv 20 (.t 3))<|Zg 17 true (.bin 21 .sub false (.t 20) (.c (Zz 1)))<|Zg 17 true (.idx 22 1 (.t 19) (.t 21))<|Zg 17 true (.ld 23 1 false (.t 22))<|Zg 17 true (.bin 24 .neq false (.t 23) (.c (.int .u16 0)))<|Zg 14 false (.pick 25 (.t 17) (.t 24) (.c (.bool false)))<|Zo (.pick 26 (.t 14) (.c (.bool true)) (.t 25))<|Zm 2 26 .nil) .ret⟩
theorem aie:Qe Tryz.prog Tryz.f42=some KI:=by kernel_rfl
def JJ:aA:=⟨8,[.cell 2 2 true],Zr (Zo (.box 1 2 41 (.t 0))<|Zo (.alloc 2 2 41 (.agg [.bool false,.aa])) .nil)<|Zr (Zf 3 0 1<|Zl 4 1 3<|Zf 5 1 1<|Zl 6 1 5<|Zq 7 false 175 [.t 4,.t 6]<|Zs 2 2 7 .nil) .ret⟩
theorem afq:Qe Tryz.prog Tryz.f149=some JJ:=by kernel_rfl
def K6:aA:=⟨16,[.cell 2 2 true],Zr (Zo (.alloc 2 2 41 (.agg [.bool false,.aa])) .nil)<| .seq (Zr (Zm 3 0<|Zk 4 .lss 3 0 .nil)<| .cond (.t 4) (Zr (Zm 5 0<|Zk 6 .add 5 1<|Zo (.un 7 .neg (.t 6))<|Zo (.conv 8 .u64 (.t 7))<|Zo (.bin 9 .add false (.t 8) (.c (.int .u64 1)))<|Zq 10 false 88 [.t 9]<|Zq 11 false 118 [.c (.bool true),.t 10]<|Zs 2 2 11 .nil) .ret) .skip)<|Zr (Zm 12 0<|Zo (.conv 13 .u64 (.t 12))<|Zq 14 false 88 [.t 13]<|Zq 15 false 118 [.c (.bool false),.t 14]<|Zs 2 2 15 .nil) .ret⟩
theorem aif:Qe Tryz.prog Tryz.f63=some K6:=by kernel_rfl
def KQ:aA:=⟨11,[.t 2],Zr (Zo (.box 1 2 41 (.t 0))<|Zc 2 0 .nil)<| .seq (.block 0<|Zr (Zf 4 1 1<|Zl 5 1 4<|Zq 6 false 96 [.t 5]<|Zk 7 .eql 6 0<|Zm 3 7 .nil)<| .cond (.t 3) (Zr (Zc 2 0 .nil) .ret) (Zr (Zf 9 0 1<|Zl 10 1 9<|Zm 8 10 .nil)<| .cond (.t 8) (Zr (Zc 2 (-1) .nil) .ret) .skip))<|Zr (Zc 2 1 .nil) .ret⟩
theorem aih:Qe Tryz.prog Tryz.f50=some KQ:=by kernel_rfl
def JX:aA:=⟨35,[.t 4],Zr (Zo (.box 2 2 41 (.t 0))<|Zo (.box 3 2 41 (.t 1))<|Zc 4 0 .nil)<|Zr (Zh 8 2 2<|Zh 10 2 3<|Zq 9 true 50 [.t 8]<|Zq 11 true 50 [.t 10]<|Zm 5 9<|Zm 6 11 .nil)<|Zr (Zo (.mv 7 (.c (.fn 180 [] []))) .nil)<| .seq (.block 0<|Zr (Zm 13 5<|Zm 14 6<|Zb 15 .lss 13 14<|Zm 12 15 .nil)<| .cond (.t 12) (Zr (Zc 4 (-1) .nil) .ret) (Zr (Zm 17 5<|Zm 18 6<|Zb 19 .gtr 17 18<|Zm 16 19 .nil)<| .cond (.t 16) (Zr (Zc 4 1 .nil) .ret) (Zr (Zm 21 5<|Zk 22 .lss 21 0<|Zm 20 22 .nil)<| .cond (.t 20) (Zr (Zm 23 7<|Zf 24 1 3<|Zl 25 1 24<|Zf 26 1 2<|Zl 27 1 26<|Zo (.call (some 28) false (.t 23) [.t 25,.t 27])<|Zm 4 28 .nil) .ret) .skip)))<|Zr (Zm 29 7<|Zf 30 1 2<|Zl 31 1 30<|Zf 32 1 3<|Zl 33 1 32<|Zo (.call (some 34) false (.t 29) [.t 31,.t 33])<|Zm 4 34 .nil) .ret⟩
theorem afr:Qe Tryz.prog Tryz.f163=some JX:=by kernel_rfl
def Kk:aA:=⟨8,[.t 4],Zr (Zc 4 0 .nil)<|Zr (Zm 5 0<|Zm 6 1<|Zq 7 false 144 [.t 5,.t 6]<|Zm 4 7 .nil) .ret⟩
theorem afs:Qe Tryz.prog Tryz.f180=some Kk:=by kernel_rfl
def JL:aA:=⟨40,[.cell 4 2 true],Zr (Zo (.box 2 2 41 (.t 0))<|Zo (.box 3 2 41 (.t 1))<|Zo (.alloc 4 2 41 (.agg [.bool false,.aa])) .nil)<| .seq (Zr (Zf 7 0 2<|Zl 8 1 7<|Zf 9 0 3<|Zl 10 1 9<|Zo (.bin 11 .eql true (.t 8) (.t 10)) .nil)<| .cond (.t 11) (Zr (Zf 12 0 2<|Zl 13 1 12<|Zf 14 1 2<|Zl 15 1 14<|Zf 16 1 3<|Zl 17 1 16<|Zq 18 true 176 [.t 15,.t 17]<|Zq 19 true 118 [.t 13,.t 18]<|Zs 2 4 19 .nil) .ret) .skip)<| .seq (Zr (Zf 20 1 2<|Zl 21 1 20<|Zf 22 1 3<|Zl 23 1 22<|Zq 24 false 144 [.t 21,.t 23]<|Zk 25 .lss 24 0 .nil)<| .cond (.t 25) (.rg (Zh 26 2 3<|Zh 27 2 2<|Zs 2 2 26<|Zs 2 3 27 .nil)) .skip)<|Zr (Zf 29 1 2<|Zl 30 1 29<|Zf 31 1 3<|Zl 32 1 31<|Zq 33 false 177 [.t 30,.t 32]<|Zm 28 33<|Zo (.ext 34 (.t 28) 0)<|Zo (.ext 35 (.t 28) 1)<|Zm 5 34<|Zm 6 35 .nil)<|Zr (Zf 36 0 2<|Zl 37 1 36<|Zm 38 5<|Zq 39 false 118 [.t 37,.t 38]<|Zs 2 4 39 .nil) .ret⟩
theorem af4:Qe Tryz.prog Tryz.f150=some JL:=by kernel_rfl
def Ly:aA:=⟨16,[.cell 4 2 true],Zr (Zo (.box 2 2 41 (.t 0))<|Zo (.box 3 2 41 (.t 1))<|Zo (.alloc 4 2 41 (.agg [.bool false,.aa])) .nil)<|Zr (Zf 5 0 2<|Zl 6 1 5<|Zf 7 0 3<|Zl 8 1 7<|Zo (.bin 9 .neq true (.t 6) (.t 8))<|Zf 10 1 2<|Zl 11 1 10<|Zf 12 1 3<|Zl 13 1 12<|Zq 14 true 93 [.t 11,.t 13]<|Zq 15 true 118 [.t 9,.t 14]<|Zs 2 4 15 .nil) .ret⟩
theorem aii:Qe Tryz.prog Tryz.f92=some Ly:=by kernel_rfl
def KJ:aA:=⟨17,[.t 2],Zr (Zo (.mv 2 (.c (.bool false))) .nil)<|Zr (Zm 4 0<|Zn 5 4<|Zo (.bU 6 [Zz 0,.int .u16 0] [(0,1,.t 5)])<|Zo (.alloc 3 2 107 (.agg [Zz 0,.int .u16 0]))<|Zs 2 3 6 .nil)<| .seq (Zr (Zm 7 0<|Zn 8 7<|Zk 9 .gtr 8 0 .nil)<| .cond (.t 9) (.rg (Zm 10 0<|Zo (.idx 11 1 (.t 10) (.c (Zz 0)))<|Zl 12 1 11<|Zf 13 1 3<|Zs 1 13 12 .nil)) .skip)<|Zr (Zh 14 2 3<|Zo (.bU 15 [Zz 0,.int .u16 0] [(0,1,.c (Zz 1)),(1,1,.c (.int .u16 1))])<|Zo (.eqs 16 false (.t 14) (.t 15))<|Zm 2 16 .nil) .ret⟩
theorem aij:Qe Tryz.prog Tryz.f43=some KJ:=by kernel_rfl
def K7:aA:=⟨2,[.t 0],Zr (Zo (.mv 0 (.c .aa)) .nil)<|Zr (Zo (.bs 1 1 76 [.c (.int .u16 1)])<|Zm 0 1 .nil) .ret⟩
theorem aiN:Qe Tryz.prog Tryz.f64=some K7:=by kernel_rfl
def Lx:aA:=⟨52,[.cell 4 3 true],Zr (Zo (.box 2 2 41 (.t 0))<|Zo (.alloc 4 3 43 (.agg [.bool false,.aa,.aa])) .nil)<|Zr (Zm 6 1<|Zq 7 false 86 [.t 6]<|Zm 1 7 .nil)<|Zr (Zh 8 2 2<|Zq 9 false 149 [.t 8]<|Zs 2 2 9 .nil)<| .seq (Zr (Zm 10 1<|Zn 11 10<|Zk 12 .eql 11 0<|Zm 13 12<|Zg 13 false (.cE 14 1 (.t 2))<|Zg 13 false (.ld 15 1 false (.t 14))<|Zg 13 false (.len 16 (.t 15))<|Zg 13 false (.bin 17 .eql false (.t 16) (.c (Zz 0)))<|Zo (.pick 18 (.t 13) (.c (.bool true)) (.t 17)) .nil)<| .cond (.t 18) (Zr (Zq 19 false 64 []<|Zo (.bU 20 [.bool false,.aa,.aa] [(2,1,.t 19)])<|Zs 3 4 20 .nil) .ret) .skip)<| .seq (Zr (Zm 21 1<|Zq 22 false 43 [.t 21] .nil)<| .cond (.t 22) (Zr (Zh 23 2 2<|Zm 24 1<|Zo (.bU 25 [.bool false,.aa,.aa] [(0,2,.t 23),(2,1,.t 24)])<|Zs 3 4 25 .nil) .ret) .skip)<|Zr (Zf 26 1 2<|Zl 27 1 26<|Zm 28 1<|Zq 29 false 44 [.t 27,.t 28]<|Zm 5 29 .nil)<| .seq (Zr (Zm 30 5<|Zq 31 false 43 [.t 30]<|Zu 32 31 .nil)<| .cond (.t 32) (Zr (Zf 34 1 2<|Zl 35 1 34<|Zm 36 5<|Zq 37 false 89 [.t 35,.t 36]<|Zm 33 37<|Zo (.ext 38 (.t 33) 0)<|Zo (.ext 39 (.t 33) 1)<|Zo (.ext 40 (.t 33) 2)<|Zf 41 1 2<|Zs 1 41 38 .nil)<| .rg (Zm 43 1<|Zm 44 5<|Zq 45 false 89 [.t 43,.t 44]<|Zm 42 45<|Zo (.ext 46 (.t 42) 0)<|Zo (.ext 47 (.t 42) 1)<|Zo (.ext 48 (.t 42) 2)<|Zm 1 46 .nil)) .skip)<|Zr (Zh 49 2 2<|Zm 50 1<|Zo (.bU 51 [.bool false,.aa,.aa] [(0,2,.t 49),(2,1,.t 50)])<|Zs 3 4 51 .nil) .ret⟩
theorem aiO:Qe Tryz.prog Tryz.f91=some Lx:=by kernel_rfl
def KP:aA:=⟨14,[.cell 2 2 true,.t 3],Zr (Zo (.box 1 3 43 (.t 0))<|Zo (.alloc 2 2 41 (.agg [.bool false,.aa]))<|Zo (.mv 3 (.c .aa)) .nil)<| .seq (Zr (Zf 4 2 1<|Zl 5 1 4<|Zq 6 false 96 [.t 5]<|Zk 7 .eql 6 0 .nil)<| .cond (.t 7) (Zr (Zo (.bU 8 [.bool false,.aa] [])<|Zq 9 false 64 []<|Zs 2 2 8<|Zm 3 9 .nil) .ret) .skip)<|Zr (Zf 10 0 1<|Zh 11 2 10<|Zf 12 2 1<| .br (Zl 13 1 12<|Zs 2 2 11<|Zm 3 13 .nil) (Zs 2 2 11<|Zl 13 1 12<|Zm 3 13 .nil)) .ret⟩
theorem aiP:Qe Tryz.prog Tryz.f49=some KP:=by kernel_rfl
def LB:aA:=⟨5,[.cell 2 2 true],Zr (Zo (.alloc 2 2 41 (.agg [.bool false,.aa])) .nil)<|Zr (Zm 3 0<|Zo (.bU 4 [.bool false,.aa] [(1,1,.t 3)])<|Zs 2 2 4 .nil) .ret⟩
theorem aiQ:Qe Tryz.prog Tryz.f95=some LB:=by kernel_rfl
def JK:aA:=⟨36,[.t 2],Zr (Zo (.box 1 3 43 (.t 0))<|Zo (.mv 2 (.c (.bool false))) .nil)<|Zr (Zf 4 2 1<|Zl 5 1 4<|Zn 6 5<|Zm 3 6 .nil)<| .seq (Zr (Zf 7 0 1<|Zh 8 2 7<|Zq 9 false 42 [.t 8]<|Zu 10 9<|Zm 11 10<|Zg 11 false (.mv 12 (.t 3))<|Zg 11 false (.bin 13 .eql false (.t 12) (.c (Zz 0)))<|Zo (.pick 14 (.t 11) (.c (.bool true)) (.t 13))<|Zm 15 14<|Zg 15 false (.cE 16 2 (.t 1))<|Zg 15 false (.ld 17 1 false (.t 16))<|Zg 15 false (.mv 18 (.t 3))<|Zg 15 false (.bin 19 .sub false (.t 18) (.c (Zz 1)))<|Zg 15 false (.idx 20 1 (.t 17) (.t 19))<|Zg 15 false (.ld 21 1 false (.t 20))<|Zg 15 false (.bin 22 .eql false (.t 21) (.c (.int .u16 0)))<|Zo (.pick 23 (.t 15) (.c (.bool true)) (.t 22)) .nil)<| .cond (.t 23) (Zr (Zo (.mv 2 (.c (.bool false))) .nil) .ret) .skip)<|Zr (Zf 24 2 1<|Zl 25 1 24<|Zq 26 false 43 [.t 25]<|Zm 27 26<|Zg 27 false (.cE 28 0 (.t 1))<|Zg 27 false (.cE 29 1 (.t 28))<|Zg 27 false (.ld 30 1 false (.t 29))<|Zg 27 false (.cE 31 2 (.t 1))<|Zg 27 false (.ld 32 1 false (.t 31))<|Zg 27 false (.call (some 33) false (.c (.fn 44 [] [])) [.t 30,.t 32])<|Zg 27 false (.call (some 34) false (.c (.fn 43 [] [])) [.t 33])<|Zo (.pick 35 (.t 27) (.c (.bool true)) (.t 34))<|Zm 2 35 .nil) .ret⟩
theorem aiR:Qe Tryz.prog Tryz.f15=some JK:=by kernel_rfl
def Kv:aA:=⟨7,[.cell 2 3 true],Zr (Zo (.alloc 2 3 43 (.agg [.bool false,.aa,.aa])) .nil)<|Zr (Zm 3 0<|Zq 4 false 63 [.t 3]<|Zq 5 false 64 []<|Zo (.bU 6 [.bool false,.aa,.aa] [(0,2,.t 4),(2,1,.t 5)])<|Zs 3 2 6 .nil) .ret⟩
theorem aiS:Qe Tryz.prog Tryz.f26=some Kv:=by kernel_rfl
def J8:aA:=⟨12,[.t 2],Zr (Zo (.box 1 3 43 (.t 0))<|Zc 2 0 .nil)<|Zr (Zh 6 3 1<|Zq 7 false 49 [.t 6]<|Zm 5 7<|Zo (.ext 8 (.t 5) 0)<|Zo (.ext 9 (.t 5) 1)<|Zo (.alloc 3 2 41 (.agg [.bool false,.aa]))<|Zs 2 3 8<|Zm 4 9 .nil)<|Zr (Zh 10 2 3<|Zq 11 false 50 [.t 10]<|Zm 2 11 .nil) .ret⟩
theorem aiT:Qe Tryz.prog Tryz.f17=some J8:=by kernel_rfl
def Jm:aA:=⟨40,[.t 4],Zr (Zo (.box 2 3 43 (.t 0))<|Zo (.box 3 3 43 (.t 1))<|Zc 4 0 .nil)<|Zr (Zh 11 3 2<|Zh 13 3 3<|Zq 12 true 17 [.t 11]<|Zq 14 true 17 [.t 13]<|Zm 5 12<|Zm 6 14 .nil)<| .seq (Zr (Zm 15 5<|Zm 16 6<|Zb 17 .neq 15 16 .nil)<| .cond (.t 17) (.seq (Zr (Zm 18 5<|Zm 19 6<|Zb 20 .lss 18 19 .nil)<| .cond (.t 20) (Zr (Zc 4 (-1) .nil) .ret) .skip)<|Zr (Zc 4 1 .nil) .ret) .skip)<|Zr (Zh 22 3 2<|Zq 23 false 49 [.t 22]<|Zm 21 23<|Zo (.ext 24 (.t 21) 0)<|Zo (.ext 25 (.t 21) 1)<|Zo (.alloc 7 2 41 (.agg [.bool false,.aa]))<|Zs 2 7 24<|Zm 8 25 .nil)<|Zr (Zh 27 3 3<|Zq 28 false 49 [.t 27]<|Zm 26 28<|Zo (.ext 29 (.t 26) 0)<|Zo (.ext 30 (.t 26) 1)<|Zo (.alloc 9 2 41 (.agg [.bool false,.aa]))<|Zs 2 9 29<|Zm 10 30 .nil)<|Zr (Zh 31 2 7<|Zm 32 10<|Zh 35 2 9<|Zm 36 8<|Zq 33 true 95 [.t 32]<|Zq 34 true 92 [.t 31,.t 33]<|Zq 37 true 95 [.t 36]<|Zq 38 true 92 [.t 35,.t 37]<|Zq 39 true 163 [.t 34,.t 38]<|Zm 4 39 .nil) .ret⟩
theorem af5:Qe Tryz.prog Tryz.f126=some Jm:=by kernel_rfl
def LA:aA:=⟨17,[.cell 2 2 true],Zr (Zo (.alloc 2 2 41 (.agg [.bool false,.aa])) .nil)<|Zr (Zo (.alloc 3 2 41 (.agg [.bool false,.aa])) .nil)<| .seq (Zr (Zm 6 0<|Zn 7 6<|Zc 8 0 .nil)<| .block 0<| .loop<|Zr (Zb 9 .lss 8 7 .nil)<| .seq (.cond (.t 9) .skip (.exit 0))<| .seq (.block 1<|Zr (Zi 10 2 6 8<|Zh 11 2 10<|Zo (.alloc 5 2 41 (.agg [.bool false,.aa]))<|Zs 2 5 11 .nil)<| .rg (Zh 12 2 3<|Zh 13 2 5<|Zq 14 false 150 [.t 12,.t 13]<|Zs 2 3 14 .nil))<| .rg (Zk 15 .add 8 1<|Zm 8 15 .nil))<|Zr (Zh 16 2 3<|Zs 2 2 16 .nil) .ret⟩
theorem aiU:Qe Tryz.prog Tryz.f94=some LA:=by kernel_rfl
def KO:aA:=⟨45,[.cell 4 3 true],Zr (Zo (.box 2 3 43 (.t 0))<|Zo (.box 3 3 43 (.t 1))<|Zo (.alloc 4 3 43 (.agg [.bool false,.aa,.aa])) .nil)<|Zr (Zh 10 3 2<|Zq 11 false 49 [.t 10]<|Zm 9 11<|Zo (.ext 12 (.t 9) 0)<|Zo (.ext 13 (.t 9) 1)<|Zo (.alloc 5 2 41 (.agg [.bool false,.aa]))<|Zs 2 5 12<|Zm 6 13 .nil)<|Zr (Zh 15 3 3<|Zq 16 false 49 [.t 15]<|Zm 14 16<|Zo (.ext 17 (.t 14) 0)<|Zo (.ext 18 (.t 14) 1)<|Zo (.alloc 7 2 41 (.agg [.bool false,.aa]))<|Zs 2 7 17<|Zm 8 18 .nil)<| .seq (Zr (Zm 19 6<|Zq 20 false 43 [.t 19]<|Zm 21 20<|Zg 21 true (.mv 22 (.t 8))<|Zg 21 true (.call (some 23) false (.c (.fn 43 [] [])) [.t 22])<|Zo (.pick 24 (.t 21) (.t 23) (.c (.bool false))) .nil)<| .cond (.t 24) (Zr (Zh 25 2 5<|Zh 26 2 7<|Zo (.bs 27 2 41 [.t 25,.t 26])<|Zq 28 false 94 [.t 27]<|Zm 29 6<|Zq 30 false 91 [.t 28,.t 29]<|Zs 3 4 30 .nil) .ret) .skip)<|Zr (Zh 31 2 5<|Zm 32 8<|Zh 35 2 7<|Zm 36 6<|Zm 41 6<|Zm 42 8<|Zq 33 true 95 [.t 32]<|Zq 34 true 92 [.t 31,.t 33]<|Zq 37 true 95 [.t 36]<|Zq 38 true 92 [.t 35,.t 37]<|Zo (.bs 39 2 41 [.t 34,.t 38])<|Zq 40 true 94 [.t 39]<|Zq 43 true 93 [.t 41,.t 42]<|Zq 44 true 91 [.t 40,.t 43]<|Zs 3 4 44 .nil) .ret⟩
theorem aiV:Qe Tryz.prog Tryz.f48=some KO:=by kernel_rfl
def KN:aA:=⟨26,[.cell 4 3 true],Zr (Zo (.box 2 3 43 (.t 0))<|Zo (.box 3 3 43 (.t 1))<|Zo (.alloc 4 3 43 (.agg [.bool false,.aa,.aa])) .nil)<|Zr (Zh 10 3 2<|Zq 11 false 49 [.t 10]<|Zm 9 11<|Zo (.ext 12 (.t 9) 0)<|Zo (.ext 13 (.t 9) 1)<|Zo (.alloc 5 2 41 (.agg [.bool false,.aa]))<|Zs 2 5 12<|Zm 6 13 .nil)<|Zr (Zh 15 3 3<|Zq 16 false 49 [.t 15]<|Zm 14 16<|Zo (.ext 17 (.t 14) 0)<|Zo (.ext 18 (.t 14) 1)<|Zo (.alloc 7 2 41 (.agg [.bool false,.aa]))<|Zs 2 7 17<|Zm 8 18 .nil)<|Zr (Zh 19 2 5<|Zh 20 2 7<|Zq 21 false 92 [.t 19,.t 20]<|Zm 22 6<|Zm 23 8<|Zq 24 false 93 [.t 22,.t 23]<|Zq 25 false 91 [.t 21,.t 24]<|Zs 3 4 25 .nil) .ret⟩
theorem aiW:Qe Tryz.prog Tryz.f46=some KN:=by kernel_rfl
def JV:aA:=⟨21,[.cell 4 3 true,.t 5],Zr (Zo (.box 2 2 41 (.t 0))<|Zo (.box 3 2 41 (.t 1))<|Zo (.alloc 4 3 43 (.agg [.bool false,.aa,.aa]))<|Zc 5 0 .nil)<| .seq (Zr (Zh 6 2 3<|Zq 7 false 50 [.t 6]<|Zk 8 .eql 7 0 .nil)<| .cond (.t 8) (Zr (Zo (.bU 9 [.bool false,.aa,.aa] [])<|Zs 3 4 9<|Zc 5 3 .nil) .ret) .skip)<|Zr (Zf 10 0 2<|Zl 11 1 10<|Zf 12 0 3<|Zl 13 1 12<|Zo (.bin 14 .neq true (.t 11) (.t 13))<|Zf 15 1 2<|Zl 16 1 15<|Zo (.bU 17 [.bool false,.aa] [(0,1,.t 14),(1,1,.t 16)])<|Zf 18 1 3<|Zl 19 1 18<|Zq 20 false 91 [.t 17,.t 19]<|Zs 3 4 20<|Zc 5 0 .nil) .ret⟩
theorem af6:Qe Tryz.prog Tryz.f161=some JV:=by kernel_rfl
def JI:aA:=⟨108,[.t 4],Zr (Zo (.box 2 1 39 (.t 0))<|Zo (.box 3 1 39 (.t 1))<|Zo (.mv 4 (.c .aa)) .nil)<|Zr (Zl 12 1 3<|Zn 13 12<|Zo (.alloc 5 1 3 (Zz 0))<|Zs 1 5 13 .nil)<|Zr (Zl 14 1 2<|Zn 15 14<|Zl 16 1 5<|Zb 17 .sub 15 16<|Zo (.mk 18 1 2 76 (.int .u16 0) (.t 17) (.t 17))<|Zm 6 18 .nil)<| .seq (Zr (Zl 19 1 2<|Zn 20 19<|Zl 21 1 5<|Zb 22 .sub 20 21<|Zk 23 .sub 22 1<|Zo (.alloc 7 1 3 (Zz 0))<|Zs 1 7 23 .nil)<| .block 0<| .loop<| .seq (Zr (Zl 24 1 7<|Zk 25 .geq 24 0 .nil)<| .cond (.t 25) .skip (.exit 0))<| .seq (.block 1<|Zr (Zl 28 1 2<|Zl 29 1 7<|Zl 30 1 5<|Zb 31 .add 29 30<|Zi 32 1 28 31<|Zl 33 1 32<|Zo (.conv 34 .u64 (.t 33))<|Zo (.bin 35 .shl false (.t 34) (.c (.int .u64 16)))<|Zl 36 1 2<|Zl 37 1 7<|Zl 38 1 5<|Zb 39 .add 37 38<|Zk 40 .sub 39 1<|Zi 41 1 36 40<|Zl 42 1 41<|Zo (.conv 43 .u64 (.t 42))<|Zb 44 .or 35 43<|Zm 8 44 .nil)<|Zr (Zm 45 8<|Zl 46 1 3<|Zl 47 1 5<|Zk 48 .sub 47 1<|Zi 49 1 46 48<|Zl 50 1 49<|Zo (.conv 51 .u64 (.t 50))<|Zb 52 .quo 45 51<|Zm 53 8<| .br (Zl 54 1 3<| .br (Zl 55 1 5<|Zk 56 .sub 55 1<|Zi 57 1 54 56<| .br (Zl 58 1 57<|Zo (.conv 59 .u64 (.t 58))<|Zb 60 .rem 53 59<| .br (Zo (.alloc 9 1 101 (.int .u64 0))<|Zo (.alloc 10 1 101 (.int .u64 0))<|Zs 1 9 52<|Zs 1 10 60 .nil) (Zo (.alloc 10 1 101 (.int .u64 0))<|Zo (.alloc 9 1 101 (.int .u64 0))<|Zs 1 9 52<|Zs 1 10 60 .nil)) (.br (Zo (.alloc 9 1 101 (.int .u64 0))<| .br (Zl 58 1 57<|Zo (.conv 59 .u64 (.t 58))<|Zb 60 .rem 53 59<|Zo (.alloc 10 1 101 (.int .u64 0))<|Zs 1 9 52<|Zs 1 10 60 .nil) (Zo (.alloc 10 1 101 (.int .u64 0))<| .br (Zl 58 1 57<|Zo (.conv 59 .u64 (.t 58))<|Zb 60 .rem 53 59<|Zs 1 9 52<|Zs 1 10 60 .nil) (Zs 1 9 52<|Zl 58 1 57<|Zo (.conv 59 .u64 (.t 58))<|Zb 60 .rem 53 59<|Zs 1 10 60 .nil))) (Zo (.alloc 10 1 101 (.int .u64 0))<| .br (Zl 58 1 57<|Zo (.conv 59 .u64 (.t 58))<|Zb 60 .rem 53 59<|Zo (.alloc 9 1 101 (.int .u64 0))<|Zs 1 9 52<|Zs 1 10 60 .nil) (Zo (.alloc 9 1 101 (.int .u64 0))<| .br (Zl 58 1 57<|Zo (.conv 59 .u64 (.t 58))<|Zb 60 .rem 53 59<|Zs 1 9 52<|Zs 1 10 60 .nil) (Zs 1 9 52<|Zl 58 1 57<|Zo (.conv 59 .u64 (.t 58))<|Zb 60 .rem 53 59<|Zs 1 10 60 .nil))))) (.br (Zo (.alloc 9 1 101 (.int .u64 0))<| .br (Zl 55 1 5<|Zk 56 .sub 55 1<|Zi 57 1 54 56<| .br (Zl 58 1 57<|Zo (.conv 59 .u64 (.t 58))<|Zb 60 .rem 53 59<|Zo (.alloc 10 1 101 (.int .u64 0))<|Zs 1 9 52<|Zs 1 10 60 .nil) (Zo (.alloc 10 1 101 (.int .u64 0))<| .br (Zl 58 1 57<|Zo (.conv 59 .u64 (.t 58))<|Zb 60 .rem 53 59<|Zs 1 9 52<|Zs 1 10 60 .nil) (Zs 1 9 52<|Zl 58 1 57<|Zo (.conv 59 .u64 (.t 58))<|Zb 60 .rem 53 59<|Zs 1 10 60 .nil))) (Zo (.alloc 10 1 101 (.int .u64 0))<| .br (Zl 55 1 5<|Zk 56 .sub 55 1<|Zi 57 1 54 56<| .br (Zl 58 1 57<|Zo (.conv 59 .u64 (.t 58))<|Zb 60 .rem 53 59<|Zs 1 9 52<|Zs 1 10 60 .nil) (Zs 1 9 52<|Zl 58 1 57<|Zo (.conv 59 .u64 (.t 58))<|Zb 60 .rem 53 59<|Zs 1 10 60 .nil)) (Zs 1 9 52<|Zl 55 1 5<|Zk 56 .sub 55 1<|Zi 57 1 54 56<|Zl 58 1 57<|Zo (.conv 59 .u64 (.t 58))<|Zb 60 .rem 53 59<|Zs 1 10 60 .nil))) (Zo (.alloc 10 1 101 (.int .u64 0))<| .br (Zl 55 1 5<|Zk 56 .sub 55 1<|Zi 57 1 54 56<| .br (Zl 58 1 57<|Zo (.conv 59 .u64 (.t 58))<|Zb 60 .rem 53 59<|Zo (.alloc 9 1 101 (.int .u64 0))<|Zs 1 9 52<|Zs 1 10 60 .nil) (Zo (.alloc 9 1 101 (.int .u64 0))<| .br (Zl 58 1 57<|Zo (.conv 59 .u64 (.t 58))<|Zb 60 .rem 53 59<|Zs 1 9 52<|Zs 1 10 60 .nil) (Zs 1 9 52<|Zl 58 1 57<|Zo (.conv 59 .u64 (.t 58))<|Zb 60 .rem 53 59<|Zs 1 10 60 .nil))) (Zo (.alloc 9 1 101 (.int .u64 0))<| .br (Zl 55 1 5<|Zk 56 .sub 55 1<|Zi 57 1 54 56<| .br (Zl 58 1 57<|Zo (.conv 59 .u64 (.t 58))<|Zb 60 .rem 53 59<|Zs 1 9 52<|Zs 1 10 60 .nil) (Zs 1 9 52<|Zl 58 1 57<|Zo (.conv 59 .u64 (.t 58))<|Zb 60 .rem 53 59<|Zs 1 10 60 .nil)) (Zs 1 9 52<|Zl 55 1 5<|Zk 56 .sub 55 1<|Zi 57 1 54 56<|Zl 58 1 57<|Zo (.conv 59 .u64 (.t 58))<|Zb 60 .rem 53 59<|Zs 1 10 60 .nil))))) (.br (Zl 55 1 5<|Zk 56 .sub 55 1<| .br (Zl 54 1 3<|Zi 57 1 54 56<| .br (Zl 58 1 57<|Zo (.conv 59 .u64 (.t 58))<|Zb 60 .rem 53 59<| .br (Zo (.alloc 9 1 101 (.int .u64 0))<|Zo (.alloc 10 1 101 (.int .u64 0))<|Zs 1 9 52<|Zs 1 10 60 .nil) (Zo (.alloc 10 1 101 (.int .u64 0))<|Zo (.alloc 9 1 101 (.int .u64 0))<|Zs 1 9 52<|Zs 1 10 60 .nil)) (.br (Zo (.alloc 9 1 101 (.int .u64 0))<| .br (Zl 58 1 57<|Zo (.conv 59 .u64 (.t 58))<|Zb 60 .rem 53 59<|Zo (.alloc 10 1 101 (.int .u64 0))<|Zs 1 9 52<|Zs 1 10 60 .nil) (Zo (.alloc 10 1 101 (.int .u64 0))<| .br (Zl 58 1 57<|Zo (.conv 59 .u64 (.t 58))<|Zb 60 .rem 53 59<|Zs 1 9 52<|Zs 1 10 60 .nil) (Zs 1 9 52<|Zl 58 1 57<|Zo (.conv 59 .u64 (.t 58))<|Zb 60 .rem 53 59<|Zs 1 10 60 .nil))) (Zo (.alloc 10 1 101 (.int .u64 0))<| .br (Zl 58 1 57<|Zo (.conv 59 .u64 (.t 58))<|Zb 60 .rem 53 59<|Zo (.alloc 9 1 101 (.int .u64 0))<|Zs 1 9 52<|Zs 1 10 60 .nil) (Zo (.alloc 9 1 101 (.int .u64 0))<| .br (Zl 58 1 57<|Zo (.conv 59 .u64 (.t 58))<|Zb 60 .rem 53 59<|Zs 1 9 52<|Zs 1 10 60 .nil) (Zs 1 9 52<|Zl 58 1 57<|Zo (.conv 59 .u64 (.t 58))<|Zb 60 .rem 53 59<|Zs 1 10 60 .nil))))) (.br (Zo (.alloc 9 1 101 (.int .u64 0))<| .br (Zl 54 1 3<|Zi 57 1 54 56<| .br (Zl 58 1 57<|Zo (.conv 59 .u64 (.t 58))<|Zb 60 .rem 53 59<|Zo (.alloc 10 1 101 (.int .u64 0))<|Zs 1 9 52<|Zs 1 10 60 .nil) (Zo (.alloc 10 1 101 (.int .u64 0))<| .br (Zl 58 1 57<|Zo (.conv 59 .u64 (.t 58))<|Zb 60 .rem 53 59<|Zs 1 9 52<|Zs 1 10 60 .nil) (Zs 1 9 52<|Zl 58 1 57<|Zo (.conv 59 .u64 (.t 58))<|Zb 60 .rem 53 59<|Zs 1 10 60 .nil))) (Zo (.alloc 10 1 101 (.int .u64 0))<| .br (Zl 54 1 3<|Zi 57 1 54 56<| .br (Zl 58 1 57<|Zo (.conv 59 .u64 (.t 58))<|Zb 60 .rem 53 59<|Zs 1 9 52<|Zs 1 10 60 .nil) (Zs 1 9 52<|Zl 58 1 57<|Zo (.conv 59 .u64 (.t 58))<|Zb 60 .rem 53 59<|Zs 1 10 60 .nil)) (Zs 1 9 52<|Zl 54 1 3<|Zi 57 1 54 56<|Zl 58 1 57<|Zo (.conv 59 .u64 (.t 58))<|Zb 60 .rem 53 59<|Zs 1 10 60 .nil))) (Zo (.alloc 10 1 101 (.int .u64 0))<| .br (Zl 54 1 3<|Zi 57 1 54 56<| .br (Zl 58 1 57<|Zo (.conv 59 .u64 (.t 58))<|Zb 60 .rem 53 59<|Zo (.alloc 9 1 101 (.int .u64 0))<|Zs 1 9 52<|Zs 1 10 60 .nil) (Zo (.alloc 9 1 101 (.int .u64 0))<| .br (Zl 58 1 57<|Zo (.conv 59 .u64 (.t 58))<|Zb 60 .rem 53 59<|Zs 1 9 52<|Zs 1 10 60 .nil) (Zs 1 9 52<|Zl 58 1 57<|Zo (.conv 59 .u64 (.t 58))<|Zb 60 .rem 53 59<|Zs 1 10 60 .nil))) (Zo (.alloc 9 1 101 (.int .u64 0))<| .br (Zl 54 1 3<|Zi 57 1 54 56<| .br (Zl 58 1 57<|Zo (.conv 59 .u64 (.t 58))<|Zb 60 .rem 53 59<|Zs 1 9 52<|Zs 1 10 60 .nil) (Zs 1 9 52<|Zl 58 1 57<|Zo (.conv 59 .u64 (.t 58))<|Zb 60 .rem 53 59<|Zs 1 10 60 .nil)) (Zs 1 9 52<|Zl 54 1 3<|Zi 57 1 54 56<|Zl 58 1 57<|Zo (.conv 59 .u64 (.t 58))<|Zb 60 .rem 53 59<|Zs 1 10 60 .nil))))) (.br (Zo (.alloc 9 1 101 (.int .u64 0))<| .br (Zl 54 1 3<| .br (Zl 55 1 5<|Zk 56 .sub 55 1<|Zi 57 1 54 56<| .br (Zl 58 1 57<|Zo (.conv 59 .u64 (.t 58))<|Zb 60 .rem 53 59<|Zo (.alloc 10 1 101 (.int .u64 0))<|Zs 1 9 52<|Zs 1 10 60 .nil) (Zo (.alloc 10 1 101 (.int .u64 0))<| .br (Zl 58 1 57<|Zo (.conv 59 .u64 (.t 58))<|Zb 60 .rem 53 59<|Zs 1 9 52<|Zs 1 10 60 .nil) (Zs 1 9 52<|Zl 58 1 57<|Zo (.conv 59 .u64 (.t 58))<|Zb 60 .rem 53 59<|Zs 1 10 60 .nil))) (Zo (.alloc 10 1 101 (.int .u64 0))<| .br (Zl 55 1 5<|Zk 56 .sub 55 1<|Zi 57 1 54 56<| .br (Zl 58 1 57<|Zo (.conv 59 .u64 (.t 58))<|Zb 60 .rem 53 59<|Zs 1 9 52<|Zs 1 10 60 .nil) (Zs 1 9 52<|Zl 58 1 57<|Zo (.conv 59 .u64 (.t 58))<|Zb 60 .rem 53 59<|Zs 1 10 60 .nil)) (Zs 1 9 52<|Zl 55 1 5<|Zk 56 .sub 55 1<|Zi 57 1 54 56<|Zl 58 1 57<|Zo (.conv 59 .u64 (.t 58))<|Zb 60 .rem 53 59<|Zs 1 10 60 .nil))) (.br (Zl 55 1 5<|Zk 56 .sub 55 1<| .br (Zl 54 1 3<|Zi 57 1 54 56<| .br (Zl 58 1 57<|Zo (.conv 59 .u64 (.t 58))<|Zb 60 .rem 53 59<|Zo (.alloc 10 1 101 (.int .u64 0))<|Zs 1 9 52<|Zs 1 10 60 .nil) (Zo (.alloc 10 1 101 (.int .u64 0))<| .br (Zl 58 1 57<|Zo (.conv 59 .u64 (.t 58))<|Zb 60 .rem 53 59<|Zs 1 9 52<|Zs 1 10 60 .nil) (Zs 1 9 52<|Zl 58 1 57<|Zo (.conv 59 .u64 (.t 58))<|Zb 60 .rem 53 59<|Zs 1 10 60 .nil))) (Zo (.alloc 10 1 101 (.int .u64 0))<| .br (Zl 54 1 3<|Zi 57 1 54 56<| .br (Zl 58 1 57<|Zo (.conv 59 .u64 (.t 58))<|Zb 60 .rem 53 59<|Zs 1 9 52<|Zs 1 10 60 .nil) (Zs 1 9 52<|Zl 58 1 57<|Zo (.conv 59 .u64 (.t 58))<|Zb 60 .rem 53 59<|Zs 1 10 60 .nil)) (Zs 1 9 52<|Zl 54 1 3<|Zi 57 1 54 56<|Zl 58 1 57<|Zo (.conv 59 .u64 (.t 58))<|Zb 60 .rem 53 59<|Zs 1 10 60 .nil))) (Zo (.alloc 10 1 101 (.int .u64 0))<| .br (Zl 54 1 3<| .br (Zl 55 1 5<|Zk 56 .sub 55 1<|Zi 57 1 54 56<| .br (Zl 58 1 57<|Zo (.conv 59 .u64 (.t 58))<|Zb 60 .rem 53 59<|Zs 1 9 52<|Zs 1 10 60 .nil) (Zs 1 9 52<|Zl 58 1 57<|Zo (.conv 59 .u64 (.t 58))<|Zb 60 .rem 53 59<|Zs 1 10 60 .nil)) (Zs 1 9 52<|Zl 55 1 5<|Zk 56 .sub 55 1<|Zi 57 1 54 56<|Zl 58 1 57<|Zo (.conv 59 .u64 (.t 58))<|Zb 60 .rem 53 59<|Zs 1 10 60 .nil)) (.br (Zl 55 1 5<|Zk 56 .sub 55 1<| .br (Zl 54 1 3<|Zi 57 1 54 56<| .br (Zl 58 1 57<|Zo (.conv 59 .u64 (.t 58))<|Zb 60 .rem 53 59<|Zs 1 9 52<|Zs 1 10 60 .nil) (Zs 1 9 52<|Zl 58 1 57<|Zo (.conv 59 .u64 (.t 58))<|Zb 60 .rem 53 59<|Zs 1 10 60 .nil)) (Zs 1 9 52<|Zl 54 1 3<|Zi 57 1 54 56<|Zl 58 1 57<|Zo (.conv 59 .u64 (.t 58))<|Zb 60 .rem 53 59<|Zs 1 10 60 .nil)) (Zs 1 9 52<| .br (Zl 54 1 3<|Zl 55 1 5<|Zk 56 .sub 55 1<|Zi 57 1 54 56<|Zl 58 1 57<|Zo (.conv 59 .u64 (.t 58))<|Zb 60 .rem 53 59<|Zs 1 10 60 .nil) (Zl 55 1 5<|Zk 56 .sub 55 1<|Zl 54 1 3<|Zi 57 1 54 56<|Zl 58 1 57<|Zo (.conv 59 .u64 (.t 58))<|Zb 60 .rem 53 59<|Zs 1 10 60 .nil)))))) (Zo (.alloc 10 1 101 (.int .u64 0))<| .br (Zl 54 1 3<| .br (Zl 55 1 5<|Zk 56 .sub 55 1<|Zi 57 1 54 56<| .br (Zl 58 1 57<|Zo (.conv 59 .u64 (.t 58))<|Zb 60 .rem 53 59<|Zo (.alloc 9 1 101 (.int .u64 0))<|Zs 1 9 52<|Zs 1 10 60 .nil) (Zo (.alloc 9 1 101 (.int .u64 0))<| .br (Zl 58 1 57<|Zo (.conv 59 .u64 (.t 58))<|Zb 60 .rem 53 59<|Zs 1 9 52<|Zs 1 10 60 .nil) (Zs 1 9 52<|Zl 58 1 57<|Zo (.conv 59 .u64 (.t 58))<|Zb 60 .rem 53 59<|Zs 1 10 60 .nil))) (Zo (.alloc 9 1 101 (.int .u64 0))<| .br (Zl 55 1 5<|Zk 56 .sub 55 1<|Zi 57 1 54 56<| .br (Zl 58 1 57<|Zo (.conv 59 .u64 (.t 58))<|Zb 60 .rem 53 59<|Zs 1 9 52<|Zs 1 10 60 .nil) (Zs 1 9 52<|Zl 58 1 57<|Zo (.conv 59 .u64 (.t 58))<|Zb 60 .rem 53 59<|Zs 1 10 60 .nil)) (Zs 1 9 52<|Zl 55 1 5<|Zk 56 .sub 55 1<|Zi 57 1 54 56<|Zl 58 1 57<|Zo (.conv 59 .u64 (.t 58))<|Zb 60 .rem 53 59<|Zs 1 10 60 .nil))) (.br (Zl 55 1 5<|Zk 56 .sub 55 1<| .br (Zl 54 1 3<|Zi 57 1 54 56<| .br (Zl 58 1 57<|Zo (.conv 59 .u64 (.t 58))<|Zb 60 .rem 53 59<|Zo (.alloc 9 1 101 (.int .u64 0))<|Zs 1 9 52<|Zs 1 10 60 .nil) (Zo (.alloc 9 1 101 (.int .u64 0))<| .br (Zl 58 1 57<|Zo (.conv 59 .u64 (.t 58))<|Zb 60 .rem 53 59<|Zs 1 9 52<|Zs 1 10 60 .nil) (Zs 1 9 52<|Zl 58 1 57<|Zo (.conv 59 .u64 (.t 58))<|Zb 60 .rem 53 59<|Zs 1 10 60 .nil))) (Zo (.alloc 9 1 101 (.int .u64 0))<| .br (Zl 54 1 3<|Zi 57 1 54 56<| .br (Zl 58 1 57<|Zo (.conv 59 .u64 (.t 58))<|Zb 60 .rem 53 59<|Zs 1 9 52<|Zs 1 10 60 .nil) (Zs 1 9 52<|Zl 58 1 57<|Zo (.conv 59 .u64 (.t 58))<|Zb 60 .rem 53 59<|Zs 1 10 60 .nil)) (Zs 1 9 52<|Zl 54 1 3<|Zi 57 1 54 56<|Zl 58 1 57<|Zo (.conv 59 .u64 (.t 58))<|Zb 60 .rem 53 59<|Zs 1 10 60 .nil))) (Zo (.alloc 9 1 101 (.int .u64 0))<| .br (Zl 54 1 3<| .br (Zl 55 1 5<|Zk 56 .sub 55 1<|Zi 57 1 54 56<| .br (Zl 58 1 57<|Zo (.conv 59 .u64 (.t 58))<|Zb 60 .rem 53 59<|Zs 1 9 52<|Zs 1 10 60 .nil) (Zs 1 9 52<|Zl 58 1 57<|Zo (.conv 59 .u64 (.t 58))<|Zb 60 .rem 53 59<|Zs 1 10 60 .nil)) (Zs 1 9 52<|Zl 55 1 5<|Zk 56 .sub 55 1<|Zi 57 1 54 56<|Zl 58 1 57<|Zo (.conv 59 .u64 (.t 58))<|Zb 60 .rem 53 59<|Zs 1 10 60 .nil)) (.br (Zl 55 1 5<|Zk 56 .sub 55 1<| .br (Zl 54 1 3<|Zi 57 1 54 56<| .br (Zl 58 1 57<|Zo (.conv 59 .u64 (.t 58))<|Zb 60 .rem 53 59<|Zs 1 9 52<|Zs 1 10 60 .nil) (Zs 1 9 52<|Zl 58 1 57<|Zo (.conv 59 .u64 (.t 58))<|Zb 60 .rem 53 59<|Zs 1 10 60 .nil)) (Zs 1 9 52<|Zl 54 1 3<|Zi 57 1 54 56<|Zl 58 1 57<|Zo (.conv 59 .u64 (.t 58))<|Zb 60 .rem 53 59<|Zs 1 10 60 .nil)) (Zs 1 9 52<| .br (Zl 54 1 3<|Zl 55 1 5<|Zk 56 .sub 55 1<|Zi 57 1 54 56<|Zl 58 1 57<|Zo (.conv 59 .u64 (.t 58))<|Zb 60 .rem 53 59<|Zs 1 10 60 .nil) (Zl 55 1 5<|Zk 56 .sub 55 1<|Zl 54 1 3<|Zi 57 1 54 56<|Zl 58 1 57<|Zo (.conv 59 .u64 (.t 58))<|Zb 60 .rem 53 59<|Zs 1 10 60 .nil)))))))))<|Zr (Zo (.fn 61 172 [] [.t 9,.t 3,.t 5,.t 10,.t 2,.t 7])<|Zm 11 61 .nil)<| .seq (.block 2<| .loop<| .seq (Zr (Zl 62 1 10<|Zo (.bin 63 .lss false (.t 62) (.c (.int .u64 65536)))<|Zm 64 63<|Zg 64 true (.mv 65 (.t 11))<|Zg 64 true (.call (some 66) false (.t 65) [])<|Zo (.pick 67 (.t 64) (.t 66) (.c (.bool false))) .nil)<| .cond (.t 67) .skip (.exit 2))<| .block 3<|Zr (Zl 68 1 9<|Zo (.bin 69 .sub false (.t 68) (.c (.int .u64 1)))<|Zs 1 9 69 .nil)<| .rg (Zl 70 1 10<|Zl 71 1 3<|Zl 72 1 5<|Zk 73 .sub 72 1<|Zi 74 1 71 73<|Zl 75 1 74<|Zo (.conv 76 .u64 (.t 75))<|Zb 77 .add 70 76<|Zs 1 10 77 .nil))<| .seq (Zr (Zl 78 1 2<|Zl 79 1 7<|Zl 80 1 7<|Zl 81 1 5<|Zb 82 .add 80 81<|Zk 83 .add 82 1<|Zo (.sl 84 1 (.t 78) (some (.t 79)) (some (.t 83)) none)<|Zl 85 1 3<|Zl 86 1 9<|Zo (.conv 87 .u32 (.t 86))<|Zq 88 false 173 [.t 84,.t 85,.t 87] .nil)<| .cond (.t 88) (Zr (Zl 89 1 9<|Zo (.bin 90 .sub false (.t 89) (.c (.int .u64 1)))<|Zs 1 9 90 .nil)<| .rg (Zl 91 1 2<|Zl 92 1 7<|Zl 93 1 7<|Zl 94 1 5<|Zb 95 .add 93 94<|Zk 96 .add 95 1<|Zo (.sl 97 1 (.t 91) (some (.t 92)) (some (.t 96)) none)<|Zl 98 1 3<|Zq 99 false 174 [.t 97,.t 98] .nil)) .skip)<| .rg (Zm 100 6<|Zl 101 1 7<|Zl 102 1 9<|Zo (.conv 103 .u16 (.t 102))<|Zi 104 1 100 101<|Zs 1 104 103 .nil))<| .seq (Zr (Zl 105 1 7 .nil)<| .rg (Zo (.alloc 7 1 3 (Zz 0))<|Zs 1 7 105 .nil))<| .rg (Zl 26 1 7<|Zk 27 .sub 26 1<|Zs 1 7 27 .nil))<|Zr (Zm 106 6<|Zq 107 false 143 [.t 106]<|Zm 4 107 .nil) .ret⟩
theorem af7:Qe Tryz.prog Tryz.f148=some JI:=by kernel_rfl
theorem iw{l:List Nat}(hv:Qq l)(hl:l.length<2^42):Qc Tryz.prog 143 [PV.nat l] (· =PV.num (val l)):=by
 refine Qf Qj Tryz.func143 rfl O5 (by simp[y6]) fun C hP=>?_;simp only[y6,Zo,Zg,Zm,Zc,Zf,Zl,Zh,Zs,Zi,Zb,Zk,Zn,Zu,Zq,Zr,Zz];refine Sz0 ?_;refine qG (fun m fr hp=>m<=l.length/\cut l m=ah (val l)/\fr 0=PV.nat l/\fr 3= .int .i64 m/\hp=aF) l.length ?_ ?_
 ·exact⟨Kac _,Ad hv,rfl,rfl,rfl⟩
 rintro n fr _ ⟨hn,hc,h0,h3,rfl⟩;refine Sz2 h0 h3 ?_;refine ga (fun hg=>?_) (fun hg=>?_)
 ·simp+decide (disch:=first|omega|rfl|(simp+decide only[go_sem,h0,h3,xw,tF]<;>rfl)|fail) only[go_sem,h0,h3,xw,tF];obtain _|n:=n
  ·omega
  have e:((n+1:Nat):Int)-1=n:=by omega
  simp only[cut]at hc;refine Qb (fun hz=>?_) (fun hz=>?_)
  ·rw[if_pos (by grind)]at hc;simp+decide (disch:=try exact D3 h0 h3 e) only[go_sem,h0,h3,e];refine nF (m:=n) (by omega) ⟨by omega,hc,?_⟩;exact Tz3 h0 @true_and @and_true
  ·refine Sz3 h0 h3 @G9 ?_;rw[if_neg (by grind)]at hc;exact Qd (by simp[hc]) rfl
 ·obtain rfl:n=0:=by omega
  refine Sz3 h0 h3 @G9 ?_;exact Qd (by simp[<-hc,cut]) rfl
theorem zN{l:List Nat}(hv:Qq l)(hl:l.length<2^42):Qc Tryz.prog 86 [PV.nat l] (· =PV.num (val l)):=by
 have hd:=ck hv;unfold nl at hd;refine Qf Qj Tryz.func86 rfl aiu (by simp[Lq]) fun C hP=>?_;simp only[Lq,Zo,Zg,Zm,Zc,Zf,Zl,Zh,Zs,Zi,Zb,Zk,Zn,Zu,Zq,Zr,Zz];refine Sz0 ?_;refine Qa hP (iw hv hl) rfl rfl rfl ?_;refine Sz0 ?_;refine Qb (fun hz=>?_) (fun hz=>?_)
 ·refine Sz0 ?_;have:ah (val l)=[]:=Kas.1 (by omega);exact nK (by rw[PV.num,this];exact ahM) rfl
 ·refine Sz0 ?_;rw[aes rfl (by simp)];refine Sz0 ?_;exact DO rfl (by simp[Kae])
theorem Aj{n:Nat}(hn:n<18446744073709551616):Qc Tryz.prog 88 [.int .u64 n] (· =PV.num n):=by
 have hlen:=rN hn;unfold nl at hlen;refine Qf Qj Tryz.func88 rfl aiv (by simp[Lt]) fun C hP=>?_;simp only[Lt,Zo,Zg,Zm,Zc,Zf,Zl,Zh,Zs,Zi,Zb,Zk,Zn,Zu,Zq,Zr,Zz];refine Sz0 ?_;refine zG (fun m fr hp=>∃done:List Nat,ah n=done++ah m/\m<=n/\fr 0= .int .u64 m/\fr 3= .ms 12 done.length/\hp 12=some ⟨1,76,done.map fun(x:Nat)=>.int .u16 x,false⟩) n (P7 3 12 1 76 (by omega) ?_) ?_ ?_
 ·exact Tz0
 ·refine⟨[],?_⟩;simp+decide (disch:=first|omega|rfl|(simp+decide only[go_sem,KaM,Kbt,Kbk,true_and,and_true,Kac]<;>rfl)|fail) only[go_sem,KaM,Kbt,Kbk,true_and,and_true,Kac]
 rintro m fr hp ⟨done,hd,hm,h0,h3,hh⟩;rw[hd,Kan]at hlen;refine Sz1 h0 ?_;refine Qb (fun hz=>?_) (fun hz=>?_)
 ·have aO:m≠0:=by omega
  have gl:ah n=(done++[m%65536])++ah (m/65536):=by rw[hd,tD aO];simp
  refine Sz2 h0 h3 ?_;rw[HO (xs:=done.map fun(x:Nat)=>.int .u16 x) (Tz1 hh) rfl (by omega) (by simp) (by omega) (by omega)];refine Sz4 h0 h3 @RK @Ui ?_;refine nF (m:=m/65536) (by omega) ⟨done++[m%65536],gl,by omega,?_⟩;refine Sz3 h0 h3 hh ?_;simp
 ·obtain rfl:m=0:=by omega
  refine Sz1 h3 ?_;exact DO hh (by simp[PV.num,PV.nat,hd,fH,Kae])
theorem DF{a b:List Nat}(ha:Qq a)(hb:Qq b)(bu:a.length<2^40)(cT:b.length<2^40):Qc Tryz.prog 144 [PV.nat a,PV.nat b] (· = .int .i64 (gR (val a) (val b))):=by
 have gD:=ck ha;have iV:=ck hb;have Wb:= @NX (val a) (val b);have Wc:= @NX (val b) (val a);have an6:=Qp (val a);have an7:=Qp (val b);have WC:=Q7 (val a);have hvb:=Q7 (val b);unfold nl at gD iV Wb Wc;refine Qf Qj Tryz.func144 rfl afv (by simp[JF]) fun C hP=>?_;simp only[JF,Zo,Zg,Zm,Zc,Zf,Zl,Zh,Zs,Zi,Zb,Zk,Zn,Zu,Zq,Zr,Zz];refine Sz0 ?_;refine Qa hP (iw ha (by omega)) rfl rfl rfl ?_;refine Sz0 ?_;refine Qa hP (iw hb (by omega)) rfl rfl rfl ?_;refine Sz0 ?_;generalize val a=x at *
 generalize val b=y at *
 refine Qb (fun hz=>?_) (fun hz=>?_)
 ·refine Sz0 ?_;refine Qb (fun hz=>?_) (fun hz=>?_)
  ·refine Sz0 ?_;exact Qd (by rw[H9 (Wb (by omega))]) rfl
  ·refine Sz0 ?_;exact Qd (by rw[Ia (Wc (by omega))]) rfl
 refine Sz0 ?_;refine qG (fun m fr hp=>m<=(ah x).length/\val ((ah x).drop m)=val ((ah y).drop m)/\fr 0=PV.num x/\fr 1=PV.num y/\fr 5= .int .i64 ((m:Int)-1)/\hp=aF) (ah x).length ?_ ?_
 ·refine⟨Kac _,?_,?_⟩
  ·rw[Kal (Kac _),Kal (by omega)]
  ·exact Tz2 @true_and @and_true
 rintro m fr _ ⟨hm,hd,h0,h1,h5,rfl⟩;refine Sz3 h0 h1 h5 ?_;refine Qb (fun hg=>?_) (fun hg=>?_)
 ·obtain _|m:=m
  ·omega
  have e:((m+1:Nat):Int)-1=m:=by omega
  have rk:m<(ah x).length:=by omega
  have nh:m<(ah y).length:=by omega
  simp+decide (disch:=try exact D4 h0 h1 h5 e) only[go_sem,h0,h1,h5,e];refine Qb (fun hq=>?_) (fun hq=>?_)
  ·refine Sz0 ?_;exact Qd (by rw[H9];have:=Uk an6 rk nh (by omega) hd;omega) rfl
  simp+decide (disch:=try exact D4 h0 h1 h5 e) only[go_sem,h0,h1,h5,e];refine Qb (fun uw=>?_) (fun uw=>?_)
  ·refine Sz0 ?_;exact Qd (by rw[Ia];have:=Uk an7 nh rk (by omega) hd.symm;omega) rfl
  refine Sz4 h0 h1 h5 e ?_;refine nF (m:=m) (by omega) ⟨by omega,?_,?_⟩
  ·rw[lK rk,lK nh,hd];omega
  ·exact Tz4 h0 h1 @true_and @and_true
 ·obtain rfl:m=0:=by omega
  refine Sz0 ?_;refine Qd ?_ rfl;rw[Pn];simp at hd;omega
theorem adH{a b:List Nat}(ha:Qq a)(hb:Qq b)(bu:a.length<2^40)(cT:b.length<2^40):Qc Tryz.prog 176 [PV.nat a,PV.nat b] (· =PV.num (val a+val b)):=by
 have gD:=ck ha;have iV:=ck hb;unfold nl at gD iV;refine Qf Qj Tryz.func176 rfl afw (by simp[Kf]) fun C hP=>?_;simp only[Kf,Zo,Zg,Zm,Zc,Zf,Zl,Zh,Zs,Zi,Zb,Zk,Zn,Zu,Zq,Zr,Zz];refine Sz0 ?_;refine Qa hP (iw ha (by omega)) rfl rfl rfl ?_;refine Sz0 ?_;refine Qa hP (iw hb (by omega)) rfl rfl rfl ?_;refine Sz0 ?_;generalize val a=x0 at *
 generalize val b=y0 at *
 refine zI (fun fr hp=>∃x y,x+y=x0+y0/\(ah x).length<2^40/\(ah y).length<=(ah x).length/\fr 0=PV.num x/\fr 1=PV.num y/\hp=aF) ?_ ?_
 ·refine Qb (fun hz=>?_) (fun hz=>?_)
  ·refine Sz0 ?_;refine⟨y0,x0,by omega,by omega,by omega,?_⟩;exact Tz2 @true_and @and_true
  ·refine Sz0 ?_;refine⟨x0,y0,by omega,by omega,by omega,?_⟩;exact Tz2 @true_and @and_true
 rintro fr _ ⟨x,y,qi,hx,hy,h0,h1,rfl⟩;rw[<-qi];clear qi gD iV;have eo:=Qp x;have gX:=Qp y;refine Sz2 h0 h1 ?_;refine qG (fun m fr hp=>∃i c done,m=(ah x).length-i/\i<=(ah x).length/\c<=1/\done.length=i/\done++ji ((ah x).drop i) ((ah y).drop i) c=ah (x+y)/\
  fr 1=PV.num y/\fr 5= .ms 25 (ah x).length/\fr 6= .int .u32 c/\fr 26=PV.num x/\fr 27= .int .i64 (ah x).length/\fr 28= .int .i64 i/\hp=Qy aF 25 ⟨1,76,cn (done++List.replicate ((ah x).length-i) 0),false⟩) (ah x).length ?_ ?_
 ·refine⟨0,0,[],rfl,by omega,by omega,rfl,by simpa using ada hy,?_⟩;simp+decide (disch:=first|omega|rfl|(simp+decide only[go_sem,h0,h1,true_and,and_true,Kcm,KaM]<;>rfl)|fail) only[go_sem,h0,h1,true_and,and_true,Kcm,KaM];simp
 rintro _ fr _ ⟨i,c,done,rfl,hi,hc,fg,hd,h1,h5,h6,tY,tZ,ua,rfl⟩;refine Sz3 tY tZ ua ?_;refine Qb (fun hg=>?_) (fun hg=>?_)
 ·have aC:i<(ah x).length:=by omega
  have gJ:=eF eo aC;rw[abk aC]at hd;have hlen:=HQ (n:=(ah x).length-i) fg (by omega:_=(ah x).length);simp+decide (disch:=try exact D6 h1 h5 h6 tY tZ ua) only[go_sem,h1,h5,h6,tY,tZ,ua];refine Qb (fun hq=>?_) (fun hq=>?_)
  ·have kH:i<(ah y).length:=by omega
   have uD:=eF gX kH;rw[gu kH]at hd;simp+decide (disch:=try exact D6 h1 h5 h6 tY tZ ua) only[go_sem,h1,h5,h6,tY,tZ,ua];refine nF (m:=(ah x).length-(i+1)) (by omega) ⟨i+1,_,_,rfl,by omega,?_,?_,(KbJ ..).symm.trans hd,?_⟩
   ·omega
   ·simp[fg]
   ·exact Tz10 h1 h5 h6 tY tZ ua @true_and @and_true @zW @Nat.sub_sub
  ·rw[gw (by omega)]at hd;refine Sz6 h1 h5 h6 tY tZ ua ?_;refine nF (m:=(ah x).length-(i+1)) (by omega) ⟨i+1,_,_,rfl,by omega,?_,?_,(KbJ ..).symm.trans hd,?_⟩
   ·omega
   ·simp[fg]
   ·exact Tz11 h1 h5 h6 tY tZ ua @true_and @and_true @zW @Nat.sub_sub @Nat.add_zero
 ·obtain rfl:i=(ah x).length:=by omega
  rw[Kal (Kac _),Kal hy]at hd;simp+decide (disch:=first|omega|rfl|(simp+decide only[go_sem,h5,h6,KbP,Ka8,Kak]<;>rfl)|fail) only[go_sem,h5,h6,KbP,Ka8,Kak];refine Qb (fun hq=>?_) (fun hq=>?_)
  ·refine Sz2 h5 h6 ?_;rw[HO (xs:=cn done) Tz0 rfl (by omega) (by simp[fg]) (by omega) (by omega)];refine Sz1 h5 ?_;refine DO rfl ?_;rw[ji,if_neg (by omega)]at hd;rw[PV.num,<-hd];simp[cn,fg,Kae];omega
  ·refine Sz1 h5 ?_;refine DO rfl ?_;rw[ji,if_pos (by omega)]at hd;rw[PV.num,<-hd];simp[cn,fg,Kae]
theorem OB{a b:List Nat}(ha:Qq a)(hb:Qq b)(bu:a.length<2^40)(cT:b.length<2^40)(hle:val b<=val a):Qc Tryz.prog 177 [PV.nat a,PV.nat b] (· = .aw [PV.num (val a-val b),.int .i64 0]):=by
 have gD:=ck ha;have iV:=ck hb;have l9:=fJ hle;unfold nl at gD iV l9;refine Qf Qj Tryz.func177 rfl afx (by simp[Kg]) fun C hP=>?_;simp only[Kg,Zo,Zg,Zm,Zc,Zf,Zl,Zh,Zs,Zi,Zb,Zk,Zn,Zu,Zq,Zr,Zz];refine Sz0 ?_;refine Qa hP (DF ha hb bu cT) rfl rfl rfl ?_;have ang:¬gR (val a) (val b)<0:=by unfold gR;split<;>(try split)<;>omega
 refine Sz0 ?_;refine Qb (fun hz=>absurd hz ang) (fun hz=>?_);refine Sz0 ?_;refine Qa hP (iw ha (by omega)) rfl rfl rfl ?_;refine Sz0 ?_;refine Qa hP (iw hb (by omega)) rfl rfl rfl ?_;refine Sz0 ?_;generalize val a=x at *
 generalize val b=y at *
 have eo:=Qp x;have gX:=Qp y;have gS:=N1 (ah x) (ah y) 0 (by omega) eo gX l9 (by rw[Q7,Q7];exact hle);rw[Q7,Q7,KaU]at gS;have kd:=SK (ah x) (ah y) 0;have sE:=Sl (ah x) (ah y) 0;refine qG (fun m fr hp=>∃i c done,m=(ah x).length-i/\i<=(ah x).length/\c<=1/\done.length=i/\done++lT ((ah x).drop i) ((ah y).drop i) c=lT (ah x) (ah y) 0/\
  fr 1=PV.num y/\fr 6= .ms 21 (ah x).length/\fr 7= .int .i32 (c:Nat)/\fr 22=PV.num x/\fr 23= .int .i64 (ah x).length/\fr 24= .int .i64 i/\hp=Qy aF 21 ⟨1,76,cn (done++List.replicate ((ah x).length-i) 0),false⟩) (ah x).length ?_ ?_
 ·refine⟨0,0,[],rfl,by omega,by omega,rfl,rfl,?_⟩;simp+decide (disch:=first|omega|rfl|(simp+decide only[go_sem,true_and,and_true,Kcm,KaM]<;>rfl)|fail) only[go_sem,true_and,and_true,Kcm,KaM];simp
 rintro _ fr _ ⟨i,c,done,rfl,hi,hc,fg,hd,h1,h6,h7,lX,lY,il,rfl⟩;refine Sz3 lX lY il ?_;refine Qb (fun hg=>?_) (fun hg=>?_)
 ·have aC:i<(ah x).length:=by omega
  have gJ:=eF eo aC;rw[abl aC]at hd;have hlen:=HQ (n:=(ah x).length-i) fg (by omega:_=(ah x).length);simp+decide (disch:=try exact D6 h1 h6 h7 lX lY il) only[go_sem,h1,h6,h7,lX,lY,il];refine zI (fun fr hp=>fr 1=PV.num y/\fr 6= .ms 21 (ah x).length/\fr 8= .int .i64 i/\fr 10= .int .i32 ((ah x)[i]-(c:Int)-((ah y).getD i 0:Nat))/\(ah y).getD i 0<65536/\fr 22=PV.num x/\fr 23= .int .i64 (ah x).length/\fr 24= .int .i64 i/\hp=Qy aF 21 ⟨1,76,cn (done++List.replicate ((ah x).length-i) 0),false⟩) ?_ ?_
  ·refine Qb (fun hq=>?_) (fun hq=>?_)
   ·have kH:i<(ah y).length:=by omega
    have uD:=eF gX kH;simp+decide (disch:=first|omega|rfl|(simp+decide only[go_sem,h1,h6,h7,lX,lY,il,gu kH,true_and,and_true]<;>rfl)|fail) only[go_sem,h1,h6,h7,lX,lY,il,gu kH,true_and,and_true];exact uD
   ·simp+decide (disch:=first|omega|rfl|(simp+decide only[go_sem,h1,h6,h7,lX,lY,il,true_and,and_true,gw (by omega:¬i<(ah y).length)]<;>rfl)|fail) only[go_sem,h1,h6,h7,lX,lY,il,true_and,and_true,gw (by omega:¬i<(ah y).length)];simp
  clear h1 h6 lX lY il;rintro fr _ ⟨h1,h6,h8,bI,uD,lX,lY,il,rfl⟩;generalize hw:(ah y).getD i 0=yi at *
  refine Sz1 bI ?_;refine zI (fun fr hp=>fr 1=PV.num y/\fr 6= .ms 21 (ah x).length/\fr 8= .int .i64 i/\fr 10= .int .i32 (((ah x)[i]+65536-c-yi)%65536:Nat)/\fr 7= .int .i32 ((if(ah x)[i]<c+yi then 1 else 0):Nat)/\fr 22=PV.num x/\fr 23= .int .i64 (ah x).length/\fr 24= .int .i64 i/\hp=Qy aF 21 ⟨1,76,cn (done++List.replicate ((ah x).length-i) 0),false⟩) ?_ ?_
  ·refine Qb (fun hq=>?_) (fun hq=>?_)
   ·rw[if_pos (by omega)];refine Sz9 h1 h6 h8 bI lX lY il @true_and @and_true ?_;simp;omega
   ·rw[if_neg (by omega)];refine Sz9 h1 h6 h8 bI lX lY il @true_and @and_true ?_;simp;omega
  clear h1 h6 h8 bI lX lY il;rintro fr _ ⟨h1,h6,h8,bI,h7,lX,lY,il,rfl⟩;refine Sz8 h1 h6 h7 h8 bI lX lY il ?_;refine nF (m:=(ah x).length-(i+1)) (by omega) ⟨i+1,_,_,rfl,by omega,?_,?_,(KbJ ..).symm.trans hd,?_⟩
  ·split<;>omega
  ·simp[fg]
  ·exact Tz13 h1 h6 h7 h8 bI lX lY il @true_and @and_true @zW @Nat.sub_sub @Nat.mod_mod
 ·obtain rfl:i=(ah x).length:=by omega
  rw[Kal (Kac _),lT,Kak]at hd;simp+decide (disch:=first|omega|rfl|(simp+decide only[go_sem,h6,KbP,Ka8,Kak]<;>rfl)|fail) only[go_sem,h6,KbP,Ka8,Kak];rw[hd];refine vd hP (iw kd (by omega)) (zX rfl sE.symm) rfl fun an=>?_;refine Sz0 ?_;exact fl rfl rfl rfl (tA (by rw[show val (lT (ah x) (ah y) 0)=x-y by omega])) (Qx _)
theorem z8{a b:List Nat}(ha:Qq a)(hb:Qq b)(bu:a.length<2^40)(cT:b.length<2^40):Qc Tryz.prog 93 [PV.nat a,PV.nat b] (· =PV.num (val a*val b)):=by
 have gD:=ck ha;have iV:=ck hb;unfold nl at gD iV;refine Qf Qj Tryz.func93 rfl aiy (by simp[Lz]) fun C hP=>?_;simp only[Lz,Zo,Zg,Zm,Zc,Zf,Zl,Zh,Zs,Zi,Zb,Zk,Zn,Zu,Zq,Zr,Zz];refine Sz0 ?_;refine Qa hP (iw ha (by omega)) rfl rfl rfl ?_;refine Sz0 ?_;refine Qa hP (iw hb (by omega)) rfl rfl rfl ?_;refine Sz0 ?_;generalize val a=x at *
 generalize val b=y at *
 have eo:=Qp x;have gX:=Qp y;refine dI (fun hz=>?_) (fun hz=>?_)
 ·refine Sz0 ?_;have:=pk (by omega:(ah x).length=0);rw[kq]at this;exact nK (Af (by simp[this])) rfl
 refine Sz0 ?_;refine Qb (fun Fw=>?_) (fun Fw=>?_)
 ·refine Sz0 ?_;have:=pk (by omega:(ah y).length=0);rw[kq]at this;exact nK (Af (by simp[this])) rfl
 refine Sz0 ?_;refine qG (fun m fr hp=>∃i lo,m=(ah x).length-i/\i<=(ah x).length/\Qq lo/\lo.length=i+(ah y).length/\val lo=val ((ah x).take i)*val (ah y)/\
  fr 1=PV.num y/\fr 5= .ms 28 ((ah x).length+(ah y).length)/\fr 29=PV.num x/\fr 30= .int .i64 (ah x).length/\fr 31= .int .i64 i/\hp=Qy aF 28 ⟨1,76,cn (lo++List.replicate ((ah x).length-i) 0),false⟩) (ah x).length ?_ ?_
 ·refine⟨0,List.replicate (ah y).length 0,rfl,by omega,?_,by simp,by simp[Uj,val],?_⟩
  ·intro z hz;rw[List.eq_of_mem_replicate hz];omega
  ·refine Sz3 @true_and @and_true @Nat.sub_zero ?_;simp[KbQ]
 rintro _ fr _ ⟨i,lo,rfl,hi,oZ,MI,hv,h1,h5,sm,pQ,sn,rfl⟩;refine Sz3 sm pQ sn ?_;refine Qb (fun hg=>?_) (fun hg=>?_)
 ·have aC:i<(ah x).length:=by omega
  have gJ:=eF eo aC;have kJ:=adb aC MI hv;have Bk:Qq (lo.take i++jT (lo.drop i) (ah y) (ah x)[i] 0):=nD.2 ⟨wZ oZ i,SM _ _ _ _ (by omega) gJ (zw oZ i) gX⟩;have aqt:(lo.take i++jT (lo.drop i) (ah y) (ah x)[i] 0).length=i+(ah y).length+1:=by rw[Kan,Sm _ _ _ _ (by simp[MI])];simp;omega
  generalize dS:(ah x)[i]=xi at *
  refine Sz6 h1 h5 sm pQ sn dS ?_;refine qG (fun m fr hp=>∃k c p rs,m=(ah y).length-k/\k<=(ah y).length/\c<65536/\Qq rs/\p.length=i+k/\rs.length=(ah y).length-k/\p++jT rs ((ah y).drop k) xi c=lo.take i++jT (lo.drop i) (ah y) xi 0/\
   fr 1=PV.num y/\fr 5= .ms 28 ((ah x).length+(ah y).length)/\fr 6= .int .i64 i/\fr 7= .int .u16 xi/\fr 8= .int .u32 c/\fr 29=PV.num x/\fr 30= .int .i64 (ah x).length/\fr 31= .int .i64 i/\fr 36=PV.num y/\fr 37= .int .i64 (ah y).length/\fr 38= .int .i64 k/\
   hp=Qy aF 28 ⟨1,76,cn (p++(rs++List.replicate ((ah x).length-i) 0)),false⟩) (ah y).length ?_ ?_
  ·refine⟨0,0,lo.take i,lo.drop i,rfl,by omega,by omega,zw oZ i,by simp;omega,by simp;omega,rfl,?_⟩;refine Sz7 h1 h5 sm pQ sn @true_and @and_true ?_;rw[<-List.append_assoc,Kbo];simp
  clear h1 h5 sm pQ sn;rintro _ fr _ ⟨k,c,p,rs,rfl,hk,hc,ft,gH,lz,hinv,h1,h5,h6,h7,h8,sm,pQ,sn,Et,Eu,Ev,rfl⟩;refine Sz3 Et Eu Ev ?_;refine Qb (fun hq=>?_) (fun hq=>?_)
  ·have dY:k<(ah y).length:=by omega
   have hyk:=eF gX dY;rw[Kaz dY]at hinv;generalize WO:(ah y)[k]=yk at *
   obtain _|⟨r,rs⟩:=rs
   ·simp at lz;omega
   rw[ia]at ft;have ja:=ft.1;have BE:=tj gJ hyk;rw[jT]at hinv;have ar:i+k<(p++r::(rs++List.replicate ((ah x).length-i) 0)).length:=by simp;omega
   have eV:=DP gH ar;simp+decide (disch:=first|omega|rfl|(simp+decide only[go_sem,h1,h5,h6,h7,h8,Et,Eu,Ev,WO,KaP,eV]<;>rfl)|fail) only[go_sem,h1,h5,h6,h7,h8,Et,Eu,Ev,WO,KaP,eV];refine nF (m:=(ah y).length-(k+1)) (by omega) ⟨k+1,_,_,_,rfl,by omega,?_,ft.2,?_,?_,(KbJ ..).symm.trans hinv,?_⟩
   ·omega
   ·simp[gH];omega
   ·simp at lz;omega
   ·refine Sz14 h1 h5 h6 h7 h8 sm pQ sn Et Eu Ev @true_and @and_true @nM ?_;simp
  ·obtain rfl:k=(ah y).length:=by omega
   obtain rfl:rs=[]:=Kas.1 (by omega);rw[Kal (Kac _),jT]at hinv
   rotate_left
   ·intros;simp_all
   obtain⟨z,hz⟩:∃z,(ah x).length-i=z+1:=⟨(ah x).length-i-1,by omega⟩
   have ar:i+(ah y).length<(p++0::(List.replicate z 0)).length:=by simp;omega
   simp+decide (disch:=first|omega|rfl|(simp+decide only[go_sem,h1,h5,h6,h8,sm,pQ,sn,KaM,hz,Kbq]<;>rfl)|fail) only[go_sem,h1,h5,h6,h8,sm,pQ,sn,KaM,hz,Kbq];refine nF (m:=(ah x).length-(i+1)) (by omega) ⟨i+1,lo.take i++jT (lo.drop i) (ah y) xi 0,rfl,by omega,Bk,by omega,?_,?_⟩
   ·rw[kJ]
   ·refine Sz8 h1 h5 sm pQ sn @true_and @and_true @nM ?_;rw[<-hinv,show(ah x).length-(i+1)=z by omega,KaR hc];simp
 ·obtain rfl:i=(ah x).length:=by omega
  rw[Kar,Q7,Q7]at hv;simp+decide (disch:=first|omega|rfl|(simp+decide only[go_sem,h5,KbP,Ka8,Kak]<;>rfl)|fail) only[go_sem,h5,KbP,Ka8,Kak];refine vd hP (iw oZ (by omega)) (zX rfl MI.symm) rfl fun an=>?_;refine Sz0 ?_;exact Qd (by rw[hv]) rfl
theorem X6{pre w post v:List Nat}{j m:Nat}(hw:Qq w)(hv:Qq v)(hj:pre.length=j)(hm:w.length=m)(hle:v.length<=w.length)(hlen:(pre++(w++post)).length<2^43):
  xy Tryz.prog 174 [.ay B0 j m,PV.nat v] 76 (cn (pre++(w++post))) (fun r xs'=>r= .aw []/\xs'=cn (pre++(kE w v 0++post))):=by
 simp only[Kan]at hlen;refine C3 Qj Tryz.func174 rfl afB (by simp[Kd]) fun C hP=>?_;simp only[Kd,Zo,Zg,Zm,Zc,Zf,Zl,Zh,Zs,Zi,Zb,Zk,Zn,Zu,Zq,Zr,Zz];refine Sz0 ?_;refine qG (fun k fr hp=>∃i c done,k=w.length-i/\i<=w.length/\c<=1/\done.length=i/\done++kE (w.drop i) (v.drop i) c=kE w v 0/\
  fr 0= .ay 1000000 j m/\fr 1=PV.nat v/\fr 4= .int .u32 c/\fr 7= .int .i64 m/\fr 8= .int .i64 i/\hp=Qy aF 1000000 ⟨1,76,cn ((pre++done)++(w.drop i++post)),false⟩) w.length ?_ ?_
 ·refine⟨0,0,[],rfl,by omega,by omega,rfl,rfl,?_⟩;simp+decide (disch:=first|omega|rfl|(simp+decide only[go_sem,true_and,and_true,Kak,Kbp]<;>rfl)|fail) only[go_sem,true_and,and_true,Kak,Kbp];simp
 rintro _ fr _ ⟨i,c,done,rfl,hi,hc,fg,hd,h0,h1,h4,h7,h8,rfl⟩;refine Sz2 h7 h8 ?_;refine Qb (fun hg=>?_) (fun hg=>?_)
 ·have aC:i<w.length:=by omega
  have hwi:=eF hw aC;rw[abq aC]at hd;have gH:(pre++done).length=j+i:=by simp[hj,fg]
  rw[Kaz aC];generalize hww:w[i]=wi at *
  have ar:j+i<((pre++done)++wi::(w.drop (i+1)++post)).length:=by simp;omega
  have eV:=DP gH ar;simp+decide (disch:=first|omega|rfl|(simp+decide only[go_sem,h0,h1,h4,h7,h8,KaP,eV]<;>rfl)|fail) only[go_sem,h0,h1,h4,h7,h8,KaP,eV];refine Qb (fun hq=>?_) (fun hq=>?_)
  ·have kH:i<v.length:=by omega
   have WE:=eF hv kH;rw[gu kH]at hd;simp+decide (disch:=first|omega|rfl|(simp+decide only[go_sem,h0,h1,h4,h7,h8,nM]<;>rfl)|fail) only[go_sem,h0,h1,h4,h7,h8,nM];refine nF (m:=w.length-(i+1)) (by omega) ⟨i+1,_,_,rfl,by omega,?_,?_,(KbJ ..).symm.trans hd,?_⟩
   ·omega
   ·simp[fg]
   ·refine Sz8 h0 h1 h4 h7 h8 @true_and @and_true @nM ?_;simp
  ·rw[gw (by omega)]at hd;refine Sz6 h0 h1 h4 h7 h8 @nM ?_;refine nF (m:=w.length-(i+1)) (by omega) ⟨i+1,_,_,rfl,by omega,?_,?_,(KbJ ..).symm.trans hd,?_⟩
   ·omega
   ·simp[fg]
   ·refine Sz8 h0 h1 h4 h7 h8 @true_and @and_true @nM ?_;simp
 ·obtain rfl:i=w.length:=by omega
  rw[Kal (Kac _),kE,Kak]at hd;refine Sz0 ?_;refine ah0 rfl (qH _) ?_ ⟨rfl,?_⟩
  ·simp[fg]
  ·rw[Kal (Kac _),hd];simp
theorem XL{pre w post v:List Nat}{j m q:Nat}(hw:Qq w)(hv:Qq v)(hq:q<65536)(hj:pre.length=j)(hm:w.length=m)(hle:v.length<=w.length)(hlen:(pre++(w++post)).length<2^43):
  xy Tryz.prog 173 [.ay B0 j m,PV.nat v,.int .u32 q] 76 (cn (pre++(w++post))) (fun r xs'=>r= .bool (decide (0<(fC w v q 0 0).2.2))/\xs'=cn (pre++((fC w v q 0 0).1++post))):=by
 simp only[Kan]at hlen;refine C3 Qj Tryz.func173 rfl afA (by simp[Kc]) fun C hP=>?_;simp only[Kc,Zo,Zg,Zm,Zc,Zf,Zl,Zh,Zs,Zi,Zb,Zk,Zn,Zu,Zq,Zr,Zz];refine Sz0 ?_;refine qG (fun k fr hp=>∃i c b done,k=w.length-i/\i<=w.length/\c<65536/\b<=1/\done.length=i/\done++(fC (w.drop i) (v.drop i) q c b).1=(fC w v q 0 0).1/\(fC (w.drop i) (v.drop i) q c b).2=(fC w v q 0 0).2/\
  fr 0= .ay 1000000 j m/\fr 1=PV.nat v/\fr 2= .int .u32 q/\fr 7= .int .u32 c/\fr 8= .int .i32 (b:Nat)/\fr 12= .int .i64 m/\fr 13= .int .i64 i/\hp=Qy aF 1000000 ⟨1,76,cn ((pre++done)++(w.drop i++post)),false⟩) w.length ?_ ?_
 ·refine⟨0,0,0,[],rfl,by omega,by omega,by omega,rfl,rfl,rfl,?_⟩;simp+decide (disch:=first|omega|rfl|(simp+decide only[go_sem,true_and,and_true,Kak,Kbp]<;>rfl)|fail) only[go_sem,true_and,and_true,Kak,Kbp];simp
 rintro _ fr _ ⟨i,c,b,done,rfl,hi,hc,hb,fg,hd,gl,h0,h1,h2,h7,h8,bO,bV,rfl⟩;refine Sz2 bO bV ?_;refine Qb (fun hg=>?_) (fun hg=>?_)
 ·have aC:i<w.length:=by omega
  have hwi:=eF hw aC;rw[abr aC]at hd gl;simp only at hd gl;have gH:(pre++done).length=j+i:=by simp[hj,fg]
  rw[Kaz aC];generalize hww:w[i]=wi at *
  have ar:j+i<((pre++done)++wi::(w.drop (i+1)++post)).length:=by simp;omega
  have eV:=DP gH ar;simp+decide (disch:=first|omega|rfl|(simp+decide only[go_sem,h0,h1,h2,h7,h8,bO,bV,KaP,eV]<;>rfl)|fail) only[go_sem,h0,h1,h2,h7,h8,bO,bV,KaP,eV];refine zI (fun fr hp=>c+q*v.getD i 0<=4294967295/\fr 0= .ay 1000000 j m/\fr 1=PV.nat v/\fr 2= .int .u32 q/\fr 7= .int .u32 (c+q*v.getD i 0:Nat)/\fr 8= .int .i32 (b:Nat)/\fr 9= .int .i64 i/\fr 12= .int .i64 m/\fr 13= .int .i64 i/\hp=Qy aF 1000000 ⟨1,76,cn ((pre++done)++wi::(w.drop (i+1)++post)),false⟩) ?_ ?_
  ·refine Qb (fun rq=>?_) (fun rq=>?_)
   ·have kH:i<v.length:=by omega
    have WE:=eF hv kH;have rq:=tj hq WE;simp+decide (disch:=first|omega|rfl|(simp+decide only[go_sem,h0,h1,h2,h7,h8,bO,bV,gu kH,true_and,and_true]<;>rfl)|fail) only[go_sem,h0,h1,h2,h7,h8,bO,bV,gu kH,true_and,and_true];omega
   ·simp+decide (disch:=first|omega|rfl|(simp+decide only[go_sem,h0,h1,h2,h7,h8,bO,bV,true_and,and_true,gw (by omega:¬i<v.length),Kb1,KaU]<;>rfl)|fail) only[go_sem,h0,h1,h2,h7,h8,bO,bV,true_and,and_true,gw (by omega:¬i<v.length),Kb1,KaU];omega
  clear h0 h1 h2 h7 h8 bO bV;rintro fr _ ⟨oT,h0,h1,h2,h7,h8,h9,bO,bV,rfl⟩;generalize c+q*v.getD i 0=c1 at *
  refine Sz9 h0 h1 h2 h7 h8 h9 bO bV eV ?_;refine zI (fun fr hp=>fr 0= .ay 1000000 j m/\fr 1=PV.nat v/\fr 2= .int .u32 q/\fr 7= .int .u32 (c1/65536:Nat)/\fr 8= .int .i32 ((if wi<c1%65536+b then 1 else 0):Nat)/\fr 9= .int .i64 i/\fr 10= .int .i32 ((wi+65536-c1%65536-b)%65536:Nat)/\fr 12= .int .i64 m/\fr 13= .int .i64 i/\hp=Qy aF 1000000 ⟨1,76,cn ((pre++done)++wi::(w.drop (i+1)++post)),false⟩) ?_ ?_
  ·refine Qb (fun hq=>?_) (fun hq=>?_)
   ·rw[if_pos (by omega)];refine Ce h0 h1 h2 h7 h8 h9 bO bV @true_and @and_true ?_;simp;omega
   ·rw[if_neg (by omega)];refine Ce h0 h1 h2 h7 h8 h9 bO bV @true_and @and_true ?_;simp;omega
  clear h0 h1 h2 h7 h8 h9 bO bV;rintro fr _ ⟨h0,h1,h2,h7,h8,h9,bI,bO,bV,rfl⟩;refine Ce h0 h1 h2 h7 h8 h9 bI bO bV @nM ?_;refine nF (m:=w.length-(i+1)) (by omega) ⟨i+1,c1/65536,_,_,rfl,by omega,by omega,?_,?_,(KbJ ..).symm.trans hd,gl,?_⟩
  ·split<;>omega
  ·simp[fg]
  ·refine Sz13 h0 h1 h2 h7 h8 h9 bI bO bV @true_and @and_true @nM @Nat.mod_mod ?_;simp
 ·obtain rfl:i=w.length:=by omega
  rw[Kal (Kac _),fC]at hd gl;simp only[Kak]at hd;refine Sz1 h8 ?_;refine QG (p:=.bool (decide (0<(b:Int)))) rfl (qH _) ?_ Tz0 rfl ⟨?_,?_⟩
  ·simp[fg]
  ·rw[<-gl];simp
  ·rw[Kal (Kac _),hd];simp
theorem XM{v u:List Nat}{dg n r j:Nat}(hv:Qq v)(hu:Qq u)(hn:2<=n)(iX:n=v.length)(hju:j+n<u.length)(hd:dg<4294967296)(hr:r<65536)(M1:u.length<2^43):
  Qc Tryz.prog 172 [.pt [.int .u64 dg],.pt [PV.nat v],.pt [.int .i64 n],.pt [.int .u64 r],.pt [PV.nat u],.pt [.int .i64 j]]
   (· = .bool (decide (65536<=dg∨r*65536+u.getD (j+n-2) 0<dg*v.getD (n-2) 0))):=by
 have h1:n-2<v.length:=by omega
 have h2:j+n-2<u.length:=by omega
 have Fo:=eF hv h1;have BA:=eF hu h2;rw[gu h1,gu h2];refine Qf Qj Tryz.func172 rfl afz (by simp[Kb]) fun C hP=>?_;simp only[Kb,Zo,Zg,Zm,Zc,Zf,Zl,Zh,Zs,Zi,Zb,Zk,Zn,Zu,Zq,Zr,Zz];refine Sz0 ?_;refine dI (fun hz=>?_) (fun hz=>?_)
 ·refine Sz0 ?_;exact Qd (by simp;omega) rfl
 ·have vZ:dg<65536:=by omega
  have e1:(n:Int)-2=((n-2:Nat):Int):=by omega
  have e2:((j+n:Nat):Int)-2=((j+n-2:Nat):Int):=by omega
  generalize hvv:v[n-2]=vi at *
  generalize huu:u[j+n-2]=ui at *
  have hm:=tj vZ Fo;refine Sz6 e1 e2 hvv huu @G' @HV ?_;exact Qd (congrArg PV.bool (decide_eq_decide.2 ⟨fun h=>.inr (by omega),fun h=>by rcases h with h|h<;>omega⟩)) rfl
theorem Q8b{l post:List Nat}(hv:Qq l)(hl:(l++post).length<2^43)(hlen:0<l.length):
  xy Tryz.prog 143 [.ay B0 0 l.length] 76 (cn (l++post)) (fun r xs'=>r= .ay B0 0 (nl (val l))/\xs'=cn (l++post)):=by
 simp only[Kan]at hl;have aqs:l.length<=(l++post).length:=by simp
 refine C3 Qj Tryz.func143 rfl O5 (by simp[y6]) fun C hP=>?_;simp only[y6,Zo,Zg,Zm,Zc,Zf,Zl,Zh,Zs,Zi,Zb,Zk,Zn,Zu,Zq,Zr,Zz];refine Sz0 ?_;refine qG (fun m fr hp=>m<=l.length/\cut l m=ah (val l)/\fr 0= .ay 1000000 0 l.length/\fr 3= .int .i64 m/\hp=Qy aF 1000000 ⟨1,76,cn (l++post),false⟩) l.length ?_ ?_
 ·exact⟨Kac _,Ad hv,rfl,rfl,rfl⟩
 rintro n fr _ ⟨hn,hc,h0,h3,rfl⟩;refine Sz2 h0 h3 ?_;refine ga (fun hg=>?_) (fun hg=>?_)
 ·obtain _|n:=n
  ·omega
  have e:((n+1:Nat):Int)-1=n:=by omega
  have ar:n<(l++post).length:=by simp;omega
  have eV:(l++post)[n]=l[n]:=by simp[List.getElem_append,show n<l.length by omega]
  refine Sz4 h0 h3 e eV ?_;simp only[cut]at hc;refine Qb (fun hz=>?_) (fun hz=>?_)
  ·rw[if_pos (by grind)]at hc;refine Sz3 h0 h3 e ?_;refine nF (m:=n) (by omega) ⟨by omega,hc,?_⟩;exact Tz3 h0 @true_and @and_true
  ·rw[if_neg (by grind)]at hc;have l9:nl (val l)=n+1:=by rw[nl,<-hc];simp;omega
   refine Sz2 h0 h3 ?_;exact Po rfl (qH _) (by simp) (Tz1 l9) ⟨rfl,rfl⟩
 ·obtain rfl:n=0:=by omega
  have l9:nl (val l)=0:=by rw[nl,<-hc,cut];rfl
  refine Sz2 h0 h3 ?_;exact Po rfl (qH _) (by simp) (Tz1 l9) ⟨rfl,rfl⟩
theorem GB{a:List Nat}{s:Nat}(ha:Qq a)(bu:a.length<2^40)(hs:s<=15)(aO:val a≠0):Ag Tryz.prog 147 [PV.nat a,.int .i64 s] 76 (fun ys=>ys=cn (ah (val a*2^s))):=by
 have gD:=ck ha;unfold nl at gD;have ow:(ah (val a)).length≠0:=by intro h;exact aO (kq.1 (pk h))
 refine abo Qj Tryz.func147 rfl Iz (by simp[vH]) fun C hP=>?_;simp only[vH,Zo,Zg,Zm,Zc,Zf,Zl,Zh,Zs,Zi,Zb,Zk,Zn,Zu,Zq,Zr,Zz];refine Sz0 ?_;refine Qa hP (iw ha (by omega)) rfl rfl rfl ?_;refine Sz0 ?_;generalize val a=x at *
 have eo:=Qp x;have e1:s/16=0:=Kcc (by omega);have e2:s%16=s:=KaR (by omega);refine dI (fun hz=>by omega) (fun hz=>?_);refine Sz0 ?_;refine dI (fun hz=>by omega) (fun hz=>?_);refine Sz0 ?_;refine Qb (fun hz=>by omega) (fun hz=>?_);refine Sz0 ?_;refine Qb (fun hz=>by omega) (fun hz=>?_);refine Sz4 @Un @Uo e1 e2 ?_;refine qG (fun k fr hp=>∃i c done,k=(ah x).length-i/\i<=(ah x).length/\c<2^s/\done.length=i/\done++nZ s ((ah x).drop i) c=nZ s (ah x) 0/\
  fr 5= .int .i64 (0:Nat)/\fr 6= .int .i64 s/\fr 7= .ms 44 ((ah x).length+1)/\fr 45=PV.num x/\fr 46= .int .i64 (ah x).length/\fr 47= .int .i64 i/\
  hp=Qy aF 44 ⟨1,76,cn (done++c::List.replicate ((ah x).length-i) 0),false⟩) (ah x).length ?_ ?_
 ·refine⟨0,0,[],rfl,by omega,KbN (by omega),rfl,rfl,?_⟩;simp+decide (disch:=first|omega|rfl|(simp+decide only[go_sem,true_and,and_true,KaM,Kcm]<;>rfl)|fail) only[go_sem,true_and,and_true,KaM,Kcm];simp[Kbq]
 rintro _ fr _ ⟨i,c,done,rfl,hi,hc,fg,hd,h5,h6,h7,Ew,Ex,Ey,rfl⟩;refine Sz3 Ew Ex Ey ?_;have aqC:2^s<=2^15:=KbD (by omega) hs;refine Qb (fun hg=>?_) (fun hg=>?_)
 ·have aC:i<(ah x).length:=by omega
  have gJ:=eF eo aC;rw[Kaz aC,nZ]at hd;generalize dS:(ah x)[i]=xi at *
  obtain⟨z,hz⟩:∃z,(ah x).length-i=z+1:=⟨(ah x).length-i-1,by omega⟩
  have ar:i<(done++c::List.replicate (z+1) 0).length:=by simp;omega
  have eV:=DP fg ar;have gr:=Oq (x:=xi) (show s<=16 by omega) hc;have ff:=Up (show s<=16 by omega) gJ;have hl:=ah2 hs gJ;refine Sz13 h5 h6 h7 Ew Ex Ey dS hz eV @Pq @ah1 gr.2 @nM ?_;have kb:∀v u,(done++v::List.replicate (z+1) 0).set (i+1) u=(done++[v])++u::List.replicate z 0:=fun v u=>by rw[KbJ,Kbq,nM (by simp[fg])]
  rw[QC (by simp;omega),kb,KaR (by omega:xi*2^s/65536<65536)];refine Sz6 h5 h6 h7 Ew Ex Ey ?_;refine nF (m:=(ah x).length-(i+1)) (by omega) ⟨i+1,xi*2^s/65536,done++[xi*2^s%65536+c],rfl,by omega,ff,by simp[fg],(KbJ ..).symm.trans hd,?_⟩;refine Sz8 h5 h6 h7 Ew Ex Ey @true_and @and_true ?_;rw[show(ah x).length-(i+1)=z by omega]
 ·obtain rfl:i=(ah x).length:=by omega
  rw[Kal (Kac _),nZ]at hd;have qb:=Tk hs (ah x) 0 eo (KbN (by omega));have gI:=N5 s (ah x) 0;have sE:=Sp s (ah x) 0;rw[Q7,KaU]at gI;rw[<-hd]at qb gI sE;have aqA:x*2^s≠0:=Nat.mul_ne_zero aO (Nat.ne_of_gt (KbN (by omega)));simp+decide (disch:=first|omega|rfl|(simp+decide only[go_sem,h7,KbP,Ka8]<;>rfl)|fail) only[go_sem,h7,KbP,Ka8];have ht:=Q8b (l:=done++[c]) (post:=[]) qb (by simp[fg];omega) (by simp);rw[Kak,gI]at ht;refine Ec hP ht (β:=44) Tz0 (qH _) (by simp) (by simp[jv,sE]) rfl ?_;rintro r xs' _ _ ⟨rfl,rfl⟩;simp+decide (disch:=first|omega|rfl|(simp+decide only[go_sem,nQ]<;>rfl)|fail) only[go_sem,nQ];refine⟨4,44,nl (x*2^s),_,rfl,by simp+decide (disch:=try exact D0) only[go_sem],rfl,by simp+decide (disch:=try exact D0) only[go_sem];rfl,qH _,?_,?_⟩
  ·have:= @w7 (x*2^s);omega
  ·rw[<-gI,<-List.map_take,adf qb]
theorem Q8c{a:List Nat}{s:Nat}(ha:Qq a)(bu:a.length<2^42)(hs:s<=15):Qc Tryz.prog 171 [PV.nat a,.int .i64 s] (· =PV.num (val a/2^s)):=by
 have e1:s/16=0:=Kcc (by omega);have e2:s%16=s:=KaR (by omega);refine Qf Qj Tryz.func171 rfl afC (by simp[Ka]) fun C hP=>?_;simp only[Ka,Zo,Zg,Zm,Zc,Zf,Zl,Zh,Zs,Zi,Zb,Zk,Zn,Zu,Zq,Zr,Zz];refine Sz4 @Un @Uo e1 e2 ?_;refine Qb (fun hz=>?_) (fun hz=>?_)
 ·have:a=[]:=Kas.1 (by omega);subst this;refine Sz0 ?_;exact nK (Af (by simp[val])) rfl
 have e3:((a.length:Int)-((0:Nat):Int))=((a.length:Nat):Int):=by omega
 refine Sz1 e3 ?_;refine Qz (by repeat (first|exact Qs|exact Ql|exact Qm|exact Qn|exact Qo|apply Qk|apply Qr|apply Qw|apply Q5|apply Q6|apply Qi)) [(8,9),(25,60)] [] (fun k J hp=>∃i done,k=a.length-i/\i<=a.length/\done.length=i/\done++mQ s (a.drop i)=mQ s a/\J 25= .int .i64 i/\
  hp=Qy aF 22 ⟨1,76,cn (done++List.replicate (a.length-i) 0),false⟩) a.length ?_ ?_
 ·refine⟨0,[],rfl,by omega,rfl,rfl,?_⟩;simp+decide (disch:=first|omega|rfl|(simp+decide only[go_sem,true_and,and_true,KaM,Kcm]<;>rfl)|fail) only[go_sem,true_and,and_true,KaM,Kcm];simp
 rintro _ J _ ⟨i,done,rfl,hi,fg,hd,vP,rfl⟩;refine Sz1 vP ?_;refine Qb (fun hg=>?_) (fun hg=>?_)
 ·have aC:i<a.length:=by omega
  have EJ:=eF ha aC;rw[aa6 aC]at hd;generalize dS:a[i]=xi at *
  have hlen:=HQ (n:=a.length-i) fg (by omega:_=a.length);refine Sz2 vP dS ?_;refine Qb (fun hq=>?_) (fun hq=>?_)
  ·have kH:i+1<a.length:=by omega
   have haj:=eF ha kH;rw[gu kH]at hd;simp+decide (disch:=first|omega|rfl|(simp+decide only[go_sem,vP,Ha,Um,Ib]<;>rfl)|fail) only[go_sem,vP,Ha,Um,Ib];refine Qh (a.length-(i+1)) (by omega) ⟨i+1,_,rfl,by omega,by simp[fg],(KbJ ..).symm.trans hd,?_⟩;exact Tz5 vP @true_and @and_true @zW @Nat.sub_sub
  ·rw[gw (by omega),KbH,Kbd]at hd;refine Sz2 vP @Ib ?_;refine Qh (a.length-(i+1)) (by omega) ⟨i+1,_,rfl,by omega,by simp[fg],(KbJ ..).symm.trans hd,?_⟩;exact Tz5 vP @true_and @and_true @zW @Nat.sub_sub
 ·obtain rfl:i=a.length:=by omega
  rw[Kal (Kac _),mQ,Kak]at hd;simp+decide (disch:=first|omega|rfl|(simp+decide only[go_sem,KbP,Ka8,Kak]<;>rfl)|fail) only[go_sem,KbP,Ka8,Kak];rw[hd];refine vd hP (iw (Tl s a) (by rw[GA];exact bu)) (zX rfl (GA s a).symm) rfl fun an=>?_;refine Sz0 ?_;exact Qd (by rw[Ou (by omega) a ha]) rfl
theorem YE{x V d q:Nat}(hd:0<d)(h:q=V/d):(V%d*65536+x)/d+65536*q=(x+65536*V)/d/\(V%d*65536+x)%d=(x+65536*V)%d:=by
 subst h;have e:x+65536*V=(V%d*65536+x)+d*(65536*(V/d)):=by
  have:=Kbr V d
  calc x+65536*V=x+65536*(d*(V/d)+V%d):=by rw[this]
   _=_:=by rw[Ka2,Kby];omega
 rw[e,Kcs _ _ hd,Kcp];exact⟨rfl,rfl⟩
theorem YG{a:List Nat}{d:Nat}(ha:Qq a)(bu:a.length<2^42)(hd:0<d)(gl:d<65536):Qc Tryz.prog 145 [PV.nat a,.int .u16 d] (· = .aw [PV.num (val a/d),.int .u16 (val a%d:Nat)]):=by
 refine Qf Qj Tryz.func145 rfl afy (by simp[JG]) fun C hP=>?_;simp only[JG,Zo,Zg,Zm,Zc,Zf,Zl,Zh,Zs,Zi,Zb,Zk,Zn,Zu,Zq,Zr,Zz];refine Sz0 ?_;refine Qz (by repeat (first|exact Qs|exact Ql|exact Qm|exact Qn|exact Qo|apply Qk|apply Qr|apply Qw|apply Q5|apply Q6|apply Qi)) [(7,8),(15,38)] [] (fun k J hp=>∃qs,k<=a.length/\qs.length=a.length-k/\Qq qs/\val qs=val (a.drop k)/d/\J 7= .int .u32 (val (a.drop k)%d:Nat)/\J 8= .int .i64 ((k:Int)-1)/\
  hp=Qy aF 11 ⟨1,76,cn (List.replicate k 0++qs),false⟩) a.length ?_ ?_
 ·refine⟨[],Kac _,by simp,nH,by simp[val],?_⟩;refine Sz2 @true_and @and_true ?_;simp[val]
 rintro k J _ ⟨qs,hk,sJ,o0,hv,h7,h8,rfl⟩;refine Sz2 h7 h8 ?_;have hr:=Kbv (val (a.drop k)) hd;refine Qb (fun hg=>?_) (fun hg=>?_)
 ·obtain _|n:=k
  ·omega
  have hn:n<a.length:=by omega
  have vW:=eF ha hn;have e:((n+1:Nat):Int)-1=n:=by omega
  have aG:=YE (x:=a[n]) hd hv;rw[<-lK hn]at aG;have ar:(val (a.drop (n+1))%d*65536+a[n])/d<65536:=by rw[Kbn hd];have:(val (a.drop (n+1))%d+1)*65536<=d*65536:=Kaf _ hr;omega
  generalize dS:a[n]=xn at *
  generalize val (a.drop (n+1))%d=r at *
  have hlen:n<(List.replicate (n+1) 0++qs).length:=by simp;omega
  refine Sz8 h7 h8 e dS @Ha @ade @aeY @qJ ?_;refine Qh n (by omega) ⟨(r*65536+xn)/d::qs,by omega,?_,?_,?_,?_⟩
  ·simp;omega
  ·rw[ia];exact⟨ar,o0⟩
  ·rw[val,aG.1]
  ·refine Sz5 h7 h8 @true_and @and_true aG.2 ?_;rw[KaR ar,List.replicate_succ',KbK,List.singleton_append,nM (by simp)]
 ·obtain rfl:k=0:=by omega
  rw[Kbp]at hv h7;have ar:=Kbv (val a) hd;simp+decide (disch:=first|omega|rfl|(simp+decide only[go_sem,h7,h8,Ka8,KaM]<;>rfl)|fail) only[go_sem,h7,h8,Ka8,KaM];refine vd hP (iw o0 (by omega)) (zX rfl (by omega)) rfl fun an=>?_;refine Sz1 h7 ?_;refine fl rfl rfl rfl (tA (by rw[hv])) (tA ?_);rw[KaR (by omega)]
theorem Tr{x:Nat}(h:x<65536):Qc Tryz.prog 151 [.int .u16 x] (· = .int .i64 (Lib.bitLen x:Nat)):=
 Yx (by simp[oO];exact⟨rfl,by decide⟩) (fun w=>YH x w (by omega) (by omega)) (fun _ _=>Qu.int _ _)
theorem GC{x:Nat}(h:x<65536):Lib.bitLen x<=16:=Lib.bitLen_le x 16 (by omega) (by omega)
theorem GZ{x:Nat}(h:x<65536)(h0:x≠0):1<=Lib.bitLen x:=by have:=Lib.bitLen_half x h0 (by omega);omega
theorem YI:Lib.bitLen 0=0:=by decide
theorem Q8d:∀(n x:Nat),Lib.bitLen x=n->x≠0->x<65536->2^n<=2*x/\x<2^n:=by
 intro n;induction n with
 |zero=>intro x h h0 hx;have:=GZ hx h0;omega
 | succ n ih=>
  intro x h h0 hx;have e:=Lib.bitLen_half x h0 (by omega);by_cases h2:x/2=0
  ·have:x=1:=by omega
   subst this;have:n=0:=by rw[h]at e;simp[YI]at e;exact e
   subst this;simp
  ·have:=ih (x/2) (by omega) h2 (by omega);rw[KbA];omega
theorem Qrq{x:Nat}(h:x<65536):Qc Tryz.prog 146 [.int .u16 x] (· = .int .i64 (16-Lib.bitLen x:Nat)):=by have:=GC h;refine Qf Qj Tryz.func146 rfl afD (by simp[JH]) fun C hP=>?_;simp only[JH,Zo,Zg,Zm,Zc,Zf,Zl,Zh,Zs,Zi,Zb,Zk,Zn,Zu,Zq,Zr,Zz];refine Sz0 ?_;refine Qa hP (Tr h) rfl rfl rfl ?_;refine Sz0 ?_;exact Qd (by congr 1;omega) rfl
theorem TU{a:List Nat}(ha:Qq a)(bu:a.length<2^40):Qc Tryz.prog 96 [PV.nat a] (fun r=>∃n:Nat,r= .int .i64 n/\(n=0↔val a=0)):=by
 have hd:=ck ha;unfold nl at hd;refine Qf Qj Tryz.func96 rfl aix (by simp[LC]) fun C hP=>?_;simp only[LC,Zo,Zg,Zm,Zc,Zf,Zl,Zh,Zs,Zi,Zb,Zk,Zn,Zu,Zq,Zr,Zz];refine Sz0 ?_;refine Qa hP (iw ha (by omega)) rfl rfl rfl ?_;refine Sz0 ?_;refine Qb (fun hz=>?_) (fun hz=>?_)
 ·refine Sz0 ?_;have:val a=0:=kq.1 (Kas.1 (by omega));exact⟨rfl,_,Qx _,0,rfl,by simp[this]⟩
 ·have aO:val a≠0:=fun h=>by rw[h,fH]at hz;simp at hz
  have js:=zV (val a);have Fe:=Qp (val a);generalize val a=x at *
  obtain⟨k,hk⟩:∃k,(ah x).length=k+1:=⟨(ah x).length-1,by omega⟩
  have ar:k<(ah x).length:=by omega
  have sO:=eF Fe ar;have ow:(ah x)[k]≠0:=by intro h;apply js;rw[Ka3,hk,Nat.add_sub_cancel,Kam ar,h]
  have e:((k+1:Nat):Int)-1=k:=by omega
  generalize dS:(ah x)[k]=xi at *
  have hb:=GC sO;have oS:=GZ sO ow;refine Sz3 hk e dS ?_;refine Qa hP (Tr sO) rfl rfl rfl ?_;have e2:(16:Int)*(k:Int)=((16*k:Nat):Int):=by omega
  refine Sz1 e2 ?_;exact⟨rfl,_,Qx _,16*k+Lib.bitLen xi,rfl,by omega⟩
theorem akK(i:Nat):2^(16*i)=65536^i:=by rw[Nat.pow_mul]
theorem Hn{a:List Nat}(ha:Qq a)(bu:a.length<2^40):Qc Tryz.prog 87 [PV.nat a] (· =if nl (val a)<=4 then .aw [.int .u64 (val a),.bool true]else .aw [.int .u64 0,.bool false]):=by
 have hd:=ck ha;unfold nl at hd;refine Qf Qj Tryz.func87 rfl aiw (by simp[Lr]) fun C hP=>?_;simp only[Lr,Zo,Zg,Zm,Zc,Zf,Zl,Zh,Zs,Zi,Zb,Zk,Zn,Zu,Zq,Zr,Zz];refine Sz0 ?_;refine Qa hP (iw ha (by omega)) rfl rfl rfl ?_;refine Sz0 ?_;have Fe:=Qp (val a);have gS:=Q7 (val a);unfold nl;generalize val a=x at *
 refine Qb (fun hz=>?_) (fun hz=>?_)
 ·refine Sz0 ?_;rw[if_neg (by omega)];exact fl rfl rfl rfl (Qx _) (Qx _)
 ·refine Sz0 ?_;rw[if_pos (by omega)];refine Qz (by repeat (first|exact Qs|exact Ql|exact Qm|exact Qn|exact Qo|apply Qk|apply Qr|apply Qw|apply Q5|apply Q6|apply Qi)) [(4,6),(14,26)] [] (fun k J hp=>∃i,k=(ah x).length-i/\i<=(ah x).length/\J 14= .int .i64 i/\J 4= .int .u64 (val ((ah x).take i))/\hp=aF) (ah x).length ?_ ?_
  ·refine⟨0,rfl,by omega,?_⟩;simp+decide (disch:=first|omega|rfl|(simp+decide only[go_sem,true_and,and_true,Kb5]<;>rfl)|fail) only[go_sem,true_and,and_true,Kb5];simp[val]
  rintro _ J _ ⟨i,rfl,hi,cI,h4,rfl⟩;refine Sz2 cI h4 ?_;refine Qb (fun hg=>?_) (fun hg=>?_)
  ·have aC:i<(ah x).length:=by omega
   have gJ:=eF Fe aC;have lA:=zb aC;have uB:=s8 Fe i (by omega);generalize dS:(ah x)[i]=xi at *
   have e2:(16:Int)*(i:Int)=((16*i:Nat):Int):=by omega
   have hb:xi*2^(16*i)+2^(16*i)<=18446744073709551616:=by have h3:2^(16*i)<=2^48:=KbD (by omega) (by omega);have:(xi+1)*2^(16*i)<=65536*2^48:=KaJ (by omega) h3;rw[KaI]at this;omega
   have hpp:0<2^(16*i):=KbN (by omega);rw[<-akK]at lA uB;have yG:(val ((ah x).take i)|||xi*2^(16*i))=val ((ah x).take (i+1)):=by rw[Nat.or_comm,Ao uB,lA,KaS,KbQ]
   refine Sz7 cI h4 dS e2 @Pp @QH yG ?_;refine Qh ((ah x).length-(i+1)) (by omega) ⟨i+1,rfl,by omega,?_⟩;exact Tz3 cI @true_and @and_true
  ·obtain rfl:i=(ah x).length:=by omega
   rw[Kar,gS]at h4;refine Sz1 h4 ?_;exact fl rfl rfl rfl (Qx _) (Qx _)
set_option maxHeartbeats 2000000 in
theorem abQ{u v ex:List Nat}(hu:Qq u)(hv:Qq v)(hn:2<=v.length)(ar:v.length<u.length)(WA:32768<=v.getD (v.length-1) 0)(anR:val (u.drop (u.length-v.length))<val v)(M1:u.length+ex.length<2^42):
  xy Tryz.prog 148 [.ay B0 0 u.length,PV.nat v] 76 (cn (u++ex)) (fun r xs'=>r=PV.num (val u/val v)/\∃l,xs'=cn (l++ex)/\Qq l/\l.length=u.length/\val l=val u%val v):=by
 obtain⟨n,iX⟩:∃n,v.length=n+2:=⟨v.length-2,by omega⟩
 have e1:(u.length:Int)-(v.length:Int)=((u.length-v.length:Nat):Int):=by omega
 have uB:=Pt iX;have BB:=s8 hv n (by omega);have aoS:=oI hv;have Fo:=eF hv (show n+1<v.length by omega);have sN:=eF hv (show n<v.length by omega);have re:v[n+1]'(by omega)=v.getD (n+1) 0:=(gu _).symm;have fN:v[n]'(by omega)=v.getD n 0:=(gu _).symm;have aoK:32768<=v.getD (n+1) 0:=by rw[iX]at WA;exact WA
 rw[re]at Fo;rw[fN]at sN;rw[iX]at aoS;have hvp:0<val v:=by rw[uB];have:0<65536^n:=KbN (by omega);have:0<(v.getD (n+1) 0*65536+v.getD n 0)*65536^n:=Kce (by omega) this;omega
 refine C3 Qj Tryz.func148 rfl af7 (by simp[JI]) fun C hP=>?_;simp only[JI,Zo,Zg,Zm,Zc,Zf,Zl,Zh,Zs,Zi,Zb,Zk,Zn,Zu,Zq,Zr,Zz];refine Sz1 e1 ?_;refine Ov (by repeat (first|exact Qs|exact Ql|exact Qm|exact Qn|exact Qo|apply Qk|apply Qr|apply Qw|apply Q5|apply Q6|apply Qi)) [(7,11),(24,105)] [7,9,10] (fun k J hp=>∃l qs,k+qs.length=u.length-v.length/\Qq l/\l.length=u.length/\Qq qs/\val (l.drop k)<val v/\val u=val l+val v*(65536^k*val qs)/\J 7= .mp 7 0 0/\
  hp 7=some ⟨1,3,[.int .i64 ((k:Int)-1)],false⟩/\hp 1000000=some ⟨1,76,cn (l++ex),false⟩/\hp 18=some ⟨1,76,cn (List.replicate k 0++qs),false⟩/\
  hp 3=some ⟨1,39,[PV.nat v],false⟩/\hp 5=some ⟨1,3,[.int .i64 v.length],false⟩) (u.length-v.length) ?_ ?_
 ·refine⟨u,[],rfl,hu,rfl,nH,anR,by simp[val],?_⟩;refine Sz2 @true_and @and_true ?_;simp
 intro F hF;have lj:F 2= .rb 1000000 0 u.length:=by rw[hF];simp+decide (disch:=try exact D0) only[go_sem]
 have jl:F 3= .mp 3 0 0:=by rw[hF];simp+decide (disch:=try exact D0) only[go_sem]
 have jm:F 5= .mp 5 0 0:=by rw[hF];simp+decide (disch:=try exact D0) only[go_sem]
 have jo:F 6= .ms 18 (u.length-v.length):=by rw[hF];simp+decide (disch:=try exact D0) only[go_sem]
 have Fa:∀β,[7,9,10].contains β=true->cK β F=F:=fun β h=>by rw[hF];exact Cr h
 have hk9:=Fa 9 rfl;have aqm:=Fa 10 rfl;have EZ:=Fa 7 rfl;have Bi:bF [9,10] F=F:=by rw[hF];exact XK rfl
 clear Fa hF;rintro k J h ⟨l,qs,qi,hl,ri,o0,Fl,gS,gB,m8,lk,pX,bA,iW⟩;refine Ce @gB m8 @lk pX bA iW @lj @jl @jm @jo ?_;refine Qb (fun hg=>?_) (fun hg=>?_)
 ·obtain _|j:=k
  ·omega
  have e2:((j+1:Nat):Int)-1=j:=by omega
  have e3:((n+2:Nat):Int)-1=((n+1:Nat):Int):=by omega
  have e4:((j+(n+2):Nat):Int)-1=((j+(n+1):Nat):Int):=by omega
  obtain⟨pre,w,post,MJ,gH,uC,yI,hw,qd,MS,sB,WJ,w0,Fp,wB⟩:=ah4 (n:=n) hl (by omega) (by omega) Fl;have gm:=eF hl (show j+(n+2)<l.length by omega);have l7:=eF hl (show j+(n+1)<l.length by omega);have iq:=eF hl (show j+n<l.length by omega);have aqr:(l++ex).length=u.length+ex.length:=by rw[Kan,ri]
  have VG:(l++ex)[j+(n+2)]'(by omega)=l.getD (j+(n+2)) 0:=by rw[Kcv (by omega)];exact(gu _).symm
  have VF:(l++ex)[j+(n+1)]'(by omega)=l.getD (j+(n+1)) 0:=by rw[Kcv (by omega)];exact(gu _).symm
  rw[<-gu (by omega)]at gm l7;have By:(cn (l++ex)).take u.length=cn l:=by rw[<-List.map_take,<-ri,List.take_left]
  have VU:l++ex=pre++(w++(post++ex)):=by rw[MJ];simp
  generalize l.getD (j+(n+2)) 0=w2 at *
  generalize l.getD (j+(n+1)) 0=w1 at *
  simp+decide (disch:=first|omega|rfl|(simp+decide only[go_sem,gB,m8,lk,pX,bA,iW,lj,jl,jm,jo,iX,e2,e3,e4,VG,VF,re,G',HV,Ah,qJ]<;>rfl)|fail) only[go_sem,gB,m8,lk,pX,bA,iW,lj,jl,jm,jo,iX,e2,e3,e4,VG,VF,re,G',HV,Ah,qJ];have aqN:w.length=n+3:=uC;have anl:=ZN uB wB Fp (by rw[<-gu (show j+n<l.length by omega)]at iq;omega) (by omega:0<v.getD (n+1) 0);have uq:=ado uB wB BB WJ (KbN (by omega));have ug:=Kbr (w2*65536+w1) (v.getD (n+1) 0);have aqg:(w2*65536+w1)/v.getD (n+1) 0<131072:=by rw[Kbn (by omega)];omega
  have aqG:=Kbv (w2*65536+w1) (by omega:0<v.getD (n+1) 0);rw[KaS]at ug;generalize jI:(w2*65536+w1)/v.getD (n+1) 0=d0 at *
  generalize ja:(w2*65536+w1)%v.getD (n+1) 0=r0 at *
  have Mo:∀(h:HP) v w,Qy (Qy h 10 v) 9 w=Qy (Qy h 9 w) 10 v:=fun h v w=>aa8 10 9 (by decide) h v w;refine ae2 (fun J=>J 7= .mp 7 0 0/\J 52= .int .u64 d0/\J 53= .int .u64 (w2*65536+w1:Nat)) (Tz3 @gB @true_and @and_true) ?_;clear gB;rintro J ⟨gB,LY,LZ⟩;refine adp (by repeat (first|exact Qs|exact Ql|exact Qm|exact Qn|exact Qo|apply Qk|apply Qr|apply Qw|apply Q5|apply Q6|apply Qi)) [9,10] (fun J2 fh=>J2 7= .mp 7 0 0/\J2 9= .mp 9 0 0/\J2 10= .mp 10 0 0/\fh=Qy (Qy h 9 ⟨1,101,[.int .u64 d0],false⟩) 10 ⟨1,101,[.int .u64 r0],false⟩) ?_ ?_
  ·intro F' AN;have UY:F' 3= .mp 3 0 0:=by rw[AN];simp+decide (disch:=try exact D1 jl) only[go_sem,jl]
   have UZ:F' 5= .mp 5 0 0:=by rw[AN];simp+decide (disch:=try exact D1 jm) only[go_sem,jm]
   have VN:cK 9 F'=F':=by rw[AN];exact Cr rfl
   have VM:cK 10 F'=F':=by rw[AN];exact Cr rfl
   clear AN
   repeat' (first|refine nI ?_ ?_|simp+decide (disch:=first|omega|rfl|(simp+decide only[go_sem,gB,LY,LZ,bA,iW,UY,UZ,VN,VM,iX,e3,re,qJ]<;>rfl)|fail) only[go_sem,gB,LY,LZ,bA,iW,UY,UZ,VN,VM,iX,e3,re,qJ])
   all_goals refine Ai (J:=_) ?_
   all_goals simp+decide (disch:=try exact D5 gB ja Mo true_and and_true) only[go_sem,gB,ja,Mo,true_and,and_true]
  clear gB LY LZ J;rintro J _ ⟨gB,om,oh,rfl⟩;simp+decide (disch:=first|omega|rfl|(simp+decide only[go_sem,gB,om,oh,lj,jl,jm,jo,UL,List.all_cons,List.all_nil,KaP,KaM,true_and]<;>rfl)|fail) only[go_sem,gB,om,oh,lj,jl,jm,jo,UL,List.all_cons,List.all_nil,KaP,KaM,true_and];refine Ov (by repeat (first|exact Qs|exact Ql|exact Qm|exact Qn|exact Qo|apply Qk|apply Qr|apply Qw|apply Q5|apply Q6|apply Qi)) [(62,77)] [] (fun m J hp=>∃d r,m=d/\d*v.getD (n+1) 0+r=w2*65536+w1/\val w<(d+1)*val v/\hp=Qy (Qy h 9 ⟨1,101,[.int .u64 d],false⟩) 10 ⟨1,101,[.int .u64 r],false⟩) d0 ?_ ?_
  ·exact⟨d0,r0,rfl,ug,anl,rfl⟩
  intro F1 yo;have ED:F1 9= .mp 9 0 0:=by rw[yo,ks];simp+decide (disch:=try exact D1 om) only[go_sem,om]
  have EB:F1 10= .mp 10 0 0:=by rw[yo,ks];simp+decide (disch:=try exact D1 oh) only[go_sem,oh]
  have LU:F1 11= .fn 172 [] [.mp 9 0 0,.mp 3 0 0,.mp 5 0 0,.mp 10 0 0,.rb 1000000 0 u.length,.mp 7 0 0]:=by rw[yo,ks];simp+decide (disch:=try exact D0) only[go_sem]
  have yn:F1 3= .mp 3 0 0:=by rw[yo,ks];simp+decide (disch:=try exact D1 jl) only[go_sem,jl]
  have qU:F1 5= .mp 5 0 0:=by rw[yo,ks];simp+decide (disch:=try exact D1 jm) only[go_sem,jm]
  rintro d J2 _ ⟨_,r,rfl,uh,Mq,rfl⟩;have aqf:d<131072:=by have:d*32768<=d*v.getD (n+1) 0:=Ka7 _ aoK;omega
  refine Sz3 @ED @EB @LU ?_;refine Yy (by repeat (first|exact Qs|exact Ql|exact Qm|exact Qn|exact Qo|apply Qk|apply Qr|apply Qw|apply Q5|apply Q6|apply Qi)) [(62,67)] [] (fun J hp=>J 67= .bool (decide (r<65536/\(65536<=d∨r*65536+l.getD (j+n) 0<d*v.getD n 0)))/\hp=Qy (Qy h 9 ⟨1,101,[.int .u64 d],false⟩) 10 ⟨1,101,[.int .u64 r],false⟩) ?_ ?_
  ·refine ga (fun hr=>?_) (fun hr=>?_)
   ·refine Sz3 @ED @EB @LU ?_;refine abp hP (XM (dg:=d) (r:=r) (j:=j) hv hl hn rfl (by omega) (by omega) (by omega) (by omega)) (by simp+decide (disch:=first|omega|rfl|(simp+decide only[go_sem,fL,lk,bA,iW,m8,e2,Kak,KaM,List.getElem?_cons_zero,Kbp,Kae]<;>rfl)|fail) only[go_sem,fL,lk,bA,iW,m8,e2,Kak,KaM,List.getElem?_cons_zero,Kbp,Kae];simp only[Kbp,By]) rfl rfl ?_;refine Sz1 iX ?_;refine Ai ⟨?_,rfl⟩;refine Sz0 ?_;rw[show j+(n+2)-2=j+n by omega,show n+2-2=n by omega];exact congrArg PV.bool (decide_eq_decide.2 ⟨fun h=>⟨by omega,h⟩,fun h=>h.2⟩)
   ·refine Sz3 @ED @EB @LU ?_;refine Ai ⟨?_,rfl⟩;refine Sz0 ?_;simp;omega
  rintro J3 _ ⟨h67,rfl⟩;simp (disch:=decide) only[ks,nN];refine Sz1 h67 ?_;refine Qb (fun ht=>?_) (fun ht=>?_)
  ·obtain⟨hr,ht⟩:=ht;have we:val w<d*val v:=by
    rcases ht with ht|ht
    ·exact KaN WJ (Kaf _ ht)
    ·exact adm uB wB Fp uh ht
   obtain _|d:=d
   ·omega
   have e5:((d+1:Nat):Int)-1=(d:Nat):=by omega
   refine Sz11 @ED @EB @yn @qU bA iW iX e3 e5 re Mo ?_;refine Qh d (by omega) ⟨d,r+v.getD (n+1) 0,rfl,?_,we,rfl⟩;rw[KaI]at uh;omega
  have v5:d<65536:=by apply Decidable.byContradiction;intro fX;apply ht;refine⟨?_,.inl (by omega)⟩;have:65536*v.getD (n+1) 0<=d*v.getD (n+1) 0:=Kaf _ (by omega);omega
  have aoJ:¬r*65536+l.getD (j+n) 0<d*v.getD n 0:=by
   intro aoa;by_cases hr:r<65536
   ·exact ht ⟨hr,.inr aoa⟩
   ·have:=tj v5 sN;omega
  have e5:j+(n+2)+1-j=n+3:=by omega
  subst yo;simp (disch:=decide) only[ks,Bi,nN];refine Sz14 @gB @om @oh @lj @jl @jm @jo bA iW m8 @lk e2 iX e5 ?_;have Bx:=N4 w v d 0 0 hw (by omega) (by omega);have EO:=Tn w v d 0 0 (by omega) (by omega) v5 hv;have cJ:=Tj w v d 0 0;have Wu:=So w v d 0 0;have WI:=oI hw;rw[uC]at Bx WI;refine Ec hP (XL (pre:=pre) (w:=w) (post:=post++ex) (j:=j) (m:=n+3) (q:=d) hw hv v5 gH uC (by omega) (by rw[<-VU];omega)) (β:=1000000) (Tz2 @lk VU) (qH _) (by simp;omega) (by simp[jv,B0]) rfl ?_;rintro _ _ _ _ ⟨rfl,rfl⟩;generalize fC w v d 0 0=sq at *
  obtain⟨⟨Bx,oS⟩,EO⟩:=And.intro Bx EO;have Vi:=oI cJ;rw[Wu,uC]at Vi;have aqD:pre.length+(w.length+post.length)=u.length:=by rw[<-ri,MJ];simp
  have aqH:j<(List.replicate (j+1) 0++qs).length:=by simp;omega
  have WG:val l=val pre+65536^j*val w:=by rw[MJ,mA,mA,MS,gH,Kb1,KaU]
  simp+decide (disch:=first|omega|rfl|(simp+decide only[go_sem,nQ,gB,om,oh,lj,jl,jm,jo]<;>rfl)|fail) only[go_sem,nQ,gB,om,oh,lj,jl,jm,jo];refine Qb (fun hb=>?_) (fun hb=>?_)
  ·have fb:sq.2.2=1:=by omega
   rw[EO,fb]at Bx;obtain _|d:=d
   ·omega
   have VD:=adn uB wB BB (by omega) v5 uh aoJ;obtain⟨k,hk⟩:=N3 sq.1 v 0 (by omega);have lz:=Ti sq.1 v 0;have Wi:=Sn sq.1 v 0;rw[Wu,uC]at hk Wi;have Wh:=oI lz;rw[Wi]at Wh;obtain⟨yr,yt⟩:=ae3 (B:=65536^(n+3)) (S:=val sq.1) (e:=d) (by omega) Vi VD (by omega) Wh WI;have e6:((d+1:Nat):Int)-1=(d:Nat):=by omega
   simp+decide (disch:=first|omega|rfl|(simp+decide only[go_sem,gB,om,oh,lj,jl,jm,jo,bA,iW,m8,lk,e2,e6,iX,e5]<;>rfl)|fail) only[go_sem,gB,om,oh,lj,jl,jm,jo,bA,iW,m8,lk,e2,e6,iX,e5];refine Ec hP (X6 (pre:=pre) (w:=sq.1) (post:=post++ex) (j:=j) (m:=n+3) cJ hv gH (by omega) (by omega) (by simp;omega)) (β:=1000000) Tz0 (qH _) (by simp;omega) (by simp[jv,B0]) rfl ?_;rintro _ _ _ _ ⟨rfl,rfl⟩;have AV:=Uq (q:=d) (R:=kE sq.1 v 0) gH MS gS WG yt;simp+decide (disch:=first|omega|rfl|(simp+decide only[go_sem,nQ,gB,om,oh,lj,jl,jm,jo,bA,iW,m8,lk,pX,e2,e6,iX,e5,DR,KaR (by omega:d<65536),EZ]<;>rfl)|fail) only[go_sem,nQ,gB,om,oh,lj,jl,jm,jo,bA,iW,m8,lk,pX,e2,e6,iX,e5,DR,KaR (by omega:d<65536),EZ];refine Qh j (by omega) ⟨pre++(kE sq.1 v 0++post),d::qs,by simp;omega,?_,?_,?_,?_,AV.2,?_⟩
   ·rw[nD,nD];exact⟨yI,lz,qd⟩
   ·simp;omega
   ·rw[ia];exact⟨by omega,o0⟩
   ·rw[AV.1];exact yr
   ·simp+decide (disch:=first|omega|rfl|(simp+decide only[go_sem,bA,iW,true_and,and_true,iX,KbK]<;>rfl)|fail) only[go_sem,bA,iW,true_and,and_true,iX,KbK]
  ·have fb:sq.2.2=0:=by omega
   rw[EO,fb]at Bx;obtain⟨yr,yt⟩:=ah5 (S:=val sq.1) (d:=d) (by omega) Mq;have AV:=Uq (q:=d) (R:=sq.1) gH MS gS WG yt;simp+decide (disch:=first|omega|rfl|(simp+decide only[go_sem,nQ,gB,om,oh,lj,jl,jm,jo,bA,iW,m8,lk,pX,e2,iX,e5,DR,KaR v5,EZ]<;>rfl)|fail) only[go_sem,nQ,gB,om,oh,lj,jl,jm,jo,bA,iW,m8,lk,pX,e2,iX,e5,DR,KaR v5,EZ];refine Qh j (by omega) ⟨pre++(sq.1++post),d::qs,by simp;omega,?_,?_,?_,?_,AV.2,?_⟩
   ·rw[nD,nD];exact⟨yI,cJ,qd⟩
   ·simp;omega
   ·rw[ia];exact⟨v5,o0⟩
   ·rw[AV.1];exact yr
   ·simp+decide (disch:=first|omega|rfl|(simp+decide only[go_sem,bA,iW,true_and,and_true,iX,KbK]<;>rfl)|fail) only[go_sem,bA,iW,true_and,and_true,iX,KbK]
 ·obtain rfl:k=0:=by omega
  rw[Kbp]at Fl;rw[Nat.pow_zero,KcV]at gS;have hdiv:val u/val v=val qs:=by rw[gS,Kcs _ _ hvp,Kcc Fl,Kbd]
  have Bo:val u%val v=val l:=by rw[gS,Kcp,KaR Fl]
  simp+decide (disch:=first|omega|rfl|(simp+decide only[go_sem,gB,m8,lk,pX,bA,iW,lj,jl,jm,jo,Ka8,KaM]<;>rfl)|fail) only[go_sem,gB,m8,lk,pX,bA,iW,lj,jl,jm,jo,Ka8,KaM];refine ig hP (iw o0 (by omega)) (zX (ty:=76) (fz:=false) (by simp+decide (disch:=first|omega|rfl|(simp+decide only[go_sem,pX,Ka8,KaM]<;>rfl)|fail) only[go_sem,pX,Ka8,KaM]) (by omega)) rfl ?_;refine Sz0 ?_;refine QG (xs':=cn (l++ex)) (p:=PV.num (val qs)) ?_ (qH _) (by simp;omega) Tz0 rfl ⟨by rw[hdiv],l,rfl,hl,ri,Bo.symm⟩;show FW.cf h [18] 1000000=_;simp only[FW.cf];rw[if_neg (by decide),lk]
theorem Q8e{a:List Nat}{s:Nat}(ha:Qq a)(bu:a.length<2^40)(hs:s<=15):Qc Tryz.prog 147 [PV.nat a,.int .i64 (-(s:Int))] (· =PV.num (val a/2^s)):=by
 have gD:=ck ha;unfold nl at gD;by_cases h0:val a=0
 ·refine Qf Qj Tryz.func147 rfl Iz (by simp[vH]) fun C hP=>?_;simp only[vH,Zo,Zg,Zm,Zc,Zf,Zl,Zh,Zs,Zi,Zb,Zk,Zn,Zu,Zq,Zr,Zz];refine Sz0 ?_;refine Qa hP (iw ha (by omega)) rfl rfl rfl ?_;refine Sz0 ?_;refine dI (fun hz=>by omega) (fun hz=>?_);refine Sz0 ?_;refine dI (fun hz=>by omega) (fun hz=>?_);refine Sz0 ?_;refine Qb (fun hz=>?_) (fun hz=>absurd (by rw[h0,fH];rfl) hz);refine Sz0 ?_;exact nK (Af (by simp[h0])) rfl
 by_cases Bv:s=0
 ·subst Bv;have:=(GB (s:=0) ha bu (by omega) h0).Xj;rw[Nat.pow_zero,KbF]at this;rw[Nat.pow_zero,Nat.div_one];exact this
 have ow:(ah (val a)).length≠0:=fun h=>h0 (kq.1 (pk h));refine Qf Qj Tryz.func147 rfl Iz (by simp[vH]) fun C hP=>?_;simp only[vH,Zo,Zg,Zm,Zc,Zf,Zl,Zh,Zs,Zi,Zb,Zk,Zn,Zu,Zq,Zr,Zz];refine Sz0 ?_;refine Qa hP (iw ha (by omega)) rfl rfl rfl ?_;refine Sz0 ?_;refine dI (fun hz=>by omega) (fun hz=>?_);refine Sz0 ?_;refine dI (fun hz=>by omega) (fun hz=>?_);refine Sz0 ?_;refine Qb (fun hz=>by omega) (fun hz=>?_);refine Sz0 ?_;refine Qb (fun hz=>?_) (fun hz=>by omega);have e:(0:Int)- -(s:Int)=(s:Nat):=by omega
 refine Sz1 e ?_;refine Qa hP (Q8c (Qp (val a)) (by omega) hs) rfl rfl rfl ?_;refine Sz1 @Q7 ?_;exact Qd rfl rfl
theorem Q8f{x d:Nat}(hx:(ah x).length<2^42)(hd:0<d)(gl:d<65536):Qc Tryz.prog 145 [PV.num x,.int .u16 d] (· = .aw [PV.num (x/d),.int .u16 (x%d:Nat)]):=by
 have:=YG (Qp x) hx hd gl
 rwa[Q7]at this
theorem GD{a b:List Nat}(ha:Qq a)(hb:Qq b)(bu:a.length<2^38)(cT:b.length<2^38):Qc Tryz.prog 89 [PV.nat a,PV.nat b]
  (· =if val b=0 then .aw [PV.num 0,PV.num 0,.int .i64 3]else .aw [PV.num (val a/val b),PV.num (val a%val b),.int .i64 0]):=by
 have gD:=ck ha;have iV:=ck hb;unfold nl at gD iV;refine Qf Qj Tryz.func89 rfl aiz (by simp[Lu]) fun C hP=>?_;simp only[Lu,Zo,Zg,Zm,Zc,Zf,Zl,Zh,Zs,Zi,Zb,Zk,Zn,Zu,Zq,Zr,Zz];refine Sz0 ?_;refine Qa hP (iw ha (by omega)) rfl rfl rfl ?_;refine Sz0 ?_;refine Qa hP (iw hb (by omega)) rfl rfl rfl ?_;refine Sz0 ?_;have eo:=Qp (val a);have gX:=Qp (val b);have qk:=Q7 (val a);have sP:=Q7 (val b);have ao7:=zV (val b);generalize val a=x at *
 generalize val b=y at *
 refine Qb (fun hz=>?_) (fun hz=>?_)
 ·have cX:y=0:=kq.1 (pk (by omega));refine Sz0 ?_;rw[if_pos cX];exact tN rfl rfl rfl rfl xp xp (Qx _)
 have cX:y≠0:=fun h=>by rw[h,fH]at hz;simp at hz
 rw[if_neg cX];refine Sz0 ?_;refine Qa hP (DF eo gX (by omega) (by omega)) rfl rfl rfl ?_;refine Sz2 qk sP ?_;refine Qb (fun hc=>?_) (fun hc=>?_)
 ·have ar:x<y:=by
   unfold gR at hc;split at hc
   ·assumption
   ·split at hc<;>omega
  refine Sz0 ?_;refine Qa hP (zN eo (by omega)) rfl rfl rfl ?_;refine Sz1 qk ?_;exact tN rfl rfl rfl rfl (Af (Kcc ar)) (tA (by rw[KaR ar])) (Qx _)
 have fX:y<=x:=by unfold gR at hc;split at hc<;>omega
 refine Sz0 ?_;refine Qb (fun h1=>?_) (fun h1=>?_)
 ·obtain⟨d,hd⟩:∃d,ah y=[d]:=by
   match h:ah y,h1 with
   | [d],_=>exact⟨d,rfl⟩
   | [],h1=>simp at h1
   |_::_::_,h1=>simp at h1;omega
  have WM:y=d:=by rw[<-sP,hd];simp[val]
  have fD:d<65536:=by rw[hd]at gX;exact gX d (by simp)
  simp+decide (disch:=first|omega|rfl|(simp+decide only[go_sem,hd,Kba,Kbt,KaW,Kbk]<;>rfl)|fail) only[go_sem,hd,Kba,Kbt,KaW,Kbk];refine Qa hP (Q8f (x:=x) (d:=d) (by omega) (by omega) fD) (by rw[PV.num];rfl) rfl rfl ?_;have hm:x%d<18446744073709551616:=by have:=Kbv x (show 0<d by omega);omega
  refine Sz0 ?_;refine Qa hP (Aj hm) rfl rfl rfl ?_;refine Sz0 ?_;rw[WM];exact tN rfl rfl rfl rfl (Qx _) (Qx _) (Qx _)
 obtain⟨n,hn⟩:∃n,(ah y).length=n+2:=⟨(ah y).length-2,by omega⟩
 obtain⟨m,hm⟩:∃m,(ah x).length=m+2:=by have:=fJ fX;unfold nl at this;exact⟨(ah x).length-2,by omega⟩
 have e1:((n+2:Nat):Int)-1=((n+1:Nat):Int):=by omega
 have js:(ah y)[n+1]'(by omega)≠0:=by
  intro h;apply ao7;have:(ah y).getLast? =some ((ah y)[n+1]'(by omega)):=by rw[Ka3,show(ah y).length-1=n+1 by omega];exact Kam _
  rw[this,h]
 have Fv:=eF gX (show n+1<(ah y).length by omega);have aqh:val (ah y)=y:=Q7 y;generalize uD:(ah y)[n+1]'(by omega)=yi at *
 have qW:=GC Fv;have hbp:=GZ Fv js;obtain⟨bc,aoM⟩:=Q8d _ yi rfl js Fv;obtain⟨s,hs,uz⟩:∃s,16-Lib.bitLen yi=s/\s<=15:=⟨_,rfl,by omega⟩
 refine Sz3 hn e1 uD ?_;refine Qa hP (Qrq Fv) rfl rfl rfl ?_;refine Sz1 hs ?_;have hso:=GB (a:=ah x) (s:=s) eo (by omega) uz (by rw[qk];omega);refine ahZ hP hso rfl rfl rfl (by decide) ?_;rintro _ _ rfl;rw[qk];have hDl:(ah (x*2^s)).length<=m+3:=by have h1:=gL x (2^s);have h2:nl (2^s)<=1:=mK.2 (by have:2^s<=2^15:=KbD (by omega) uz;omega);unfold nl at h1 h2;omega
 have ap5:m+2<=(ah (x*2^s)).length:=by have:=fJ (show x<=x*2^s from Nat.le_mul_of_pos_right _ (KbN (by omega)));unfold nl at this;omega
 refine Sz1 hm ?_;rw[GN (ys:=cn [0,0]) (xs:=cn (ah (x*2^s))) (by simp+decide (disch:=first|omega|rfl|(simp+decide only[go_sem,jA]<;>rfl)|fail) only[go_sem,jA];rfl) Tz0 (by omega) (by simp) (by simp;omega) (by simp;omega)];rw[Kae (by simp),<-List.map_append];simp+decide (disch:=first|omega|rfl|(simp+decide only[go_sem,hm,KaW,Kbk]<;>rfl)|fail) only[go_sem,hm,KaW,Kbk];have Ww:=(GB (a:=ah y) (s:=s) gX (by omega) uz (by rw[sP];omega)).Xj;rw[sP]at Ww;refine Qa hP Ww rfl rfl rfl ?_;obtain⟨g1,g2⟩:=abb uz (by rw[show 16-s=Lib.bitLen yi by omega];exact bc) (by rw[show 16-s=Lib.bitLen yi by omega];exact aoM);obtain⟨Vp,hYt,am5⟩:=YA hn uD g1 g2;have jZ:n<=m:=by have:=fJ fX;unfold nl at this;omega
 obtain⟨u,ex,BA,wA,hu3,hu4,hu5,hu6⟩:=YB (s:=s) hm uz jZ am5;have ann:x*2^s/(y*2^s)=x/y:=Nat.mul_div_mul_right _ _ (KbN (by omega));have ano:x*2^s%(y*2^s)=x%y*2^s:=Nat.mul_mod_mul_right _ _ _;rw[BA];refine Sz0 ?_;have ou:=abQ (u:=u) (v:=ah (y*2^s)) (ex:=ex) hu3 (Qp _) (by omega) (by omega) (by rw[Vp];exact hYt) (by rw[Vp,wA,Q7];exact hu6) (by omega);rw[wA,hu4,Q7,ann,ano]at ou;refine Ec hP ou (β:=52) Tz0 (qH _) (by simp;omega) (by simp[jv]) rfl ?_;rintro _ _ _ _ ⟨rfl,l,rfl,l7,gm,Bj⟩;have e5:IntKind.i64.wrap (0-(s:Int))= -(s:Int):=by rw[vg (by omega) (by omega)];omega
 have bk:(cn (l++ex)).take (m+2+1)=cn l:=by rw[<-List.map_take,show m+2+1=l.length by omega,List.take_left]
 simp+decide (disch:=first|omega|rfl|(simp+decide only[go_sem,nQ]<;>rfl)|fail) only[go_sem,nQ];refine ig hP (iw l7 (by omega)) (by simp[aK,cF,bK,Qy,<-List.map_append,bk]) rfl ?_;refine Sz1 e5 ?_;rw[Bj];have uA:=Q8e (a:=ah (x%y*2^s)) (s:=s) (Qp _) (by have:=fJ (show x%y*2^s<=x*2^s from Kaf _ (Nat.mod_le _ _));unfold nl at this;omega) uz;rw[Q7,Nat.mul_div_cancel _ (KbN (by omega))]at uA;refine Qa hP uA rfl rfl rfl ?_;refine Sz0 ?_;exact tN rfl rfl rfl rfl (Qx _) (Qx _) (Qx _)
theorem OC{a b:List Nat}(ha:Qq a)(hb:Qq b)(bu:a.length<2^38)(cT:b.length<2^38):Qc Tryz.prog 44 [PV.nat a,PV.nat b] (· =PV.num (Nat.gcd (val a) (val b))):=by
 have gD:=ck ha;have iV:=ck hb;unfold nl at gD iV;refine Qf Qj Tryz.func44 rfl aiA (by simp[KK]) fun C hP=>?_;simp only[KK,Zo,Zg,Zm,Zc,Zf,Zl,Zh,Zs,Zi,Zb,Zk,Zn,Zu,Zq,Zr,Zz];refine Sz0 ?_;refine Qa hP (zN ha (by omega)) rfl rfl rfl ?_;refine Sz0 ?_;refine Qa hP (zN hb (by omega)) rfl rfl rfl ?_;refine Sz0 ?_;refine Qz (by repeat (first|exact Qs|exact Ql|exact Qm|exact Qn|exact Qo|apply Qk|apply Qr|apply Qw|apply Q5|apply Q6|apply Qi)) [(0,1),(4,11),(16,49)] [] (fun m J hp=>∃x,Nat.gcd x m=Nat.gcd (val a) (val b)/\(ah x).length<2^38/\(ah m).length<2^38/\J 0=PV.num x/\J 1=PV.num m/\hp=aF) (val b) ?_ ?_
 ·refine⟨val a,rfl,by omega,by omega,?_⟩;exact Tz2 @true_and @and_true
 rintro y J _ ⟨x,hg,hx,hy,h0,h1,rfl⟩;generalize Nat.gcd (val a) (val b)=g at *
 refine Sz2 h0 h1 ?_;refine Qb (fun hc=>?_) (fun hc=>?_)
 ·have cX:y≠0:=fun h=>by rw[h,fH]at hc;simp at hc
  have Bo:(ah (x%y)).length<2^38:=by have:=fJ (Nat.le_of_lt (Kbv x (KaY cX)));unfold nl at this;omega
  refine Sz2 h0 h1 ?_;refine Qa hP (Hn (Qp x) (by omega)) rfl rfl rfl ?_;refine Sz2 h0 h1 ?_;rw[Q7];by_cases gq:nl x<=4
  ·have Fu:=C2.1 gq;rw[if_pos gq];refine Sz2 h0 h1 ?_;refine Qa hP (Hn (Qp y) (by omega)) rfl rfl rfl ?_;rw[Q7];by_cases fi:nl y<=4
   ·have ql:=C2.1 fi;rw[if_pos fi];refine Sz2 h0 h1 ?_;refine Qz (by repeat (first|exact Qs|exact Ql|exact Qm|exact Qn|exact Qo|apply Qk|apply Qr|apply Qw|apply Q5|apply Q6|apply Qi)) [(5,5),(7,7),(33,38)] [] (fun m J hp=>∃p,Nat.gcd p m=g/\p<18446744073709551616/\m<18446744073709551616/\J 5= .int .u64 p/\J 7= .int .u64 m/\hp=aF) y ?_ ?_
    ·refine⟨x,hg,Fu,ql,?_⟩;exact Tz2 @true_and @and_true
    rintro q J2 _ ⟨p,fN,iZ,fh,h5,h7,rfl⟩;refine Sz2 h5 h7 ?_;refine Qb (fun hq=>?_) (fun hq=>?_)
    ·have iH:0<q:=by omega
     refine Sz3 h5 h7 @qJ ?_;refine Qh (p%q) (Kbv _ iH) ⟨q,?_,fh,?_,?_⟩
     ·rw[<-fN,Kcx p q,Nat.gcd_rec q p,Kcx]
     ·have:=Kbv p iH;omega
     ·exact Tz2 @true_and @and_true
    ·obtain rfl:q=0:=by omega
     refine Sz2 h5 h7 ?_;refine Qa hP (Aj iZ) rfl rfl rfl ?_;refine Sz0 ?_;exact Qd (by rw[<-fN,Kc2]) rfl
   ·rw[if_neg fi];refine Sz2 h0 h1 ?_;refine Qa hP (GD (Qp x) (Qp y) (by omega) (by omega)) rfl rfl rfl ?_;rw[Q7,Q7,if_neg cX];refine Sz2 h0 h1 ?_;refine Qh (x%y) (Kbv _ (KaY cX)) ⟨y,?_,hy,Bo,?_⟩
    ·rw[<-hg,Kcx x y,Nat.gcd_rec y x,Kcx]
    ·exact Tz2 @true_and @and_true
  ·rw[if_neg gq];refine Sz2 h0 h1 ?_;refine Qa hP (Hn (Qp y) (by omega)) rfl rfl rfl ?_;obtain⟨r1,r2,hr⟩:∃r1 r2,(if nl (val (ah y))<=4 then PV.aw [.int .u64 (val (ah y)),.bool true]else .aw [.int .u64 0,.bool false])= .aw [.int .u64 r1,.bool r2]:=by split<;>exact⟨_,_,rfl⟩
   rw[hr];refine Sz2 h0 h1 ?_;refine Qa hP (GD (Qp x) (Qp y) (by omega) (by omega)) rfl rfl rfl ?_;rw[Q7,Q7,if_neg cX];refine Sz2 h0 h1 ?_;refine Qh (x%y) (Kbv _ (KaY cX)) ⟨y,?_,hy,Bo,?_⟩
   ·rw[<-hg,Kcx x y,Nat.gcd_rec y x,Kcx]
   ·exact Tz2 @true_and @and_true
 ·have cX:y=0:=kq.1 (pk (by omega));subst cX;refine Sz1 h0 ?_;exact Qd (by rw[<-hg,Kc2]) rfl
theorem wW(n:Bool)(x:Nat):Qc Tryz.prog 118 [.bool n,PV.num x] (· =PV.zz (if n then -(x:Int)else x)):=by
 refine Qf Qj Tryz.func118 rfl afp (by simp[Je]) fun C hP=>?_;simp only[Je,Zo,Zg,Zm,Zc,Zf,Zl,Zh,Zs,Zi,Zb,Zk,Zn,Zu,Zq,Zr,Zz];refine Sz0 ?_;refine wY (fun hn=>?_) (fun hn=>?_)
 all_goals
  refine Sz0 ?_;refine dD ?_;refine Sz0 ?_;exact Qd (by rw[<-Ih,hn];simp) rfl
theorem abR{n:Bool}{a:List Nat}(ha:Qq a)(bu:a.length<2^42):Qc Tryz.prog 175 [.bool n,PV.nat a] (· =PV.zz (zv n a)):=by
 refine Qf Qj Tryz.func175 rfl afo (by simp[Ke]) fun C hP=>?_;simp only[Ke,Zo,Zg,Zm,Zc,Zf,Zl,Zh,Zs,Zi,Zb,Zk,Zn,Zu,Zq,Zr,Zz];refine Sz0 ?_;refine Qa hP (zN ha bu) rfl rfl rfl ?_;refine Sz0 ?_;refine wY (fun hn=>?_) (fun hn=>?_)
 all_goals
  refine Sz0 ?_;refine dD ?_;refine Sz0 ?_;exact Qd (by have:=Ih n (val a);rw[hn]at this;subst hn;simpa[zv]using this) rfl
theorem YJ{n:Bool}{a:List Nat}(ha:Qq a)(bu:a.length<2^42):Qc Tryz.prog 149 [PV.zi n a] (· =PV.zz (zv n a)):=by refine Qf Qj Tryz.func149 rfl afq (by simp[JJ]) fun C hP=>?_;simp only[JJ,Zo,Zg,Zm,Zc,Zf,Zl,Zh,Zs,Zi,Zb,Zk,Zn,Zu,Zq,Zr,Zz];refine Sz0 ?_;refine Qa hP (abR ha bu) rfl rfl rfl ?_;refine Sz0 ?_;refine dD ?_;refine Sz0 ?_;exact Qd rfl rfl
theorem CH{n:Bool}{a:List Nat}(ha:Qq a)(bu:a.length<2^40):Qc Tryz.prog 50 [PV.zi n a] (· = .int .i64 (fu (zv n a))):=by
 refine Qf Qj Tryz.func50 rfl aih (by simp[KQ]) fun C hP=>?_;simp only[KQ,Zo,Zg,Zm,Zc,Zf,Zl,Zh,Zs,Zi,Zb,Zk,Zn,Zu,Zq,Zr,Zz];refine Sz0 ?_;refine rF hP (TU ha bu) rfl rfl rfl ?_;rintro _ ⟨k,rfl,hk⟩;refine Sz0 ?_;rw[FT];refine Qb (fun hz=>?_) (fun hz=>?_)
 ·refine Sz0 ?_;rw[if_pos (hk.1 (by omega))];exact Qd rfl rfl
 ·rw[if_neg (fun h=>hz (by rw[hk.2 h];rfl))];refine Sz0 ?_;refine zF (fun hn=>?_) (fun hn=>?_)
  ·refine Sz0 ?_;exact Qd (by simp[hn]) rfl
  ·refine Sz0 ?_;exact Qd (by simp[hn]) rfl
theorem R8{a b:List Nat}(ha:Qq a)(hb:Qq b)(bu:a.length<2^40)(cT:b.length<2^40):Qc Tryz.prog 180 [PV.nat a,PV.nat b] (· = .int .i64 (gR (val a) (val b))):=by refine Qf Qj Tryz.func180 rfl afs (by simp[Kk]) fun C hP=>?_;simp only[Kk,Zo,Zg,Zm,Zc,Zf,Zl,Zh,Zs,Zi,Zb,Zk,Zn,Zu,Zq,Zr,Zz];refine Sz0 ?_;refine Qa hP (DF ha hb bu cT) rfl rfl rfl ?_;refine Sz0 ?_;exact Qd rfl rfl
theorem Q8g{n m:Bool}{a b:List Nat}(ha:Qq a)(hb:Qq b)(bu:a.length<2^40)(cT:b.length<2^40):Qc Tryz.prog 163 [PV.zi n a,PV.zi m b] (· = .int .i64 (cY (zv n a) (zv m b))):=by
 have hx:=FT n a;have hy:=FT m b;refine Qf Qj Tryz.func163 rfl afr (by simp[JX]) fun C hP=>?_;simp only[JX,Zo,Zg,Zm,Zc,Zf,Zl,Zh,Zs,Zi,Zb,Zk,Zn,Zu,Zq,Zr,Zz];refine Sz0 ?_;refine Qa hP (CH ha bu) rfl rfl rfl ?_;refine Sz0 ?_;refine Qa hP (CH hb cT) rfl rfl rfl ?_;refine Sz0 ?_;refine Qb (fun hs=>?_) (fun hs=>?_)
 ·refine Sz0 ?_;exact Qd (by rw[ae7 hs]) rfl
 refine Sz0 ?_;refine Qb (fun fi=>?_) (fun fi=>?_)
 ·refine Sz0 ?_;exact Qd (by rw[ae8 fi]) rfl
 have he:fu (zv n a)=fu (zv m b):=by omega
 refine Sz0 ?_;refine Qb (fun wv=>?_) (fun wv=>?_)
 ·refine Sz0 ?_;refine Qa hP (R8 hb ha cT bu) rfl rfl rfl ?_;refine Sz0 ?_;exact Qd (by rw[ae9 (xz.1 wv) (xz.1 (he▸wv))]) rfl
 ·refine Sz0 ?_;refine Qa hP (R8 ha hb bu cT) rfl rfl rfl ?_;refine Sz0 ?_;exact Qd (by rw[afa (fun h=>wv (xz.2 h)) (fun h=>wv (he▸xz.2 h))]) rfl
theorem Ts{n m:Bool}{a b:List Nat}(ha:Qq a)(hb:Qq b)(bu:a.length<2^40)(cT:b.length<2^40):Qc Tryz.prog 150 [PV.zi n a,PV.zi m b] (· =PV.zz (zv n a+zv m b)):=by
 refine Qf Qj Tryz.func150 rfl af4 (by simp[JL]) fun C hP=>?_;simp only[JL,Zo,Zg,Zm,Zc,Zf,Zl,Zh,Zs,Zi,Zb,Zk,Zn,Zu,Zq,Zr,Zz];refine Sz0 ?_;refine zF (fun jZ=>?_) (fun jZ=>?_)
 ·have jZ:n=m:=by simpa using jZ
  subst jZ;refine Sz0 ?_;refine Qa hP (adH ha hb bu cT) rfl rfl rfl ?_;refine Sz0 ?_;refine Qa hP (wW n (val a+val b)) rfl rfl rfl ?_;refine Sz0 ?_;refine dD ?_;refine Sz0 ?_;exact Qd (congrArg PV.zz (by unfold zv;split<;>simp<;>omega)) rfl
 have jZ:n= !m:=by cases n<;>cases m<;>simp_all
 subst jZ;refine Sz0 ?_;refine Qa hP (DF ha hb bu cT) rfl rfl rfl ?_;refine Sz0 ?_;refine Qb (fun hc=>?_) (fun hc=>?_)
 ·rw[Dp]at hc;refine Sz0 ?_;refine Qa hP (OB hb ha cT bu (by omega)) rfl rfl rfl ?_;refine Sz0 ?_;refine Qa hP (wW m (val b-val a)) rfl rfl rfl ?_;refine Sz0 ?_;refine dD ?_;refine Sz0 ?_;exact Qd (congrArg PV.zz (by unfold zv;cases m<;>simp<;>omega)) rfl
 ·rw[Dp]at hc;refine Sz0 ?_;refine Qa hP (OB ha hb bu cT (by omega)) rfl rfl rfl ?_;refine Sz0 ?_;refine Qa hP (wW (!m) (val a-val b)) rfl rfl rfl ?_;refine Sz0 ?_;refine dD ?_;refine Sz0 ?_;exact Qd (congrArg PV.zz (by unfold zv;cases m<;>simp<;>omega)) rfl
theorem uY{n m:Bool}{a b:List Nat}(ha:Qq a)(hb:Qq b)(bu:a.length<2^40)(cT:b.length<2^40):Qc Tryz.prog 92 [PV.zi n a,PV.zi m b] (· =PV.zz (zv n a*zv m b)):=by refine Qf Qj Tryz.func92 rfl aii (by simp[Ly]) fun C hP=>?_;simp only[Ly,Zo,Zg,Zm,Zc,Zf,Zl,Zh,Zs,Zi,Zb,Zk,Zn,Zu,Zq,Zr,Zz];refine Sz0 ?_;refine Qa hP (z8 ha hb bu cT) rfl rfl rfl ?_;refine Sz0 ?_;refine Qa hP (wW (!(n==m)) (val a*val b)) rfl rfl rfl ?_;refine Sz0 ?_;refine dD ?_;refine Sz0 ?_;exact Qd (congrArg PV.zz (by unfold zv;cases n<;>cases m<;>simp[Int.neg_mul,Int.mul_neg])) rfl
theorem DG{a:List Nat}(hl:a.length<2^43):Qc Tryz.prog 43 [PV.nat a] (· = .bool (decide (a=[1]))):=by
 refine Qf Qj Tryz.func43 rfl aij (by simp[KJ]) fun C hP=>?_;simp only[KJ,Zo,Zg,Zm,Zc,Zf,Zl,Zh,Zs,Zi,Zb,Zk,Zn,Zu,Zq,Zr,Zz];refine Sz0 ?_;refine Qb (fun hz=>?_) (fun hz=>?_)
 ·obtain⟨x,xs,rfl⟩:∃x xs,a=x::xs:=by
   match a,hz with
   |x::xs,_=>exact⟨x,xs,rfl⟩
  simp+decide (disch:=first|omega|rfl|(simp+decide only[go_sem,Kba,KcE]<;>rfl)|fail) only[go_sem,Kba,KcE];refine Qd (congrArg PV.bool ?_) rfl;rw[<-Bool.decide_and];exact decide_eq_decide.2 ⟨fun⟨h1,h2⟩=>by
   have:xs=[]:=Kas.1 (by omega);subst this;congr 1;omega,fun h=>by
   injection h with h1 h2;subst h1 h2;simp⟩
 ·have:a=[]:=Kas.1 (by omega);subst this;refine Sz0 ?_;exact Qd rfl rfl
theorem R9(x:Nat):(ah x=[1])↔x=1:=⟨fun h=>by have:=Q7 x;rw[h]at this;simpa[val]using this.symm,fun h=>by rw[h,rT]⟩
theorem IA{x:Nat}(hl:(ah x).length<2^43):Qc Tryz.prog 43 [PV.num x] (· = .bool (decide (x=1))):=by
 have:=DG hl
 rwa[decide_eq_decide.2 (R9 x)]at this
theorem C9:Qc Tryz.prog 64 [] (· =PV.nat [1]):=by refine Qf Qj Tryz.func64 rfl aiN (by simp[K7]) fun C hP=>?_;simp only[K7,Zo,Zg,Zm,Zc,Zf,Zl,Zh,Zs,Zi,Zb,Zk,Zn,Zu,Zq,Zr,Zz];refine Sz0 ?_;exact Qd rfl rfl
theorem G0{x y:Nat}(hx:(ah x).length<2^38)(hy:(ah y).length<2^38)(h0:y≠0):Qc Tryz.prog 89 [PV.num x,PV.num y] (· = .aw [PV.num (x/y),PV.num (x%y),.int .i64 0]):=by
 have:=GD (Qp x) (Qp y) hx hy
 rwa[Q7,Q7,if_neg h0]at this
theorem IB{x y:Nat}(hx:(ah x).length<2^38)(hy:(ah y).length<2^38):Qc Tryz.prog 44 [PV.num x,PV.num y] (· =PV.num (Nat.gcd x y)):=by
 have:=OC (Qp x) (Qp y) hx hy
 rwa[Q7,Q7]at this
theorem R1{n:Bool}{a d:List Nat}(ha:Qq a)(hd:Qq d)(bu:a.length<2^38)(wc:d.length<2^38):Qc Tryz.prog 91 [PV.zi n a,PV.nat d] (· =PV.rat (rv n a d)):=by
 have Bp:=ck ha;have MP:=ck hd;rw[<-jN n a]at Bp;unfold rv;unfold nl at Bp MP;refine Qf Qj Tryz.func91 rfl aiO (by simp[Lx]) fun C hP=>?_;simp only[Lx,Zo,Zg,Zm,Zc,Zf,Zl,Zh,Zs,Zi,Zb,Zk,Zn,Zu,Zq,Zr,Zz];refine Sz0 ?_;refine Qa hP (zN hd (by omega)) rfl rfl rfl ?_;refine Sz0 ?_;refine Qa hP (YJ ha (by omega)) rfl rfl rfl ?_;refine Sz0 ?_;generalize zv n a=z at *
 generalize val d=D at *
 have hlen:∀x:Nat,((ah x).length:Int)=0↔x=0:=fun x=>by rw[<-kq,<-List.length_eq_zero_iff];omega
 have UQ:∀ {fr:Fr} {hp:HP},(D=0∨z=0)->xP (· =PV.rat (mkRat z D)) (.agg [.bool false,.aa,PV.nat [1]]):=fun h=>by rw[Sq h];exact nK Pv rfl
 refine dI (fun hz=>?_) (fun hz=>?_)
 ·refine Sz0 ?_;refine Qa hP C9 rfl rfl rfl ?_;refine Sz0 ?_;refine dD ?_;refine Sz0 ?_;exact UQ (fr:=bG) (hp:=aF) (.inl ((hlen _).1 hz))
 refine Sz0 ?_;refine Qb (fun Fw=>?_) (fun Fw=>?_)
 ·refine Sz0 ?_;refine Qa hP C9 rfl rfl rfl ?_;refine Sz0 ?_;refine dD ?_;refine Sz0 ?_;exact UQ (fr:=bG) (hp:=aF) (.inr (Int.natAbs_eq_zero.1 ((hlen _).1 Fw)))
 have hD:D≠0:=fun h=>hz ((hlen _).2 h);refine Sz0 ?_;refine Qa hP (IA (by omega)) rfl rfl rfl ?_;refine Sz0 ?_;refine Qb (fun h1=>?_) (fun h1=>?_)
 ·subst h1;refine Sz0 ?_;refine dD ?_;refine Sz0 ?_;exact Qd (by rw[<-akB];simp only[rT]) rfl
 refine Sz0 ?_;refine Qa hP (IB (by omega) (by omega)) rfl rfl rfl ?_;have im:Nat.gcd z.natAbs D≠0:=fun h=>hD (Kcr h);have oY:(ah (Nat.gcd z.natAbs D)).length<2^38:=by have:=fJ (Kde z.natAbs (KaY hD));unfold nl at this;omega
 have jq:=QN (z:=z) hD;generalize Nat.gcd z.natAbs D=g at *
 refine Sz0 ?_;refine Qa hP (IA (by omega)) rfl rfl rfl ?_;refine Sz0 ?_;refine zF (fun h2=>?_) (fun h2=>?_)
 ·refine Sz0 ?_;refine Qa hP (G0 (by omega) oY im) rfl rfl rfl ?_;refine Sz0 ?_;refine Qa hP (G0 (by omega) oY im) rfl rfl rfl ?_;refine Sz0 ?_;refine dD ?_;refine Sz0 ?_;exact Qd jq rfl
 ·have:g=1:=by simpa using h2
  subst this;rw[Nat.div_one,Nat.div_one]at jq;refine Sz0 ?_;refine dD ?_;refine Sz0 ?_;exact Qd jq rfl
theorem w8(a:List Nat):Qc Tryz.prog 95 [PV.nat a] (· =PV.zi false a):=by refine Qf Qj Tryz.func95 rfl aiQ (by simp[LB]) fun C hP=>?_;simp only[LB,Zo,Zg,Zm,Zc,Zf,Zl,Zh,Zs,Zi,Zb,Zk,Zn,Zu,Zq,Zr,Zz];refine Sz0 ?_;refine dD ?_;refine Sz0 ?_;exact Qd rfl rfl
def aiX(k:Nat)(q:Rat)(r:PV):Prop:=∃n a d,r= .aw [PV.zi n a,PV.nat d]/\Qq a/\Qq d/\a.length<=k/\d.length<=k/\val d≠0/\rv n a d=q
theorem uZ{n:Bool}{a d:List Nat}{k:Nat}(ha:Qq a)(hd:Qq d)(hk:1<=k)(bu:a.length<=k)(wc:d.length<=k)(na:k<2^38):Qc Tryz.prog 49 [PV.rr n a d] (aiX k (rv n a d)):=by
 refine Qf Qj Tryz.func49 rfl aiP (by simp[KP]) fun C hP=>?_;simp only[KP,Zo,Zg,Zm,Zc,Zf,Zl,Zh,Zs,Zi,Zb,Zk,Zn,Zu,Zq,Zr,Zz];refine Sz0 ?_;refine rF hP (TU hd (by omega)) rfl rfl rfl ?_;rintro _ ⟨b,rfl,hb⟩;refine Sz0 ?_;refine Qb (fun hz=>?_) (fun hz=>?_)
 ·have h0:val d=0:=hb.1 (by omega);refine Sz0 ?_;refine Qa hP C9 rfl rfl rfl ?_;refine Sz0 ?_;refine jC ?_;refine Sz0 ?_;refine⟨⟨rfl,rfl⟩,.aw [PV.zi false [],PV.nat [1]],⟨⟨rfl,trivial,trivial⟩,Qx _,trivial⟩,false,[],[1],rfl,nH,by intro x hx;simp at hx;omega,by simp,by simpa using hk,by simp[val],?_⟩;unfold rv;rw[h0,Rat.mkRat_zero];rfl
 ·have h0:val d≠0:=fun h=>hz (by rw[hb.2 h];rfl);refine Sz0 ?_;refine nI ?_ ?_
  all_goals
   refine Sz0 ?_;refine jC ?_;refine Sz0 ?_;exact⟨⟨rfl,rfl⟩,.aw [PV.zi n a,PV.nat d],⟨Qx _,Qx _,trivial⟩,n,a,d,rfl,ha,hd,bu,wc,h0,rfl⟩
theorem adI{z:Int}{m:Bool}{b:List Nat}(hb:Qq b)(bu:nl z.natAbs<2^40)(cT:b.length<2^40):Qc Tryz.prog 150 [PV.zz z,PV.zi m b] (· =PV.zz (z+zv m b)):=by
 have:=Ts (n:=decide (z<0)) (a:=ah z.natAbs) (m:=m) (Qp _) hb bu cT
 rwa[lM]at this
theorem OD{n m:Bool}{a b:List Nat}(ha:Qq a)(hb:Qq b)(bu:a.length<2^39)(cT:b.length<2^39):Qc Tryz.prog 94 [.sl 2 [PV.zi n a,PV.zi m b]] (· =PV.zz (zv n a+zv m b)):=by
 have Bp:=ck ha;rw[<-jN n a]at Bp;refine Qf Qj Tryz.func94 rfl aiU (by simp[LA]) fun C hP=>?_;simp only[LA,Zo,Zg,Zm,Zc,Zf,Zl,Zh,Zs,Zi,Zb,Zk,Zn,Zu,Zq,Zr,Zz];refine Sz0 ?_;refine Qz (by repeat (first|exact Qs|exact Ql|exact Qm|exact Qn|exact Qo|apply Qk|apply Qr|apply Qw|apply Q5|apply Q6|apply Qi)) [(5,5),(8,15)] [5] (fun k J hp=>∃i,k=2-i/\i<=2/\J 8= .int .i64 (i:Nat)/\hp 2=some ⟨2,41,[.agg [.bool false,.aa]],false⟩/\hp 3=some ⟨2,41,[if i=0 then .agg [.bool false,.aa]else if i=1 then PV.zz (zv n a)else PV.zz (zv n a+zv m b)],false⟩) 2 ?_ ?_
 ·refine⟨0,rfl,by omega,?_⟩;refine Sz0 ?_;simp
 rintro _ J h ⟨i,rfl,hi,h8,uo,bA⟩;refine Sz1 h8 ?_;refine Qb (fun hg=>?_) (fun hg=>?_)
 ·have iG:i=0∨i=1:=by have:i<2:=(by omega);omega
  rcases iG with rfl|rfl
  ·have AK:J 8= .int .i64 0:=h8;refine Sz3 AK uo bA ?_;refine Qa hP ((Ts (n:=false) (a:=[]) (m:=n) (b:=a) nH ha (by simp) (by omega)).le (args':=[.agg [.bool false,.aa],PV.zi n a]) ⟨⟨rfl,trivial,trivial⟩,Qx _,trivial⟩) rfl rfl rfl ?_;refine Sz3 AK uo bA ?_;refine Qh 1 (by omega) ⟨1,rfl,by omega,?_⟩;refine Sz2 uo bA ?_;simp[zv,val]
  ·rw[if_neg (by omega),if_pos rfl]at bA;have AK:J 8= .int .i64 1:=h8;refine Sz3 AK uo bA ?_;refine Qa hP (adI (z:=zv n a) hb (by omega) (by omega)) rfl rfl rfl ?_;refine Sz3 AK uo bA ?_;refine Qh 0 (by omega) ⟨2,rfl,by omega,?_⟩;refine Sz2 uo bA ?_;simp
 ·obtain rfl:i=2:=by simp at hg;omega
  rw[if_neg (by omega),if_neg (by omega)]at bA;refine Sz3 h8 uo bA ?_;refine dD ?_;refine Sz2 uo bA ?_;exact Qd rfl rfl
theorem CS{z:Int}{d:List Nat}(hd:Qq d)(hz:nl z.natAbs<2^38)(wc:d.length<2^38):Qc Tryz.prog 91 [PV.zz z,PV.nat d] (· =PV.rat (mkRat z (val d))):=by
 have:=R1 (n:=decide (z<0)) (Qp z.natAbs) hd hz wc
 rwa[rv,lM]at this
theorem QS{x y:Int}(hx:nl x.natAbs<2^39)(hy:nl y.natAbs<2^39):Qc Tryz.prog 94 [.sl 2 [PV.zz x,PV.zz y]] (· =PV.zz (x+y)):=by
 have:=OD (n:=decide (x<0)) (m:=decide (y<0)) (Qp x.natAbs) (Qp y.natAbs) hx hy
 rwa[lM,lM]at this
theorem adJ{x y:Int}(hx:nl x.natAbs<2^40)(hy:nl y.natAbs<2^40):Qc Tryz.prog 163 [PV.zz x,PV.zz y] (· = .int .i64 (cY x y)):=by
 have:=Q8g (n:=decide (x<0)) (m:=decide (y<0)) (Qp x.natAbs) (Qp y.natAbs) hx hy
 rwa[lM,lM]at this
structure Raw(k:Nat)(n:Bool)(a d:List Nat):Prop where
 la:Qq a
 ld:Qq d
 sa:a.length<=k
 sd:d.length<=k
 k1:1<=k
theorem iB{q:Rat}{k:Nat}(h:rs q<=k):Raw k (decide (q.num<0)) (ah q.num.natAbs) (ah q.den):=by
 have:=QO q;unfold rs nl at *
 exact⟨Qp _,Qp _,by omega,by omega,by omega⟩
theorem Raw.rs{n:Bool}{a d:List Nat}{k:Nat}(h:Raw k n a d):FW.rs (rv n a d)<=k:=ahF (k:=k) (n:=k) h.la h.ld h.sa h.sd h.k1
theorem TW{n m:Bool}{a d b c:List Nat}{k:Nat}(hp:Raw k n a d)(hq:Raw k m b c)(hk:k<2^36):Qc Tryz.prog 48 [PV.rr n a d,PV.rr m b c] (· =PV.rat (rv n a d+rv m b c)):=by
 refine Qf Qj Tryz.func48 rfl aiV (by simp[KO]) fun C hP=>?_;simp only[KO,Zo,Zg,Zm,Zc,Zf,Zl,Zh,Zs,Zi,Zb,Zk,Zn,Zu,Zq,Zr,Zz];refine Sz0 ?_;refine rF hP (uZ hp.la hp.ld hp.k1 hp.sa hp.sd (by omega)) rfl rfl rfl ?_;rintro _ ⟨n',a',d',rfl,g1,g2,g3,g4,g5,g6⟩;refine Sz0 ?_;refine rF hP (uZ hq.la hq.ld hq.k1 hq.sa hq.sd (by omega)) rfl rfl rfl ?_;rintro _ ⟨m',b',c',rfl,e1,e2,e3,e4,e5,e6⟩;refine Sz0 ?_;refine Qa hP (DG (by omega)) rfl rfl rfl ?_;have key:=Rat.mkRat_add_mkRat (zv n' a') (zv m' b') g5 e5;have BH:nl (zv n' a').natAbs<=k:=by rw[jN];exact Kaw (ck g1) g3
 have WQ:nl (zv m' b').natAbs<=k:=by rw[jN];exact Kaw (ck e1) e3
 have WD:nl (val d')<=k:=Kaw (ck g2) g4;have yL:nl (val c')<=k:=Kaw (ck e2) e4;rw[<-g6,<-e6];unfold rv;rw[key];refine Sz0 ?_;refine ga (fun h1=>?_) (fun h1=>?_)
 ·refine Sz0 ?_;refine Qa hP (DG (by omega)) rfl rfl rfl ?_;refine Sz0 ?_;refine Qb (fun h2=>?_) (fun h2=>?_)
  ·subst h1 h2;refine Sz0 ?_;refine ig hP (OD (n:=n') (m:=m') g1 e1 (by omega) (by omega)) yc rfl ?_;refine eK ?_;have hs:=zc (zv n' a') (zv m' b');refine Qa hP (CS g2 (by omega) (by omega)) rfl rfl rfl ?_;refine eK ?_;refine dD ?_;refine eK ?_;exact Qd (congrArg PV.rat (by simp[val])) rfl
  ·refine Sz0 ?_;refine Qa hP (w8 _) rfl rfl rfl ?_;refine Sz0 ?_;refine Qa hP (uY (n:=n') (m:=false) g1 e2 (by omega) (by omega)) rfl rfl rfl ?_;refine Sz0 ?_;refine Qa hP (w8 _) rfl rfl rfl ?_;refine Sz0 ?_;refine Qa hP (uY (n:=m') (m:=false) e1 g2 (by omega) (by omega)) rfl rfl rfl ?_;rw[tB,tB];have h3:=lH (zv n' a') (val c');have h4:=lH (zv m' b') (val d');have h5:=zc (zv n' a'*(val c':Int)) (zv m' b'*(val d':Int));have h6:=gL (val d') (val c');rw[KaD]at h3 h4;refine Sz0 ?_;refine ig hP (QS (x:=zv n' a'*(val c':Int)) (y:=zv m' b'*(val d':Int)) (by omega) (by omega)) yc rfl ?_;refine eK ?_;refine Qa hP (z8 g2 e2 (by omega) (by omega)) rfl rfl rfl ?_;refine eK ?_;refine Qa hP (CS (z:=zv n' a'*(val c':Int)+zv m' b'*(val d':Int)) (Qp _) (by omega) (by show nl _<_;omega)) rfl rfl rfl ?_;refine eK ?_;refine dD ?_;refine eK ?_;exact Qd (by rw[Q7]) rfl
 · simp+decide (disch:=try exact D0) only[go_sem]
   refine Qa hP (w8 _) rfl rfl rfl ?_;refine Sz0 ?_;refine Qa hP (uY (n:=n') (m:=false) g1 e2 (by omega) (by omega)) rfl rfl rfl ?_;refine Sz0 ?_;refine Qa hP (w8 _) rfl rfl rfl ?_;refine Sz0 ?_;refine Qa hP (uY (n:=m') (m:=false) e1 g2 (by omega) (by omega)) rfl rfl rfl ?_;rw[tB,tB];have h3:=lH (zv n' a') (val c');have h4:=lH (zv m' b') (val d');have h5:=zc (zv n' a'*(val c':Int)) (zv m' b'*(val d':Int));have h6:=gL (val d') (val c');rw[KaD]at h3 h4;refine Sz0 ?_;refine ig hP (QS (x:=zv n' a'*(val c':Int)) (y:=zv m' b'*(val d':Int)) (by omega) (by omega)) yc rfl ?_;refine eK ?_;refine Qa hP (z8 g2 e2 (by omega) (by omega)) rfl rfl rfl ?_;refine eK ?_;refine Qa hP (CS (z:=zv n' a'*(val c':Int)+zv m' b'*(val d':Int)) (Qp _) (by omega) (by show nl _<_;omega)) rfl rfl rfl ?_;refine eK ?_;refine dD ?_;refine eK ?_;exact Qd (by rw[Q7]) rfl
theorem abS{n m:Bool}{a d b c:List Nat}{k:Nat}(hp:Raw k n a d)(hq:Raw k m b c)(hk:k<2^36):Qc Tryz.prog 46 [PV.rr n a d,PV.rr m b c] (· =PV.rat (rv n a d*rv m b c)):=by
 refine Qf Qj Tryz.func46 rfl aiW (by simp[KN]) fun C hP=>?_;simp only[KN,Zo,Zg,Zm,Zc,Zf,Zl,Zh,Zs,Zi,Zb,Zk,Zn,Zu,Zq,Zr,Zz];refine Sz0 ?_;refine rF hP (uZ hp.la hp.ld hp.k1 hp.sa hp.sd (by omega)) rfl rfl rfl ?_;rintro _ ⟨n',a',d',rfl,g1,g2,g3,g4,g5,g6⟩;refine Sz0 ?_;refine rF hP (uZ hq.la hq.ld hq.k1 hq.sa hq.sd (by omega)) rfl rfl rfl ?_;rintro _ ⟨m',b',c',rfl,e1,e2,e3,e4,e5,e6⟩;refine Sz0 ?_;have BH:nl (zv n' a').natAbs<=k:=by rw[jN];exact Kaw (ck g1) g3
 have WQ:nl (zv m' b').natAbs<=k:=by rw[jN];exact Kaw (ck e1) e3
 have WD:nl (val d')<=k:=Kaw (ck g2) g4;have yL:nl (val c')<=k:=Kaw (ck e2) e4;have h3:=lH (zv n' a') (zv m' b');have h6:=gL (val d') (val c');refine Qa hP (uY (n:=n') (m:=m') g1 e1 (by omega) (by omega)) rfl rfl rfl ?_;refine Sz0 ?_;refine Qa hP (z8 g2 e2 (by omega) (by omega)) rfl rfl rfl ?_;refine Sz0 ?_;refine Qa hP (CS (z:=zv n' a'*zv m' b') (Qp _) (by omega) (by show nl _<_;omega)) rfl rfl rfl ?_;refine Sz0 ?_;refine dD ?_;refine Sz0 ?_;refine Qd ?_ rfl;rw[Q7,<-g6,<-e6];unfold rv;rw[Rat.mkRat_mul_mkRat]
theorem CT{n:Bool}{a d:List Nat}{k:Nat}(hp:Raw k n a d)(hk:k<2^36):Qc Tryz.prog 17 [PV.rr n a d] (· = .int .i64 (gf (rv n a d))):=by refine Qf Qj Tryz.func17 rfl aiT (by simp[J8]) fun C hP=>?_;simp only[J8,Zo,Zg,Zm,Zc,Zf,Zl,Zh,Zs,Zi,Zb,Zk,Zn,Zu,Zq,Zr,Zz];refine Sz0 ?_;refine rF hP (uZ hp.la hp.ld hp.k1 hp.sa hp.sd (by omega)) rfl rfl rfl ?_;rintro _ ⟨n',a',d',rfl,g1,g2,g3,g4,g5,g6⟩;refine Sz0 ?_;refine Qa hP (CH g1 (by omega)) rfl rfl rfl ?_;refine Sz0 ?_;exact Qd (by rw[<-g6];unfold rv;rw[abB g5]) rfl
theorem abT{n m:Bool}{a d b c:List Nat}{k:Nat}(hp:Raw k n a d)(hq:Raw k m b c)(hk:k<2^36):Qc Tryz.prog 126 [PV.rr n a d,PV.rr m b c] (· = .int .i64 (oa (rv n a d) (rv m b c))):=by
 refine Qf Qj Tryz.func126 rfl af5 (by simp[Jm]) fun C hP=>?_;simp only[Jm,Zo,Zg,Zm,Zc,Zf,Zl,Zh,Zs,Zi,Zb,Zk,Zn,Zu,Zq,Zr,Zz];refine Sz0 ?_;refine Qa hP (CT hp hk) rfl rfl rfl ?_;refine Sz0 ?_;refine Qa hP (CT hq hk) rfl rfl rfl ?_;refine Sz0 ?_;refine Qb (fun h1=>?_) (fun h1=>?_)
 ·refine Sz0 ?_;refine Qb (fun h2=>?_) (fun h2=>?_)
  ·refine Sz0 ?_;exact Qd (by rw[Oy h2]) rfl
  ·refine Sz0 ?_;exact Qd (by rw[adq (by omega)]) rfl
 refine Sz0 ?_;refine rF hP (uZ hp.la hp.ld hp.k1 hp.sa hp.sd (by omega)) rfl rfl rfl ?_;rintro _ ⟨n',a',d',rfl,g1,g2,g3,g4,g5,g6⟩;refine Sz0 ?_;refine rF hP (uZ hq.la hq.ld hq.k1 hq.sa hq.sd (by omega)) rfl rfl rfl ?_;rintro _ ⟨m',b',c',rfl,e1,e2,e3,e4,e5,e6⟩;have BH:nl (zv n' a').natAbs<=k:=by rw[jN];exact Kaw (ck g1) g3
 have WQ:nl (zv m' b').natAbs<=k:=by rw[jN];exact Kaw (ck e1) e3
 have WD:nl (val d')<=k:=Kaw (ck g2) g4;have yL:nl (val c')<=k:=Kaw (ck e2) e4;have h3:=lH (zv n' a') (val c');have h4:=lH (zv m' b') (val d');rw[KaD]at h3 h4;refine Sz0 ?_;refine Qa hP (w8 _) rfl rfl rfl ?_;refine Sz0 ?_;refine Qa hP (uY (n:=n') (m:=false) g1 e2 (by omega) (by omega)) rfl rfl rfl ?_;refine Sz0 ?_;refine Qa hP (w8 _) rfl rfl rfl ?_;refine Sz0 ?_;refine Qa hP (uY (n:=m') (m:=false) e1 g2 (by omega) (by omega)) rfl rfl rfl ?_;rw[tB,tB];refine Sz0 ?_;refine Qa hP (adJ (x:=zv n' a'*(val c':Int)) (y:=zv m' b'*(val d':Int)) (by omega) (by omega)) rfl rfl rfl ?_;refine Sz0 ?_;exact Qd (by rw[<-g6,<-e6];unfold rv;rw[Pw g5 e5]) rfl
theorem abu{x:Int}(h1: -9223372036854775808<=x)(h2:x<=9223372036854775807):Qc Tryz.prog 63 [.int .i64 x] (· =PV.zz x):=by
 refine Qf Qj Tryz.func63 rfl aif (by simp[K6]) fun C hP=>?_;simp only[K6,Zo,Zg,Zm,Zc,Zf,Zl,Zh,Zs,Zi,Zb,Zk,Zn,Zu,Zq,Zr,Zz];refine Sz0 ?_;refine Qb (fun hc=>?_) (fun hc=>?_)
 ·obtain⟨y,hy⟩:∃y:Nat,x= -((y:Int)+1):=⟨(-(x+1)).toNat,by omega⟩
  have e1:IntKind.i64.wrap (x+1)= -(y:Int):=by rw[vg (by omega) (by omega)];omega
  have e2:IntKind.i64.wrap (0- -(y:Int))=(y:Int):=by rw[vg (by omega) (by omega)];omega
  have e3:IntKind.u64.wrap (y:Int)=(y:Int):=rQ (by omega) (by omega);have e4:IntKind.u64.wrap ((y+1:Nat):Int)=((y+1:Nat):Int):=rQ (by omega) (by omega);refine Sz4 e1 e2 e3 e4 ?_;refine Qa hP (Aj (by omega)) rfl rfl rfl ?_;refine Sz0 ?_;refine Qa hP (wW true (y+1)) rfl rfl rfl ?_;refine Sz0 ?_;refine dD ?_;refine Sz0 ?_;exact Qd (congrArg PV.zz (by simp;omega)) rfl
 ·obtain⟨y,rfl⟩:∃y:Nat,x=y:=⟨x.toNat,by omega⟩
  refine Sz0 ?_;refine Qa hP (Aj (by omega)) rfl rfl rfl ?_;refine Sz0 ?_;refine Qa hP (wW false y) rfl rfl rfl ?_;refine Sz0 ?_;refine dD ?_;refine Sz0 ?_;exact Qd (congrArg PV.zz (by simp)) rfl
theorem vb{x:Int}(h1: -9223372036854775808<=x)(h2:x<=9223372036854775807):Qc Tryz.prog 26 [.int .i64 x] (· =PV.rat (x:Rat)):=by refine Qf Qj Tryz.func26 rfl aiS (by simp[Kv]) fun C hP=>?_;simp only[Kv,Zo,Zg,Zm,Zc,Zf,Zl,Zh,Zs,Zi,Zb,Zk,Zn,Zu,Zq,Zr,Zz];refine Sz0 ?_;refine Qa hP (abu h1 h2) rfl rfl rfl ?_;refine Sz0 ?_;refine Qa hP C9 rfl rfl rfl ?_;refine Sz0 ?_;refine dD ?_;refine Sz0 ?_;exact Qd (by rw[PV.rat,Rat.num_intCast,Rat.den_intCast,PV.num,PV.num,rT];rfl) rfl
theorem X7{n:Bool}{a:List Nat}(ha:Qq a)(bu:a.length<2^42):Qc Tryz.prog 42 [PV.zi n a] (· = .bool (nR n a)):=by
 refine Qf Qj Tryz.func42 rfl aie (by simp[KI]) fun C hP=>?_;simp only[KI,Zo,Zg,Zm,Zc,Zf,Zl,Zh,Zs,Zi,Zb,Zk,Zn,Zu,Zq,Zr,Zz];refine Sz0 ?_;refine ga (fun h0=>?_) (fun h0=>?_)
 ·have:a=[]:=Kas.1 (by omega);subst this;refine Sz0 ?_;cases n
  ·refine Sz0 ?_;refine Qd (congrArg PV.bool ?_) rfl;simp[nR]
  ·refine Sz0 ?_;refine Qd (congrArg PV.bool ?_) rfl;simp[nR]
 ·obtain⟨k,hk⟩:∃k,a.length=k+1:=⟨a.length-1,by omega⟩
  have aO:a≠[]:=fun h=>by rw[h]at hk;simp at hk
  have hl:=Sr hk;have e:((k+1:Nat):Int)-1=k:=by omega
  generalize hx:a[k]'(by omega)=x at *
  refine Sz3 hk e hx ?_;refine ga (fun h=>?_) (fun h=>absurd (by omega) h);refine Sz3 hk e hx ?_;refine Qd (congrArg PV.bool ?_) rfl;unfold nR;rw[if_neg aO,hl];exact decide_eq_decide.2 ⟨fun h h'=>h (by injection h' with h';rw[h'];rfl),fun h h'=>h (by rw[show x=0 by omega])⟩
theorem YK{n:Bool}{a d:List Nat}{k:Nat}(hp:Raw k n a d)(hk:k<2^36):Qc Tryz.prog 15 [PV.rr n a d] (· = .bool (pI n a d)):=by
 obtain⟨ha,hd,sa,sd,k1⟩:=hp;refine Qf Qj Tryz.func15 rfl aiR (by simp[JK]) fun C hP=>?_;simp only[JK,Zo,Zg,Zm,Zc,Zf,Zl,Zh,Zs,Zi,Zb,Zk,Zn,Zu,Zq,Zr,Zz];refine Sz0 ?_;refine Qa hP (X7 ha (by omega)) rfl rfl rfl ?_;unfold pI;refine Sz0 ?_;cases hio:nR n a
 ·refine Sz1 @Bool.not_false ?_;exact Qd (by simp) rfl
 rw[KbU];refine Sz1 @Bool.not_true ?_;refine dI (fun h0=>?_) (fun h0=>?_)
 ·have:d=[]:=Kas.1 (by omega);subst this;refine Sz0 ?_;exact Qd (by simp) rfl
 obtain⟨k',dY⟩:∃k,d.length=k+1:=⟨d.length-1,by omega⟩
 have aO:d≠[]:=fun h=>by rw[h]at dY;simp at dY
 have hl:=Sr dY;have e:((k'+1:Nat):Int)-1=k':=by omega
 generalize hx:d[k']'(by omega)=x at *
 refine Sz3 dY e hx ?_;refine Qb (fun h1=>?_) (fun h1=>?_)
 ·refine Sz0 ?_;refine Qd (congrArg PV.bool ?_) rfl;rw[hl,show x=0 by omega];simp
 have bw:x≠0:=by omega
 refine Sz0 ?_;refine Qa hP (DG (by omega)) rfl rfl rfl ?_;refine Sz0 ?_;refine dI (fun h2=>?_) (fun h2=>?_)
 ·subst h2;refine Sz0 ?_;refine Qd (congrArg PV.bool ?_) rfl;simp[val]
 ·refine Sz0 ?_;refine Qa hP (OC ha hd (by omega) (by omega)) rfl rfl rfl ?_;have hD:0<val d:=by apply KaY;intro h0;have qX:=Ac hd (by rw[hl];simpa using bw);rw[h0,fH]at qX;exact aO qX.symm
  have oY:(ah (Nat.gcd (val a) (val d))).length<2^43:=by have h3:=fJ (Kde (val a) hD);have h4:=ck hd;unfold nl at h3 h4;omega
  refine Sz0 ?_;refine Qa hP (IA oY) rfl rfl rfl ?_;refine Sz0 ?_;refine Qd (congrArg PV.bool ?_) rfl;rw[hl];simp[aO,bw]
theorem Sa{a:List Int}(hl:a.length<2^42):Qc Tryz.prog 90 [PV.mono a] (· =PV.mono (gO a)):=by
 refine Qf Qj Tryz.func90 rfl aiB (by simp[Lw]) fun C hP=>?_;simp only[Lw,Zo,Zg,Zm,Zc,Zf,Zl,Zh,Zs,Zi,Zb,Zk,Zn,Zu,Zq,Zr,Zz];refine Sz0 ?_;refine Qz (by repeat (first|exact Qs|exact Ql|exact Qm|exact Qn|exact Qo|apply Qk|apply Qr|apply Qw|apply Q5|apply Q6|apply Qi)) [(3,3),(6,17)] [] (fun n J hp=>n<=a.length/\kA a n=gO a/\J 3= .int .i64 n/\hp=aF) a.length ?_ ?_
 ·refine⟨Kac _,rfl,?_⟩;exact Tz0
 rintro n J _ ⟨hn,hc,h3,rfl⟩;refine Sz1 h3 ?_;refine ga (fun hg=>?_) (fun hg=>?_)
 ·obtain _|n:=n
  ·omega
  have e:((n+1:Nat):Int)-1=n:=by omega
  simp only[kA]at hc;simp+decide (disch:=try exact D2 h3 e) only[go_sem,h3,e];refine Qb (fun hz=>?_) (fun hz=>?_)
  ·rw[if_pos (by simp[hz,show n<a.length by omega])]at hc;refine Sz2 h3 e ?_;refine Qh n (by omega) ⟨by omega,hc,?_⟩;exact Tz0
  ·rw[if_neg (by simpa[show n<a.length by omega]using hz)]at hc;refine Sz2 h3 e ?_;refine Qb (fun h=>by omega) (fun h=>?_);refine Sz2 h3 e ?_;exact Qd (congrArg PV.mono hc) rfl
 ·obtain rfl:n=0:=by omega
  refine Sz1 h3 ?_;exact nK (Uu (by rw[<-hc];rfl)) rfl
theorem X8{a:List Int}(hl:a.length<2^42):Qc Tryz.prog 84 [PV.mono a] (· = .bool (fy a)):=by
 refine Qf Qj Tryz.func84 rfl aiC (by simp[Lp]) fun C hP=>?_;simp only[Lp,Zo,Zg,Zm,Zc,Zf,Zl,Zh,Zs,Zi,Zb,Zk,Zn,Zu,Zq,Zr,Zz];refine Sz0 ?_;have bad:(64<a.length∨a.getLast? =some 0∨∃x∈a,x<0∨1048576<x)->fy a=false:=fun h=>by
  cases hb:fy a with
  |false=>rfl
  |true=>
   have:=MB.uI hb;simp only[fy,Kat,decide_eq_true_eq]at hb;rcases h with h|h|⟨x,hx,h⟩
   ·omega
   ·exact absurd h hb.2.1
   ·have h5:=this.lo x hx;have h6:=this.hi x hx;omega
 refine dI (fun h1=>?_) (fun h1=>?_)
 ·refine Sz0 ?_;exact Qd (by rw[bad (.inl (by omega))]) rfl
 refine Sz0 ?_;have fin:a.length<=64->a.getLast? ≠some 0->(∀x∈a,0<=x/\x<=1048576)->fy a=true:=fun h1 h2 h3=>by simp only[fy,Kat,decide_eq_true_eq,Kay];exact⟨h1,h2,h3⟩
 refine ga (fun h2=>?_) (fun h2=>?_)
 ·obtain⟨k,hk⟩:∃k,a.length=k+1:=⟨a.length-1,by omega⟩
  have js:=DC hk;have e:((k+1:Nat):Int)-1=k:=by omega
  generalize hy:a[k]'(by omega)=y at *
  refine Sz3 hk e hy ?_;refine Qb (fun h3=>?_) (fun h3=>?_)
  ·refine Sz0 ?_;exact Qd (by rw[bad (.inr (.inl (by rw[js,h3])))]) rfl
  have js:a.getLast? ≠some 0:=by rw[js];simpa using h3
  rw[<-hk]at *
  refine Sz0 ?_;refine Qz (by repeat (first|exact Qs|exact Ql|exact Qm|exact Qn|exact Qo|apply Qk|apply Qr|apply Qw|apply Q5|apply Q6|apply Qi)) [(2,2),(4,4),(24,34)] [] (fun k J hp=>∃i,k=a.length-i/\i<=a.length/\(∀x∈a.take i,0<=x/\x<=1048576)/\J 24= .int .i64 i/\hp=aF) a.length ?_ ?_
  ·refine⟨0,rfl,by omega,by simp,?_⟩;refine Sz0 ?_;rfl
  rintro _ J _ ⟨i,rfl,hi,cw,il,rfl⟩;refine Sz1 il ?_;refine Qb (fun hg=>?_) (fun hg=>?_)
  ·have aC:i<a.length:=by omega
   have eC:=Kag aC;have bk:∀x∈a.take (i+1),x∈a.take i∨x=a[i]:=fun x hx=>by
    rw[Kah aC]at hx;rcases KaV.1 hx with h|h
    ·exact .inl h
    ·exact .inr (KaO.1 h)
   generalize hx:a[i]=x at *
   refine Sz2 il hx ?_;refine dI (fun h5=>?_) (fun h5=>?_)
   ·refine Sz0 ?_;exact Qd (by rw[bad (.inr (.inr ⟨x,eC,.inl h5⟩))]) rfl
   ·refine Sz0 ?_;refine Qb (fun h6=>?_) (fun h6=>?_)
    ·refine Sz0 ?_;exact Qd (by rw[bad (.inr (.inr ⟨x,eC,.inr h6⟩))]) rfl
    ·refine Sz1 il ?_;refine Qh (a.length-(i+1)) (by omega) ⟨i+1,rfl,by omega,fun y hy=>?_,?_⟩
     ·rcases bk y hy with h|rfl
      ·exact cw y h
      ·omega
     ·exact Tz0
  ·rw[Kae (by omega)]at cw;refine Sz0 ?_;exact Qd (by rw[fin (by omega) js cw]) rfl
 ·have Fg:a=[]:=Kas.1 (by omega);have js:a.getLast? ≠some 0:=by rw[Fg];simp
  refine Sz0 ?_;refine Qz (by repeat (first|exact Qs|exact Ql|exact Qm|exact Qn|exact Qo|apply Qk|apply Qr|apply Qw|apply Q5|apply Q6|apply Qi)) [(2,2),(4,4),(24,34)] [] (fun k J hp=>∃i,k=a.length-i/\i<=a.length/\(∀x∈a.take i,0<=x/\x<=1048576)/\J 24= .int .i64 i/\hp=aF) a.length ?_ ?_
  ·refine⟨0,rfl,by omega,by simp,?_⟩;refine Sz0 ?_;rfl
  rintro _ J _ ⟨i,rfl,hi,cw,il,rfl⟩;refine Sz1 il ?_;refine Qb (fun hg=>?_) (fun hg=>?_)
  ·have aC:i<a.length:=by omega
   have eC:=Kag aC;have bk:∀x∈a.take (i+1),x∈a.take i∨x=a[i]:=fun x hx=>by
    rw[Kah aC]at hx;rcases KaV.1 hx with h|h
    ·exact .inl h
    ·exact .inr (KaO.1 h)
   generalize hx:a[i]=x at *
   refine Sz2 il hx ?_;refine dI (fun h5=>?_) (fun h5=>?_)
   ·refine Sz0 ?_;exact Qd (by rw[bad (.inr (.inr ⟨x,eC,.inl h5⟩))]) rfl
   ·refine Sz0 ?_;refine Qb (fun h6=>?_) (fun h6=>?_)
    ·refine Sz0 ?_;exact Qd (by rw[bad (.inr (.inr ⟨x,eC,.inr h6⟩))]) rfl
    ·refine Sz1 il ?_;refine Qh (a.length-(i+1)) (by omega) ⟨i+1,rfl,by omega,fun y hy=>?_,?_⟩
     ·rcases bk y hy with h|rfl
      ·exact cw y h
      ·omega
     ·exact Tz0
  ·rw[Kae (by omega)]at cw;refine Sz0 ?_;exact Qd (by rw[fin (by omega) js cw]) rfl
theorem RN{a:List Int}(hl:a.length<=1048576)(hb:∀x∈a,0<=x/\x<=1099511627776):Qc Tryz.prog 170 [PV.mono a] (· = .int .i64 (fm a)):=by
 refine Qf Qj Tryz.func170 rfl afF (by simp[J9]) fun C hP=>?_;simp only[J9,Zo,Zg,Zm,Zc,Zf,Zl,Zh,Zs,Zi,Zb,Zk,Zn,Zu,Zq,Zr,Zz];refine Sz0 ?_;refine Qz (by repeat (first|exact Qs|exact Ql|exact Qm|exact Qn|exact Qo|apply Qk|apply Qr|apply Qw|apply Q5|apply Q6|apply Qi)) [(3,3),(5,5),(8,15)] [] (fun k J hp=>∃(i:Nat)(s:Int),k=a.length-i/\i<=a.length/\0<=s/\s<=1099511627776*i/\s+(a.drop i).sum=fm a/\J 8= .int .i64 (i:Nat)/\J 3= .int .i64 s/\hp=aF) a.length ?_ ?_
 ·refine⟨0,0,rfl,by omega,by omega,by omega,by simp[fm],?_⟩;refine Sz0 ?_;simp
 rintro _ J _ ⟨i,s,rfl,hi,Bv,gq,qi,h8,h3,rfl⟩;refine Sz2 h8 h3 ?_;refine Qb (fun hg=>?_) (fun hg=>?_)
 ·have aC:i<a.length:=by omega
  have hx:=hb _ (Kag aC);rw[Kaz aC,Kdi]at qi;generalize dS:a[i]=x at *
  refine Sz3 h8 h3 dS ?_;refine Qh (a.length-(i+1)) (by omega) ⟨i+1,s+x,rfl,by omega,by omega,by push_cast;omega,by omega,?_⟩;exact Tz0
 ·rw[Kal (by omega),List.sum_nil,Int.add_zero]at qi;refine Sz1 h3 ?_;exact Qd (by rw[qi]) rfl
theorem Tt{a:List Int}{v:Int}(hl:a.length<2^42):Qc Tryz.prog 124 [PV.mono a,.int .i64 v] (· = .int .i64 (if v<0 then 0 else eN a v.toNat)):=by
 refine Qf Qj Tryz.func124 rfl afG (by simp[Jk]) fun C hP=>?_;simp only[Jk,Zo,Zg,Zm,Zc,Zf,Zl,Zh,Zs,Zi,Zb,Zk,Zn,Zu,Zq,Zr,Zz];refine Sz0 ?_;refine dI (fun h1=>?_) (fun h1=>?_)
 ·refine Sz0 ?_;exact Qd (by rw[if_pos h1]) rfl
 ·obtain⟨n,rfl⟩:∃n:Nat,v=n:=⟨v.toNat,by omega⟩
  rw[if_neg h1];refine Sz0 ?_;refine Qb (fun h2=>?_) (fun h2=>?_)
  ·refine Sz0 ?_;exact Qd (by rw[fB (by omega)]) rfl
  ·have hn:n<a.length:=by omega
   refine Sz0 ?_;exact Qd (by rw[fk hn]) rfl
theorem Da{a:List Int}{i:Nat}(hl:a.length<2^42):Qc Tryz.prog 124 [PV.mono a,.int .i64 i] (· = .int .i64 (eN a i)):=by
 have:=Tt (v:=i) hl
 rwa[if_neg (by omega),KbM]at this
theorem Qyk{a b:List Int}{f:Nat}{g:Int->Int->Int}(bu:a.length<2^40)(cT:b.length<2^40)(hf:∀i,Qc Tryz.prog f [.int .i64 (eN a i),.int .i64 (eN b i)] (· = .int .i64 (g (eN a i) (eN b i)))):
  Qc Tryz.prog 178 [PV.mono a,PV.mono b,.fn f [] []] (· =PV.mono (kB g a b)):=by
 refine Qf Qj Tryz.func178 rfl afE (by simp[Kh]) fun C hP=>?_;simp only[Kh,Zo,Zg,Zm,Zc,Zf,Zl,Zh,Zs,Zi,Zb,Zk,Zn,Zu,Zq,Zr,Zz];refine Sz0 ?_;refine Qz (by repeat (first|exact Qs|exact Ql|exact Qm|exact Qn|exact Qo|apply Qk|apply Qr|apply Qw|apply Q5|apply Q6|apply Qi)) [(8,10),(19,45)] [] (fun k J hp=>∃i,k=max a.length b.length-i/\i<=max a.length b.length/\J 19= .int .i64 (i:Nat)/\hp=Qy aF 16 ⟨1,3,iP ((kB g a b).take i++List.replicate (max a.length b.length-i) 0),false⟩) (max a.length b.length) ?_ ?_
 ·refine⟨0,rfl,by omega,?_⟩;refine Sz0 ?_;simp
 rintro _ J _ ⟨i,rfl,hi,jk,rfl⟩;refine Sz1 jk ?_;refine Qb (fun hg=>?_) (fun hg=>?_)
 ·have aC:i<max a.length b.length:=by omega
  have v8:=hf i;have qj:((kB g a b).take i).length=i:=by rw[KaF,pq];omega
  have kb:=fun v=>abD (v:=v) (z:=(0:Int)) qj (show 0<max a.length b.length-i by omega);have hlen:i<((kB g a b).take i++List.replicate (max a.length b.length-i) (0:Int)).length:=by rw[Kan,qj,List.length_replicate];omega
  have bk:=Hi (g:=g) aC;have fin:∀x y,x=eN a i->y=eN b i->Qc Tryz.prog f [.int .i64 x,.int .i64 y] (· = .int .i64 (g (eN a i) (eN b i))):=by rintro _ _ rfl rfl;exact v8
  refine Sz1 jk ?_;refine Qb (fun h1=>?_) (fun h1=>?_)
  ·have lW:i<a.length:=by omega
   simp+decide (disch:=try exact D1 jk) only[go_sem,jk];refine Qb (fun h2=>?_) (fun h2=>?_)
   ·have mY:i<b.length:=by omega
    simp+decide (disch:=try exact D1 jk) only[go_sem,jk];refine Qa hP (fin _ _ (fk lW).symm (fk mY).symm) rfl rfl rfl ?_;simp+decide (disch:=first|omega|rfl|(simp+decide only[go_sem,jk,kb,<-bk]<;>rfl)|fail) only[go_sem,jk,kb,<-bk];refine Qh (max a.length b.length-(i+1)) (by omega) ⟨i+1,rfl,by omega,?_⟩;exact Tz1 @Nat.sub_sub
   ·refine Sz1 jk ?_;refine Qa hP (fin _ _ (fk lW).symm (fB (by omega)).symm) rfl rfl rfl ?_;simp+decide (disch:=first|omega|rfl|(simp+decide only[go_sem,jk,kb,<-bk]<;>rfl)|fail) only[go_sem,jk,kb,<-bk];refine Qh (max a.length b.length-(i+1)) (by omega) ⟨i+1,rfl,by omega,?_⟩;exact Tz1 @Nat.sub_sub
  ·refine Sz1 jk ?_;refine Qb (fun h2=>?_) (fun h2=>by omega);have mY:i<b.length:=by omega
   simp+decide (disch:=try exact D1 jk) only[go_sem,jk];refine Qa hP (fin _ _ (fB (by omega)).symm (fk mY).symm) rfl rfl rfl ?_;simp+decide (disch:=first|omega|rfl|(simp+decide only[go_sem,jk,kb,<-bk]<;>rfl)|fail) only[go_sem,jk,kb,<-bk];refine Qh (max a.length b.length-(i+1)) (by omega) ⟨i+1,rfl,by omega,?_⟩;exact Tz1 @Nat.sub_sub
 ·obtain rfl:i=max a.length b.length:=by omega
  refine eK ?_;exact Qd (by simp[Kae,pq]) rfl
theorem YL{x y:Int}(h1: -9223372036854775808<=x+y)(h2:x+y<=9223372036854775807):Qc Tryz.prog 179 [.int .i64 x,.int .i64 y] (· = .int .i64 (x+y)):=by refine Qf Qj Tryz.func179 rfl afJ (by simp[Ki]) fun C hP=>?_;simp only[Ki,Zo,Zg,Zm,Zc,Zf,Zl,Zh,Zs,Zi,Zb,Zk,Zn,Zu,Zq,Zr,Zz];refine Sz0 ?_;exact Qd rfl rfl
theorem Q8h{k:Nat}{a b:List Int}(ha:MB k a)(hb:MB k b)(hk:k<=1099511627776):Qc Tryz.prog 158 [PV.mono a,PV.mono b] (· =PV.mono (bC a b)):=by have h1:=ha.len;have h2:=hb.len;have hz:=pq (· + ·) a b;refine Qf Qj Tryz.func158 rfl afH (by simp[JS]) fun C hP=>?_;simp only[JS,Zo,Zg,Zm,Zc,Zf,Zl,Zh,Zs,Zi,Zb,Zk,Zn,Zu,Zq,Zr,Zz];refine Sz0 ?_;refine Qa hP (Qyk (f:=179) (g:=(· + ·)) (by omega) (by omega) (fun i=>YL (by have:=ha.eN i;have:=hb.eN i;omega) (by have:=ha.eN i;have:=hb.eN i;omega))) rfl rfl rfl ?_;refine Sz0 ?_;refine Qa hP (Sa (by omega)) rfl rfl rfl ?_;refine Sz0 ?_;exact Qd rfl rfl
theorem YM{a:List Int}(hl:a.length<2^42):Qc Tryz.prog 45 [PV.mono a] (· = .int .i64 ((gO a).length-1)):=by have:=sZ a;refine Qf Qj Tryz.func45 rfl ah9 (by simp[KL]) fun C hP=>?_;simp only[KL,Zo,Zg,Zm,Zc,Zf,Zl,Zh,Zs,Zi,Zb,Zk,Zn,Zu,Zq,Zr,Zz];refine Sz0 ?_;refine Qa hP (Sa hl) rfl rfl rfl ?_;refine Sz0 ?_;exact Qd rfl rfl
theorem Tu{k:Nat}{a b:List Int}{o:Int}(ha:MB k a)(hb:MB k b)(hk:k<=1099511627776):Qc Tryz.prog 142 [PV.mono a,PV.mono b,.int .i64 o] (· = .int .i64 (jU o a b)):=by
 have h1:=ha.len;have h2:=hb.len;have gD:∀x∈a,0<=x/\x<=1099511627776:=fun x hx=>by have:=ha.lo x hx;have:=ha.hi x hx;omega
 have iV:∀x∈b,0<=x/\x<=1099511627776:=fun x hx=>by have:=hb.lo x hx;have:=hb.hi x hx;omega
 refine Qf Qj Tryz.func142 rfl afK (by simp[JE]) fun C hP=>?_;simp only[JE,Zo,Zg,Zm,Zc,Zf,Zl,Zh,Zs,Zi,Zb,Zk,Zn,Zu,Zq,Zr,Zz];refine Sz0 ?_;refine Qb (fun ho=>?_) (fun ho=>?_)
 ·refine Sz0 ?_;refine Qa hP (RN (by omega) gD) rfl rfl rfl ?_;refine Sz0 ?_;refine Qa hP (RN (by omega) iV) rfl rfl rfl ?_;refine Sz0 ?_;refine Qb (fun hd=>?_) (fun hd=>?_)
  ·have j9:jU o a b=cY (fm a) (fm b):=by unfold jU;rw[if_pos ⟨ho,hd⟩]
   refine Sz0 ?_;refine Qb (fun h5=>?_) (fun h5=>?_)
   ·refine Sz0 ?_;exact Qd (by rw[j9,cY,if_pos h5]) rfl
   ·refine Sz0 ?_;exact Qd (by rw[j9,cY,if_neg h5,if_pos (by omega)]) rfl
  have j9:jU o a b=aR a b:=by unfold jU;rw[if_neg (fun h=>hd h.2)]
  refine Sz0 ?_;refine Qz (by repeat (first|exact Qs|exact Ql|exact Qm|exact Qn|exact Qo|apply Qk|apply Qr|apply Qw|apply Q5|apply Q6|apply Qi)) [(6,6),(9,11),(30,45)] [] (fun n J hp=>n<=max a.length b.length/\du a b n=aR a b/\J 9= .int .i64 ((n:Int)-1)/\hp=aF) (max a.length b.length) ?_ ?_
  ·refine⟨by omega,rfl,?_⟩;exact Tz0
  rintro n J _ ⟨hn,hc,h9,rfl⟩;refine Sz1 h9 ?_;refine Qb (fun hg=>?_) (fun hg=>?_)
  ·obtain _|n:=n
   ·omega
   have e:((n+1:Nat):Int)-1=n:=by omega
   rw[du]at hc;refine Sz2 h9 e ?_;refine Qa hP (Da (by omega)) rfl rfl rfl ?_;refine Sz2 h9 e ?_;refine Qa hP (Da (by omega)) rfl rfl rfl ?_;refine Sz2 h9 e ?_;refine Qb (fun h4=>?_) (fun h4=>?_)
   ·rw[if_neg h4]at hc;refine Sz2 h9 e ?_;refine Qb (fun h5=>?_) (fun h5=>?_)
    ·refine Sz2 h9 e ?_;exact Qd (by rw[j9,<-hc,cY,if_pos h5]) rfl
    ·refine Sz2 h9 e ?_;exact Qd (by rw[j9,<-hc,cY,if_neg h5,if_pos (by omega)]) rfl
   ·rw[if_pos (by omega)]at hc;refine Sz2 h9 e ?_;refine Qh n (by omega) ⟨by omega,hc,?_⟩;exact Tz0
  ·obtain rfl:n=0:=by omega
   refine Sz0 ?_;exact Qd (by rw[j9,<-hc];rfl) rfl
 ·have j9:jU o a b=aR a b:=by unfold jU;rw[if_neg (fun h=>ho h.1)]
  refine Sz0 ?_;refine Qz (by repeat (first|exact Qs|exact Ql|exact Qm|exact Qn|exact Qo|apply Qk|apply Qr|apply Qw|apply Q5|apply Q6|apply Qi)) [(6,6),(9,11),(30,45)] [] (fun n J hp=>n<=max a.length b.length/\du a b n=aR a b/\J 9= .int .i64 ((n:Int)-1)/\hp=aF) (max a.length b.length) ?_ ?_
  ·refine⟨by omega,rfl,?_⟩;exact Tz0
  rintro n J _ ⟨hn,hc,h9,rfl⟩;refine Sz1 h9 ?_;refine Qb (fun hg=>?_) (fun hg=>?_)
  ·obtain _|n:=n
   ·omega
   have e:((n+1:Nat):Int)-1=n:=by omega
   rw[du]at hc;refine Sz2 h9 e ?_;refine Qa hP (Da (by omega)) rfl rfl rfl ?_;refine Sz2 h9 e ?_;refine Qa hP (Da (by omega)) rfl rfl rfl ?_;refine Sz2 h9 e ?_;refine Qb (fun h4=>?_) (fun h4=>?_)
   ·rw[if_neg h4]at hc;refine Sz2 h9 e ?_;refine Qb (fun h5=>?_) (fun h5=>?_)
    ·refine Sz2 h9 e ?_;exact Qd (by rw[j9,<-hc,cY,if_pos h5]) rfl
    ·refine Sz2 h9 e ?_;exact Qd (by rw[j9,<-hc,cY,if_neg h5,if_pos (by omega)]) rfl
   ·rw[if_pos (by omega)]at hc;refine Sz2 h9 e ?_;refine Qh n (by omega) ⟨by omega,hc,?_⟩;exact Tz0
  ·obtain rfl:n=0:=by omega
   refine Sz0 ?_;exact Qd (by rw[j9,<-hc];rfl) rfl
theorem akL{a b:Rat}{k:Nat}(ha:rs a<=k)(hb:rs b<=k)(hk:k<2^36):Qc Tryz.prog 48 [PV.rat a,PV.rat b] (· =PV.rat (a+b)):=by
 have:=TW (iB ha) (iB hb) hk
 rwa[gN,gN]at this
theorem akM{a b:Rat}{k:Nat}(ha:rs a<=k)(hb:rs b<=k)(hk:k<2^36):Qc Tryz.prog 46 [PV.rat a,PV.rat b] (· =PV.rat (a*b)):=by
 have:=abS (iB ha) (iB hb) hk
 rwa[gN,gN]at this
theorem akN{a b:Rat}{k:Nat}(ha:rs a<=k)(hb:rs b<=k)(hk:k<2^36):Qc Tryz.prog 126 [PV.rat a,PV.rat b] (· = .int .i64 (oa a b)):=by
 have:=abT (iB ha) (iB hb) hk
 rwa[gN,gN]at this
theorem As{a:Rat}(ha:rs a<2^36):Qc Tryz.prog 17 [PV.rat a] (· = .int .i64 (gf a)):=by
 have:=CT (iB (Kac (rs a))) ha
 rwa[gN]at this
theorem Tv{s t:Tm}{E:Nat}(hs:MB E s.2)(ht:MB E t.2)(hE:E<=2^38):Qc Tryz.prog 85 [PV.term s,PV.term t] (· = .int .i64 (aR s.2 t.2)):=by refine Qf Qj Tryz.func85 rfl QR (by simp[AH]) fun C hP=>?_;simp only[AH,Zo,Zg,Zm,Zc,Zf,Zl,Zh,Zs,Zi,Zb,Zk,Zn,Zu,Zq,Zr,Zz];refine Sz0 ?_;refine Qa hP (Tu (o:=0) hs ht (by omega)) rfl rfl rfl ?_;refine Sz0 ?_;exact Qd (by rw[Ek]) rfl
theorem X9{s t:Tm}{k:Nat}(hs:rs s.1<=k)(ht:rs t.1<=k)(hk:k<2^34):Qc Tryz.prog 156 [PV.term s,PV.term t] (· = .aw [PV.term (s.1+t.1,s.2),.bool (decide (¬s.1+t.1=0))]):=by have hr:=Ej s.1 t.1;refine Qf Qj Tryz.func156 rfl afM (by simp[JQ]) fun C hP=>?_;simp only[JQ,Zo,Zg,Zm,Zc,Zf,Zl,Zh,Zs,Zi,Zb,Zk,Zn,Zu,Zq,Zr,Zz];refine Sz0 ?_;refine Qa hP (akL (a:=s.1) (b:=t.1) hs ht (by omega)) rfl rfl rfl ?_;refine Sz0 ?_;refine Qa hP (As (a:=s.1+t.1) (by omega)) rfl rfl rfl ?_;refine Sz0 ?_;refine jC ?_;refine Sz0 ?_;exact fl rfl rfl rfl (Qx _) (tA (congrArg PV.bool (decide_eq_decide.2 (not_congr ic))))
theorem XN{c:Rat}{m:List Int}(hc:rs c<2^36):Qc Tryz.prog 119 [PV.rat c,PV.mono m] (· =PV.aj (if c=0 then []else [(c,m)])):=by
 refine Qf Qj Tryz.func119 rfl afN (by simp[Jf]) fun C hP=>?_;simp only[Jf,Zo,Zg,Zm,Zc,Zf,Zl,Zh,Zs,Zi,Zb,Zk,Zn,Zu,Zq,Zr,Zz];refine Sz0 ?_;refine Qa hP (As (a:=c) hc) rfl rfl rfl ?_;refine Sz0 ?_;refine Qb (fun h0=>?_) (fun h0=>?_)
 ·rw[if_pos (ic.1 h0)];refine Sz0 ?_;exact nK pF rfl
 ·rw[if_neg (fun h=>h0 (ic.2 h))];refine eK ?_;exact Qd rfl rfl
theorem Ya{p q:List Tm}{K E:Nat}(hp:PB K E p)(hq:PB K E q)(hK:K<=2^33)(hE:E<=2^38)(bW:p.length<=2^36)(ir:q.length<=2^36):
  Qc Tryz.prog 155 [PV.aj p,PV.aj q,.fn 85 [] [],.fn 156 [] []] (· =PV.aj (Q8 p q)):=by
 refine Qf Qj Tryz.func155 rfl afL (by simp[JP]) fun C hP=>?_;simp only[JP,Zo,Zg,Zm,Zc,Zf,Zl,Zh,Zs,Zi,Zb,Zk,Zn,Zu,Zq,Zr,Zz];refine Sz0 ?_;refine Qz (by repeat (first|exact Qs|exact Ql|exact Qm|exact Qn|exact Qo|apply Qk|apply Qr|apply Qw|apply Q5|apply Q6|apply Qi)) [(9,14),(21,86)] [13,20,57,58,71,72,83,84] (fun n J hp=>∃i k out,n=(p.length-i)+(q.length-k)/\i<=p.length/\k<=q.length/\out.length<=i+k/\out++Q8 (p.drop i) (q.drop k)=Q8 p q/\
  J 9= .ms 20 out.length/\J 10= .int .i64 (i:Nat)/\J 11= .int .i64 (k:Nat)/\hp 20=some ⟨4,54,out.map PV.term,false⟩) (p.length+q.length) ?_ ?_
 ·refine⟨0,0,[],by omega,by omega,by omega,by simp,rfl,?_⟩;refine Sz0 ?_;simp
 rintro _ J h ⟨i,k,out,rfl,hi,hk,fE,ej,h9,bI,ct,hh⟩;refine Sz3 h9 bI ct ?_;refine ga (fun hg=>?_) (fun hg=>?_)
 ·have aC:i<p.length:=by omega
  refine Sz3 h9 bI ct ?_;refine Qb (fun fN=>?_) (fun fN=>?_)
  ·have dY:k<q.length:=by omega
   have bc:=hp.get aC;have oy:=hq.get dY;rw[Uv aC dY]at ej;have c1:=bc.c;have c2:=oy.c;generalize hx:p[i]=x at *
   generalize hy:q[k]=y at *
   refine Sz5 h9 bI ct hx hy ?_;refine Qa hP (Tv (s:=x) (t:=y) bc.m oy.m hE) rfl rfl rfl ?_;refine Sz5 h9 bI ct hx hy ?_;refine Qb (fun hc=>?_) (fun hc=>?_)
   ·rw[if_pos hc]at ej;refine Sz5 h9 bI ct hx hy ?_;rw[Q9 (f:=PV.term) (y:=x) (xs:=out) (ty':=54) (fz:=false) (Tz1 hh) cC (by omega) rfl (by omega) (by omega)];refine Sz5 h9 bI ct hx hy ?_;refine Qh ((p.length-(i+1))+(q.length-k)) (by omega) ⟨i+1,k,out++[x],rfl,by omega,hk,by simp;omega,by simpa using ej,?_⟩;refine Sz3 h9 bI ct ?_;simp
   rw[if_neg hc]at ej;refine Sz5 h9 bI ct hx hy ?_;refine Qb (fun iT=>?_) (fun iT=>?_)
   ·rw[if_pos iT]at ej;refine Sz5 h9 bI ct hx hy ?_;rw[Q9 (f:=PV.term) (y:=y) (xs:=out) (ty':=54) (fz:=false) (Tz1 hh) cC (by omega) rfl (by omega) (by omega)];refine Sz5 h9 bI ct hx hy ?_;refine Qh ((p.length-i)+(q.length-(k+1))) (by omega) ⟨i,k+1,out++[y],rfl,hi,by omega,by simp;omega,by simpa using ej,?_⟩;refine Sz3 h9 bI ct ?_;simp
   rw[if_neg iT]at ej;refine Sz5 h9 bI ct hx hy ?_;refine nI ?_ ?_
   all_goals
    refine Sz5 h9 bI ct hx hy ?_;refine Qa hP (X9 (s:=x) (t:=y) (k:=2^33) (by omega) (by omega) (by omega)) rfl rfl rfl ?_;refine Sz5 h9 bI ct hx hy ?_;refine Qb (fun hz=>?_) (fun hz=>?_)
    ·rw[if_neg hz]at ej;refine Sz5 h9 bI ct hx hy ?_;rw[Q9 (f:=PV.term) (y:=(x.1+y.1,x.2)) (xs:=out) (ty':=54) (fz:=false) (Tz1 hh) cC (by omega) rfl (by omega) (by omega)];refine Sz5 h9 bI ct hx hy ?_;refine Qh ((p.length-(i+1))+(q.length-(k+1))) (by omega) ⟨i+1,k+1,out++[(x.1+y.1,x.2)],rfl,by omega,by omega,by simp;omega,by simpa using ej,?_⟩;refine Sz3 h9 bI ct ?_;simp
    ·rw[if_pos (Decidable.not_not.1 hz)]at ej;refine Sz5 h9 bI ct hx hy ?_;refine Qh ((p.length-(i+1))+(q.length-(k+1))) (by omega) ⟨i+1,k+1,out,rfl,by omega,by omega,by omega,ej,?_⟩;exact Tz4 h9 bI ct hh
  ·have jq:(out++p.drop i++q.drop k).take (out.length+(p.drop i).length+(q.drop k).length)=Q8 p q:=by rw[Kae (by simp;omega),<-ej,Kal (by omega:q.length<=k),kV,Kak]
   refine Sz3 h9 bI ct ?_;rw[mG (f:=PV.term) (xs:=out) (ys:=p.drop i) (Tz1 hh) rfl (by omega) (by simp;omega) (by simp;omega)];refine Sz3 h9 bI ct ?_;rw[mG (f:=PV.term) (xs:=out++p.drop i) (ys:=q.drop k) Tz0 (by simp) (by omega) (by simp;omega) (by simp;omega)];refine Ay h9 bI ct ?_;exact Qd (by rw[<-List.map_take,jq]) rfl
 ·have jq:(out++p.drop i++q.drop k).take (out.length+(p.drop i).length+(q.drop k).length)=Q8 p q:=by rw[Kae (by simp;omega),<-ej,Kal (by omega:p.length<=i),pE,Kak]
  refine Sz3 h9 bI ct ?_;rw[mG (f:=PV.term) (xs:=out) (ys:=p.drop i) (Tz1 hh) rfl (by omega) (by simp;omega) (by simp;omega)];refine Sz3 h9 bI ct ?_;rw[mG (f:=PV.term) (xs:=out++p.drop i) (ys:=q.drop k) Tz0 (by simp) (by omega) (by simp;omega) (by simp;omega)];refine Ay h9 bI ct ?_;exact Qd (by rw[<-List.map_take,jq]) rfl
theorem G1{p q:List Tm}{K E:Nat}(hp:PB K E p)(hq:PB K E q)(hK:K<=2^33)(hE:E<=2^38)(bW:p.length<=2^36)(ir:q.length<=2^36):
  Qc Tryz.prog 108 [PV.aj p,PV.aj q] (· =PV.aj (Q8 p q)):=by
 refine Qf Qj Tryz.func108 rfl afQ (by simp[I5]) fun C hP=>?_;simp only[I5,Zo,Zg,Zm,Zc,Zf,Zl,Zh,Zs,Zi,Zb,Zk,Zn,Zu,Zq,Zr,Zz];refine Sz0 ?_;refine Qa hP (Ya hp hq hK hE bW ir) rfl rfl rfl ?_;refine Sz0 ?_;exact Qd rfl rfl
theorem Tw{K E:Nat}(hE:E<=2^38):∀(n:Nat)(l:List (List Tm)),l.length<=n->(∀p∈l,PB K E p)->l.length*K<=2^33->l.length<=2^36->r9 l<=2^36->Qc Tryz.prog 111 [PV.bX l] (· =PV.aj (cQ l)):=by
 intro n;induction n with
 |zero=>intro l hl _ _ _ _;have:l=[]:=Kas.1 (by omega);subst this;refine Qf Qj Tryz.func111 rfl O6 (by simp[y7]) fun C hP=>?_;simp only[y7,Zo,Zg,Zm,Zc,Zf,Zl,Zh,Zs,Zi,Zb,Zk,Zn,Zu,Zq,Zr,Zz];simp+decide (disch:=first|omega|rfl|(simp+decide only[go_sem,Kbt,Kbk]<;>rfl)|fail) only[go_sem,Kbt,Kbk];exact nK (Hj (by rw[cQ])) rfl
 | succ n ih=>
  intro l hl hb hK ri gH;refine Qf Qj Tryz.func111 rfl O6 (by simp[y7]) fun C hP=>?_;simp only[y7,Zo,Zg,Zm,Zc,Zf,Zl,Zh,Zs,Zi,Zb,Zk,Zn,Zu,Zq,Zr,Zz];refine Sz0 ?_;refine Qb (fun h0=>?_) (fun h0=>?_)
  ·have:l=[]:=Kas.1 (by omega);subst this;refine Sz0 ?_;exact nK (Hj (by rw[cQ])) rfl
  refine Sz0 ?_;refine Qb (fun h1=>?_) (fun h1=>?_)
  ·obtain⟨p,rfl⟩:∃p,l=[p]:=List.length_eq_one_iff.1 (by omega);simp+decide (disch:=first|omega|rfl|(simp+decide only[go_sem,Kba,Kbt]<;>rfl)|fail) only[go_sem,Kba,Kbt];exact Qd (by rw[cQ];rfl) rfl
  have h2:2<=l.length:=by omega
  have hs:=Tp l (l.length/2);have e:(2:Int)=((2:Nat):Int):=rfl;have hq:∀d fr hp K,cm .quo false (.int .i64 (l.length:Int)) (.int .i64 2) d fr hp K=K (af fr d (.int .i64 ((l.length/2:Nat):Int))) hp:=fun d fr hp K=>by rw[e,Ie (by omega) (by omega)]
  have b1:=GV (K:=K) (E:=E) _ (l.take (l.length/2)) (Kac _) (fun p hp=>hb p (Kbc hp));have b2:=GV (K:=K) (E:=E) _ (l.drop (l.length/2)) (Kac _) (fun p hp=>hb p (Kbw hp));have l1:(l.take (l.length/2)).length*K<=l.length*K:=Kaf _ (by rw[KaF];omega);have l2:(l.drop (l.length/2)).length*K<=l.length*K:=Kaf _ (by rw[Ka5];omega);refine Sz1 hq ?_;refine Qa hP (ih (l.take (l.length/2)) (by rw[KaF];omega) (fun p hp=>hb p (Kbc hp)) (by omega) (by rw[KaF];omega) (by omega)) rfl rfl rfl ?_;refine Sz1 hq ?_;refine Qa hP (ih (l.drop (l.length/2)) (by rw[Ka5];omega) (fun p hp=>hb p (Kbw hp)) (by omega) (by rw[Ka5];omega) (by omega)) rfl rfl rfl ?_;refine Sz1 hq ?_;refine Qa hP (G1 (b1.1.mono (K':=l.length*K) l1 (Kac _)) (b2.1.mono l2 (Kac _)) hK hE (by omega) (by omega)) rfl rfl rfl ?_;refine Sz0 ?_;exact Qd (by rw[zK h2]) rfl
theorem GF{p:List Tm}{t:Tm}{i:Nat}(h:i<p.length):bd (p.take (i+1)) t=bd (p.take i) t++(if p[i].1*t.1=0 then []else [(p[i].1*t.1,bC p[i].2 t.2)]):=by rw[Kah h,bd,KcN,bd];congr 1;simp only[Kbg,List.filterMap_nil];split<;>split<;>simp_all
theorem Gt{p:List Tm}{t:Tm}{K E:Nat}(hp:PB K E p)(ht:TB K E t)(hK:K<=2^33)(hE:E<=2^38)(bW:p.length<=2^36):
  Qc Tryz.prog 110 [PV.aj p,PV.term t] (· =PV.aj (bd p t)):=by
 refine Qf Qj Tryz.func110 rfl afS (by simp[I8]) fun C hP=>?_;simp only[I8,Zo,Zg,Zm,Zc,Zf,Zl,Zh,Zs,Zi,Zb,Zk,Zn,Zu,Zq,Zr,Zz];refine Sz0 ?_;refine Qz (by repeat (first|exact Qs|exact Ql|exact Qm|exact Qn|exact Qo|apply Qk|apply Qr|apply Qw|apply Q5|apply Q6|apply Qi)) [(5,5),(7,8),(14,36)] [7,8,11,34,35] (fun n J hp=>∃i,n=p.length-i/\i<=p.length/\J 5= .ms 11 (bd (p.take i) t).length/\J 14= .int .i64 (i:Nat)/\hp 3=some ⟨4,54,[PV.term t],false⟩/\hp 11=some ⟨4,54,(bd (p.take i) t).map PV.term,false⟩) p.length ?_ ?_
 ·refine⟨0,rfl,by omega,?_⟩;refine Sz0 ?_;simp[bd]
 rintro _ J h ⟨i,rfl,hi,h5,cI,bA,EX⟩;refine Sz2 h5 cI ?_;refine Qb (fun hg=>?_) (fun hg=>?_)
 ·have aC:i<p.length:=by omega
  have bc:=hp.get aC;have bk:=GF (t:=t) aC;have hlen:=uT (p.take i) t;rw[KaF]at hlen;have c1:=bc.c;have c2:=ht.c;have hrm:=QP p[i].1 t.1;generalize hx:p[i]=x at *
  refine Sz4 h5 cI bA hx ?_;refine Qa hP (akM (a:=x.1) (b:=t.1) (k:=2^33) (by omega) (by omega) (by omega)) rfl rfl rfl ?_;refine Sz4 h5 cI bA hx ?_;refine Qa hP (As (a:=x.1*t.1) (by omega)) rfl rfl rfl ?_;refine Sz4 h5 cI bA hx ?_;refine Qb (fun hz=>?_) (fun hz=>?_)
  ·rw[if_neg (fun h=>hz (ic.2 h))]at bk;refine Sz4 h5 cI bA hx ?_;refine Qa hP (Q8h bc.m ht.m (by omega)) rfl rfl rfl ?_;refine Sz4 h5 cI bA hx ?_;rw[Q9 (f:=PV.term) (y:=(x.1*t.1,bC x.2 t.2)) (xs:=bd (p.take i) t) (ty':=54) (fz:=false) (Tz1 EX) cC (by omega) rfl (by omega) (by omega)];rw[<-bk];refine Sz4 h5 cI bA hx ?_;refine Qh (p.length-(i+1)) (by omega) ⟨i+1,rfl,by omega,?_⟩;rw[bk];simp+decide (disch:=first|omega|rfl|(simp+decide only[go_sem,h5,cI,bA,Kan]<;>rfl)|fail) only[go_sem,h5,cI,bA,Kan]
  ·rw[if_pos (ic.1 (Decidable.not_not.1 hz)),Kak]at bk;refine Sz4 h5 cI bA hx ?_;refine Qh (p.length-(i+1)) (by omega) ⟨i+1,rfl,by omega,?_⟩;rw[bk];exact Tz4 h5 cI bA EX
 ·obtain rfl:i=p.length:=by omega
  rw[Kar]at h5 EX;refine kF h5 EX ?_;exact Qd (by simp[Kae]) rfl
theorem rK{p q:List Tm}{K E:Nat}(hp:PB K E p)(hq:PB K E q)(hE:E<=2^37)(bW:p.length<=2^30)(ir:q.length<=2^30)(Bl:p.length*q.length<=2^36)(hK:min p.length q.length*(K+K)<=2^33)(l4:K<=2^33):
  Qc Tryz.prog 60 [PV.aj p,PV.aj q] (· =PV.aj (Q4 p q)):=by
 have main:∀(p q:List Tm),PB K E p->PB K E q->p.length<=2^30->q.length<=2^30->p.length*q.length<=2^36->p.length*(K+K)<=2^33->p.length<=q.length->True:=fun _ _ _ _ _ _ _ _ _=>trivial;refine Qf Qj Tryz.func60 rfl aid (by simp[K3]) fun C hP=>?_;simp only[K3,Zo,Zg,Zm,Zc,Zf,Zl,Zh,Zs,Zi,Zb,Zk,Zn,Zu,Zq,Zr,Zz];refine Sz0 ?_;refine Qb (fun hg=>?_) (fun hg=>?_)
 ·have jq:oK q p=Q4 p q:=by rw[Q4,if_pos (by omega)]
  have U':q.length*(K+K)<=2^33:=by rw[Kdd (by omega)]at hK;exact hK
  have aqu:q.length*p.length<=2^36:=by rw[KaS];exact Bl
  refine Sz0 ?_;refine Qz (by repeat (first|exact Qs|exact Ql|exact Qm|exact Qn|exact Qo|apply Qk|apply Qr|apply Qw|apply Q5|apply Q6|apply Qi)) [(5,5),(7,7),(20,30)] [7,17,28,29] (fun n J hp=>∃i,n=q.length-i/\i<=q.length/\J 5= .ms 17 i/\J 20= .int .i64 (i:Nat)/\hp 17=some ⟨1,32,((q.take i).map (bd p)).map PV.aj,false⟩) q.length ?_ ?_
  ·refine⟨0,rfl,by omega,?_⟩;refine Sz0 ?_;simp
  rintro _ J h ⟨i,rfl,hi,h5,pP,hh⟩;refine Sz2 h5 pP ?_;refine Qb (fun fN=>?_) (fun fN=>?_)
  ·have aC:i<q.length:=by omega
   have bc:=hq.get aC;have bk:(q.take (i+1)).map (bd p)=(q.take i).map (bd p)++[bd p q[i]]:=by rw[Kah aC,List.map_append];rfl
   generalize hx:q[i]=x at *
   refine Sz3 h5 pP hx ?_;refine Qa hP (Gt (t:=x) hp bc l4 (by omega) (by omega)) rfl rfl rfl ?_;refine Sz3 h5 pP hx ?_;rw[Q9 (f:=PV.aj) (y:=bd p x) (xs:=(q.take i).map (bd p)) (ty':=32) (fz:=false) (Tz1 hh) cC (by omega) (by simp;omega) (by omega) (by omega)];rw[<-bk];refine Sz3 h5 pP hx ?_;refine Qh (q.length-(i+1)) (by omega) ⟨i+1,rfl,by omega,?_⟩;exact Tz2 h5 pP
  ·obtain rfl:i=q.length:=by omega
   rw[Kar]at hh;have gH:=Gj q p;refine Sz2 h5 hh ?_;refine ig hP (Tw (K:=K+K) (E:=E+E) (by omega) _ (q.map (bd p)) (Kac _) (fun x hx=>by obtain⟨t,ht,rfl⟩:=KaE.1 hx;exact tk hp (hq t ht)) (by rw[KaT];omega) (by rw[KaT];omega) (by omega)) (by simp+decide (disch:=try exact E1 hh) only[go_sem,hh,ee,Kav,KaC,Kau,KaA,Kak];simp[Kae]) rfl ?_;refine Sz0 ?_;exact Qd (congrArg PV.aj jq) rfl
 ·have jq:oK p q=Q4 p q:=by rw[Q4,if_neg (by omega)]
  have U':p.length*(K+K)<=2^33:=by rw[KbZ (by omega)]at hK;exact hK
  refine Sz0 ?_;refine Qz (by repeat (first|exact Qs|exact Ql|exact Qm|exact Qn|exact Qo|apply Qk|apply Qr|apply Qw|apply Q5|apply Q6|apply Qi)) [(5,5),(7,7),(20,30)] [7,17,28,29] (fun n J hp=>∃i,n=p.length-i/\i<=p.length/\J 5= .ms 17 i/\J 20= .int .i64 (i:Nat)/\hp 17=some ⟨1,32,((p.take i).map (bd q)).map PV.aj,false⟩) p.length ?_ ?_
  ·refine⟨0,rfl,by omega,?_⟩;refine Sz0 ?_;simp
  rintro _ J h ⟨i,rfl,hi,h5,pP,hh⟩;refine Sz2 h5 pP ?_;refine Qb (fun fN=>?_) (fun fN=>?_)
  ·have aC:i<p.length:=by omega
   have bc:=hp.get aC;have bk:(p.take (i+1)).map (bd q)=(p.take i).map (bd q)++[bd q p[i]]:=by rw[Kah aC,List.map_append];rfl
   generalize hx:p[i]=x at *
   refine Sz3 h5 pP hx ?_;refine Qa hP (Gt (t:=x) hq bc l4 (by omega) (by omega)) rfl rfl rfl ?_;refine Sz3 h5 pP hx ?_;rw[Q9 (f:=PV.aj) (y:=bd q x) (xs:=(p.take i).map (bd q)) (ty':=32) (fz:=false) (Tz1 hh) cC (by omega) (by simp;omega) (by omega) (by omega)];rw[<-bk];refine Sz3 h5 pP hx ?_;refine Qh (p.length-(i+1)) (by omega) ⟨i+1,rfl,by omega,?_⟩;exact Tz2 h5 pP
  ·obtain rfl:i=p.length:=by omega
   rw[Kar]at hh;have gH:=Gj p q;refine Sz2 h5 hh ?_;refine ig hP (Tw (K:=K+K) (E:=E+E) (by omega) _ (p.map (bd q)) (Kac _) (fun x hx=>by obtain⟨t,ht,rfl⟩:=KaE.1 hx;exact tk hq (hp t ht)) (by rw[KaT];omega) (by rw[KaT];omega) (by omega)) (by simp+decide (disch:=try exact E1 hh) only[go_sem,hh,ee,Kav,KaC,Kau,KaA,Kak];simp[Kae]) rfl ?_;refine Sz0 ?_;exact Qd (congrArg PV.aj jq) rfl
theorem Cs{p:List Tm}{a:Rat}{K E:Nat}(hp:PB K E p)(ha:rs a+1<=K)(hK:K<=2^33)(hE:E<=2^38)(bW:p.length<=2^36):Qc Tryz.prog 121 [PV.aj p,PV.rat a] (· =PV.aj (b8 p a)):=by
 refine Qf Qj Tryz.func121 rfl afT (by simp[Jh]) fun C hP=>?_;simp only[Jh,Zo,Zg,Zm,Zc,Zf,Zl,Zh,Zs,Zi,Zb,Zk,Zn,Zu,Zq,Zr,Zz];refine Sz0 ?_;refine Qa hP (As (a:=a) (by omega)) rfl rfl rfl ?_;refine Sz0 ?_;refine Qb (fun h0=>?_) (fun h0=>?_)
 ·refine Sz0 ?_;exact nK (Hj (by rw[b8,if_pos (ic.1 h0)])) rfl
 ·refine Sz0 ?_;refine Qa hP ((Gt (t:=(a,[])) hp (TB.num ha) hK hE bW).le (args':=[PV.aj p,.agg [.bool (decide (a.num<0)),PV.num a.num.natAbs,PV.num a.den,.aa]]) ⟨Qx _,⟨rfl,zU _,zU _,trivial,trivial⟩,trivial⟩) rfl rfl rfl ?_;refine Sz0 ?_;exact Qd (by rw[b8,if_neg (fun h=>h0 (ic.2 h))]) rfl
theorem Q8i{p:List Tm}{K E:Nat}(hp:PB K E p)(l4:2<=K)(hK:K<=2^33)(hE:E<=2^38)(bW:p.length<=2^36):Qc Tryz.prog 157 [PV.aj p] (· =PV.aj (kZ p)):=by have h1:=F2;refine Qf Qj Tryz.func157 rfl afP (by simp[JR]) fun C hP=>?_;simp only[JR,Zo,Zg,Zm,Zc,Zf,Zl,Zh,Zs,Zi,Zb,Zk,Zn,Zu,Zq,Zr,Zz];refine Sz0 ?_;refine Qa hP (vb (x:= -1) (by omega) (by omega)) rfl rfl rfl ?_;refine Sz0 ?_;refine Qa hP (Cs (a:=((-1:Int):Rat)) hp (by have:((-1:Int):Rat)= -1:=rfl;rw[this];omega) hK hE bW) rfl rfl rfl ?_;refine Sz0 ?_;exact Qd rfl rfl
theorem G2{p q:List Tm}{K E:Nat}(hp:PB K E p)(hq:PB K E q)(l4:2<=K)(hK:K<=2^32)(hE:E<=2^38)(bW:p.length<=2^36)(ir:q.length<=2^36):Qc Tryz.prog 109 [PV.aj p,PV.aj q] (· =PV.aj (fM p q)):=by have hl:=uU q (-1);refine Qf Qj Tryz.func109 rfl afR (by simp[I6]) fun C hP=>?_;simp only[I6,Zo,Zg,Zm,Zc,Zf,Zl,Zh,Zs,Zi,Zb,Zk,Zn,Zu,Zq,Zr,Zz];refine Sz0 ?_;refine Qa hP (Q8i hq l4 (by omega) hE ir) rfl rfl rfl ?_;refine Sz0 ?_;refine Qa hP (G1 (hp.mono (K':=K+2) (by omega) (Kac _)) (xA hq) (by omega) hE bW (by show(b8 q (-1)).length<=_;omega)) rfl rfl rfl ?_;refine Sz0 ?_;exact Qd rfl rfl
theorem Q8j{n:Bool}{a d:List Nat}{k:Nat}(hp:Raw k n a d)(hk:k<2^36):Qc Tryz.prog 48 [PV.rr n a d,PV.rat ((0:Int):Rat)] (· =PV.rat (rv n a d)):=by
 have h0:rs ((0:Int):Rat)<=k:=by have:=apx;have:=hp.k1;have e:((0:Int):Rat)=0:=rfl;rw[e];omega
 have:=TW hp (iB h0) hk;rw[gN]at this;have e:rv n a d+((0:Int):Rat)=rv n a d:=Rat.add_zero _
 rwa[e]at this
theorem XY{n:Bool}{a d:List Nat}{k:Nat}(hp:Raw k n a d)(hk:k<2^36):Qc Tryz.prog 65 [PV.rr n a d] (· =PV.aj (dk (rv n a d))):=by have hr:=hp.rs;refine Qf Qj Tryz.func65 rfl aib (by simp[K8]) fun C hP=>?_;simp only[K8,Zo,Zg,Zm,Zc,Zf,Zl,Zh,Zs,Zi,Zb,Zk,Zn,Zu,Zq,Zr,Zz];refine Sz0 ?_;refine Qa hP (vb (x:=0) (by omega) (by omega)) rfl rfl rfl ?_;refine Sz0 ?_;refine Qa hP (Q8j hp hk) rfl rfl rfl ?_;refine Sz0 ?_;refine Qa hP ((XN (c:=rv n a d) (m:=[]) (by omega)).le (args':=[PV.rat (rv n a d),.aa]) ⟨Qx _,trivial,trivial⟩) rfl rfl rfl ?_;refine Sz0 ?_;exact Qd rfl rfl
theorem YN{s t:Tm}{K E:Nat}(hs:TB K E s)(ht:TB K E t)(hK:K<=2^33)(hE:E<=2^38):Qc Tryz.prog 125 [PV.term s,PV.term t] (· = .int .i64 (mN s t)):=by
 have c1:=hs.c;have c2:=ht.c;refine Qf Qj Tryz.func125 rfl afO (by simp[Jl]) fun C hP=>?_;simp only[Jl,Zo,Zg,Zm,Zc,Zf,Zl,Zh,Zs,Zi,Zb,Zk,Zn,Zu,Zq,Zr,Zz];refine Sz0 ?_;refine Qa hP (Tv (s:=s) (t:=t) hs.m ht.m hE) rfl rfl rfl ?_;refine Sz0 ?_;refine Qb (fun h=>?_) (fun h=>?_)
 ·refine Sz0 ?_;exact Qd (by rw[mN,if_pos h]) rfl
 ·refine Sz0 ?_;refine Qa hP (akN (a:=s.1) (b:=t.1) (k:=2^33) (by omega) (by omega) (by omega)) rfl rfl rfl ?_;refine Sz0 ?_;exact Qd (by rw[mN,if_neg h]) rfl
theorem Qsj{p q:List Tm}{K E:Nat}(hp:PB K E p)(hq:PB K E q)(hK:K<=2^33)(hE:E<=2^38)(bW:p.length<=2^36)(ir:q.length<=2^36):
  Qc Tryz.prog 127 [PV.aj p,PV.aj q,.fn 125 [] []] (· = .int .i64 (gT p q)):=by
 refine Qf Qj Tryz.func127 rfl afj (by simp[Jn]) fun C hP=>?_;simp only[Jn,Zo,Zg,Zm,Zc,Zf,Zl,Zh,Zs,Zi,Zb,Zk,Zn,Zu,Zq,Zr,Zz];refine Sz0 ?_;refine Qz (by repeat (first|exact Qs|exact Ql|exact Qm|exact Qn|exact Qo|apply Qk|apply Qr|apply Qw|apply Q5|apply Q6|apply Qi)) [(6,10),(13,33)] [8,9] (fun n J hp=>∃i,n=p.length-i/\i<=p.length/\(i<=q.length)/\gT (p.drop i) (q.drop i)=gT p q/\J 13= .int .i64 (i:Nat)) p.length ?_ ?_
 ·refine⟨0,rfl,by omega,by omega,rfl,?_⟩;refine Sz0 ?_;rfl
 rintro _ J h ⟨i,rfl,hi,iG,fY,bV⟩;refine Sz1 bV ?_;refine Qb (fun hg=>?_) (fun hg=>?_)
 ·have aC:i<p.length:=by omega
  have bc:=hp.get aC;have hdp:p.drop i=p[i]::p.drop (i+1):=Kaz aC;have MR:=fun hk=>Uw (q:=q) aC hk;generalize hx:p[i]=x at *
  refine Sz2 bV hx ?_;refine Qb (fun hk=>?_) (fun hk=>?_)
  ·rw[hdp,Kal (show q.length<=i by omega),gT]at fY;refine Sz0 ?_;exact Qd (by rw[fY]) rfl
  ·have dY:i<q.length:=by omega
   have oy:=hq.get dY;have MR:=MR dY;generalize hy:q[i]=y at *
   rw[MR]at fY;refine Sz3 bV hx hy ?_;refine Qa hP (YN (s:=x) (t:=y) bc oy hK hE) rfl rfl rfl ?_;refine Sz3 bV hx hy ?_;refine Qb (fun hc=>?_) (fun hc=>?_)
   ·rw[if_pos hc]at fY;refine Sz0 ?_;exact Qd (by rw[fY]) rfl
   ·rw[if_neg hc]at fY;refine Sz1 bV ?_;refine Qh (p.length-(i+1)) (by omega) ⟨i+1,rfl,by omega,by omega,fY,?_⟩;exact Tz0
 ·obtain rfl:i=p.length:=by omega
  rw[Kal (Kac _),zZ]at fY;refine Sz0 ?_;refine Qb (fun hk=>?_) (fun hk=>?_)
  ·rw[if_neg (by rw[Ka5];omega)]at fY;refine Sz0 ?_;exact Qd (by rw[fY]) rfl
  ·rw[if_pos (by rw[Ka5];omega)]at fY;refine Sz0 ?_;exact Qd (by rw[fY]) rfl
theorem Q8k{p q:List Tm}{K E:Nat}(hp:PB K E p)(hq:PB K E q)(hK:K<=2^33)(hE:E<=2^38)(bW:p.length<=2^36)(ir:q.length<=2^36):Qc Tryz.prog 68 [PV.aj p,PV.aj q] (· = .int .i64 (gT p q)):=by refine Qf Qj Tryz.func68 rfl aic (by simp[La]) fun C hP=>?_;simp only[La,Zo,Zg,Zm,Zc,Zf,Zl,Zh,Zs,Zi,Zb,Zk,Zn,Zu,Zq,Zr,Zz];refine Sz0 ?_;refine Qa hP (Qsj hp hq hK hE bW ir) rfl rfl rfl ?_;refine Sz0 ?_;exact Qd rfl rfl
end Go.Proofs.YtdjoomkeehihmaaGreat
namespace Go.FW
open Go
def aX(φ:List Int->Rat):List Tm->Rat
 | []=>0
 |t::p=>t.1*φ t.2+aX φ p
theorem iy(φ:List Int->Rat):aX φ []=0:=rfl
theorem eu(φ:List Int->Rat)(t:Tm)(p:List Tm):aX φ (t::p)=t.1*φ t.2+aX φ p:=rfl
theorem kU{φ ψ:List Int->Rat}:∀ {p:List Tm},(∀t∈p,φ t.2=ψ t.2)->aX φ p=aX ψ p
 | [],_=>rfl
 |t::p,h=>by rw[eu,eu,h t (by simp),kU (p:=p) (fun x hx=>h x (by simp[hx]))]
theorem O7(φ ψ:List Int->Rat):∀(p:List Tm),aX (fun m=>φ m+ψ m) p=aX φ p+aX ψ p
 | []=>by simp only[iy];grind
 |t::p=>by simp only[eu];rw[O7 φ ψ p];grind
theorem Oj(c:Rat)(φ:List Int->Rat):∀(p:List Tm),aX (fun m=>c*φ m) p=c*aX φ p
 | []=>by simp only[iy];grind
 |t::p=>by simp only[eu];rw[Oj c φ p];grind
theorem Ok:∀(p:List Tm),aX (fun _=>0) p=0
 | []=>rfl
 |t::p=>by simp only[eu];rw[Ok p];grind
theorem xu(ψ:List Int->List Int->Rat)(q:List Tm):∀(p:List Tm),aX (fun m=>aX (fun n=>ψ m n) q) p=aX (fun n=>aX (fun m=>ψ m n) p) q
 | []=>by simp only[iy];rw[Ok]
 |t::p=>by simp only[eu];rw[xu ψ q p,O7 (fun n=>t.1*ψ t.2 n),Oj]
def Can(p:List Tm):Prop:=∀t∈p,t.2.getLast? ≠some 0
def NZ(p:List Tm):Prop:=∀t∈p,t.1≠0
structure au(p:List Tm):Prop where
 c:Can p
 z:NZ p
 s:e9 p
theorem Can.cons{t:Tm}{p:List Tm}:Can (t::p)↔t.2.getLast? ≠some 0/\Can p:=by simp[Can]
theorem NZ.cons{t:Tm}{p:List Tm}:NZ (t::p)↔t.1≠0/\NZ p:=by simp[NZ]
theorem au.nil:au []:=⟨by simp[Can],by simp[NZ],trivial⟩
theorem au.tail{t:Tm}{p:List Tm}(h:au (t::p)):au p:=⟨(Can.cons.1 h.c).2,(NZ.cons.1 h.z).2,h.s.2⟩
theorem au.one{t:Tm}(h:t.1≠0)(hm:t.2.getLast? ≠some 0):au [t]:=⟨by simpa[Can]using hm,by simpa[NZ]using h,⟨by simp,trivial⟩⟩
theorem rE.ny{p:List Tm}(h:rE p):au p:=⟨fun t ht=>Su (h.t t ht).m,fun t ht=>(h.t t ht).c,h.s⟩
theorem Ho{E:Nat}{a:List Int}(h:MB E a)(hE:E<=1048576)(hl:a.getLast? ≠some 0):fy a=true:=by simp only[fy,Kat,decide_eq_true_eq,Kay];exact⟨h.len,hl,fun x hx=>⟨h.lo x hx,by have:=h.hi x hx;omega⟩⟩
theorem au.Nm{K E:Nat}{p:List Tm}(h:au p)(hb:PB K E p)(hE:E<=1048576):rE p:=
 ⟨fun t ht=>⟨h.z t ht,Ho (hb t ht).m hE (hb t ht).l⟩,h.s⟩
theorem oF{φ:List Int->Rat}:∀ {p q:List Tm},Can p->Can q->aX φ (Q8 p q)=aX φ p+aX φ q:=by
 intro p q;induction p,q using Q8.induct with
 |case1 q=>rw[Q8,iy];intros;grind
 |case2 p h=>rw[kV,iy];intros;grind
 |case3 c m p d l q h ih=>intro hp hq;rw[Q8,if_pos h,eu,eu,ih (Can.cons.1 hp).2 hq];grind
 |case4 c m p d l q h1 h2 ih=>intro hp hq;rw[Q8,if_neg h1,if_pos h2,eu,ih hp (Can.cons.1 hq).2,eu φ (d,l)];grind
 |case5 c m p d l q h1 h2 h3 ih=>
  intro hp hq;have e:=GW h1 h2 (Can.cons.1 hp).1 (Can.cons.1 hq).1;rw[Q8,if_neg h1,if_neg h2,if_pos h3,ih (Can.cons.1 hp).2 (Can.cons.1 hq).2,eu,eu];subst e;have:c*φ m+d*φ m=0:=by rw[<-Rat.add_mul,h3];grind
  grind
 |case6 c m p d l q h1 h2 h3 ih=>intro hp hq;have e:=GW h1 h2 (Can.cons.1 hp).1 (Can.cons.1 hq).1;rw[Q8,if_neg h1,if_neg h2,if_neg h3,eu,ih (Can.cons.1 hp).2 (Can.cons.1 hq).2,eu,eu];subst e;grind
theorem tv:∀ {p q:List Tm} {t:Tm},t∈Q8 p q->(∃s∈p,s.2=t.2)∨(∃s∈q,s.2=t.2):=by
 intro p q;induction p,q using Q8.induct with
 |case1 q=>rw[Q8];intro t ht;exact Or.inr ⟨t,ht,rfl⟩
 |case2 p h=>rw[kV];intro t ht;exact Or.inl ⟨t,ht,rfl⟩
 | case3 c m p d l q h ih=>
  intro t ht;rw[Q8,if_pos h]at ht;rcases KaQ.1 ht with rfl|ht
  ·exact Or.inl ⟨_,by simp,rfl⟩
  ·rcases ih ht with⟨s,h1,h2⟩|h1
   ·exact Or.inl ⟨s,by simp[h1],h2⟩
   ·exact Or.inr h1
 | case4 c m p d l q h1 h2 ih=>
  intro t ht;rw[Q8,if_neg h1,if_pos h2]at ht;rcases KaQ.1 ht with rfl|ht
  ·exact Or.inr ⟨_,by simp,rfl⟩
  ·rcases ih ht with h3|⟨s,h3,h4⟩
   ·exact Or.inl h3
   ·exact Or.inr ⟨s,by simp[h3],h4⟩
 |case5 c m p d l q h1 h2 h3 ih=>
  intro t ht;rw[Q8,if_neg h1,if_neg h2,if_pos h3]at ht;rcases ih ht with⟨s,h4,h5⟩|⟨s,h4,h5⟩
  ·exact Or.inl ⟨s,by simp[h4],h5⟩
  ·exact Or.inr ⟨s,by simp[h4],h5⟩
 | case6 c m p d l q h1 h2 h3 ih=>
  intro t ht;rw[Q8,if_neg h1,if_neg h2,if_neg h3]at ht;rcases KaQ.1 ht with rfl|ht
  ·exact Or.inl ⟨(c,m),by simp,rfl⟩
  ·rcases ih ht with⟨s,h4,h5⟩|⟨s,h4,h5⟩
   ·exact Or.inl ⟨s,by simp[h4],h5⟩
   ·exact Or.inr ⟨s,by simp[h4],h5⟩
theorem Ol{p q:List Tm}(hp:Can p)(hq:Can q):Can (Q8 p q):=fun t ht=>by
 rcases tv ht with⟨s,h1,h2⟩|⟨s,h1,h2⟩
 ·rw[<-h2];exact hp s h1
 ·rw[<-h2];exact hq s h1
theorem af8:∀ {p q:List Tm},NZ p->NZ q->NZ (Q8 p q):=by
 intro p q;induction p,q using Q8.induct with
 |case1 q=>rw[Q8];exact fun _ h=>h
 |case2 p h=>rw[kV];exact fun h _=>h
 |case3 c m p d l q h ih=>intro hp hq;rw[Q8,if_pos h,NZ.cons];exact⟨(NZ.cons.1 hp).1,ih (NZ.cons.1 hp).2 hq⟩
 |case4 c m p d l q h1 h2 ih=>intro hp hq;rw[Q8,if_neg h1,if_pos h2,NZ.cons];exact⟨(NZ.cons.1 hq).1,ih hp (NZ.cons.1 hq).2⟩
 |case5 c m p d l q h1 h2 h3 ih=>intro hp hq;rw[Q8,if_neg h1,if_neg h2,if_pos h3];exact ih (NZ.cons.1 hp).2 (NZ.cons.1 hq).2
 |case6 c m p d l q h1 h2 h3 ih=>intro hp hq;rw[Q8,if_neg h1,if_neg h2,if_neg h3,NZ.cons];exact⟨h3,ih (NZ.cons.1 hp).2 (NZ.cons.1 hq).2⟩
theorem Q8l{a b c:List Int}(h:aR a b=0)(h2:0<aR b c):0<aR a c:=by
 have e:∀i,eN a i=eN b i:=by
  intro i;have:=(C6 a b _).1 h;by_cases hi:i<max a.length b.length
  ·exact this i hi
  ·rw[fB (by omega),fB (by omega)]
 rw[ZU e (fun _=>rfl)];exact h2
theorem Sb:∀ {p q:List Tm},e9 p->e9 q->e9 (Q8 p q):=by
 intro p q;induction p,q using Q8.induct with
 |case1 q=>rw[Q8];exact fun _ h=>h
 |case2 p h=>rw[kV];exact fun h _=>h
 | case3 c m p d l q h ih=>
  intro hp hq;rw[Q8,if_pos h];refine⟨fun t ht=>?_,ih hp.2 hq⟩;rcases tv ht with⟨s,h1,h2⟩|⟨s,h1,h2⟩
  ·rw[<-h2];exact hp.1 s h1
  ·rw[<-h2];rcases KaQ.1 h1 with rfl|h1
   ·exact h
   ·exact wT h (hq.1 s h1)
 | case4 c m p d l q h1 h2 ih=>
  intro hp hq;rw[Q8,if_neg h1,if_pos h2];have mY:0<aR l m:=by have:=vh m l;omega
  refine⟨fun t ht=>?_,ih hp hq.2⟩;rcases tv ht with⟨s,h3,h4⟩|⟨s,h3,h4⟩
  ·rw[<-h4];rcases KaQ.1 h3 with rfl|h3
   ·exact mY
   ·exact wT mY (hp.1 s h3)
  ·rw[<-h4];exact hq.1 s h3
 |case5 c m p d l q h1 h2 h3 ih=>intro hp hq;rw[Q8,if_neg h1,if_neg h2,if_pos h3];exact ih hp.2 hq.2
 |case6 c m p d l q h1 h2 h3 ih=>
  intro hp hq;rw[Q8,if_neg h1,if_neg h2,if_neg h3];refine⟨fun t ht=>?_,ih hp.2 hq.2⟩;rcases tv ht with⟨s,h4,h5⟩|⟨s,h4,h5⟩
  ·rw[<-h5];exact hp.1 s h4
  ·rw[<-h5];exact Q8l (b:=l) (by show aR m l=0;omega) (hq.1 s h4)
theorem nJ{p q:List Tm}(hp:au p)(hq:au q):au (Q8 p q):=⟨Ol hp.c hq.c,af8 hp.z hq.z,Sb hp.s hq.s⟩
def ind(m:List Int):List Int->Rat:=fun n=>if n=m then 1 else 0
theorem CI{m:List Int}:∀ {p:List Tm},(∀t∈p,t.2≠m)->aX (ind m) p=0
 | [],_=>rfl
 |t::p,h=>by rw[eu,CI (p:=p) (fun x hx=>h x (by simp[hx])),ind,if_neg (h t (by simp))];grind
theorem tJ{a b:List Int}(h:0<aR a b):b≠a:=by rintro rfl;rw[C8]at h;omega
theorem wX{t:Tm}{p:List Tm}(h:e9 (t::p)):aX (ind t.2) (t::p)=t.1:=by rw[eu,CI (fun s hs=>tJ (h.1 s hs)),ind,if_pos rfl];grind
theorem qL:∀ {p q:List Tm},au p->au q->(∀φ,aX φ p=aX φ q)->p=q
 | [],[],_,_,_=>rfl
 | [],t::q,_,hq,h=>by have:=h (ind t.2);rw[wX hq.s,iy]at this;exact absurd this.symm (hq.z t (by simp))
 |t::p,[],hp,_,h=>by have:=h (ind t.2);rw[wX hp.s,iy]at this;exact absurd this (hp.z t (by simp))
 | s ::p,t::q,hp,hq,h=>by
  by_cases h1:0<aR s.2 t.2
  ·have:=h (ind s.2);rw[wX hp.s,CI (fun x hx=>?_)]at this
   ·exact absurd this (hp.z s (by simp))
   ·rcases KaQ.1 hx with rfl|hx
    ·exact tJ h1
    ·exact tJ (wT h1 (hq.s.1 x hx))
  ·by_cases h2:aR s.2 t.2<0
   ·have mY:0<aR t.2 s.2:=by have:=vh s.2 t.2;omega
    have:=h (ind t.2);rw[wX hq.s,CI (fun x hx=>?_)]at this
    ·exact absurd this.symm (hq.z t (by simp))
    ·rcases KaQ.1 hx with rfl|hx
     ·exact tJ mY
     ·exact tJ (wT mY (hp.s.1 x hx))
   ·have e:=GW h1 h2 (hp.c s (by simp)) (hq.c t (by simp));have e2:=h (ind s.2);rw[wX hp.s,e,wX hq.s]at e2;have e3:s=t:=Prod.ext e2 e;subst e3;rw[qL hp.tail hq.tail (fun φ=>by have:=h φ;rw[eu,eu]at this;grind)]
theorem abv{φ:List Int->Rat}:∀(n:Nat)(l:List (List Tm)),l.length<=n->(∀p∈l,Can p)->Can (cQ l)/\aX φ (cQ l)=(l.map (aX φ)).sum:=by
 intro n;induction n with
 |zero=>intro l hl _;have:l=[]:=Kas.1 (by omega);subst this;rw[cQ];exact⟨au.nil.c,rfl⟩
 | succ n ih=>
  intro l hl h
  match l,h with
  | [],_=>rw[cQ];exact⟨au.nil.c,rfl⟩
  | [p],h=>rw[cQ];exact⟨h p (by simp),by simp;grind⟩
  |p::q::r,h=>
   rw[zK (by simp)];generalize hL:p::q::r=L at *
   have hlen:2<=L.length:=by rw[<-hL];simp
   obtain⟨a1,a2⟩:=ih (L.take (L.length/2)) (by rw[KaF];omega) (fun x hx=>h x (Kbc hx));obtain⟨b1,b2⟩:=ih (L.drop (L.length/2)) (by rw[Ka5];omega) (fun x hx=>h x (Kbw hx));refine⟨Ol a1 b1,?_⟩;rw[oF a1 b1,a2,b2,<-List.sum_append,<-List.map_append,Kbo]
theorem adK:∀(n:Nat)(l:List (List Tm)),l.length<=n->(∀p∈l,au p)->au (cQ l):=by
 intro n;induction n with
 |zero=>intro l hl _;have:l=[]:=Kas.1 (by omega);subst this;rw[cQ];exact au.nil
 | succ n ih=>
  intro l hl h
  match l,h with
  | [],_=>rw[cQ];exact au.nil
  | [p],h=>rw[cQ];exact h p (by simp)
  | p::q::r,h=>
   rw[zK (by simp)];generalize hL:p::q::r=L at *
   have hlen:2<=L.length:=by rw[<-hL];simp
   exact nJ (ih (L.take (L.length/2)) (by rw[KaF];omega) (fun x hx=>h x (Kbc hx)))
    (ih (L.drop (L.length/2)) (by rw[Ka5];omega) (fun x hx=>h x (Kbw hx)))
theorem CU(φ:List Int->Rat)(t:Tm):∀(p:List Tm),aX φ (bd p t)=t.1*aX (fun m=>φ (bC m t.2)) p
 | []=>by rw[bd,List.filterMap_nil,iy,iy];grind
 | s::p=>by
  have ih:=CU φ t p;rw[bd]at ih⊢;rw[Kbg];by_cases h:s.1*t.1=0
  ·simp only[h,if_true,eu];rw[ih];have:t.1*(s.1*φ (bC s.2 t.2))=(s.1*t.1)*φ (bC s.2 t.2):=by grind
   rw[Rat.mul_add,this,h];grind
  ·simp only[h,if_false,eu];rw[ih];grind
theorem G3(p:List Tm)(t:Tm):Can (bd p t):=by
 intro x hx;simp only[bd,KbR]at hx;obtain⟨y,hy,h⟩:=hx;split at h
 ·cases h
 ·cases h;exact pA _ _
theorem abw(p:List Tm)(t:Tm):NZ (bd p t):=by
 intro x hx;simp only[bd,KbR]at hx;obtain⟨y,hy,h⟩:=hx;split at h
 ·cases h
 ·rename_i h0;cases h;exact h0
theorem RO(t:Tm):∀(p:List Tm),e9 p->e9 (bd p t)
 | [],_=>trivial
 | s ::p,hp=>by
  have ih:=RO t p hp.2;rw[bd]at ih⊢;rw[Kbg];split
  ·exact ih
  ·rename_i b hb;split at hb
   ·cases hb
   ·cases hb;refine⟨fun x hx=>?_,ih⟩;simp only[KbR]at hx;obtain⟨y,hy,h⟩:=hx;split at h
    ·cases h
    ·cases h;simp only[adt];exact hp.1 y hy
theorem G4{p:List Tm}(t:Tm)(hp:e9 p):au (bd p t):=⟨G3 _ _,abw _ _,RO t p hp⟩
theorem Tx(φ:List Int->Rat)(q:List Tm):∀(p:List Tm),((p.map (bd q)).map (aX φ)).sum=aX (fun m=>aX (fun n=>φ (bC m n)) q) p
 | []=>rfl
 |t::p=>by rw[Kba,Kba,Kdi,Tx φ q p,CU,eu];congr 2;exact kU fun s _=>by rw[xe]
theorem TX(φ:List Int->Rat)(p q:List Tm):aX φ (oK p q)=aX (fun m=>aX (fun n=>φ (bC m n)) q) p:=by rw[oK,(abv (φ:=φ) _ _ (Kac _) ?_).2,Tx];intro x hx;obtain⟨t,_,rfl⟩:=KaE.1 hx;exact G3 _ _
theorem ie(φ:List Int->Rat)(p q:List Tm):aX φ (Q4 p q)=aX (fun m=>aX (fun n=>φ (bC m n)) q) p:=by
 unfold Q4;split
 ·rw[TX,xu (fun m n=>φ (bC m n))];exact kU fun s _=>kU fun t _=>by rw[xe]
 ·exact TX φ p q
theorem TY{p q:List Tm}(hq:e9 q):au (oK p q):=adK _ _ (Kac _) fun x hx=>by obtain⟨t,_,rfl⟩:=KaE.1 hx;exact G4 t hq
theorem dC{p q:List Tm}(hp:e9 p)(hq:e9 q):au (Q4 p q):=by
 unfold Q4;split
 ·exact TY hp
 ·exact TY hq
theorem G5(φ:List Int->Rat){p:List Tm}(hp:Can p)(a:Rat):aX φ (b8 p a)=a*aX φ p:=by
 unfold b8;split
 ·rename_i h;rw[h,iy];grind
 ·rw[CU];congr 1;exact kU fun s hs=>by rw[tu (hp s hs)]
theorem qB{p:List Tm}(hp:e9 p)(a:Rat):au (b8 p a):=by
 unfold b8;split
 ·exact au.nil
 ·exact G4 _ hp
theorem adL(φ:List Int->Rat){p:List Tm}(hp:Can p):aX φ (kZ p)= -aX φ p:=by rw[kZ,G5 φ hp];grind
theorem Hu(φ:List Int->Rat){p q:List Tm}(hp:Can p)(hq:au q):aX φ (fM p q)=aX φ p-aX φ q:=by rw[fM,oF hp (show Can (kZ q)from(qB hq.s _).c),adL φ hq.c];grind
theorem vj{p q:List Tm}(hp:au p)(hq:au q):au (fM p q):=nJ hp (qB hq.s _)
theorem Db{p q:List Tm}(hp:au p)(hq:au q):Q4 p q=Q4 q p:=
 qL (dC hp.s hq.s) (dC hq.s hp.s) fun φ=>by rw[ie,ie,xu (fun m n=>φ (bC m n))];exact kU fun s _=>kU fun t _=>by rw[xe]
theorem CV{p q r:List Tm}(hp:au p)(hq:au q)(hr:au r):Q4 (Q4 p q) r=Q4 p (Q4 q r):=
 qL (dC (dC hp.s hq.s).s hr.s) (dC hp.s (dC hq.s hr.s).s) fun φ=>by rw[ie,ie,ie];refine kU fun s _=>?_;rw[ie (fun n=>φ (bC s.2 n))];exact kU fun t _=>kU fun u _=>by rw[Zv]
theorem TZ{p q r:List Tm}(hp:au p)(hq:au q)(hr:au r):Q4 (Q8 p q) r=Q8 (Q4 p r) (Q4 q r):=
 qL (dC (Sb hp.s hq.s) hr.s) (nJ (dC hp.s hr.s) (dC hq.s hr.s)) fun φ=>by rw[ie,oF (dC hp.s hr.s).c (dC hq.s hr.s).c,ie,ie,oF hp.c hq.c]
theorem w9(a:Rat):au (dk a):=by
 unfold dk;split
 ·exact au.nil
 ·rename_i h;exact au.one h (by simp)
theorem Q8m(φ:List Int->Rat)(a:Rat):aX φ (dk a)=a*φ []:=by
 unfold dk;split
 ·rename_i h;rw[h,iy];grind
 ·rw[eu,iy];grind
theorem Om{p:List Tm}(hp:au p):Q4 (dk 1) p=p:=
 qL (dC (w9 1).s hp.s) hp fun φ=>by
  rw[ie,Q8m];have:aX (fun n=>φ (bC [] n)) p=aX φ p:=kU fun s hs=>by rw[xe,tu (hp.c s hs)]
  rw[this];grind
def mM(p q:List Tm):List Tm:=q.foldl (fun out t=>Q8 out (bd p t)) []
theorem Ua(p:List Tm)(hp:au p):∀(q out:List Tm),au out->au (q.foldl (fun out t=>Q8 out (bd p t)) out)/\
  ∀φ,aX φ (q.foldl (fun out t=>Q8 out (bd p t)) out)=aX φ out+aX (fun m=>aX (fun n=>φ (bC n m)) p) q
 | [],out,h=>⟨h,fun φ=>by rw[List.foldl_nil,iy];grind⟩
 |t::q,out,h=>by obtain⟨h1,h2⟩:=Ua p hp q (Q8 out (bd p t)) (nJ h (G4 t hp.s));refine⟨h1,fun φ=>?_⟩;rw[KcJ,h2,oF h.c (G3 _ _),CU,eu];grind
theorem tw{p q:List Tm}(hp:au p)(hq:au q):mM p q=Q4 p q:=by obtain⟨h1,h2⟩:=Ua p hp q [] au.nil;refine qL h1 (dC hp.s hq.s) fun φ=>?_;rw[mM,h2,ie,iy,xu (fun m n=>φ (bC m n))];grind
variable {C : Ctx} {fr : Fr} {hp : HP} {w : World} {K R : Qg}
theorem YO{e by_ ty d:Nat}(h0:0<e):iO e by_ ty .aa (.sl e []) d fr hp K=K (af (cK d fr) d (.ms d 0)) (Qy hp d ⟨e,ty,[],false⟩):=by have:=CP (fr:=fr) (hp:=hp) (K:=K) (e:=e) (by_:=by_) (ty:=ty) (d:=d) (x:=.sl e []) (ys:=[]) rfl h0 (by simp) (by simp);simpa using this
def bh(p:List Tm):Bool:=decide (4000<p.length)||p.any fun t=>t.2.any fun x=>decide (1048576<x)
end Go.FW
namespace Go.FW
open Go
theorem IC{m:List Int}{c:Rat}:∀ {u v:List Tm},(∀t∈u,0<aR t.2 m)->(∀t∈v,aR t.2 m<0)->Q8 (u++v) [(c,m)]=u++(c,m)::v
 | [],[],_,_=>by rw[KaM,pE];rfl
 | [],t::v,_,hv=>by have h1:=hv t (by simp);rw[KaM,zL,if_neg (by show ¬0<aR t.2 m;omega),if_pos (by exact h1),kV];rfl
 |t::u,v,hu,hv=>by rw[KaP,zL,if_pos (by exact hu t (by simp)),IC (fun s hs=>hu s (by simp[hs])) hv];rfl
theorem O8{m:List Int}{c d:Rat}:∀ {u v:List Tm},(∀t∈u,0<aR t.2 m)->Q8 (u++(d,m)::v) [(c,m)]=u++(if d+c=0 then []else [(d+c,m)])++v
 | [],v,_=>by have h0:=C8 m;rw[KaM,zL,if_neg (by show ¬0<aR m m;omega),if_neg (by show ¬aR m m<0;omega)];show(if d+c=0 then Q8 v []else(d+c,m)::Q8 v [])=_;rw[kV];split<;>rfl
 |t::u,v,hu=>by rw[KaP,zL,if_pos (by exact hu t (by simp)),O8 (fun s hs=>hu s (by simp[hs]))];simp
def jg(p:List Tm)(c:Rat)(m:List Int):List Tm:=Q8 p (if c=0 then []else [(c,m)])
theorem XZ{p:List Tm}(hs:e9 p):∀ {i:Nat} (h:i<p.length),∀t∈p.take i,0<aR t.2 p[i].2:=by
 induction p with
 |nil=>intro i h;simp at h
 | cons s p ih=>
  intro i h t ht;cases i with
  |zero=>simp at ht
  |succ i=>
   simp only[List.take_succ_cons,KaQ]at ht;have hi:i<p.length:=by simpa using h
   show 0<aR t.2 p[i].2;rcases ht with rfl|ht
   ·exact hs.1 _ (Kag hi)
   ·exact ih hs.2 hi t ht
theorem QJ{c:Rat}{m:List Int}(hl:m.getLast? ≠some 0):au (if c=0 then []else [(c,m)]):=by
 split
 ·exact au.nil
 ·rename_i h;exact au.one h hl
theorem abx{p:List Tm}{c:Rat}{m:List Int}(hp:au p)(hl:m.getLast? ≠some 0):au (jg p c m):=nJ hp (QJ hl)
theorem aby{φ:List Int->Rat}{p:List Tm}{c:Rat}{m:List Int}(hp:Can p)(hl:m.getLast? ≠some 0):aX φ (jg p c m)=aX φ p+c*φ m:=by
 rw[jg,oF hp (QJ hl).c];split
 ·rename_i h;rw[h,iy];grind
 ·rw[eu,iy];grind
def cx(p:List Tm):Nat->List Tm
 |0=>dk 1
 |n+1=>Q4 (cx p n) p
theorem tz{p:List Tm}(hp:au p):∀n,au (cx p n)
 |0=>w9 1
 |n+1=>dC (tz hp n).s hp.s
def r7{α:Type}(g:α->Bool)(l:List α):Int:=match l.findIdx? g with
 |some i=>i
 |none=> -1
theorem Hp{α:Type}(g:α->Bool)(l:List α):decide (0<=r7 g l)=l.any g:=by
 unfold r7;cases h:l.findIdx? g with
 |none=>rw[List.findIdx?_eq_none_iff]at h;symm;show l.any g=decide ((0:Int)<= -1);rw[show decide ((0:Int)<= -1)=false from rfl,KbC];intro x hx;simp[h x hx]
 |some i=>obtain⟨hi,h1,_⟩:=List.findIdx?_eq_some_iff_getElem.1 h;symm;show l.any g=decide ((0:Int)<=(i:Int));rw[decide_eq_true (by omega),Ka4];exact⟨_,Kag hi,h1⟩
theorem Hv{α:Type}{g:α->Bool}{l:List α}{i:Nat}(hi:i<l.length)(h1:g l[i]=true)(h2:∀j (h:j<l.length),j<i->g l[j]=false):r7 g l=i:=by unfold r7;rw[List.findIdx?_eq_some_iff_getElem.2 ⟨hi,h1,fun j hj=>by simp[h2 j (by omega) hj]⟩]
theorem G6{α:Type}{g:α->Bool}{l:List α}(h2:∀j (h:j<l.length),g l[j]=false):r7 g l= -1:=by unfold r7;rw[List.findIdx?_eq_none_iff.2 (fun x hx=>by obtain⟨j,hj,rfl⟩:=Kbe hx;exact h2 j hj)]
end Go.FW
