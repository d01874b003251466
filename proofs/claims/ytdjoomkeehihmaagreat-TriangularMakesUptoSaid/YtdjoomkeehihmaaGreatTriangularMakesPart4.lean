/- Part 4 of the proof of TriangularMakes: C1, CM, CP, CI, C1b, N1, N2, N3, N4, N5, N6, N7, N8, N9, N10, N11, N12, N13, N14, N15, I1, R1, R2, R3, R4, M1, M2, P1, P2, P3, FwQA, FwSD. Own lemmas; no conditions. -/
import Derived.Test.YtdjoomkeehihmaaGreatTriangularMakesPart3
import Derived.Test.YtdjoomkeehihmaaGreatProg
set_option maxHeartbeats 1000000
set_option linter.unusedSimpArgs false
set_option linter.unusedVariables false
set_option linter.unnecessarySimpa false
set_option maxRecDepth 100000
namespace Go.Proofs.YtdjoomkeehihmaaGreat
open Go Go.FW
theorem Qj:Tryz.prog.follows .mixedOrders=true:=by kernel_rfl
def yE:az:=⟨21,[.t 2],Zr (Zo (.mv 2 (.c .aa)) .nil)<|Zr (Zm 4 0<|Zn 5 4<|Zm 3 5 .nil)<| .seq (.block 0<| .loop<| .seq (Zr (Zm 6 3<|Zk 7 .gtr 6 0<|Zm 8 7<|Zg 8 true (.mv 9 (.t 0))<|Zg 8 true (.mv 10 (.t 3))<|Zg 8 true (.bin 11 .sub false (.t 10) (.c (Zz 1)))<|Zg 8 true (.idx 12 1 (.t 9) (.t 11))<|Zg 8 true (.ld 13 1 false (.t 12))<|Zg 8 true (.bin 14 .eql false (.t 13) (.c (.int .u16 0)))<|Zo (.pick 15 (.t 8) (.t 14) (.c (.bool false))) .nil)<| .cond (.t 15) .skip (.exit 0))<| .block 1<| .rg (Zm 16 3<|Zk 17 .sub 16 1<|Zm 3 17 .nil))<|Zr (Zm 18 0<|Zm 19 3<|Zo (.sl 20 1 (.t 18) none (some (.t 19)) none)<|Zm 2 20 .nil) .ret⟩
theorem OX:Qe Tryz.prog Tryz.f143=some yE:=by kernel_rfl
def KR:az:=⟨16,[.t 2],Zr (Zo (.mv 2 (.c .aa)) .nil)<|Zr (Zm 4 0<|Zq 5 false 143 [.t 4]<|Zm 0 5 .nil)<| .seq (Zr (Zm 6 0<|Zn 7 6<|Zk 8 .eql 7 0 .nil)<| .cond (.t 8) (Zr (Zo (.mv 2 (.c .aa)) .nil) .ret) .skip)<|Zr (Zm 9 0<|Zn 10 9<|Zo (.mk 11 1 2 76 (.int .u16 0) (.t 10) (.t 10))<|Zm 3 11 .nil)<|Zr (Zm 12 3<|Zm 13 0<|Zo (.tD 14 1 (.t 12) (.t 13)) .nil)<|Zr (Zm 15 3<|Zm 2 15 .nil) .ret⟩
theorem aho:Qe Tryz.prog Tryz.f86=some KR:=by kernel_rfl
def KT:az:=⟨14,[.t 2],Zr (Zo (.mv 2 (.c .aa)) .nil)<|Zr (Zo (.mv 3 (.c .aa)) .nil)<| .seq (.block 0<| .loop<| .seq (Zr (Zm 4 0<|Zo (.bin 5 .gtr false (.t 4) (.c (.int .u64 0))) .nil)<| .cond (.t 5) .skip (.exit 0))<| .seq (.block 1<| .rg (Zm 8 3<|Zm 9 0<|Zo (.conv 10 .u16 (.t 9))<|Zo (.bs 11 1 76 [.t 10])<|Zo (.app 12 1 2 76 (.t 8) (.t 11))<|Zm 3 12 .nil))<| .rg (Zm 6 0<|Zo (.bin 7 .shr false (.t 6) (.c (.int .u64 16)))<|Zm 0 7 .nil))<|Zr (Zm 13 3<|Zm 2 13 .nil) .ret⟩
theorem ahp:Qe Tryz.prog Tryz.f88=some KT:=by kernel_rfl
def KS:az:=⟨28,[.t 2,.t 3],Zr (Zo (.mv 2 (.c (.int .u64 0)))<|Zo (.mv 3 (.c (.bool false))) .nil)<|Zr (Zm 7 0<|Zq 8 false 143 [.t 7]<|Zm 0 8 .nil)<| .seq (Zr (Zm 9 0<|Zn 10 9<|Zk 11 .gtr 10 4 .nil)<| .cond (.t 11) (Zr (Zo (.mv 2 (.c (.int .u64 0)))<|Zo (.mv 3 (.c (.bool false))) .nil) .ret) .skip)<|Zr (Zo (.mv 4 (.c (.int .u64 0))) .nil)<| .seq (Zr (Zm 12 0<|Zn 13 12<|Zc 14 0 .nil)<| .block 0<| .loop<|Zr (Zb 15 .lss 14 13 .nil)<| .seq (.cond (.t 15) .skip (.exit 0))<| .seq (.block 1<|Zr (Zm 16 14<|Zi 17 1 12 14<|Zl 18 1 17<|Zm 5 16<|Zm 6 18 .nil)<| .rg (Zm 19 4<|Zm 20 6<|Zo (.conv 21 .u64 (.t 20))<|Zm 22 5<|Zo (.bin 23 .mul false (.c (Zz 16)) (.t 22))<|Zb 24 .shl 21 23<|Zb 25 .or 19 24<|Zm 4 25 .nil))<| .rg (Zk 26 .add 14 1<|Zm 14 26 .nil))<|Zr (Zm 27 4<|Zm 2 27<|Zo (.mv 3 (.c (.bool true))) .nil) .ret⟩
theorem ahq:Qe Tryz.prog Tryz.f87=some KS:=by kernel_rfl
def K4:az:=⟨20,[.t 2],Zr (Zc 2 0 .nil)<|Zr (Zm 3 0<|Zq 4 false 143 [.t 3]<|Zm 0 4 .nil)<| .seq (Zr (Zm 5 0<|Zn 6 5<|Zk 7 .eql 6 0 .nil)<| .cond (.t 7) (Zr (Zc 2 0 .nil) .ret) .skip)<|Zr (Zm 8 0<|Zn 9 8<|Zk 10 .sub 9 1<|Zo (.bin 11 .mul false (.c (Zz 16)) (.t 10))<|Zm 12 0<|Zm 13 0<|Zn 14 13<|Zk 15 .sub 14 1<|Zi 16 1 12 15<|Zl 17 1 16<|Zq 18 false 151 [.t 17]<|Zb 19 .add 11 18<|Zm 2 19 .nil) .ret⟩
theorem ahr:Qe Tryz.prog Tryz.f96=some K4:=by kernel_rfl
def I':az:=⟨45,[.t 4],Zr (Zc 4 0 .nil)<|Zr (Zm 6 0<|Zq 7 false 143 [.t 6]<|Zm 8 1<|Zq 9 false 143 [.t 8]<|Zm 0 7<|Zm 1 9 .nil)<| .seq (Zr (Zm 10 0<|Zn 11 10<|Zm 12 1<|Zn 13 12<|Zb 14 .neq 11 13 .nil)<| .cond (.t 14) (.seq (Zr (Zm 15 0<|Zn 16 15<|Zm 17 1<|Zn 18 17<|Zb 19 .lss 16 18 .nil)<| .cond (.t 19) (Zr (Zc 4 (-1) .nil) .ret) .skip)<|Zr (Zc 4 1 .nil) .ret) .skip)<| .seq (Zr (Zm 20 0<|Zn 21 20<|Zk 22 .sub 21 1<|Zm 5 22 .nil)<| .block 0<| .loop<| .seq (Zr (Zm 23 5<|Zk 24 .geq 23 0 .nil)<| .cond (.t 24) .skip (.exit 0))<| .seq (.block 1<| .seq (Zr (Zm 27 0<|Zm 28 5<|Zi 29 1 27 28<|Zl 30 1 29<|Zm 31 1<|Zm 32 5<|Zi 33 1 31 32<|Zl 34 1 33<|Zb 35 .lss 30 34 .nil)<| .cond (.t 35) (Zr (Zc 4 (-1) .nil) .ret) .skip)<|Zr (Zm 36 0<|Zm 37 5<|Zi 38 1 36 37<|Zl 39 1 38<|Zm 40 1<|Zm 41 5<|Zi 42 1 40 41<|Zl 43 1 42<|Zb 44 .gtr 39 43 .nil)<| .cond (.t 44) (Zr (Zc 4 1 .nil) .ret) .skip)<| .rg (Zm 25 5<|Zk 26 .sub 25 1<|Zm 5 26 .nil))<|Zr (Zc 4 0 .nil) .ret⟩
theorem aeS:Qe Tryz.prog Tryz.f144=some I':=by kernel_rfl
def JF:az:=⟨64,[.t 4],Zr (Zo (.mv 4 (.c .aa)) .nil)<|Zr (Zm 9 0<|Zq 10 false 143 [.t 9]<|Zm 11 1<|Zq 12 false 143 [.t 11]<|Zm 0 10<|Zm 1 12 .nil)<| .seq (Zr (Zm 13 0<|Zn 14 13<|Zm 15 1<|Zn 16 15<|Zb 17 .lss 14 16 .nil)<| .cond (.t 17) (.rg (Zm 18 1<|Zm 19 0<|Zm 0 18<|Zm 1 19 .nil)) .skip)<|Zr (Zm 20 0<|Zn 21 20<|Zm 22 0<|Zn 23 22<|Zk 24 .add 23 1<|Zo (.mk 25 1 2 76 (.int .u16 0) (.t 21) (.t 24))<|Zm 5 25 .nil)<|Zr (Zo (.mv 6 (.c (.int .u32 0))) .nil)<| .seq (Zr (Zm 26 0<|Zn 27 26<|Zc 28 0 .nil)<| .block 0<| .loop<|Zr (Zb 29 .lss 28 27 .nil)<| .seq (.cond (.t 29) .skip (.exit 0))<| .seq (.block 1<|Zr (Zm 30 28<|Zi 31 1 26 28<|Zl 32 1 31<|Zm 7 30<|Zm 8 32 .nil)<|Zr (Zm 33 6<|Zm 34 8<|Zo (.conv 35 .u32 (.t 34))<|Zb 36 .add 33 35<|Zm 6 36 .nil)<| .seq (Zr (Zm 37 7<|Zm 38 1<|Zn 39 38<|Zb 40 .lss 37 39 .nil)<| .cond (.t 40) (.rg (Zm 41 6<|Zm 42 1<|Zm 43 7<|Zi 44 1 42 43<|Zl 45 1 44<|Zo (.conv 46 .u32 (.t 45))<|Zb 47 .add 41 46<|Zm 6 47 .nil)) .skip)<|Zr (Zm 48 5<|Zm 49 7<|Zm 50 6<|Zo (.conv 51 .u16 (.t 50))<|Zi 52 1 48 49<|Zs 1 52 51 .nil)<| .rg (Zm 53 6<|Zo (.bin 54 .shr false (.t 53) (.c (.int .u64 16)))<|Zm 6 54 .nil))<| .rg (Zk 55 .add 28 1<|Zm 28 55 .nil))<| .seq (Zr (Zm 56 6<|Zo (.bin 57 .gtr false (.t 56) (.c (.int .u32 0))) .nil)<| .cond (.t 57) (.rg (Zm 58 5<|Zm 59 6<|Zo (.conv 60 .u16 (.t 59))<|Zo (.bs 61 1 76 [.t 60])<|Zo (.app 62 1 2 76 (.t 58) (.t 61))<|Zm 5 62 .nil)) .skip)<|Zr (Zm 63 5<|Zm 4 63 .nil) .ret⟩
theorem aeT:Qe Tryz.prog Tryz.f176=some JF:=by kernel_rfl
def JG:az:=⟨56,[.t 4,.t 5],Zr (Zo (.mv 4 (.c .aa))<|Zc 5 0 .nil)<| .seq (Zr (Zm 11 0<|Zm 12 1<|Zq 13 false 144 [.t 11,.t 12]<|Zk 14 .lss 13 0 .nil)<| .cond (.t 14) (Zr (Zo (.mv 4 (.c .aa))<|Zc 5 2 .nil) .ret) .skip)<|Zr (Zm 15 0<|Zq 16 false 143 [.t 15]<|Zm 17 1<|Zq 18 false 143 [.t 17]<|Zm 0 16<|Zm 1 18 .nil)<|Zr (Zm 19 0<|Zn 20 19<|Zo (.mk 21 1 2 76 (.int .u16 0) (.t 20) (.t 20))<|Zm 6 21 .nil)<|Zr (Zo (.mv 7 (.c (.int .i32 0))) .nil)<| .seq (Zr (Zm 22 0<|Zn 23 22<|Zc 24 0 .nil)<| .block 0<| .loop<|Zr (Zb 25 .lss 24 23 .nil)<| .seq (.cond (.t 25) .skip (.exit 0))<| .seq (.block 1<|Zr (Zm 26 24<|Zi 27 1 22 24<|Zl 28 1 27<|Zm 8 26<|Zm 9 28 .nil)<|Zr (Zm 29 9<|Zo (.conv 30 .i32 (.t 29))<|Zm 31 7<|Zb 32 .sub 30 31<|Zm 10 32 .nil)<| .seq (Zr (Zm 33 8<|Zm 34 1<|Zn 35 34<|Zb 36 .lss 33 35 .nil)<| .cond (.t 36) (.rg (Zm 37 10<|Zm 38 1<|Zm 39 8<|Zi 40 1 38 39<|Zl 41 1 40<|Zo (.conv 42 .i32 (.t 41))<|Zb 43 .sub 37 42<|Zm 10 43 .nil)) .skip)<|Zr (Zo (.mv 7 (.c (.int .i32 0))) .nil)<| .seq (Zr (Zm 44 10<|Zo (.bin 45 .lss false (.t 44) (.c (.int .i32 0))) .nil)<| .cond (.t 45) (Zr (Zm 46 10<|Zo (.bin 47 .add false (.t 46) (.c (.int .i32 65536)))<|Zm 10 47 .nil)<| .rg (Zo (.mv 7 (.c (.int .i32 1))) .nil)) .skip)<| .rg (Zm 48 6<|Zm 49 8<|Zm 50 10<|Zo (.conv 51 .u16 (.t 50))<|Zi 52 1 48 49<|Zs 1 52 51 .nil))<| .rg (Zk 53 .add 24 1<|Zm 24 53 .nil))<|Zr (Zm 54 6<|Zq 55 false 143 [.t 54]<|Zm 4 55<|Zc 5 0 .nil) .ret⟩
theorem aeU:Qe Tryz.prog Tryz.f177=some JG:=by kernel_rfl
def KY:az:=⟨79,[.t 4],Zr (Zo (.mv 4 (.c .aa)) .nil)<|Zr (Zm 11 0<|Zq 12 false 143 [.t 11]<|Zm 13 1<|Zq 14 false 143 [.t 13]<|Zm 0 12<|Zm 1 14 .nil)<| .seq (Zr (Zm 15 0<|Zn 16 15<|Zk 17 .eql 16 0<|Zm 18 17<|Zg 18 false (.mv 19 (.t 1))<|Zg 18 false (.len 20 (.t 19))<|Zg 18 false (.bin 21 .eql false (.t 20) (.c (Zz 0)))<|Zo (.pick 22 (.t 18) (.c (.bool true)) (.t 21)) .nil)<| .cond (.t 22) (Zr (Zo (.mv 4 (.c .aa)) .nil) .ret) .skip)<|Zr (Zm 23 0<|Zn 24 23<|Zm 25 1<|Zn 26 25<|Zb 27 .add 24 26<|Zo (.mk 28 1 2 76 (.int .u16 0) (.t 27) (.t 27))<|Zm 5 28 .nil)<| .seq (Zr (Zm 29 0<|Zn 30 29<|Zc 31 0 .nil)<| .block 0<| .loop<|Zr (Zb 32 .lss 31 30 .nil)<| .seq (.cond (.t 32) .skip (.exit 0))<| .seq (.block 1<|Zr (Zm 33 31<|Zi 34 1 29 31<|Zl 35 1 34<|Zm 6 33<|Zm 7 35 .nil)<|Zr (Zo (.mv 8 (.c (.int .u32 0))) .nil)<| .seq (Zr (Zm 36 1<|Zn 37 36<|Zc 38 0 .nil)<| .block 2<| .loop<|Zr (Zb 39 .lss 38 37 .nil)<| .seq (.cond (.t 39) .skip (.exit 2))<| .seq (.block 3<|Zr (Zm 40 38<|Zi 41 1 36 38<|Zl 42 1 41<|Zm 9 40<|Zm 10 42 .nil)<|Zr (Zm 43 8<|Zm 44 5<|Zm 45 6<|Zm 46 9<|Zb 47 .add 45 46<|Zi 48 1 44 47<|Zl 49 1 48<|Zo (.conv 50 .u32 (.t 49))<|Zm 51 7<|Zo (.conv 52 .u32 (.t 51))<|Zm 53 10<|Zo (.conv 54 .u32 (.t 53))<|Zb 55 .mul 52 54<|Zb 56 .add 50 55<|Zb 57 .add 43 56<|Zm 8 57 .nil)<|Zr (Zm 58 5<|Zm 59 6<|Zm 60 9<|Zb 61 .add 59 60<|Zm 62 8<|Zo (.conv 63 .u16 (.t 62))<|Zi 64 1 58 61<|Zs 1 64 63 .nil)<| .rg (Zm 65 8<|Zo (.bin 66 .shr false (.t 65) (.c (.int .u64 16)))<|Zm 8 66 .nil))<| .rg (Zk 67 .add 38 1<|Zm 38 67 .nil))<| .rg (Zm 68 5<|Zm 69 6<|Zm 70 1<|Zn 71 70<|Zb 72 .add 69 71<|Zm 73 8<|Zo (.conv 74 .u16 (.t 73))<|Zi 75 1 68 72<|Zs 1 75 74 .nil))<| .rg (Zk 76 .add 31 1<|Zm 31 76 .nil))<|Zr (Zm 77 5<|Zq 78 false 143 [.t 77]<|Zm 4 78 .nil) .ret⟩
theorem ahU:Qe Tryz.prog Tryz.f93=some KY:=by kernel_rfl
def Ja:az:=⟨43,[.t 4,.t 5],Zr (Zo (.mv 4 (.c .aa))<|Zo (.mv 5 (.c (.int .u16 0))) .nil)<|Zr (Zm 9 0<|Zn 10 9<|Zo (.mk 11 1 2 76 (.int .u16 0) (.t 10) (.t 10))<|Zm 6 11 .nil)<|Zr (Zo (.mv 7 (.c (.int .u32 0))) .nil)<| .seq (Zr (Zm 12 0<|Zn 13 12<|Zk 14 .sub 13 1<|Zm 8 14 .nil)<| .block 0<| .loop<| .seq (Zr (Zm 15 8<|Zk 16 .geq 15 0 .nil)<| .cond (.t 16) .skip (.exit 0))<| .seq (.block 1<|Zr (Zm 19 7<|Zo (.bin 20 .shl false (.t 19) (.c (.int .u64 16)))<|Zm 21 0<|Zm 22 8<|Zi 23 1 21 22<|Zl 24 1 23<|Zo (.conv 25 .u32 (.t 24))<|Zb 26 .or 20 25<|Zm 7 26 .nil)<|Zr (Zm 27 6<|Zm 28 8<|Zm 29 7<|Zm 30 1<|Zo (.conv 31 .u32 (.t 30))<|Zb 32 .quo 29 31<|Zo (.conv 33 .u16 (.t 32))<|Zi 34 1 27 28<|Zs 1 34 33 .nil)<| .rg (Zm 35 7<|Zm 36 1<|Zo (.conv 37 .u32 (.t 36))<|Zb 38 .rem 35 37<|Zm 7 38 .nil))<| .rg (Zm 17 8<|Zk 18 .sub 17 1<|Zm 8 18 .nil))<|Zr (Zm 39 6<|Zq 40 false 143 [.t 39]<|Zm 41 7<|Zo (.conv 42 .u16 (.t 41))<|Zm 4 40<|Zm 5 42 .nil) .ret⟩
theorem aeV:Qe Tryz.prog Tryz.f145=some Ja:=by kernel_rfl
def KU:az:=⟨71,[.t 4,.t 5,.t 6],Zr (Zo (.mv 4 (.c .aa))<|Zo (.mv 5 (.c .aa))<|Zc 6 0 .nil)<|Zr (Zm 12 0<|Zq 13 false 143 [.t 12]<|Zm 14 1<|Zq 15 false 143 [.t 14]<|Zm 0 13<|Zm 1 15 .nil)<| .seq (.block 0<|Zr (Zm 17 1<|Zn 18 17<|Zk 19 .eql 18 0<|Zm 16 19 .nil)<| .cond (.t 16) (Zr (Zo (.mv 4 (.c .aa))<|Zo (.mv 5 (.c .aa))<|Zc 6 3 .nil) .ret) (Zr (Zm 21 0<|Zm 22 1<|Zq 23 false 144 [.t 21,.t 22]<|Zk 24 .lss 23 0<|Zm 20 24 .nil)<| .cond (.t 20) (Zr (Zm 25 0<|Zq 26 false 86 [.t 25]<|Zo (.mv 4 (.c .aa))<|Zm 5 26<|Zc 6 0 .nil) .ret) (Zr (Zm 28 1<|Zn 29 28<|Zk 30 .eql 29 1<|Zm 27 30 .nil)<| .cond (.t 27) (Zr (Zm 32 0<|Zm 33 1<|Zo (.idx 34 1 (.t 33) (.c (Zz 0)))<|Zl 35 1 34<|Zq 36 false 145 [.t 32,.t 35]<|Zm 31 36<|Zo (.ext 37 (.t 31) 0)<|Zo (.ext 38 (.t 31) 1)<|Zm 7 37<|Zm 8 38 .nil)<|Zr (Zm 39 7<|Zm 40 8<|Zo (.conv 41 .u64 (.t 40))<|Zq 42 false 88 [.t 41]<|Zm 4 39<|Zm 5 42<|Zc 6 0 .nil) .ret) .skip)))<|Zr (Zm 43 1<|Zm 44 1<|Zn 45 44<|Zk 46 .sub 45 1<|Zi 47 1 43 46<|Zl 48 1 47<|Zq 49 false 146 [.t 48]<|Zm 9 49 .nil)<|Zr (Zm 50 0<|Zm 51 9<|Zq 52 false 147 [.t 50,.t 51]<|Zo (.bs 53 1 76 [.c (.int .u16 0),.c (.int .u16 0)])<|Zo (.app 54 1 2 76 (.t 52) (.t 53))<|Zm 55 0<|Zn 56 55<|Zk 57 .add 56 1<|Zo (.sl 58 1 (.t 54) none (some (.t 57)) none)<|Zm 10 58 .nil)<|Zr (Zm 59 1<|Zm 60 9<|Zq 61 false 147 [.t 59,.t 60]<|Zm 11 61 .nil)<|Zr (Zm 62 10<|Zm 63 11<|Zq 64 false 148 [.t 62,.t 63]<|Zm 4 64 .nil)<|Zr (Zm 65 4<|Zm 66 10<|Zq 67 false 143 [.t 66]<|Zm 68 9<|Zo (.un 69 .neg (.t 68))<|Zq 70 false 147 [.t 67,.t 69]<|Zm 4 65<|Zm 5 70<|Zc 6 0 .nil) .ret⟩
theorem ahV:Qe Tryz.prog Tryz.f89=some KU:=by kernel_rfl
def JB:az:=⟨31,[.t 6],Zr (Zo (.mv 6 (.c (.bool false))) .nil)<|Zr (Zl 7 1 0<|Zo (.bin 8 .geq false (.t 7) (.c (.int .u64 65536)))<|Zm 9 8<|Zg 9 false (.ld 10 1 false (.t 0))<|Zg 9 false (.ld 11 1 false (.t 1))<|Zg 9 false (.ld 12 1 false (.t 2))<|Zg 9 false (.bin 13 .sub false (.t 12) (.c (Zz 2)))<|Zg 9 false (.idx 14 1 (.t 11) (.t 13))<|Zg 9 false (.ld 15 1 false (.t 14))<|Zg 9 false (.conv 16 .u64 (.t 15))<|Zg 9 false (.bin 17 .mul false (.t 10) (.t 16))<|Zg 9 false (.ld 18 1 false (.t 3))<|Zg 9 false (.bin 19 .shl false (.t 18) (.c (.int .u64 16)))<|Zg 9 false (.ld 20 1 false (.t 4))<|Zg 9 false (.ld 21 1 false (.t 5))<|Zg 9 false (.ld 22 1 false (.t 2))<|Zg 9 false (.bin 23 .add false (.t 21) (.t 22))<|Zg 9 false (.bin 24 .sub false (.t 23) (.c (Zz 2)))<|Zg 9 false (.idx 25 1 (.t 20) (.t 24))<|Zg 9 false (.ld 26 1 false (.t 25))<|Zg 9 false (.conv 27 .u64 (.t 26))<|Zg 9 false (.bin 28 .or false (.t 19) (.t 27))<|Zg 9 false (.bin 29 .gtr false (.t 17) (.t 28))<|Zo (.pick 30 (.t 9) (.c (.bool true)) (.t 29))<|Zm 6 30 .nil) .ret⟩
theorem aeW:Qe Tryz.prog Tryz.f172=some JB:=by kernel_rfl
def JC:az:=⟨54,[.t 6],Zr (Zo (.mv 6 (.c (.bool false))) .nil)<|Zr (Zo (.mv 7 (.c (.int .u32 0))) .nil)<|Zr (Zo (.mv 8 (.c (.int .i32 0))) .nil)<| .seq (Zr (Zm 11 0<|Zn 12 11<|Zc 13 0 .nil)<| .block 0<| .loop<|Zr (Zb 14 .lss 13 12 .nil)<| .seq (.cond (.t 14) .skip (.exit 0))<| .seq (.block 1<|Zr (Zm 15 13<|Zm 9 15 .nil)<| .seq (Zr (Zm 16 9<|Zm 17 1<|Zn 18 17<|Zb 19 .lss 16 18 .nil)<| .cond (.t 19) (.rg (Zm 20 7<|Zm 21 2<|Zm 22 1<|Zm 23 9<|Zi 24 1 22 23<|Zl 25 1 24<|Zo (.conv 26 .u32 (.t 25))<|Zb 27 .mul 21 26<|Zb 28 .add 20 27<|Zm 7 28 .nil)) .skip)<|Zr (Zm 29 0<|Zm 30 9<|Zi 31 1 29 30<|Zl 32 1 31<|Zo (.conv 33 .i32 (.t 32))<|Zm 34 7<|Zo (.conv 35 .u16 (.t 34))<|Zo (.conv 36 .i32 (.t 35))<|Zb 37 .sub 33 36<|Zm 38 8<|Zb 39 .sub 37 38<|Zm 10 39 .nil)<|Zr (Zm 40 7<|Zo (.bin 41 .shr false (.t 40) (.c (.int .u64 16)))<|Zm 7 41 .nil)<|Zr (Zo (.mv 8 (.c (.int .i32 0))) .nil)<| .seq (Zr (Zm 42 10<|Zo (.bin 43 .lss false (.t 42) (.c (.int .i32 0))) .nil)<| .cond (.t 43) (Zr (Zm 44 10<|Zo (.bin 45 .add false (.t 44) (.c (.int .i32 65536)))<|Zm 10 45 .nil)<| .rg (Zo (.mv 8 (.c (.int .i32 1))) .nil)) .skip)<| .rg (Zm 46 0<|Zm 47 9<|Zm 48 10<|Zo (.conv 49 .u16 (.t 48))<|Zi 50 1 46 47<|Zs 1 50 49 .nil))<| .rg (Zk 51 .add 13 1<|Zm 13 51 .nil))<|Zr (Zm 52 8<|Zo (.bin 53 .gtr false (.t 52) (.c (.int .i32 0)))<|Zm 6 53 .nil) .ret⟩
theorem aeX:Qe Tryz.prog Tryz.f173=some JC:=by kernel_rfl
def JD:az:=⟨37,[],Zr (Zo (.mv 4 (.c (.int .u32 0))) .nil)<|Zr (Zm 6 0<|Zn 7 6<|Zc 8 0 .nil)<| .block 0<| .loop<|Zr (Zb 9 .lss 8 7 .nil)<| .seq (.cond (.t 9) .skip (.exit 0))<| .seq (.block 1<|Zr (Zm 10 8<|Zm 5 10 .nil)<|Zr (Zm 11 4<|Zm 12 0<|Zm 13 5<|Zi 14 1 12 13<|Zl 15 1 14<|Zo (.conv 16 .u32 (.t 15))<|Zb 17 .add 11 16<|Zm 4 17 .nil)<| .seq (Zr (Zm 18 5<|Zm 19 1<|Zn 20 19<|Zb 21 .lss 18 20 .nil)<| .cond (.t 21) (.rg (Zm 22 4<|Zm 23 1<|Zm 24 5<|Zi 25 1 23 24<|Zl 26 1 25<|Zo (.conv 27 .u32 (.t 26))<|Zb 28 .add 22 27<|Zm 4 28 .nil)) .skip)<|Zr (Zm 29 0<|Zm 30 5<|Zm 31 4<|Zo (.conv 32 .u16 (.t 31))<|Zi 33 1 29 30<|Zs 1 33 32 .nil)<| .rg (Zm 34 4<|Zo (.bin 35 .shr false (.t 34) (.c (.int .u64 16)))<|Zm 4 35 .nil))<| .rg (Zk 36 .add 8 1<|Zm 8 36 .nil)⟩
theorem aeY:Qe Tryz.prog Tryz.f174=some JD:=by kernel_rfl
def Kf:az:=⟨51,[.t 4],Zr (Zo (.mv 4 (.c .aa)) .nil)<|Zr (Zm 12 0<|Zq 13 false 86 [.t 12]<|Zm 14 1<|Zq 15 false 86 [.t 14]<|Zm 0 13<|Zm 1 15 .nil)<| .seq (.block 0<| .loop<| .seq (Zr (Zm 16 1<|Zn 17 16<|Zk 18 .gtr 17 0 .nil)<| .cond (.t 18) .skip (.exit 0))<| .block 1<|Zr (Zm 20 0<|Zq 21 false 87 [.t 20]<|Zm 19 21<|Zo (.ext 22 (.t 19) 0)<|Zo (.ext 23 (.t 19) 1)<|Zm 5 22<|Zm 6 23 .nil)<|Zr (Zm 25 1<|Zq 26 false 87 [.t 25]<|Zm 24 26<|Zo (.ext 27 (.t 24) 0)<|Zo (.ext 28 (.t 24) 1)<|Zm 7 27<|Zm 8 28 .nil)<| .seq (Zr (Zm 29 6<|Zm 30 29<|Zg 30 true (.mv 31 (.t 8))<|Zo (.pick 32 (.t 30) (.t 31) (.c (.bool false))) .nil)<| .cond (.t 32) (.seq (.block 2<| .loop<| .seq (Zr (Zm 33 7<|Zo (.bin 34 .gtr false (.t 33) (.c (.int .u64 0))) .nil)<| .cond (.t 34) .skip (.exit 2))<| .block 3<| .rg (Zm 35 7<|Zm 36 5<|Zm 37 7<|Zb 38 .rem 36 37<|Zm 5 35<|Zm 7 38 .nil))<|Zr (Zm 39 5<|Zq 40 false 88 [.t 39]<|Zm 4 40 .nil) .ret) .skip)<|Zr (Zm 42 0<|Zm 43 1<|Zq 44 false 89 [.t 42,.t 43]<|Zm 41 44<|Zo (.ext 45 (.t 41) 0)<|Zo (.ext 46 (.t 41) 1)<|Zo (.ext 47 (.t 41) 2)<|Zm 9 45<|Zm 10 46<|Zm 11 47 .nil)<| .rg (Zm 48 1<|Zm 49 10<|Zm 0 48<|Zm 1 49 .nil))<|Zr (Zm 50 0<|Zm 4 50 .nil) .ret⟩
theorem ahW:Qe Tryz.prog Tryz.f44=some Kf:=by kernel_rfl
def vt:az:=⟨78,[.t 4],Zr (Zo (.mv 4 (.c .aa)) .nil)<|Zr (Zm 11 0<|Zq 12 false 143 [.t 11]<|Zm 0 12 .nil)<| .seq (Zr (Zm 13 1<|Zk 14 .lss 13 (-1048576)<|Zm 15 14<|Zg 15 false (.mv 16 (.t 1))<|Zg 15 false (.bin 17 .gtr false (.t 16) (.c (Zz 1048576)))<|Zo (.pick 18 (.t 15) (.c (.bool true)) (.t 17))<|Zm 19 18<|Zg 19 false (.mv 20 (.t 0))<|Zg 19 false (.len 21 (.t 20))<|Zg 19 false (.bin 22 .eql false (.t 21) (.c (Zz 0)))<|Zo (.pick 23 (.t 19) (.c (.bool true)) (.t 22)) .nil)<| .cond (.t 23) (Zr (Zo (.mv 4 (.c .aa)) .nil) .ret) .skip)<| .seq (Zr (Zm 24 1<|Zk 25 .lss 24 0 .nil)<| .cond (.t 25) (Zr (Zm 26 0<|Zm 27 1<|Zo (.un 28 .neg (.t 27))<|Zq 29 false 171 [.t 26,.t 28]<|Zm 4 29 .nil) .ret) .skip)<|Zr (Zm 30 1<|Zk 31 .quo 30 16<|Zm 32 1<|Zk 33 .rem 32 16<|Zm 5 31<|Zm 6 33 .nil)<|Zr (Zm 34 0<|Zn 35 34<|Zm 36 5<|Zb 37 .add 35 36<|Zk 38 .add 37 1<|Zm 39 0<|Zn 40 39<|Zm 41 5<|Zb 42 .add 40 41<|Zk 43 .add 42 3<|Zo (.mk 44 1 2 76 (.int .u16 0) (.t 38) (.t 43))<|Zm 7 44 .nil)<| .seq (Zr (Zm 45 0<|Zn 46 45<|Zc 47 0 .nil)<| .block 0<| .loop<|Zr (Zb 48 .lss 47 46 .nil)<| .seq (.cond (.t 48) .skip (.exit 0))<| .seq (.block 1<|Zr (Zm 49 47<|Zi 50 1 45 47<|Zl 51 1 50<|Zm 8 49<|Zm 9 51 .nil)<|Zr (Zm 52 9<|Zo (.conv 53 .u32 (.t 52))<|Zm 54 6<|Zb 55 .shl 53 54<|Zm 10 55 .nil)<|Zr (Zm 56 7<|Zm 57 8<|Zm 58 5<|Zb 59 .add 57 58<|Zi 60 1 56 59<|Zl 61 1 60<|Zm 62 10<|Zo (.conv 63 .u16 (.t 62))<|Zb 64 .or 61 63<|Zi 65 1 56 59<|Zs 1 65 64 .nil)<| .rg (Zm 66 7<|Zm 67 8<|Zm 68 5<|Zb 69 .add 67 68<|Zk 70 .add 69 1<|Zm 71 10<|Zo (.bin 72 .shr false (.t 71) (.c (.int .u64 16)))<|Zo (.conv 73 .u16 (.t 72))<|Zi 74 1 66 70<|Zs 1 74 73 .nil))<| .rg (Zk 75 .add 47 1<|Zm 47 75 .nil))<|Zr (Zm 76 7<|Zq 77 false 143 [.t 76]<|Zm 4 77 .nil) .ret⟩
theorem Hv:Qe Tryz.prog Tryz.f147=some vt:=by kernel_rfl
def JA:az:=⟨63,[.t 4],Zr (Zo (.mv 4 (.c .aa)) .nil)<|Zr (Zm 10 1<|Zk 11 .quo 10 16<|Zm 12 1<|Zk 13 .rem 12 16<|Zm 5 11<|Zm 6 13 .nil)<| .seq (Zr (Zm 14 5<|Zm 15 0<|Zn 16 15<|Zb 17 .geq 14 16 .nil)<| .cond (.t 17) (Zr (Zo (.mv 4 (.c .aa)) .nil) .ret) .skip)<|Zr (Zm 18 0<|Zn 19 18<|Zm 20 5<|Zb 21 .sub 19 20<|Zo (.mk 22 1 2 76 (.int .u16 0) (.t 21) (.t 21))<|Zm 7 22 .nil)<| .seq (Zr (Zm 23 7<|Zn 24 23<|Zc 25 0 .nil)<| .block 0<| .loop<|Zr (Zb 26 .lss 25 24 .nil)<| .seq (.cond (.t 26) .skip (.exit 0))<| .seq (.block 1<|Zr (Zm 27 25<|Zm 8 27 .nil)<|Zr (Zm 28 0<|Zm 29 8<|Zm 30 5<|Zb 31 .add 29 30<|Zi 32 1 28 31<|Zl 33 1 32<|Zo (.conv 34 .u32 (.t 33))<|Zm 9 34 .nil)<| .seq (Zr (Zm 35 8<|Zm 36 5<|Zb 37 .add 35 36<|Zk 38 .add 37 1<|Zm 39 0<|Zn 40 39<|Zb 41 .lss 38 40 .nil)<| .cond (.t 41) (.rg (Zm 42 9<|Zm 43 0<|Zm 44 8<|Zm 45 5<|Zb 46 .add 44 45<|Zk 47 .add 46 1<|Zi 48 1 43 47<|Zl 49 1 48<|Zo (.conv 50 .u32 (.t 49))<|Zo (.bin 51 .shl false (.t 50) (.c (.int .u64 16)))<|Zb 52 .or 42 51<|Zm 9 52 .nil)) .skip)<| .rg (Zm 53 7<|Zm 54 8<|Zm 55 9<|Zm 56 6<|Zb 57 .shr 55 56<|Zo (.conv 58 .u16 (.t 57))<|Zi 59 1 53 54<|Zs 1 59 58 .nil))<| .rg (Zk 60 .add 25 1<|Zm 25 60 .nil))<|Zr (Zm 61 7<|Zq 62 false 143 [.t 61]<|Zm 4 62 .nil) .ret⟩
theorem aeZ:Qe Tryz.prog Tryz.f171=some JA:=by kernel_rfl
def Jb:az:=⟨6,[.t 2],Zr (Zc 2 0 .nil)<|Zr (Zm 3 0<|Zq 4 false 151 [.t 3]<|Zo (.bin 5 .sub false (.c (Zz 16)) (.t 4))<|Zm 2 5 .nil) .ret⟩
theorem ae0:Qe Tryz.prog Tryz.f146=some Jb:=by kernel_rfl
def JH:az:=⟨47,[.t 6],Zr (Zo (.mv 6 (.c .aa)) .nil)<|Zr (Zm 11 0<|Zn 12 11<|Zm 13 1<|Zn 14 13<|Zo (.mx 15 (.t 12) (.t 14))<|Zo (.mk 16 1 8 3 (Zz 0) (.t 15) (.t 15))<|Zm 7 16 .nil)<| .seq (Zr (Zm 17 7<|Zn 18 17<|Zc 19 0 .nil)<| .block 0<| .loop<|Zr (Zb 20 .lss 19 18 .nil)<| .seq (.cond (.t 20) .skip (.exit 0))<| .seq (.block 1<|Zr (Zm 21 19<|Zm 8 21 .nil)<|Zr (Zc 9 0<|Zc 10 0 .nil)<| .seq (Zr (Zm 22 8<|Zm 23 0<|Zn 24 23<|Zb 25 .lss 22 24 .nil)<| .cond (.t 25) (.rg (Zm 26 0<|Zm 27 8<|Zi 28 1 26 27<|Zl 29 1 28<|Zm 9 29 .nil)) .skip)<| .seq (Zr (Zm 30 8<|Zm 31 1<|Zn 32 31<|Zb 33 .lss 30 32 .nil)<| .cond (.t 33) (.rg (Zm 34 1<|Zm 35 8<|Zi 36 1 34 35<|Zl 37 1 36<|Zm 10 37 .nil)) .skip)<| .rg (Zm 38 7<|Zm 39 8<|Zm 40 2<|Zm 41 9<|Zm 42 10<|Zo (.call (some 43) false (.t 40) [.t 41,.t 42])<|Zi 44 1 38 39<|Zs 1 44 43 .nil))<| .rg (Zk 45 .add 19 1<|Zm 19 45 .nil))<|Zr (Zm 46 7<|Zm 6 46 .nil) .ret⟩
theorem aer:Qe Tryz.prog Tryz.f178=some JH:=by kernel_rfl
def KV:az:=⟨24,[.t 2],Zr (Zo (.mv 2 (.c .aa)) .nil)<|Zr (Zm 4 0<|Zn 5 4<|Zm 3 5 .nil)<| .seq (.block 0<| .loop<| .seq (Zr (Zm 6 3<|Zk 7 .gtr 6 0<|Zm 8 7<|Zg 8 true (.mv 9 (.t 0))<|Zg 8 true (.mv 10 (.t 3))<|Zg 8 true (.bin 11 .sub false (.t 10) (.c (Zz 1)))<|Zg 8 true (.idx 12 1 (.t 9) (.t 11))<|Zg 8 true (.ld 13 1 false (.t 12))<|Zg 8 true (.bin 14 .eql false (.t 13) (.c (Zz 0)))<|Zo (.pick 15 (.t 8) (.t 14) (.c (.bool false))) .nil)<| .cond (.t 15) .skip (.exit 0))<| .block 1<| .rg (Zm 16 3<|Zk 17 .sub 16 1<|Zm 3 17 .nil))<| .seq (Zr (Zm 18 3<|Zk 19 .eql 18 0 .nil)<| .cond (.t 19) (Zr (Zo (.mv 2 (.c .aa)) .nil) .ret) .skip)<|Zr (Zm 20 0<|Zm 21 3<|Zm 22 3<|Zo (.sl 23 1 (.t 20) none (some (.t 21)) (some (.t 22)))<|Zm 2 23 .nil) .ret⟩
theorem ahX:Qe Tryz.prog Tryz.f90=some KV:=by kernel_rfl
def KQ:az:=⟨35,[.t 2],Zr (Zo (.mv 2 (.c (.bool false))) .nil)<| .seq (Zr (Zm 5 0<|Zn 6 5<|Zk 7 .gtr 6 64<|Zm 8 7<|Zg 8 false (.mv 9 (.t 0))<|Zg 8 false (.len 10 (.t 9))<|Zg 8 false (.bin 11 .gtr false (.t 10) (.c (Zz 0)))<|Zg 8 false (.mv 12 (.t 11))<|Zg 12 true (.mv 13 (.t 0))<|Zg 12 true (.mv 14 (.t 0))<|Zg 12 true (.len 15 (.t 14))<|Zg 12 true (.bin 16 .sub false (.t 15) (.c (Zz 1)))<|Zg 12 true (.idx 17 1 (.t 13) (.t 16))<|Zg 12 true (.ld 18 1 false (.t 17))<|Zg 12 true (.bin 19 .eql false (.t 18) (.c (Zz 0)))<|Zg 8 false (.pick 20 (.t 12) (.t 19) (.c (.bool false)))<|Zo (.pick 21 (.t 8) (.c (.bool true)) (.t 20)) .nil)<| .cond (.t 21) (Zr (Zo (.mv 2 (.c (.bool false))) .nil) .ret) .skip)<| .seq (Zr (Zm 22 0<|Zn 23 22<|Zc 24 0 .nil)<| .block 0<| .loop<|Zr (Zb 25 .lss 24 23 .nil)<| .seq (.cond (.t 25) .skip (.exit 0))<| .seq (.block 1<|Zr (Zi 26 1 22 24<|Zl 27 1 26<|Zm 4 27 .nil)<|Zr (Zm 28 4<|Zk 29 .lss 28 0<|Zm 30 29<|Zg 30 false (.mv 31 (.t 4))<|Zg 30 false (.bin 32 .gtr false (.t 31) (.c (Zz 1048576)))<|Zo (.pick 33 (.t 30) (.c (.bool true)) (.t 32)) .nil)<| .cond (.t 33) (Zr (Zo (.mv 2 (.c (.bool false))) .nil) .ret) .skip)<| .rg (Zk 34 .add 24 1<|Zm 24 34 .nil))<|Zr (Zo (.mv 2 (.c (.bool true))) .nil) .ret⟩
theorem ahY:Qe Tryz.prog Tryz.f84=some KQ:=by kernel_rfl
def Jz:az:=⟨17,[.t 2],Zr (Zc 2 0 .nil)<|Zr (Zc 3 0 .nil)<| .seq (Zr (Zm 6 0<|Zn 7 6<|Zc 8 0 .nil)<| .block 0<| .loop<|Zr (Zb 9 .lss 8 7 .nil)<| .seq (.cond (.t 9) .skip (.exit 0))<| .seq (.block 1<|Zr (Zi 10 1 6 8<|Zl 11 1 10<|Zm 5 11 .nil)<| .rg (Zm 12 3<|Zm 13 5<|Zb 14 .add 12 13<|Zm 3 14 .nil))<| .rg (Zk 15 .add 8 1<|Zm 8 15 .nil))<|Zr (Zm 16 3<|Zm 2 16 .nil) .ret⟩
theorem aes:Qe Tryz.prog Tryz.f170=some Jz:=by kernel_rfl
def IN:az:=⟨17,[.t 4],Zr (Zc 4 0 .nil)<| .seq (Zr (Zm 5 1<|Zk 6 .lss 5 0<|Zm 7 6<|Zg 7 false (.mv 8 (.t 1))<|Zg 7 false (.mv 9 (.t 0))<|Zg 7 false (.len 10 (.t 9))<|Zg 7 false (.bin 11 .geq false (.t 8) (.t 10))<|Zo (.pick 12 (.t 7) (.c (.bool true)) (.t 11)) .nil)<| .cond (.t 12) (Zr (Zc 4 0 .nil) .ret) .skip)<|Zr (Zm 13 0<|Zm 14 1<|Zi 15 1 13 14<|Zl 16 1 15<|Zm 4 16 .nil) .ret⟩
theorem aet:Qe Tryz.prog Tryz.f124=some IN:=by kernel_rfl
def Kg:az:=⟨7,[.t 2],Zr (Zc 2 0 .nil)<|Zr (Zm 3 0<|Zq 4 false 90 [.t 3]<|Zn 5 4<|Zk 6 .sub 5 1<|Zm 2 6 .nil) .ret⟩
theorem ahZ:Qe Tryz.prog Tryz.f45=some Kg:=by kernel_rfl
def Jm:az:=⟨9,[.t 4],Zr (Zo (.mv 4 (.c .aa)) .nil)<|Zr (Zm 5 0<|Zm 6 1<|Zq 7 false 178 [.t 5,.t 6,.c (.fn 179 [] [])]<|Zq 8 false 90 [.t 7]<|Zm 4 8 .nil) .ret⟩
theorem aeu:Qe Tryz.prog Tryz.f158=some Jm:=by kernel_rfl
def JI:az:=⟨8,[.t 4],Zr (Zc 4 0 .nil)<|Zr (Zm 5 0<|Zm 6 1<|Zb 7 .add 5 6<|Zm 4 7 .nil) .ret⟩
theorem aev:Qe Tryz.prog Tryz.f179=some JI:=by kernel_rfl
def I9:az:=⟨46,[.t 6],Zr (Zc 6 0 .nil)<| .seq (Zr (Zm 12 2<|Zk 13 .eql 12 1 .nil)<| .cond (.t 13) (Zr (Zm 14 0<|Zq 15 false 170 [.t 14]<|Zm 16 1<|Zq 17 false 170 [.t 16]<|Zm 7 15<|Zm 8 17 .nil)<|Zr (Zm 18 7<|Zm 19 8<|Zb 20 .neq 18 19 .nil)<| .cond (.t 20) (.seq (Zr (Zm 21 7<|Zm 22 8<|Zb 23 .lss 21 22 .nil)<| .cond (.t 23) (Zr (Zc 6 (-1) .nil) .ret) .skip)<|Zr (Zc 6 1 .nil) .ret) .skip) .skip)<| .seq (Zr (Zm 24 0<|Zn 25 24<|Zm 26 1<|Zn 27 26<|Zo (.mx 28 (.t 25) (.t 27))<|Zk 29 .sub 28 1<|Zm 9 29 .nil)<| .block 0<| .loop<| .seq (Zr (Zm 30 9<|Zk 31 .geq 30 0 .nil)<| .cond (.t 31) .skip (.exit 0))<| .seq (.block 1<|Zr (Zm 34 0<|Zm 35 9<|Zq 36 false 124 [.t 34,.t 35]<|Zm 37 1<|Zm 38 9<|Zq 39 false 124 [.t 37,.t 38]<|Zm 10 36<|Zm 11 39 .nil)<|Zr (Zm 40 10<|Zm 41 11<|Zb 42 .neq 40 41 .nil)<| .cond (.t 42) (.seq (Zr (Zm 43 10<|Zm 44 11<|Zb 45 .lss 43 44 .nil)<| .cond (.t 45) (Zr (Zc 6 (-1) .nil) .ret) .skip)<|Zr (Zc 6 1 .nil) .ret) .skip)<| .rg (Zm 32 9<|Zk 33 .sub 32 1<|Zm 9 33 .nil))<|Zr (Zc 6 0 .nil) .ret⟩
theorem aew:Qe Tryz.prog Tryz.f142=some I9:=by kernel_rfl
def Jj:az:=⟨97,[.t 8],Zr (Zo (.mv 8 (.c .aa)) .nil)<|Zr (Zm 15 0<|Zn 16 15<|Zm 17 1<|Zn 18 17<|Zb 19 .add 16 18<|Zo (.mk 20 4 80 54 (.agg [.bool false,.aa,.aa,.aa]) (.c (Zz 0)) (.t 19))<|Zm 9 20 .nil)<|Zr (Zc 10 0<|Zc 11 0 .nil)<| .seq (.block 0<| .loop<| .seq (Zr (Zm 21 10<|Zm 22 0<|Zn 23 22<|Zb 24 .lss 21 23<|Zm 25 24<|Zg 25 true (.mv 26 (.t 11))<|Zg 25 true (.mv 27 (.t 1))<|Zg 25 true (.len 28 (.t 27))<|Zg 25 true (.bin 29 .lss false (.t 26) (.t 28))<|Zo (.pick 30 (.t 25) (.t 29) (.c (.bool false))) .nil)<| .cond (.t 30) .skip (.exit 0))<| .block 1<|Zr (Zm 31 2<|Zm 32 0<|Zm 33 10<|Zi 34 4 32 33<|Zh 35 4 34<|Zm 36 1<|Zm 37 11<|Zi 38 4 36 37<|Zh 39 4 38<|Zo (.call (some 40) false (.t 31) [.t 35,.t 39])<|Zm 12 40 .nil)<| .block 2<|Zr (Zm 64 12<|Zk 65 .gtr 64 0<|Zm 63 65 .nil)<| .cond (.t 63) (Zr (Zm 66 9<|Zm 67 0<|Zm 68 10<|Zi 69 4 67 68<|Zh 70 4 69<|Zo (.bs 71 4 54 [.t 70])<|Zo (.app 72 4 80 54 (.t 66) (.t 71))<|Zm 9 72 .nil)<| .rg (Zm 73 10<|Zk 74 .add 73 1<|Zm 10 74 .nil)) (Zr (Zm 76 12<|Zk 77 .lss 76 0<|Zm 75 77 .nil)<| .cond (.t 75) (Zr (Zm 78 9<|Zm 79 1<|Zm 80 11<|Zi 81 4 79 80<|Zh 82 4 81<|Zo (.bs 83 4 54 [.t 82])<|Zo (.app 84 4 80 54 (.t 78) (.t 83))<|Zm 9 84 .nil)<| .rg (Zm 85 11<|Zk 86 .add 85 1<|Zm 11 86 .nil)) (.seq (Zr (Zm 42 3<|Zm 43 0<|Zm 44 10<|Zi 45 4 43 44<|Zh 46 4 45<|Zm 47 1<|Zm 48 11<|Zi 49 4 47 48<|Zh 50 4 49<| .br (Zo (.call (some 51) true (.t 42) [.t 46,.t 50])<|Zm 41 51<|Zo (.ext 52 (.t 41) 0)<|Zo (.ext 53 (.t 41) 1)<|Zo (.alloc 13 4 54 (.agg [.bool false,.aa,.aa,.aa]))<|Zs 4 13 52<|Zm 14 53 .nil) (Zo (.alloc 13 4 54 (.agg [.bool false,.aa,.aa,.aa]))<|Zo (.call (some 51) true (.t 42) [.t 46,.t 50])<|Zm 41 51<|Zo (.ext 52 (.t 41) 0)<|Zo (.ext 53 (.t 41) 1)<|Zs 4 13 52<|Zm 14 53 .nil))<|Zr (Zm 54 14 .nil)<| .cond (.t 54) (.rg (Zm 55 9<|Zh 56 4 13<|Zo (.bs 57 4 54 [.t 56])<|Zo (.app 58 4 80 54 (.t 55) (.t 57))<|Zm 9 58 .nil)) .skip)<|Zr (Zm 59 10<|Zk 60 .add 59 1<|Zm 10 60 .nil)<| .rg (Zm 61 11<|Zk 62 .add 61 1<|Zm 11 62 .nil))))<|Zr (Zm 87 9<|Zm 88 0<|Zm 89 10<|Zo (.sl 90 4 (.t 88) (some (.t 89)) none none)<|Zo (.app 91 4 80 54 (.t 87) (.t 90))<|Zm 9 91 .nil)<|Zr (Zm 92 9<|Zm 93 1<|Zm 94 11<|Zo (.sl 95 4 (.t 93) (some (.t 94)) none none)<|Zo (.app 96 4 80 54 (.t 92) (.t 95))<|Zm 8 96 .nil) .ret⟩
theorem aex:Qe Tryz.prog Tryz.f155=some Jj:=by kernel_rfl
def Al:az:=⟨10,[.t 4],Zr (Zo (.box 2 4 54 (.t 0))<|Zo (.box 3 4 54 (.t 1))<|Zc 4 0 .nil)<|Zr (Zf 5 3 2<|Zl 6 1 5<|Zf 7 3 3<|Zl 8 1 7<|Zq 9 false 142 [.t 6,.t 8,.c (Zz 0)]<|Zm 4 9 .nil) .ret⟩
theorem PD:Qe Tryz.prog Tryz.f85=some Al:=by kernel_rfl
def Jk:az:=⟨19,[.cell 4 4 true,.t 5],Zr (Zo (.box 2 4 54 (.t 0))<|Zo (.box 3 4 54 (.t 1))<|Zo (.alloc 4 4 54 (.agg [.bool false,.aa,.aa,.aa]))<|Zo (.mv 5 (.c (.bool false))) .nil)<|Zr (Zf 7 0 2<|Zh 8 3 7<|Zf 9 0 3<|Zh 10 3 9<|Zq 11 false 48 [.t 8,.t 10]<|Zo (.alloc 6 3 43 (.agg [.bool false,.aa,.aa]))<|Zs 3 6 11 .nil)<|Zr (Zh 12 3 6<|Zf 13 3 2<|Zl 14 1 13<|Zo (.bT 15 [.bool false,.aa,.aa,.aa] [(0,3,.t 12),(3,1,.t 14)])<|Zh 16 3 6<|Zq 17 true 17 [.t 16]<|Zk 18 .neq 17 0<|Zs 4 4 15<|Zm 5 18 .nil) .ret⟩
theorem aey:Qe Tryz.prog Tryz.f156=some Jk:=by kernel_rfl
def yF:az:=⟨25,[.t 2],Zr (Zo (.mv 2 (.c .aa)) .nil)<| .seq (Zr (Zm 4 0<|Zn 5 4 .nil)<| .block 0<|Zr (Zk 7 .eql 5 0<|Zm 6 7 .nil)<| .cond (.t 6) (Zr (Zo (.mv 2 (.c .aa)) .nil) .ret) (Zr (Zk 9 .eql 5 1<|Zm 8 9 .nil)<| .cond (.t 8) (Zr (Zm 10 0<|Zo (.idx 11 1 (.t 10) (.c (Zz 0)))<|Zl 12 1 11<|Zm 2 12 .nil) .ret) .skip))<|Zr (Zm 13 0<|Zn 14 13<|Zk 15 .quo 14 2<|Zm 3 15 .nil)<|Zr (Zm 16 0<|Zm 17 3<|Zo (.sl 18 1 (.t 16) none (some (.t 17)) none)<|Zm 20 0<|Zm 21 3<|Zo (.sl 22 1 (.t 20) (some (.t 21)) none none)<|Zq 19 false 111 [.t 18]<|Zq 23 false 111 [.t 22]<|Zq 24 false 108 [.t 19,.t 23]<|Zm 2 24 .nil) .ret⟩
theorem OY:Qe Tryz.prog Tryz.f111=some yF:=by kernel_rfl
def IJ:az:=⟨12,[.t 4],Zr (Zo (.box 2 3 43 (.t 0))<|Zo (.mv 4 (.c .aa)) .nil)<| .seq (Zr (Zh 5 3 2<|Zq 6 false 17 [.t 5]<|Zk 7 .eql 6 0 .nil)<| .cond (.t 7) (Zr (Zo (.mv 4 (.c .aa)) .nil) .ret) .skip)<|Zr (Zh 8 3 2<|Zm 9 1<|Zo (.bT 10 [.bool false,.aa,.aa,.aa] [(0,3,.t 8),(3,1,.t 9)])<|Zo (.bs 11 4 54 [.t 10])<|Zm 4 11 .nil) .ret⟩
theorem aez:Qe Tryz.prog Tryz.f119=some IJ:=by kernel_rfl
def Kb:az:=⟨43,[.t 2],Zr (Zo (.mv 2 (.c (.bool false))) .nil)<| .seq (Zr (Zm 5 0<|Zn 6 5<|Zc 7 0 .nil)<| .block 0<| .loop<|Zr (Zb 8 .lss 7 6 .nil)<| .seq (.cond (.t 8) .skip (.exit 0))<| .seq (.block 1<|Zr (Zm 9 7<|Zi 10 4 5 7<|Zh 11 4 10<|Zo (.alloc 4 4 54 (.agg [.bool false,.aa,.aa,.aa]))<|Zm 3 9<|Zs 4 4 11 .nil)<|Zr (Zf 12 0 4<|Zh 13 3 12<|Zq 14 true 15 [.t 13]<|Zu 15 14<|Zm 16 15<|Zg 16 false (.cz 17 0 (.t 4))<|Zg 16 false (.ld 18 3 true (.t 17))<|Zg 16 false (.call (some 19) true (.c (.fn 17 [] [])) [.t 18])<|Zg 16 false (.bin 20 .eql false (.t 19) (.c (Zz 0)))<|Zo (.pick 21 (.t 16) (.c (.bool true)) (.t 20))<|Zm 22 21<|Zg 22 false (.cz 23 3 (.t 4))<|Zg 22 false (.ld 24 1 false (.t 23))<|Zg 22 false (.call (some 25) true (.c (.fn 84 [] [])) [.t 24])<|Zg 22 false (.un 26 .not (.t 25))<|Zo (.pick 27 (.t 22) (.c (.bool true)) (.t 26))<|Zm 28 27<|Zg 28 false (.mv 29 (.t 3))<|Zg 28 false (.bin 30 .gtr false (.t 29) (.c (Zz 0)))<|Zg 28 false (.mv 31 (.t 30))<|Zg 31 true (.mv 32 (.t 0))<|Zg 31 true (.mv 33 (.t 3))<|Zg 31 true (.bin 34 .sub false (.t 33) (.c (Zz 1)))<|Zg 31 true (.idx 35 4 (.t 32) (.t 34))<|Zg 31 true (.ld 36 4 true (.t 35))<|Zg 31 true (.ld 37 4 true (.t 4))<|Zg 31 true (.call (some 38) true (.c (.fn 85 [] [])) [.t 36,.t 37])<|Zg 31 true (.bin 39 .leq false (.t 38) (.c (Zz 0)))<|Zg 28 false (.pick 40 (.t 31) (.t 39) (.c (.bool false)))<|Zo (.pick 41 (.t 28) (.c (.bool true)) (.t 40)) .nil)<| .cond (.t 41) (Zr (Zo (.mv 2 (.c (.bool false))) .nil) .ret) .skip)<| .rg (Zk 42 .add 7 1<|Zm 7 42 .nil))<|Zr (Zo (.mv 2 (.c (.bool true))) .nil) .ret⟩
theorem ah0:Qe Tryz.prog Tryz.f40=some Kb:=by kernel_rfl
def Kz:az:=⟨7,[.t 2],Zr (Zo (.box 1 3 43 (.t 0))<|Zo (.mv 2 (.c .aa)) .nil)<|Zr (Zh 3 3 1<|Zq 4 true 26 [.c (Zz 0)]<|Zq 5 true 48 [.t 3,.t 4]<|Zq 6 true 119 [.t 5,.c .aa]<|Zm 2 6 .nil) .ret⟩
theorem ah1:Qe Tryz.prog Tryz.f65=some Kz:=by kernel_rfl
def KB:az:=⟨10,[.t 4],Zr (Zc 4 0 .nil)<|Zr (Zo (.mv 5 (.c (.fn 125 [] []))) .nil)<|Zr (Zm 6 0<|Zm 7 1<|Zm 8 5<|Zq 9 false 127 [.t 6,.t 7,.t 8]<|Zm 4 9 .nil) .ret⟩
theorem ah2:Qe Tryz.prog Tryz.f68=some KB:=by kernel_rfl
def IP:az:=⟨17,[.t 4],Zr (Zo (.box 2 4 54 (.t 0))<|Zo (.box 3 4 54 (.t 1))<|Zc 4 0 .nil)<| .seq (Zr (Zh 6 4 2<|Zh 7 4 3<|Zq 8 false 85 [.t 6,.t 7]<|Zm 5 8 .nil)<|Zr (Zm 9 5<|Zk 10 .neq 9 0 .nil)<| .cond (.t 10) (Zr (Zm 11 5<|Zm 4 11 .nil) .ret) .skip)<|Zr (Zf 12 0 2<|Zh 13 3 12<|Zf 14 0 3<|Zh 15 3 14<|Zq 16 false 126 [.t 13,.t 15]<|Zm 4 16 .nil) .ret⟩
theorem aeA:Qe Tryz.prog Tryz.f125=some IP:=by kernel_rfl
def Jl:az:=⟨6,[.t 2],Zr (Zo (.mv 2 (.c .aa)) .nil)<|Zr (Zm 3 0<|Zq 4 false 26 [.c (Zz (-1))]<|Zq 5 false 121 [.t 3,.t 4]<|Zm 2 5 .nil) .ret⟩
theorem afb:Qe Tryz.prog Tryz.f157=some Jl:=by kernel_rfl
def Iy:az:=⟨8,[.t 4],Zr (Zo (.mv 4 (.c .aa)) .nil)<|Zr (Zm 5 0<|Zm 6 1<|Zq 7 false 155 [.t 5,.t 6,.c (.fn 85 [] []),.c (.fn 156 [] [])]<|Zm 4 7 .nil) .ret⟩
theorem afc:Qe Tryz.prog Tryz.f108=some Iy:=by kernel_rfl
def Iz:az:=⟨9,[.t 4],Zr (Zo (.mv 4 (.c .aa)) .nil)<|Zr (Zm 5 0<|Zm 6 1<|Zq 7 false 157 [.t 6]<|Zq 8 false 108 [.t 5,.t 7]<|Zm 4 8 .nil) .ret⟩
theorem afd:Qe Tryz.prog Tryz.f109=some Iz:=by kernel_rfl
def IB:az:=⟨38,[.t 4],Zr (Zo (.box 3 4 54 (.t 1))<|Zo (.mv 4 (.c .aa)) .nil)<|Zr (Zm 9 0<|Zn 10 9<|Zo (.mk 11 4 80 54 (.agg [.bool false,.aa,.aa,.aa]) (.c (Zz 0)) (.t 10))<|Zm 5 11 .nil)<| .seq (Zr (Zm 12 0<|Zn 13 12<|Zc 14 0 .nil)<| .block 0<| .loop<|Zr (Zb 15 .lss 14 13 .nil)<| .seq (.cond (.t 15) .skip (.exit 0))<| .seq (.block 1<|Zr (Zi 16 4 12 14<|Zh 17 4 16<|Zo (.alloc 7 4 54 (.agg [.bool false,.aa,.aa,.aa]))<|Zs 4 7 17 .nil)<|Zr (Zf 18 0 7<|Zh 19 3 18<|Zf 20 0 3<|Zh 21 3 20<|Zq 22 false 46 [.t 19,.t 21]<|Zo (.alloc 8 3 43 (.agg [.bool false,.aa,.aa]))<|Zs 3 8 22 .nil)<|Zr (Zh 23 3 8<|Zq 24 false 17 [.t 23]<|Zk 25 .neq 24 0 .nil)<| .cond (.t 25) (.rg (Zm 26 5<|Zh 27 3 8<|Zf 28 3 7<|Zl 29 1 28<|Zf 30 3 3<|Zl 31 1 30<|Zq 32 true 158 [.t 29,.t 31]<|Zo (.bT 33 [.bool false,.aa,.aa,.aa] [(0,3,.t 27),(3,1,.t 32)])<|Zo (.bs 34 4 54 [.t 33])<|Zo (.app 35 4 80 54 (.t 26) (.t 34))<|Zm 5 35 .nil)) .skip)<| .rg (Zk 36 .add 14 1<|Zm 14 36 .nil))<|Zr (Zm 37 5<|Zm 4 37 .nil) .ret⟩
theorem afe:Qe Tryz.prog Tryz.f110=some IB:=by kernel_rfl
def Ku:az:=⟨33,[.t 4],Zr (Zo (.mv 4 (.c .aa)) .nil)<| .seq (Zr (Zm 8 0<|Zn 9 8<|Zm 10 1<|Zn 11 10<|Zb 12 .gtr 9 11 .nil)<| .cond (.t 12) (.rg (Zm 13 1<|Zm 14 0<|Zm 0 13<|Zm 1 14 .nil)) .skip)<|Zr (Zm 15 0<|Zn 16 15<|Zo (.mk 17 1 24 32 .aa (.c (Zz 0)) (.t 16))<|Zm 5 17 .nil)<| .seq (Zr (Zm 18 0<|Zn 19 18<|Zc 20 0 .nil)<| .block 0<| .loop<|Zr (Zb 21 .lss 20 19 .nil)<| .seq (.cond (.t 21) .skip (.exit 0))<| .seq (.block 1<|Zr (Zi 22 4 18 20<|Zh 23 4 22<|Zo (.alloc 7 4 54 (.agg [.bool false,.aa,.aa,.aa]))<|Zs 4 7 23 .nil)<| .rg (Zm 24 5<|Zm 25 1<|Zh 26 4 7<|Zq 27 false 110 [.t 25,.t 26]<|Zo (.bs 28 1 32 [.t 27])<|Zo (.app 29 1 24 32 (.t 24) (.t 28))<|Zm 5 29 .nil))<| .rg (Zk 30 .add 20 1<|Zm 20 30 .nil))<|Zr (Zm 31 5<|Zq 32 false 111 [.t 31]<|Zm 4 32 .nil) .ret⟩
theorem ah3:Qe Tryz.prog Tryz.f60=some Ku:=by kernel_rfl
def IK:az:=⟨12,[.t 4],Zr (Zo (.box 3 3 43 (.t 1))<|Zo (.mv 4 (.c .aa)) .nil)<| .seq (Zr (Zh 5 3 3<|Zq 6 false 17 [.t 5]<|Zk 7 .eql 6 0 .nil)<| .cond (.t 7) (Zr (Zo (.mv 4 (.c .aa)) .nil) .ret) .skip)<|Zr (Zm 8 0<|Zh 9 3 3<|Zo (.bT 10 [.bool false,.aa,.aa,.aa] [(0,3,.t 9)])<|Zq 11 false 110 [.t 8,.t 10]<|Zm 4 11 .nil) .ret⟩
theorem aff:Qe Tryz.prog Tryz.f121=some IK:=by kernel_rfl
def IS:az:=⟨39,[.t 6],Zr (Zc 6 0 .nil)<| .seq (Zr (Zm 11 0<|Zn 12 11<|Zc 13 0 .nil)<| .block 0<| .loop<|Zr (Zb 14 .lss 13 12 .nil)<| .seq (.cond (.t 14) .skip (.exit 0))<| .seq (.block 1<|Zr (Zm 15 13<|Zi 16 4 11 13<|Zh 17 4 16<|Zo (.alloc 8 4 54 (.agg [.bool false,.aa,.aa,.aa]))<|Zm 7 15<|Zs 4 8 17 .nil)<| .seq (Zr (Zm 18 7<|Zm 19 1<|Zn 20 19<|Zb 21 .geq 18 20 .nil)<| .cond (.t 21) (Zr (Zc 6 1 .nil) .ret) .skip)<|Zr (Zm 22 1<|Zm 23 7<|Zi 24 4 22 23<|Zh 25 4 24<|Zo (.alloc 9 4 54 (.agg [.bool false,.aa,.aa,.aa]))<|Zs 4 9 25 .nil)<|Zr (Zm 26 2<|Zh 27 4 8<|Zh 28 4 9<|Zo (.call (some 29) false (.t 26) [.t 27,.t 28])<|Zm 10 29 .nil)<|Zr (Zm 30 10<|Zk 31 .neq 30 0 .nil)<| .cond (.t 31) (Zr (Zm 32 10<|Zm 6 32 .nil) .ret) .skip)<| .rg (Zk 33 .add 13 1<|Zm 13 33 .nil))<| .seq (Zr (Zm 34 0<|Zn 35 34<|Zm 36 1<|Zn 37 36<|Zb 38 .lss 35 37 .nil)<| .cond (.t 38) (Zr (Zc 6 (-1) .nil) .ret) .skip)<|Zr (Zc 6 0 .nil) .ret⟩
theorem afg:Qe Tryz.prog Tryz.f127=some IS:=by kernel_rfl
def IC:az:=⟨9,[.t 4],Zr (Zo (.mv 4 (.c (.bool false))) .nil)<|Zr (Zm 5 0<|Zm 6 1<|Zq 7 false 159 [.t 5,.t 6]<|Zk 8 .geq 7 0<|Zm 4 8 .nil) .ret⟩
theorem afh:Qe Tryz.prog Tryz.f112=some IC:=by kernel_rfl
def IE:az:=⟨9,[.t 4],Zr (Zo (.mv 4 (.c (.bool false))) .nil)<|Zr (Zm 5 0<|Zm 6 1<|Zq 7 false 160 [.t 5,.t 6]<|Zk 8 .geq 7 0<|Zm 4 8 .nil) .ret⟩
theorem afi:Qe Tryz.prog Tryz.f114=some IE:=by kernel_rfl
def Jn:az:=⟨19,[.t 4],Zr (Zc 4 0 .nil)<| .seq (Zr (Zm 6 0<|Zn 7 6<|Zc 8 0 .nil)<| .block 0<| .loop<|Zr (Zb 9 .lss 8 7 .nil)<| .seq (.cond (.t 9) .skip (.exit 0))<| .seq (.block 1<|Zr (Zm 10 8<|Zm 5 10 .nil)<|Zr (Zm 11 1<|Zm 12 0<|Zm 13 5<|Zi 14 4 12 13<|Zh 15 4 14<|Zo (.call (some 16) false (.t 11) [.t 15]) .nil)<| .cond (.t 16) (Zr (Zm 17 5<|Zm 4 17 .nil) .ret) .skip)<| .rg (Zk 18 .add 8 1<|Zm 8 18 .nil))<|Zr (Zc 4 (-1) .nil) .ret⟩
theorem afj:Qe Tryz.prog Tryz.f159=some Jn:=by kernel_rfl
def Jo:az:=⟨19,[.t 4],Zr (Zc 4 0 .nil)<| .seq (Zr (Zm 6 0<|Zn 7 6<|Zc 8 0 .nil)<| .block 0<| .loop<|Zr (Zb 9 .lss 8 7 .nil)<| .seq (.cond (.t 9) .skip (.exit 0))<| .seq (.block 1<|Zr (Zm 10 8<|Zm 5 10 .nil)<|Zr (Zm 11 1<|Zm 12 0<|Zm 13 5<|Zi 14 1 12 13<|Zl 15 1 14<|Zo (.call (some 16) false (.t 11) [.t 15]) .nil)<| .cond (.t 16) (Zr (Zm 17 5<|Zm 4 17 .nil) .ret) .skip)<| .rg (Zk 18 .add 8 1<|Zm 8 18 .nil))<|Zr (Zc 4 (-1) .nil) .ret⟩
theorem afk:Qe Tryz.prog Tryz.f160=some Jo:=by kernel_rfl
def JE:az:=⟨15,[.cell 4 2 true],Zr (Zo (.alloc 4 2 41 (.agg [.bool false,.aa])) .nil)<|Zr (Zm 5 1<|Zq 6 false 86 [.t 5]<|Zm 1 6 .nil)<|Zr (Zm 7 0<|Zm 8 7<|Zg 8 true (.mv 9 (.t 1))<|Zg 8 true (.len 10 (.t 9))<|Zg 8 true (.bin 11 .gtr false (.t 10) (.c (Zz 0)))<|Zo (.pick 12 (.t 8) (.t 11) (.c (.bool false)))<|Zm 13 1<|Zo (.bT 14 [.bool false,.aa] [(0,1,.t 12),(1,1,.t 13)])<|Zs 2 4 14 .nil) .ret⟩
theorem afl:Qe Tryz.prog Tryz.f175=some JE:=by kernel_rfl
def II:az:=⟨13,[.cell 4 2 true],Zr (Zo (.alloc 4 2 41 (.agg [.bool false,.aa])) .nil)<|Zr (Zm 5 0<|Zm 6 5<|Zg 6 true (.mv 7 (.t 1))<|Zg 6 true (.len 8 (.t 7))<|Zg 6 true (.bin 9 .gtr false (.t 8) (.c (Zz 0)))<|Zo (.pick 10 (.t 6) (.t 9) (.c (.bool false)))<|Zm 11 1<|Zo (.bT 12 [.bool false,.aa] [(0,1,.t 10),(1,1,.t 11)])<|Zs 2 4 12 .nil) .ret⟩
theorem afm:Qe Tryz.prog Tryz.f118=some II:=by kernel_rfl
def Kd:az:=⟨27,[.t 2],Zr (Zo (.box 1 2 41 (.t 0))<|Zo (.mv 2 (.c (.bool false))) .nil)<|Zr (Zf 4 1 1<|Zl 5 1 4<|Zn 6 5<|Zm 3 6 .nil)<|Zr (Zm 7 3<|Zk 8 .eql 7 0<|Zm 9 8<|Zg 9 true (.cz 10 0 (.t 1))<|Zg 9 true (.ld 11 1 false (.t 10))<|Zg 9 true (.un 12 .not (.t 11))<|Zo (.pick 13 (.t 9) (.t 12) (.c (.bool false)))<|Zm 14 13<|Zg 14 false (.mv 15 (.t 3))<|Zg 14 false (.bin 16 .gtr false (.t 15) (.c (Zz 0)))<|Zg 14 false (.mv 17 (.t 16))<|Zg 17 true (.cz 18 1 (.t 1))<|Zg 17 true (.ld 19 1 false (.t 18))<|Zg 17 true (.mv 20 (.t 3))<|Zg 17 true (.bin 21 .sub false (.t 20) (.c (Zz 1)))<|Zg 17 true (.idx 22 1 (.t 19) (.t 21))<|Zg 17 true (.ld 23 1 false (.t 22))<|Zg 17 true (.bin 24 .neq false (.t 23) (.c (.int .u16 0)))<|Zg 14 false (.pick 25 (.t 17) (.t 24) (.c (.bool false)))<|Zo (.pick 26 (.t 14) (.c (.bool true)) (.t 25))<|Zm 2 26 .nil) .ret⟩
theorem ah4:Qe Tryz.prog Tryz.f42=some Kd:=by kernel_rfl
def Jd:az:=⟨8,[.cell 2 2 true],Zr (Zo (.box 1 2 41 (.t 0))<|Zo (.alloc 2 2 41 (.agg [.bool false,.aa])) .nil)<|Zr (Zf 3 0 1<|Zl 4 1 3<|Zf 5 1 1<|Zl 6 1 5<|Zq 7 false 175 [.t 4,.t 6]<|Zs 2 2 7 .nil) .ret⟩
theorem afn:Qe Tryz.prog Tryz.f149=some Jd:=by kernel_rfl
def Kx:az:=⟨16,[.cell 2 2 true],Zr (Zo (.alloc 2 2 41 (.agg [.bool false,.aa])) .nil)<| .seq (Zr (Zm 3 0<|Zk 4 .lss 3 0 .nil)<| .cond (.t 4) (Zr (Zm 5 0<|Zk 6 .add 5 1<|Zo (.un 7 .neg (.t 6))<|Zo (.conv 8 .u64 (.t 7))<|Zo (.bin 9 .add false (.t 8) (.c (.int .u64 1)))<|Zq 10 false 88 [.t 9]<|Zq 11 false 118 [.c (.bool true),.t 10]<|Zs 2 2 11 .nil) .ret) .skip)<|Zr (Zm 12 0<|Zo (.conv 13 .u64 (.t 12))<|Zq 14 false 88 [.t 13]<|Zq 15 false 118 [.c (.bool false),.t 14]<|Zs 2 2 15 .nil) .ret⟩
theorem ah5:Qe Tryz.prog Tryz.f63=some Kx:=by kernel_rfl
def Kk:az:=⟨11,[.t 2],Zr (Zo (.box 1 2 41 (.t 0))<|Zc 2 0 .nil)<| .seq (.block 0<|Zr (Zf 4 1 1<|Zl 5 1 4<|Zq 6 false 96 [.t 5]<|Zk 7 .eql 6 0<|Zm 3 7 .nil)<| .cond (.t 3) (Zr (Zc 2 0 .nil) .ret) (Zr (Zf 9 0 1<|Zl 10 1 9<|Zm 8 10 .nil)<| .cond (.t 8) (Zr (Zc 2 (-1) .nil) .ret) .skip))<|Zr (Zc 2 1 .nil) .ret⟩
theorem ah6:Qe Tryz.prog Tryz.f50=some Kk:=by kernel_rfl
def Jr:az:=⟨35,[.t 4],Zr (Zo (.box 2 2 41 (.t 0))<|Zo (.box 3 2 41 (.t 1))<|Zc 4 0 .nil)<|Zr (Zh 8 2 2<|Zh 10 2 3<|Zq 9 true 50 [.t 8]<|Zq 11 true 50 [.t 10]<|Zm 5 9<|Zm 6 11 .nil)<|Zr (Zo (.mv 7 (.c (.fn 180 [] []))) .nil)<| .seq (.block 0<|Zr (Zm 13 5<|Zm 14 6<|Zb 15 .lss 13 14<|Zm 12 15 .nil)<| .cond (.t 12) (Zr (Zc 4 (-1) .nil) .ret) (Zr (Zm 17 5<|Zm 18 6<|Zb 19 .gtr 17 18<|Zm 16 19 .nil)<| .cond (.t 16) (Zr (Zc 4 1 .nil) .ret) (Zr (Zm 21 5<|Zk 22 .lss 21 0<|Zm 20 22 .nil)<| .cond (.t 20) (Zr (Zm 23 7<|Zf 24 1 3<|Zl 25 1 24<|Zf 26 1 2<|Zl 27 1 26<|Zo (.call (some 28) false (.t 23) [.t 25,.t 27])<|Zm 4 28 .nil) .ret) .skip)))<|Zr (Zm 29 7<|Zf 30 1 2<|Zl 31 1 30<|Zf 32 1 3<|Zl 33 1 32<|Zo (.call (some 34) false (.t 29) [.t 31,.t 33])<|Zm 4 34 .nil) .ret⟩
theorem afo:Qe Tryz.prog Tryz.f163=some Jr:=by kernel_rfl
def JK:az:=⟨8,[.t 4],Zr (Zc 4 0 .nil)<|Zr (Zm 5 0<|Zm 6 1<|Zq 7 false 144 [.t 5,.t 6]<|Zm 4 7 .nil) .ret⟩
theorem afp:Qe Tryz.prog Tryz.f180=some JK:=by kernel_rfl
def Jf:az:=⟨40,[.cell 4 2 true],Zr (Zo (.box 2 2 41 (.t 0))<|Zo (.box 3 2 41 (.t 1))<|Zo (.alloc 4 2 41 (.agg [.bool false,.aa])) .nil)<| .seq (Zr (Zf 7 0 2<|Zl 8 1 7<|Zf 9 0 3<|Zl 10 1 9<|Zo (.bin 11 .eql true (.t 8) (.t 10)) .nil)<| .cond (.t 11) (Zr (Zf 12 0 2<|Zl 13 1 12<|Zf 14 1 2<|Zl 15 1 14<|Zf 16 1 3<|Zl 17 1 16<|Zq 18 true 176 [.t 15,.t 17]<|Zq 19 true 118 [.t 13,.t 18]<|Zs 2 4 19 .nil) .ret) .skip)<| .seq (Zr (Zf 20 1 2<|Zl 21 1 20<|Zf 22 1 3<|Zl 23 1 22<|Zq 24 false 144 [.t 21,.t 23]<|Zk 25 .lss 24 0 .nil)<| .cond (.t 25) (.rg (Zh 26 2 3<|Zh 27 2 2<|Zs 2 2 26<|Zs 2 3 27 .nil)) .skip)<|Zr (Zf 29 1 2<|Zl 30 1 29<|Zf 31 1 3<|Zl 32 1 31<|Zq 33 false 177 [.t 30,.t 32]<|Zm 28 33<|Zo (.ext 34 (.t 28) 0)<|Zo (.ext 35 (.t 28) 1)<|Zm 5 34<|Zm 6 35 .nil)<|Zr (Zf 36 0 2<|Zl 37 1 36<|Zm 38 5<|Zq 39 false 118 [.t 37,.t 38]<|Zs 2 4 39 .nil) .ret⟩
theorem afq:Qe Tryz.prog Tryz.f150=some Jf:=by kernel_rfl
def KX:az:=⟨16,[.cell 4 2 true],Zr (Zo (.box 2 2 41 (.t 0))<|Zo (.box 3 2 41 (.t 1))<|Zo (.alloc 4 2 41 (.agg [.bool false,.aa])) .nil)<|Zr (Zf 5 0 2<|Zl 6 1 5<|Zf 7 0 3<|Zl 8 1 7<|Zo (.bin 9 .neq true (.t 6) (.t 8))<|Zf 10 1 2<|Zl 11 1 10<|Zf 12 1 3<|Zl 13 1 12<|Zq 14 true 93 [.t 11,.t 13]<|Zq 15 true 118 [.t 9,.t 14]<|Zs 2 4 15 .nil) .ret⟩
theorem ah7:Qe Tryz.prog Tryz.f92=some KX:=by kernel_rfl
def Ke:az:=⟨17,[.t 2],Zr (Zo (.mv 2 (.c (.bool false))) .nil)<|Zr (Zm 4 0<|Zn 5 4<|Zo (.bT 6 [Zz 0,.int .u16 0] [(0,1,.t 5)])<|Zo (.alloc 3 2 107 (.agg [Zz 0,.int .u16 0]))<|Zs 2 3 6 .nil)<| .seq (Zr (Zm 7 0<|Zn 8 7<|Zk 9 .gtr 8 0 .nil)<| .cond (.t 9) (.rg (Zm 10 0<|Zo (.idx 11 1 (.t 10) (.c (Zz 0)))<|Zl 12 1 11<|Zf 13 1 3<|Zs 1 13 12 .nil)) .skip)<|Zr (Zh 14 2 3<|Zo (.bT 15 [Zz 0,.int .u16 0] [(0,1,.c (Zz 1)),(1,1,.c (.int .u16 1))])<|Zo (.eqs 16 false (.t 14) (.t 15))<|Zm 2 16 .nil) .ret⟩
theorem ah8:Qe Tryz.prog Tryz.f43=some Ke:=by kernel_rfl
def Ky:az:=⟨2,[.t 0],Zr (Zo (.mv 0 (.c .aa)) .nil)<|Zr (Zo (.bs 1 1 76 [.c (.int .u16 1)])<|Zm 0 1 .nil) .ret⟩
theorem ah9:Qe Tryz.prog Tryz.f64=some Ky:=by kernel_rfl
def KW:az:=⟨52,[.cell 4 3 true],Zr (Zo (.box 2 2 41 (.t 0))<|Zo (.alloc 4 3 43 (.agg [.bool false,.aa,.aa])) .nil)<|Zr (Zm 6 1<|Zq 7 false 86 [.t 6]<|Zm 1 7 .nil)<|Zr (Zh 8 2 2<|Zq 9 false 149 [.t 8]<|Zs 2 2 9 .nil)<| .seq (Zr (Zm 10 1<|Zn 11 10<|Zk 12 .eql 11 0<|Zm 13 12<|Zg 13 false (.cz 14 1 (.t 2))<|Zg 13 false (.ld 15 1 false (.t 14))<|Zg 13 false (.len 16 (.t 15))<|Zg 13 false (.bin 17 .eql false (.t 16) (.c (Zz 0)))<|Zo (.pick 18 (.t 13) (.c (.bool true)) (.t 17)) .nil)<| .cond (.t 18) (Zr (Zq 19 false 64 []<|Zo (.bT 20 [.bool false,.aa,.aa] [(2,1,.t 19)])<|Zs 3 4 20 .nil) .ret) .skip)<| .seq (Zr (Zm 21 1<|Zq 22 false 43 [.t 21] .nil)<| .cond (.t 22) (Zr (Zh 23 2 2<|Zm 24 1<|Zo (.bT 25 [.bool false,.aa,.aa] [(0,2,.t 23),(2,1,.t 24)])<|Zs 3 4 25 .nil) .ret) .skip)<|Zr (Zf 26 1 2<|Zl 27 1 26<|Zm 28 1<|Zq 29 false 44 [.t 27,.t 28]<|Zm 5 29 .nil)<| .seq (Zr (Zm 30 5<|Zq 31 false 43 [.t 30]<|Zu 32 31 .nil)<| .cond (.t 32) (Zr (Zf 34 1 2<|Zl 35 1 34<|Zm 36 5<|Zq 37 false 89 [.t 35,.t 36]<|Zm 33 37<|Zo (.ext 38 (.t 33) 0)<|Zo (.ext 39 (.t 33) 1)<|Zo (.ext 40 (.t 33) 2)<|Zf 41 1 2<|Zs 1 41 38 .nil)<| .rg (Zm 43 1<|Zm 44 5<|Zq 45 false 89 [.t 43,.t 44]<|Zm 42 45<|Zo (.ext 46 (.t 42) 0)<|Zo (.ext 47 (.t 42) 1)<|Zo (.ext 48 (.t 42) 2)<|Zm 1 46 .nil)) .skip)<|Zr (Zh 49 2 2<|Zm 50 1<|Zo (.bT 51 [.bool false,.aa,.aa] [(0,2,.t 49),(2,1,.t 50)])<|Zs 3 4 51 .nil) .ret⟩
theorem aia:Qe Tryz.prog Tryz.f91=some KW:=by kernel_rfl
def Kj:az:=⟨14,[.cell 2 2 true,.t 3],Zr (Zo (.box 1 3 43 (.t 0))<|Zo (.alloc 2 2 41 (.agg [.bool false,.aa]))<|Zo (.mv 3 (.c .aa)) .nil)<| .seq (Zr (Zf 4 2 1<|Zl 5 1 4<|Zq 6 false 96 [.t 5]<|Zk 7 .eql 6 0 .nil)<| .cond (.t 7) (Zr (Zo (.bT 8 [.bool false,.aa] [])<|Zq 9 false 64 []<|Zs 2 2 8<|Zm 3 9 .nil) .ret) .skip)<|Zr (Zf 10 0 1<|Zh 11 2 10<|Zf 12 2 1<| .br (Zl 13 1 12<|Zs 2 2 11<|Zm 3 13 .nil) (Zs 2 2 11<|Zl 13 1 12<|Zm 3 13 .nil)) .ret⟩
theorem aib:Qe Tryz.prog Tryz.f49=some Kj:=by kernel_rfl
def K3:az:=⟨5,[.cell 2 2 true],Zr (Zo (.alloc 2 2 41 (.agg [.bool false,.aa])) .nil)<|Zr (Zm 3 0<|Zo (.bT 4 [.bool false,.aa] [(1,1,.t 3)])<|Zs 2 2 4 .nil) .ret⟩
theorem aic:Qe Tryz.prog Tryz.f95=some K3:=by kernel_rfl
def Je:az:=⟨36,[.t 2],Zr (Zo (.box 1 3 43 (.t 0))<|Zo (.mv 2 (.c (.bool false))) .nil)<|Zr (Zf 4 2 1<|Zl 5 1 4<|Zn 6 5<|Zm 3 6 .nil)<| .seq (Zr (Zf 7 0 1<|Zh 8 2 7<|Zq 9 false 42 [.t 8]<|Zu 10 9<|Zm 11 10<|Zg 11 false (.mv 12 (.t 3))<|Zg 11 false (.bin 13 .eql false (.t 12) (.c (Zz 0)))<|Zo (.pick 14 (.t 11) (.c (.bool true)) (.t 13))<|Zm 15 14<|Zg 15 false (.cz 16 2 (.t 1))<|Zg 15 false (.ld 17 1 false (.t 16))<|Zg 15 false (.mv 18 (.t 3))<|Zg 15 false (.bin 19 .sub false (.t 18) (.c (Zz 1)))<|Zg 15 false (.idx 20 1 (.t 17) (.t 19))<|Zg 15 false (.ld 21 1 false (.t 20))<|Zg 15 false (.bin 22 .eql false (.t 21) (.c (.int .u16 0)))<|Zo (.pick 23 (.t 15) (.c (.bool true)) (.t 22)) .nil)<| .cond (.t 23) (Zr (Zo (.mv 2 (.c (.bool false))) .nil) .ret) .skip)<|Zr (Zf 24 2 1<|Zl 25 1 24<|Zq 26 false 43 [.t 25]<|Zm 27 26<|Zg 27 false (.cz 28 0 (.t 1))<|Zg 27 false (.cz 29 1 (.t 28))<|Zg 27 false (.ld 30 1 false (.t 29))<|Zg 27 false (.cz 31 2 (.t 1))<|Zg 27 false (.ld 32 1 false (.t 31))<|Zg 27 false (.call (some 33) false (.c (.fn 44 [] [])) [.t 30,.t 32])<|Zg 27 false (.call (some 34) false (.c (.fn 43 [] [])) [.t 33])<|Zo (.pick 35 (.t 27) (.c (.bool true)) (.t 34))<|Zm 2 35 .nil) .ret⟩
theorem aid:Qe Tryz.prog Tryz.f15=some Je:=by kernel_rfl
def JV:az:=⟨7,[.cell 2 3 true],Zr (Zo (.alloc 2 3 43 (.agg [.bool false,.aa,.aa])) .nil)<|Zr (Zm 3 0<|Zq 4 false 63 [.t 3]<|Zq 5 false 64 []<|Zo (.bT 6 [.bool false,.aa,.aa] [(0,2,.t 4),(2,1,.t 5)])<|Zs 3 2 6 .nil) .ret⟩
theorem aie:Qe Tryz.prog Tryz.f26=some JV:=by kernel_rfl
def Jy:az:=⟨12,[.t 2],Zr (Zo (.box 1 3 43 (.t 0))<|Zc 2 0 .nil)<|Zr (Zh 6 3 1<|Zq 7 false 49 [.t 6]<|Zm 5 7<|Zo (.ext 8 (.t 5) 0)<|Zo (.ext 9 (.t 5) 1)<|Zo (.alloc 3 2 41 (.agg [.bool false,.aa]))<|Zs 2 3 8<|Zm 4 9 .nil)<|Zr (Zh 10 2 3<|Zq 11 false 50 [.t 10]<|Zm 2 11 .nil) .ret⟩
theorem aif:Qe Tryz.prog Tryz.f17=some Jy:=by kernel_rfl
def IQ:az:=⟨40,[.t 4],Zr (Zo (.box 2 3 43 (.t 0))<|Zo (.box 3 3 43 (.t 1))<|Zc 4 0 .nil)<|Zr (Zh 11 3 2<|Zh 13 3 3<|Zq 12 true 17 [.t 11]<|Zq 14 true 17 [.t 13]<|Zm 5 12<|Zm 6 14 .nil)<| .seq (Zr (Zm 15 5<|Zm 16 6<|Zb 17 .neq 15 16 .nil)<| .cond (.t 17) (.seq (Zr (Zm 18 5<|Zm 19 6<|Zb 20 .lss 18 19 .nil)<| .cond (.t 20) (Zr (Zc 4 (-1) .nil) .ret) .skip)<|Zr (Zc 4 1 .nil) .ret) .skip)<|Zr (Zh 22 3 2<|Zq 23 false 49 [.t 22]<|Zm 21 23<|Zo (.ext 24 (.t 21) 0)<|Zo (.ext 25 (.t 21) 1)<|Zo (.alloc 7 2 41 (.agg [.bool false,.aa]))<|Zs 2 7 24<|Zm 8 25 .nil)<|Zr (Zh 27 3 3<|Zq 28 false 49 [.t 27]<|Zm 26 28<|Zo (.ext 29 (.t 26) 0)<|Zo (.ext 30 (.t 26) 1)<|Zo (.alloc 9 2 41 (.agg [.bool false,.aa]))<|Zs 2 9 29<|Zm 10 30 .nil)<|Zr (Zh 31 2 7<|Zm 32 10<|Zh 35 2 9<|Zm 36 8<|Zq 33 true 95 [.t 32]<|Zq 34 true 92 [.t 31,.t 33]<|Zq 37 true 95 [.t 36]<|Zq 38 true 92 [.t 35,.t 37]<|Zq 39 true 163 [.t 34,.t 38]<|Zm 4 39 .nil) .ret⟩
theorem afr:Qe Tryz.prog Tryz.f126=some IQ:=by kernel_rfl
def KZ:az:=⟨17,[.cell 2 2 true],Zr (Zo (.alloc 2 2 41 (.agg [.bool false,.aa])) .nil)<|Zr (Zo (.alloc 3 2 41 (.agg [.bool false,.aa])) .nil)<| .seq (Zr (Zm 6 0<|Zn 7 6<|Zc 8 0 .nil)<| .block 0<| .loop<|Zr (Zb 9 .lss 8 7 .nil)<| .seq (.cond (.t 9) .skip (.exit 0))<| .seq (.block 1<|Zr (Zi 10 2 6 8<|Zh 11 2 10<|Zo (.alloc 5 2 41 (.agg [.bool false,.aa]))<|Zs 2 5 11 .nil)<| .rg (Zh 12 2 3<|Zh 13 2 5<|Zq 14 false 150 [.t 12,.t 13]<|Zs 2 3 14 .nil))<| .rg (Zk 15 .add 8 1<|Zm 8 15 .nil))<|Zr (Zh 16 2 3<|Zs 2 2 16 .nil) .ret⟩
theorem aih:Qe Tryz.prog Tryz.f94=some KZ:=by kernel_rfl
def Ki:az:=⟨45,[.cell 4 3 true],Zr (Zo (.box 2 3 43 (.t 0))<|Zo (.box 3 3 43 (.t 1))<|Zo (.alloc 4 3 43 (.agg [.bool false,.aa,.aa])) .nil)<|Zr (Zh 10 3 2<|Zq 11 false 49 [.t 10]<|Zm 9 11<|Zo (.ext 12 (.t 9) 0)<|Zo (.ext 13 (.t 9) 1)<|Zo (.alloc 5 2 41 (.agg [.bool false,.aa]))<|Zs 2 5 12<|Zm 6 13 .nil)<|Zr (Zh 15 3 3<|Zq 16 false 49 [.t 15]<|Zm 14 16<|Zo (.ext 17 (.t 14) 0)<|Zo (.ext 18 (.t 14) 1)<|Zo (.alloc 7 2 41 (.agg [.bool false,.aa]))<|Zs 2 7 17<|Zm 8 18 .nil)<| .seq (Zr (Zm 19 6<|Zq 20 false 43 [.t 19]<|Zm 21 20<|Zg 21 true (.mv 22 (.t 8))<|Zg 21 true (.call (some 23) false (.c (.fn 43 [] [])) [.t 22])<|Zo (.pick 24 (.t 21) (.t 23) (.c (.bool false))) .nil)<| .cond (.t 24) (Zr (Zh 25 2 5<|Zh 26 2 7<|Zo (.bs 27 2 41 [.t 25,.t 26])<|Zq 28 false 94 [.t 27]<|Zm 29 6<|Zq 30 false 91 [.t 28,.t 29]<|Zs 3 4 30 .nil) .ret) .skip)<|Zr (Zh 31 2 5<|Zm 32 8<|Zh 35 2 7<|Zm 36 6<|Zm 41 6<|Zm 42 8<|Zq 33 true 95 [.t 32]<|Zq 34 true 92 [.t 31,.t 33]<|Zq 37 true 95 [.t 36]<|Zq 38 true 92 [.t 35,.t 37]<|Zo (.bs 39 2 41 [.t 34,.t 38])<|Zq 40 true 94 [.t 39]<|Zq 43 true 93 [.t 41,.t 42]<|Zq 44 true 91 [.t 40,.t 43]<|Zs 3 4 44 .nil) .ret⟩
theorem aii:Qe Tryz.prog Tryz.f48=some Ki:=by kernel_rfl
def Kh:az:=⟨26,[.cell 4 3 true],Zr (Zo (.box 2 3 43 (.t 0))<|Zo (.box 3 3 43 (.t 1))<|Zo (.alloc 4 3 43 (.agg [.bool false,.aa,.aa])) .nil)<|Zr (Zh 10 3 2<|Zq 11 false 49 [.t 10]<|Zm 9 11<|Zo (.ext 12 (.t 9) 0)<|Zo (.ext 13 (.t 9) 1)<|Zo (.alloc 5 2 41 (.agg [.bool false,.aa]))<|Zs 2 5 12<|Zm 6 13 .nil)<|Zr (Zh 15 3 3<|Zq 16 false 49 [.t 15]<|Zm 14 16<|Zo (.ext 17 (.t 14) 0)<|Zo (.ext 18 (.t 14) 1)<|Zo (.alloc 7 2 41 (.agg [.bool false,.aa]))<|Zs 2 7 17<|Zm 8 18 .nil)<|Zr (Zh 19 2 5<|Zh 20 2 7<|Zq 21 false 92 [.t 19,.t 20]<|Zm 22 6<|Zm 23 8<|Zq 24 false 93 [.t 22,.t 23]<|Zq 25 false 91 [.t 21,.t 24]<|Zs 3 4 25 .nil) .ret⟩
theorem aij:Qe Tryz.prog Tryz.f46=some Kh:=by kernel_rfl
def Jp:az:=⟨21,[.cell 4 3 true,.t 5],Zr (Zo (.box 2 2 41 (.t 0))<|Zo (.box 3 2 41 (.t 1))<|Zo (.alloc 4 3 43 (.agg [.bool false,.aa,.aa]))<|Zc 5 0 .nil)<| .seq (Zr (Zh 6 2 3<|Zq 7 false 50 [.t 6]<|Zk 8 .eql 7 0 .nil)<| .cond (.t 8) (Zr (Zo (.bT 9 [.bool false,.aa,.aa] [])<|Zs 3 4 9<|Zc 5 3 .nil) .ret) .skip)<|Zr (Zf 10 0 2<|Zl 11 1 10<|Zf 12 0 3<|Zl 13 1 12<|Zo (.bin 14 .neq true (.t 11) (.t 13))<|Zf 15 1 2<|Zl 16 1 15<|Zo (.bT 17 [.bool false,.aa] [(0,1,.t 14),(1,1,.t 16)])<|Zf 18 1 3<|Zl 19 1 18<|Zq 20 false 91 [.t 17,.t 19]<|Zs 3 4 20<|Zc 5 0 .nil) .ret⟩
theorem afs:Qe Tryz.prog Tryz.f161=some Jp:=by kernel_rfl
def Jc:az:=⟨108,[.t 4],Zr (Zo (.box 2 1 39 (.t 0))<|Zo (.box 3 1 39 (.t 1))<|Zo (.mv 4 (.c .aa)) .nil)<|Zr (Zl 12 1 3<|Zn 13 12<|Zo (.alloc 5 1 3 (Zz 0))<|Zs 1 5 13 .nil)<|Zr (Zl 14 1 2<|Zn 15 14<|Zl 16 1 5<|Zb 17 .sub 15 16<|Zo (.mk 18 1 2 76 (.int .u16 0) (.t 17) (.t 17))<|Zm 6 18 .nil)<| .seq (Zr (Zl 19 1 2<|Zn 20 19<|Zl 21 1 5<|Zb 22 .sub 20 21<|Zk 23 .sub 22 1<|Zo (.alloc 7 1 3 (Zz 0))<|Zs 1 7 23 .nil)<| .block 0<| .loop<| .seq (Zr (Zl 24 1 7<|Zk 25 .geq 24 0 .nil)<| .cond (.t 25) .skip (.exit 0))<| .seq (.block 1<|Zr (Zl 28 1 2<|Zl 29 1 7<|Zl 30 1 5<|Zb 31 .add 29 30<|Zi 32 1 28 31<|Zl 33 1 32<|Zo (.conv 34 .u64 (.t 33))<|Zo (.bin 35 .shl false (.t 34) (.c (.int .u64 16)))<|Zl 36 1 2<|Zl 37 1 7<|Zl 38 1 5<|Zb 39 .add 37 38<|Zk 40 .sub 39 1<|Zi 41 1 36 40<|Zl 42 1 41<|Zo (.conv 43 .u64 (.t 42))<|Zb 44 .or 35 43<|Zm 8 44 .nil)<|Zr (Zm 45 8<|Zl 46 1 3<|Zl 47 1 5<|Zk 48 .sub 47 1<|Zi 49 1 46 48<|Zl 50 1 49<|Zo (.conv 51 .u64 (.t 50))<|Zb 52 .quo 45 51<|Zm 53 8<| .br (Zl 54 1 3<| .br (Zl 55 1 5<|Zk 56 .sub 55 1<|Zi 57 1 54 56<| .br (Zl 58 1 57<|Zo (.conv 59 .u64 (.t 58))<|Zb 60 .rem 53 59<| .br (Zo (.alloc 9 1 101 (.int .u64 0))<|Zo (.alloc 10 1 101 (.int .u64 0))<|Zs 1 9 52<|Zs 1 10 60 .nil) (Zo (.alloc 10 1 101 (.int .u64 0))<|Zo (.alloc 9 1 101 (.int .u64 0))<|Zs 1 9 52<|Zs 1 10 60 .nil)) (.br (Zo (.alloc 9 1 101 (.int .u64 0))<| .br (Zl 58 1 57<|Zo (.conv 59 .u64 (.t 58))<|Zb 60 .rem 53 59<|Zo (.alloc 10 1 101 (.int .u64 0))<|Zs 1 9 52<|Zs 1 10 60 .nil) (Zo (.alloc 10 1 101 (.int .u64 0))<| .br (Zl 58 1 57<|Zo (.conv 59 .u64 (.t 58))<|Zb 60 .rem 53 59<|Zs 1 9 52<|Zs 1 10 60 .nil) (Zs 1 9 52<|Zl 58 1 57<|Zo (.conv 59 .u64 (.t 58))<|Zb 60 .rem 53 59<|Zs 1 10 60 .nil))) (Zo (.alloc 10 1 101 (.int .u64 0))<| .br (Zl 58 1 57<|Zo (.conv 59 .u64 (.t 58))<|Zb 60 .rem 53 59<|Zo (.alloc 9 1 101 (.int .u64 0))<|Zs 1 9 52<|Zs 1 10 60 .nil) (Zo (.alloc 9 1 101 (.int .u64 0))<| .br (Zl 58 1 57<|Zo (.conv 59 .u64 (.t 58))<|Zb 60 .rem 53 59<|Zs 1 9 52<|Zs 1 10 60 .nil) (Zs 1 9 52<|Zl 58 1 57<|Zo (.conv 59 .u64 (.t 58))<|Zb 60 .rem 53 59<|Zs 1 10 60 .nil))))) (.br (Zo (.alloc 9 1 101 (.int .u64 0))<| .br (Zl 55 1 5<|Zk 56 .sub 55 1<|Zi 57 1 54 56<| .br (Zl 58 1 57<|Zo (.conv 59 .u64 (.t 58))<|Zb 60 .rem 53 59<|Zo (.alloc 10 1 101 (.int .u64 0))<|Zs 1 9 52<|Zs 1 10 60 .nil) (Zo (.alloc 10 1 101 (.int .u64 0))<| .br (Zl 58 1 57<|Zo (.conv 59 .u64 (.t 58))<|Zb 60 .rem 53 59<|Zs 1 9 52<|Zs 1 10 60 .nil) (Zs 1 9 52<|Zl 58 1 57<|Zo (.conv 59 .u64 (.t 58))<|Zb 60 .rem 53 59<|Zs 1 10 60 .nil))) (Zo (.alloc 10 1 101 (.int .u64 0))<| .br (Zl 55 1 5<|Zk 56 .sub 55 1<|Zi 57 1 54 56<| .br (Zl 58 1 57<|Zo (.conv 59 .u64 (.t 58))<|Zb 60 .rem 53 59<|Zs 1 9 52<|Zs 1 10 60 .nil) (Zs 1 9 52<|Zl 58 1 57<|Zo (.conv 59 .u64 (.t 58))<|Zb 60 .rem 53 59<|Zs 1 10 60 .nil)) (Zs 1 9 52<|Zl 55 1 5<|Zk 56 .sub 55 1<|Zi 57 1 54 56<|Zl 58 1 57<|Zo (.conv 59 .u64 (.t 58))<|Zb 60 .rem 53 59<|Zs 1 10 60 .nil))) (Zo (.alloc 10 1 101 (.int .u64 0))<| .br (Zl 55 1 5<|Zk 56 .sub 55 1<|Zi 57 1 54 56<| .br (Zl 58 1 57<|Zo (.conv 59 .u64 (.t 58))<|Zb 60 .rem 53 59<|Zo (.alloc 9 1 101 (.int .u64 0))<|Zs 1 9 52<|Zs 1 10 60 .nil) (Zo (.alloc 9 1 101 (.int .u64 0))<| .br (Zl 58 1 57<|Zo (.conv 59 .u64 (.t 58))<|Zb 60 .rem 53 59<|Zs 1 9 52<|Zs 1 10 60 .nil) (Zs 1 9 52<|Zl 58 1 57<|Zo (.conv 59 .u64 (.t 58))<|Zb 60 .rem 53 59<|Zs 1 10 60 .nil))) (Zo (.alloc 9 1 101 (.int .u64 0))<| .br (Zl 55 1 5<|Zk 56 .sub 55 1<|Zi 57 1 54 56<| .br (Zl 58 1 57<|Zo (.conv 59 .u64 (.t 58))<|Zb 60 .rem 53 59<|Zs 1 9 52<|Zs 1 10 60 .nil) (Zs 1 9 52<|Zl 58 1 57<|Zo (.conv 59 .u64 (.t 58))<|Zb 60 .rem 53 59<|Zs 1 10 60 .nil)) (Zs 1 9 52<|Zl 55 1 5<|Zk 56 .sub 55 1<|Zi 57 1 54 56<|Zl 58 1 57<|Zo (.conv 59 .u64 (.t 58))<|Zb 60 .rem 53 59<|Zs 1 10 60 .nil))))) (.br (Zl 55 1 5<|Zk 56 .sub 55 1<| .br (Zl 54 1 3<|Zi 57 1 54 56<| .br (Zl 58 1 57<|Zo (.conv 59 .u64 (.t 58))<|Zb 60 .rem 53 59<| .br (Zo (.alloc 9 1 101 (.int .u64 0))<|Zo (.alloc 10 1 101 (.int .u64 0))<|Zs 1 9 52<|Zs 1 10 60 .nil) (Zo (.alloc 10 1 101 (.int .u64 0))<|Zo (.alloc 9 1 101 (.int .u64 0))<|Zs 1 9 52<|Zs 1 10 60 .nil)) (.br (Zo (.alloc 9 1 101 (.int .u64 0))<| .br (Zl 58 1 57<|Zo (.conv 59 .u64 (.t 58))<|Zb 60 .rem 53 59<|Zo (.alloc 10 1 101 (.int .u64 0))<|Zs 1 9 52<|Zs 1 10 60 .nil) (Zo (.alloc 10 1 101 (.int .u64 0))<| .br (Zl 58 1 57<|Zo (.conv 59 .u64 (.t 58))<|Zb 60 .rem 53 59<|Zs 1 9 52<|Zs 1 10 60 .nil) (Zs 1 9 52<|Zl 58 1 57<|Zo (.conv 59 .u64 (.t 58))<|Zb 60 .rem 53 59<|Zs 1 10 60 .nil))) (Zo (.alloc 10 1 101 (.int .u64 0))<| .br (Zl 58 1 57<|Zo (.conv 59 .u64 (.t 58))<|Zb 60 .rem 53 59<|Zo (.alloc 9 1 101 (.int .u64 0))<|Zs 1 9 52<|Zs 1 10 60 .nil) (Zo (.alloc 9 1 101 (.int .u64 0))<| .br (Zl 58 1 57<|Zo (.conv 59 .u64 (.t 58))<|Zb 60 .rem 53 59<|Zs 1 9 52<|Zs 1 10 60 .nil) (Zs 1 9 52<|Zl 58 1 57<|Zo (.conv 59 .u64 (.t 58))<|Zb 60 .rem 53 59<|Zs 1 10 60 .nil))))) (.br (Zo (.alloc 9 1 101 (.int .u64 0))<| .br (Zl 54 1 3<|Zi 57 1 54 56<| .br (Zl 58 1 57<|Zo (.conv 59 .u64 (.t 58))<|Zb 60 .rem 53 59<|Zo (.alloc 10 1 101 (.int .u64 0))<|Zs 1 9 52<|Zs 1 10 60 .nil) (Zo (.alloc 10 1 101 (.int .u64 0))<| .br (Zl 58 1 57<|Zo (.conv 59 .u64 (.t 58))<|Zb 60 .rem 53 59<|Zs 1 9 52<|Zs 1 10 60 .nil) (Zs 1 9 52<|Zl 58 1 57<|Zo (.conv 59 .u64 (.t 58))<|Zb 60 .rem 53 59<|Zs 1 10 60 .nil))) (Zo (.alloc 10 1 101 (.int .u64 0))<| .br (Zl 54 1 3<|Zi 57 1 54 56<| .br (Zl 58 1 57<|Zo (.conv 59 .u64 (.t 58))<|Zb 60 .rem 53 59<|Zs 1 9 52<|Zs 1 10 60 .nil) (Zs 1 9 52<|Zl 58 1 57<|Zo (.conv 59 .u64 (.t 58))<|Zb 60 .rem 53 59<|Zs 1 10 60 .nil)) (Zs 1 9 52<|Zl 54 1 3<|Zi 57 1 54 56<|Zl 58 1 57<|Zo (.conv 59 .u64 (.t 58))<|Zb 60 .rem 53 59<|Zs 1 10 60 .nil))) (Zo (.alloc 10 1 101 (.int .u64 0))<| .br (Zl 54 1 3<|Zi 57 1 54 56<| .br (Zl 58 1 57<|Zo (.conv 59 .u64 (.t 58))<|Zb 60 .rem 53 59<|Zo (.alloc 9 1 101 (.int .u64 0))<|Zs 1 9 52<|Zs 1 10 60 .nil) (Zo (.alloc 9 1 101 (.int .u64 0))<| .br (Zl 58 1 57<|Zo (.conv 59 .u64 (.t 58))<|Zb 60 .rem 53 59<|Zs 1 9 52<|Zs 1 10 60 .nil) (Zs 1 9 52<|Zl 58 1 57<|Zo (.conv 59 .u64 (.t 58))<|Zb 60 .rem 53 59<|Zs 1 10 60 .nil))) (Zo (.alloc 9 1 101 (.int .u64 0))<| .br (Zl 54 1 3<|Zi 57 1 54 56<| .br (Zl 58 1 57<|Zo (.conv 59 .u64 (.t 58))<|Zb 60 .rem 53 59<|Zs 1 9 52<|Zs 1 10 60 .nil) (Zs 1 9 52<|Zl 58 1 57<|Zo (.conv 59 .u64 (.t 58))<|Zb 60 .rem 53 59<|Zs 1 10 60 .nil)) (Zs 1 9 52<|Zl 54 1 3<|Zi 57 1 54 56<|Zl 58 1 57<|Zo (.conv 59 .u64 (.t 58))<|Zb 60 .rem 53 59<|Zs 1 10 60 .nil))))) (.br (Zo (.alloc 9 1 101 (.int .u64 0))<| .br (Zl 54 1 3<| .br (Zl 55 1 5<|Zk 56 .sub 55 1<|Zi 57 1 54 56<| .br (Zl 58 1 57<|Zo (.conv 59 .u64 (.t 58))<|Zb 60 .rem 53 59<|Zo (.alloc 10 1 101 (.int .u64 0))<|Zs 1 9 52<|Zs 1 10 60 .nil) (Zo (.alloc 10 1 101 (.int .u64 0))<| .br (Zl 58 1 57<|Zo (.conv 59 .u64 (.t 58))<|Zb 60 .rem 53 59<|Zs 1 9 52<|Zs 1 10 60 .nil) (Zs 1 9 52<|Zl 58 1 57<|Zo (.conv 59 .u64 (.t 58))<|Zb 60 .rem 53 59<|Zs 1 10 60 .nil))) (Zo (.alloc 10 1 101 (.int .u64 0))<| .br (Zl 55 1 5<|Zk 56 .sub 55 1<|Zi 57 1 54 56<| .br (Zl 58 1 57<|Zo (.conv 59 .u64 (.t 58))<|Zb 60 .rem 53 59<|Zs 1 9 52<|Zs 1 10 60 .nil) (Zs 1 9 52<|Zl 58 1 57<|Zo (.conv 59 .u64 (.t 58))<|Zb 60 .rem 53 59<|Zs 1 10 60 .nil)) (Zs 1 9 52<|Zl 55 1 5<|Zk 56 .sub 55 1<|Zi 57 1 54 56<|Zl 58 1 57<|Zo (.conv 59 .u64 (.t 58))<|Zb 60 .rem 53 59<|Zs 1 10 60 .nil))) (.br (Zl 55 1 5<|Zk 56 .sub 55 1<| .br (Zl 54 1 3<|Zi 57 1 54 56<| .br (Zl 58 1 57<|Zo (.conv 59 .u64 (.t 58))<|Zb 60 .rem 53 59<|Zo (.alloc 10 1 101 (.int .u64 0))<|Zs 1 9 52<|Zs 1 10 60 .nil) (Zo (.alloc 10 1 101 (.int .u64 0))<| .br (Zl 58 1 57<|Zo (.conv 59 .u64 (.t 58))<|Zb 60 .rem 53 59<|Zs 1 9 52<|Zs 1 10 60 .nil) (Zs 1 9 52<|Zl 58 1 57<|Zo (.conv 59 .u64 (.t 58))<|Zb 60 .rem 53 59<|Zs 1 10 60 .nil))) (Zo (.alloc 10 1 101 (.int .u64 0))<| .br (Zl 54 1 3<|Zi 57 1 54 56<| .br (Zl 58 1 57<|Zo (.conv 59 .u64 (.t 58))<|Zb 60 .rem 53 59<|Zs 1 9 52<|Zs 1 10 60 .nil) (Zs 1 9 52<|Zl 58 1 57<|Zo (.conv 59 .u64 (.t 58))<|Zb 60 .rem 53 59<|Zs 1 10 60 .nil)) (Zs 1 9 52<|Zl 54 1 3<|Zi 57 1 54 56<|Zl 58 1 57<|Zo (.conv 59 .u64 (.t 58))<|Zb 60 .rem 53 59<|Zs 1 10 60 .nil))) (Zo (.alloc 10 1 101 (.int .u64 0))<| .br (Zl 54 1 3<| .br (Zl 55 1 5<|Zk 56 .sub 55 1<|Zi 57 1 54 56<| .br (Zl 58 1 57<|Zo (.conv 59 .u64 (.t 58))<|Zb 60 .rem 53 59<|Zs 1 9 52<|Zs 1 10 60 .nil) (Zs 1 9 52<|Zl 58 1 57<|Zo (.conv 59 .u64 (.t 58))<|Zb 60 .rem 53 59<|Zs 1 10 60 .nil)) (Zs 1 9 52<|Zl 55 1 5<|Zk 56 .sub 55 1<|Zi 57 1 54 56<|Zl 58 1 57<|Zo (.conv 59 .u64 (.t 58))<|Zb 60 .rem 53 59<|Zs 1 10 60 .nil)) (.br (Zl 55 1 5<|Zk 56 .sub 55 1<| .br (Zl 54 1 3<|Zi 57 1 54 56<| .br (Zl 58 1 57<|Zo (.conv 59 .u64 (.t 58))<|Zb 60 .rem 53 59<|Zs 1 9 52<|Zs 1 10 60 .nil) (Zs 1 9 52<|Zl 58 1 57<|Zo (.conv 59 .u64 (.t 58))<|Zb 60 .rem 53 59<|Zs 1 10 60 .nil)) (Zs 1 9 52<|Zl 54 1 3<|Zi 57 1 54 56<|Zl 58 1 57<|Zo (.conv 59 .u64 (.t 58))<|Zb 60 .rem 53 59<|Zs 1 10 60 .nil)) (Zs 1 9 52<| .br (Zl 54 1 3<|Zl 55 1 5<|Zk 56 .sub 55 1<|Zi 57 1 54 56<|Zl 58 1 57<|Zo (.conv 59 .u64 (.t 58))<|Zb 60 .rem 53 59<|Zs 1 10 60 .nil) (Zl 55 1 5<|Zk 56 .sub 55 1<|Zl 54 1 3<|Zi 57 1 54 56<|Zl 58 1 57<|Zo (.conv 59 .u64 (.t 58))<|Zb 60 .rem 53 59<|Zs 1 10 60 .nil)))))) (Zo (.alloc 10 1 101 (.int .u64 0))<| .br (Zl 54 1 3<| .br (Zl 55 1 5<|Zk 56 .sub 55 1<|Zi 57 1 54 56<| .br (Zl 58 1 57<|Zo (.conv 59 .u64 (.t 58))<|Zb 60 .rem 53 59<|Zo (.alloc 9 1 101 (.int .u64 0))<|Zs 1 9 52<|Zs 1 10 60 .nil) (Zo (.alloc 9 1 101 (.int .u64 0))<| .br (Zl 58 1 57<|Zo (.conv 59 .u64 (.t 58))<|Zb 60 .rem 53 59<|Zs 1 9 52<|Zs 1 10 60 .nil) (Zs 1 9 52<|Zl 58 1 57<|Zo (.conv 59 .u64 (.t 58))<|Zb 60 .rem 53 59<|Zs 1 10 60 .nil))) (Zo (.alloc 9 1 101 (.int .u64 0))<| .br (Zl 55 1 5<|Zk 56 .sub 55 1<|Zi 57 1 54 56<| .br (Zl 58 1 57<|Zo (.conv 59 .u64 (.t 58))<|Zb 60 .rem 53 59<|Zs 1 9 52<|Zs 1 10 60 .nil) (Zs 1 9 52<|Zl 58 1 57<|Zo (.conv 59 .u64 (.t 58))<|Zb 60 .rem 53 59<|Zs 1 10 60 .nil)) (Zs 1 9 52<|Zl 55 1 5<|Zk 56 .sub 55 1<|Zi 57 1 54 56<|Zl 58 1 57<|Zo (.conv 59 .u64 (.t 58))<|Zb 60 .rem 53 59<|Zs 1 10 60 .nil))) (.br (Zl 55 1 5<|Zk 56 .sub 55 1<| .br (Zl 54 1 3<|Zi 57 1 54 56<| .br (Zl 58 1 57<|Zo (.conv 59 .u64 (.t 58))<|Zb 60 .rem 53 59<|Zo (.alloc 9 1 101 (.int .u64 0))<|Zs 1 9 52<|Zs 1 10 60 .nil) (Zo (.alloc 9 1 101 (.int .u64 0))<| .br (Zl 58 1 57<|Zo (.conv 59 .u64 (.t 58))<|Zb 60 .rem 53 59<|Zs 1 9 52<|Zs 1 10 60 .nil) (Zs 1 9 52<|Zl 58 1 57<|Zo (.conv 59 .u64 (.t 58))<|Zb 60 .rem 53 59<|Zs 1 10 60 .nil))) (Zo (.alloc 9 1 101 (.int .u64 0))<| .br (Zl 54 1 3<|Zi 57 1 54 56<| .br (Zl 58 1 57<|Zo (.conv 59 .u64 (.t 58))<|Zb 60 .rem 53 59<|Zs 1 9 52<|Zs 1 10 60 .nil) (Zs 1 9 52<|Zl 58 1 57<|Zo (.conv 59 .u64 (.t 58))<|Zb 60 .rem 53 59<|Zs 1 10 60 .nil)) (Zs 1 9 52<|Zl 54 1 3<|Zi 57 1 54 56<|Zl 58 1 57<|Zo (.conv 59 .u64 (.t 58))<|Zb 60 .rem 53 59<|Zs 1 10 60 .nil))) (Zo (.alloc 9 1 101 (.int .u64 0))<| .br (Zl 54 1 3<| .br (Zl 55 1 5<|Zk 56 .sub 55 1<|Zi 57 1 54 56<| .br (Zl 58 1 57<|Zo (.conv 59 .u64 (.t 58))<|Zb 60 .rem 53 59<|Zs 1 9 52<|Zs 1 10 60 .nil) (Zs 1 9 52<|Zl 58 1 57<|Zo (.conv 59 .u64 (.t 58))<|Zb 60 .rem 53 59<|Zs 1 10 60 .nil)) (Zs 1 9 52<|Zl 55 1 5<|Zk 56 .sub 55 1<|Zi 57 1 54 56<|Zl 58 1 57<|Zo (.conv 59 .u64 (.t 58))<|Zb 60 .rem 53 59<|Zs 1 10 60 .nil)) (.br (Zl 55 1 5<|Zk 56 .sub 55 1<| .br (Zl 54 1 3<|Zi 57 1 54 56<| .br (Zl 58 1 57<|Zo (.conv 59 .u64 (.t 58))<|Zb 60 .rem 53 59<|Zs 1 9 52<|Zs 1 10 60 .nil) (Zs 1 9 52<|Zl 58 1 57<|Zo (.conv 59 .u64 (.t 58))<|Zb 60 .rem 53 59<|Zs 1 10 60 .nil)) (Zs 1 9 52<|Zl 54 1 3<|Zi 57 1 54 56<|Zl 58 1 57<|Zo (.conv 59 .u64 (.t 58))<|Zb 60 .rem 53 59<|Zs 1 10 60 .nil)) (Zs 1 9 52<| .br (Zl 54 1 3<|Zl 55 1 5<|Zk 56 .sub 55 1<|Zi 57 1 54 56<|Zl 58 1 57<|Zo (.conv 59 .u64 (.t 58))<|Zb 60 .rem 53 59<|Zs 1 10 60 .nil) (Zl 55 1 5<|Zk 56 .sub 55 1<|Zl 54 1 3<|Zi 57 1 54 56<|Zl 58 1 57<|Zo (.conv 59 .u64 (.t 58))<|Zb 60 .rem 53 59<|Zs 1 10 60 .nil)))))))))<|Zr (Zo (.fn 61 172 [] [.t 9,.t 3,.t 5,.t 10,.t 2,.t 7])<|Zm 11 61 .nil)<| .seq (.block 2<| .loop<| .seq (Zr (Zl 62 1 10<|Zo (.bin 63 .lss false (.t 62) (.c (.int .u64 65536)))<|Zm 64 63<|Zg 64 true (.mv 65 (.t 11))<|Zg 64 true (.call (some 66) false (.t 65) [])<|Zo (.pick 67 (.t 64) (.t 66) (.c (.bool false))) .nil)<| .cond (.t 67) .skip (.exit 2))<| .block 3<|Zr (Zl 68 1 9<|Zo (.bin 69 .sub false (.t 68) (.c (.int .u64 1)))<|Zs 1 9 69 .nil)<| .rg (Zl 70 1 10<|Zl 71 1 3<|Zl 72 1 5<|Zk 73 .sub 72 1<|Zi 74 1 71 73<|Zl 75 1 74<|Zo (.conv 76 .u64 (.t 75))<|Zb 77 .add 70 76<|Zs 1 10 77 .nil))<| .seq (Zr (Zl 78 1 2<|Zl 79 1 7<|Zl 80 1 7<|Zl 81 1 5<|Zb 82 .add 80 81<|Zk 83 .add 82 1<|Zo (.sl 84 1 (.t 78) (some (.t 79)) (some (.t 83)) none)<|Zl 85 1 3<|Zl 86 1 9<|Zo (.conv 87 .u32 (.t 86))<|Zq 88 false 173 [.t 84,.t 85,.t 87] .nil)<| .cond (.t 88) (Zr (Zl 89 1 9<|Zo (.bin 90 .sub false (.t 89) (.c (.int .u64 1)))<|Zs 1 9 90 .nil)<| .rg (Zl 91 1 2<|Zl 92 1 7<|Zl 93 1 7<|Zl 94 1 5<|Zb 95 .add 93 94<|Zk 96 .add 95 1<|Zo (.sl 97 1 (.t 91) (some (.t 92)) (some (.t 96)) none)<|Zl 98 1 3<|Zq 99 false 174 [.t 97,.t 98] .nil)) .skip)<| .rg (Zm 100 6<|Zl 101 1 7<|Zl 102 1 9<|Zo (.conv 103 .u16 (.t 102))<|Zi 104 1 100 101<|Zs 1 104 103 .nil))<| .seq (Zr (Zl 105 1 7 .nil)<| .rg (Zo (.alloc 7 1 3 (Zz 0))<|Zs 1 7 105 .nil))<| .rg (Zl 26 1 7<|Zk 27 .sub 26 1<|Zs 1 7 27 .nil))<|Zr (Zm 106 6<|Zq 107 false 143 [.t 106]<|Zm 4 107 .nil) .ret⟩
theorem aft:Qe Tryz.prog Tryz.f148=some Jc:=by kernel_rfl
theorem ik{l:List Nat}(hv:Qq l)(hl:l.length<2^42):Qc Tryz.prog 143 [PV.nat l] (· =PV.num (val l)):=by
 refine Qf Qj Tryz.func143 rfl OX (by simp[yE]) fun C hP=>?_;simp only[yE,Zo,Zg,Zm,Zc,Zf,Zl,Zh,Zs,Zi,Zb,Zk,Zn,Zu,Zq,Zr,Zz];refine Sz0 ?_;refine qf (fun m fr hp=>m<=l.length/\cut l m=ah (val l)/\fr 0=PV.nat l/\fr 3= .int .i64 m/\hp=aE) l.length ?_ ?_
 ·exact⟨Kac _,zG hv,rfl,rfl,rfl⟩
 rintro n fr _ ⟨hn,hc,h0,h3,rfl⟩;refine Sz2 h0 h3 ?_;refine fX (fun hg=>?_) (fun hg=>?_)
 ·simp+decide (disch:=first|omega|rfl|(simp+decide only[go_sem,h0,h3,w7,s8]<;>rfl)|fail) only[go_sem,h0,h3,w7,s8];obtain _|n:=n
  ·omega
  have e:((n+1:Nat):Int)-1=n:=by omega
  simp only[cut]at hc;refine Qb (fun hz=>?_) (fun hz=>?_)
  ·rw[if_pos (by grind)]at hc;simp+decide (disch:=try exact D3 h0 h3 e) only[go_sem,h0,h3,e];refine nk (m:=n) (by omega) ⟨by omega,hc,?_⟩;exact Tz3 h0 @true_and @and_true
  ·refine Sz3 h0 h3 @GR ?_;rw[if_neg (by grind)]at hc;exact Qd (by simp[hc]) rfl
 ·obtain rfl:n=0:=by omega
  refine Sz3 h0 h3 @GR ?_;exact Qd (by simp[<-hc,cut]) rfl
theorem ze{l:List Nat}(hv:Qq l)(hl:l.length<2^42):Qc Tryz.prog 86 [PV.nat l] (· =PV.num (val l)):=by
 have hd:=cj hv;unfold nl at hd;refine Qf Qj Tryz.func86 rfl aho (by simp[KR]) fun C hP=>?_;simp only[KR,Zo,Zg,Zm,Zc,Zf,Zl,Zh,Zs,Zi,Zb,Zk,Zn,Zu,Zq,Zr,Zz];refine Sz0 ?_;refine Qa hP (ik hv hl) rfl rfl rfl ?_;refine Sz0 ?_;refine Qb (fun hz=>?_) (fun hz=>?_)
 ·refine Sz0 ?_;have:ah (val l)=[]:=Kar.1 (by omega);exact nu (by rw[PV.num,this];exact aha) rfl
 ·refine Sz0 ?_;rw[aef rfl (by simp)];refine Sz0 ?_;exact Dw rfl (by simp[Kae])
theorem zP{n:Nat}(hn:n<18446744073709551616):Qc Tryz.prog 88 [.int .u64 n] (· =PV.num n):=by
 have hlen:=rA hn;unfold nl at hlen;refine Qf Qj Tryz.func88 rfl ahp (by simp[KT]) fun C hP=>?_;simp only[KT,Zo,Zg,Zm,Zc,Zf,Zl,Zh,Zs,Zi,Zb,Zk,Zn,Zu,Zq,Zr,Zz];refine Sz0 ?_;refine y5 (fun m fr hp=>∃done:List Nat,ah n=done++ah m/\m<=n/\fr 0= .int .u64 m/\fr 3= .ms 12 done.length/\hp 12=some ⟨1,76,done.map fun(x:Nat)=>.int .u16 x,false⟩) n (Po 3 12 1 76 (by omega) ?_) ?_ ?_
 ·exact Tz0
 ·refine⟨[],?_⟩;simp+decide (disch:=first|omega|rfl|(simp+decide only[go_sem,KaN,Kbu,Kbh,true_and,and_true,Kac]<;>rfl)|fail) only[go_sem,KaN,Kbu,Kbh,true_and,and_true,Kac]
 rintro m fr hp ⟨done,hd,hm,h0,h3,hh⟩;rw[hd,Kap]at hlen;refine Sz1 h0 ?_;refine Qb (fun hz=>?_) (fun hz=>?_)
 ·have aP:m≠0:=by omega
  have gf:ah n=(done++[m%65536])++ah (m/65536):=by rw[hd,s6 aP];simp
  refine Sz2 h0 h3 ?_;rw[Ha (xs:=done.map fun(x:Nat)=>.int .u16 x) (Tz1 hh) rfl (by omega) (by simp) (by omega) (by omega)];refine Sz4 h0 h3 @QX @SJ ?_;refine nk (m:=m/65536) (by omega) ⟨done++[m%65536],gf,by omega,?_⟩;refine Sz3 h0 h3 hh ?_;simp
 ·obtain rfl:m=0:=by omega
  refine Sz1 h3 ?_;exact Dw hh (by simp[PV.num,PV.nat,hd,fC,Kae])
theorem Dd{a b:List Nat}(ha:Qq a)(hb:Qq b)(bu:a.length<2^40)(cQ:b.length<2^40):Qc Tryz.prog 144 [PV.nat a,PV.nat b] (· = .int .i64 (gM (val a) (val b))):=by
 have gA:=cj ha;have iP:=cj hb;have Vo:= @NA (val a) (val b);have Vp:= @NA (val b) (val a);have anz:=Qp (val a);have anA:=Qp (val b);have VN:=Q6 (val a);have hvb:=Q6 (val b);unfold nl at gA iP Vo Vp;refine Qf Qj Tryz.func144 rfl aeS (by simp[I']) fun C hP=>?_;simp only[I',Zo,Zg,Zm,Zc,Zf,Zl,Zh,Zs,Zi,Zb,Zk,Zn,Zu,Zq,Zr,Zz];refine Sz0 ?_;refine Qa hP (ik ha (by omega)) rfl rfl rfl ?_;refine Sz0 ?_;refine Qa hP (ik hb (by omega)) rfl rfl rfl ?_;refine Sz0 ?_;generalize val a=x at *
 generalize val b=y at *
 refine Qb (fun hz=>?_) (fun hz=>?_)
 ·refine Sz0 ?_;refine Qb (fun hz=>?_) (fun hz=>?_)
  ·refine Sz0 ?_;exact Qd (by rw[HI (Vo (by omega))]) rfl
  ·refine Sz0 ?_;exact Qd (by rw[HJ (Vp (by omega))]) rfl
 refine Sz0 ?_;refine qf (fun m fr hp=>m<=(ah x).length/\val ((ah x).drop m)=val ((ah y).drop m)/\fr 0=PV.num x/\fr 1=PV.num y/\fr 5= .int .i64 ((m:Int)-1)/\hp=aE) (ah x).length ?_ ?_
 ·refine⟨Kac _,?_,?_⟩
  ·rw[Kal (Kac _),Kal (by omega)]
  ·exact Tz2 @true_and @and_true
 rintro m fr _ ⟨hm,hd,h0,h1,h5,rfl⟩;refine Sz3 h0 h1 h5 ?_;refine Qb (fun hg=>?_) (fun hg=>?_)
 ·obtain _|m:=m
  ·omega
  have e:((m+1:Nat):Int)-1=m:=by omega
  have qO:m<(ah x).length:=by omega
  have mX:m<(ah y).length:=by omega
  simp+decide (disch:=try exact D4 h0 h1 h5 e) only[go_sem,h0,h1,h5,e];refine Qb (fun hq=>?_) (fun hq=>?_)
  ·refine Sz0 ?_;exact Qd (by rw[HI];have:=SL anz qO mX (by omega) hd;omega) rfl
  simp+decide (disch:=try exact D4 h0 h1 h5 e) only[go_sem,h0,h1,h5,e];refine Qb (fun tX=>?_) (fun tX=>?_)
  ·refine Sz0 ?_;exact Qd (by rw[HJ];have:=SL anA mX qO (by omega) hd.symm;omega) rfl
  refine Sz4 h0 h1 h5 e ?_;refine nk (m:=m) (by omega) ⟨by omega,?_,?_⟩
  ·rw[lD qO,lD mX,hd];omega
  ·exact Tz4 h0 h1 @true_and @and_true
 ·obtain rfl:m=0:=by omega
  refine Sz0 ?_;refine Qd ?_ rfl;rw[Ol];simp at hd;omega
theorem acY{a b:List Nat}(ha:Qq a)(hb:Qq b)(bu:a.length<2^40)(cQ:b.length<2^40):Qc Tryz.prog 176 [PV.nat a,PV.nat b] (· =PV.num (val a+val b)):=by
 have gA:=cj ha;have iP:=cj hb;unfold nl at gA iP;refine Qf Qj Tryz.func176 rfl aeT (by simp[JF]) fun C hP=>?_;simp only[JF,Zo,Zg,Zm,Zc,Zf,Zl,Zh,Zs,Zi,Zb,Zk,Zn,Zu,Zq,Zr,Zz];refine Sz0 ?_;refine Qa hP (ik ha (by omega)) rfl rfl rfl ?_;refine Sz0 ?_;refine Qa hP (ik hb (by omega)) rfl rfl rfl ?_;refine Sz0 ?_;generalize val a=x0 at *
 generalize val b=y0 at *
 refine y7 (fun fr hp=>∃x y,x+y=x0+y0/\(ah x).length<2^40/\(ah y).length<=(ah x).length/\fr 0=PV.num x/\fr 1=PV.num y/\hp=aE) ?_ ?_
 ·refine Qb (fun hz=>?_) (fun hz=>?_)
  ·refine Sz0 ?_;refine⟨y0,x0,by omega,by omega,by omega,?_⟩;exact Tz2 @true_and @and_true
  ·refine Sz0 ?_;refine⟨x0,y0,by omega,by omega,by omega,?_⟩;exact Tz2 @true_and @and_true
 rintro fr _ ⟨x,y,pP,hx,hy,h0,h1,rfl⟩;rw[<-pP];clear pP gA iP;have dZ:=Qp x;have iz:=Qp y;refine Sz2 h0 h1 ?_;refine qf (fun m fr hp=>∃i c done,m=(ah x).length-i/\i<=(ah x).length/\c<=1/\done.length=i/\done++jc ((ah x).drop i) ((ah y).drop i) c=ah (x+y)/\
  fr 1=PV.num y/\fr 5= .ms 25 (ah x).length/\fr 6= .int .u32 c/\fr 26=PV.num x/\fr 27= .int .i64 (ah x).length/\fr 28= .int .i64 i/\hp=Qy aE 25 ⟨1,76,cm (done++List.replicate ((ah x).length-i) 0),false⟩) (ah x).length ?_ ?_
 ·refine⟨0,0,[],rfl,by omega,by omega,rfl,by simpa using acs hy,?_⟩;simp+decide (disch:=first|omega|rfl|(simp+decide only[go_sem,h0,h1,true_and,and_true,Kcl,KaN]<;>rfl)|fail) only[go_sem,h0,h1,true_and,and_true,Kcl,KaN];simp
 rintro _ fr _ ⟨i,c,done,rfl,hi,hc,eW,hd,h1,h5,h6,tE,tF,tG,rfl⟩;refine Sz3 tE tF tG ?_;refine Qb (fun hg=>?_) (fun hg=>?_)
 ·have aA:i<(ah x).length:=by omega
  have gG:=et dZ aA;rw[Z' aA]at hd;have hlen:=Hb (n:=(ah x).length-i) eW (by omega:_=(ah x).length);simp+decide (disch:=try exact D6 h1 h5 h6 tE tF tG) only[go_sem,h1,h5,h6,tE,tF,tG];refine Qb (fun hq=>?_) (fun hq=>?_)
  ·have kt:i<(ah y).length:=by omega
   have ue:=et iz kt;rw[gm kt]at hd;simp+decide (disch:=try exact D6 h1 h5 h6 tE tF tG) only[go_sem,h1,h5,h6,tE,tF,tG];refine nk (m:=(ah x).length-(i+1)) (by omega) ⟨i+1,_,_,rfl,by omega,?_,?_,(KbJ ..).symm.trans hd,?_⟩
   ·omega
   ·simp[eW]
   ·exact Tz10 h1 h5 h6 tE tF tG @true_and @and_true @zr @Nat.sub_sub
  ·rw[gq (by omega)]at hd;refine Sz6 h1 h5 h6 tE tF tG ?_;refine nk (m:=(ah x).length-(i+1)) (by omega) ⟨i+1,_,_,rfl,by omega,?_,?_,(KbJ ..).symm.trans hd,?_⟩
   ·omega
   ·simp[eW]
   ·exact Tz11 h1 h5 h6 tE tF tG @true_and @and_true @zr @Nat.sub_sub @Nat.add_zero
 ·obtain rfl:i=(ah x).length:=by omega
  rw[Kal (Kac _),Kal hy]at hd;simp+decide (disch:=first|omega|rfl|(simp+decide only[go_sem,h5,h6,KbP,Ka8,Kak]<;>rfl)|fail) only[go_sem,h5,h6,KbP,Ka8,Kak];refine Qb (fun hq=>?_) (fun hq=>?_)
  ·refine Sz2 h5 h6 ?_;rw[Ha (xs:=cm done) Tz0 rfl (by omega) (by simp[eW]) (by omega) (by omega)];refine Sz1 h5 ?_;refine Dw rfl ?_;rw[jc,if_neg (by omega)]at hd;rw[PV.num,<-hd];simp[cm,eW,Kae];omega
  ·refine Sz1 h5 ?_;refine Dw rfl ?_;rw[jc,if_pos (by omega)]at hd;rw[PV.num,<-hd];simp[cm,eW,Kae]
theorem NP{a b:List Nat}(ha:Qq a)(hb:Qq b)(bu:a.length<2^40)(cQ:b.length<2^40)(hle:val b<=val a):Qc Tryz.prog 177 [PV.nat a,PV.nat b] (· = .au [PV.num (val a-val b),.int .i64 0]):=by
 have gA:=cj ha;have iP:=cj hb;have lW:=fE hle;unfold nl at gA iP lW;refine Qf Qj Tryz.func177 rfl aeU (by simp[JG]) fun C hP=>?_;simp only[JG,Zo,Zg,Zm,Zc,Zf,Zl,Zh,Zs,Zi,Zb,Zk,Zn,Zu,Zq,Zr,Zz];refine Sz0 ?_;refine Qa hP (Dd ha hb bu cQ) rfl rfl rfl ?_;have amI:¬gM (val a) (val b)<0:=by unfold gM;split<;>(try split)<;>omega
 refine Sz0 ?_;refine Qb (fun hz=>absurd hz amI) (fun hz=>?_);refine Sz0 ?_;refine Qa hP (ik ha (by omega)) rfl rfl rfl ?_;refine Sz0 ?_;refine Qa hP (ik hb (by omega)) rfl rfl rfl ?_;refine Sz0 ?_;generalize val a=x at *
 generalize val b=y at *
 have dZ:=Qp x;have iz:=Qp y;have gN:=NC (ah x) (ah y) 0 (by omega) dZ iz lW (by rw[Q6,Q6];exact hle);rw[Q6,Q6,KaT]at gN;have jU:=R8 (ah x) (ah y) 0;have r7:=Rm (ah x) (ah y) 0;refine qf (fun m fr hp=>∃i c done,m=(ah x).length-i/\i<=(ah x).length/\c<=1/\done.length=i/\done++lI ((ah x).drop i) ((ah y).drop i) c=lI (ah x) (ah y) 0/\
  fr 1=PV.num y/\fr 6= .ms 21 (ah x).length/\fr 7= .int .i32 (c:Nat)/\fr 22=PV.num x/\fr 23= .int .i64 (ah x).length/\fr 24= .int .i64 i/\hp=Qy aE 21 ⟨1,76,cm (done++List.replicate ((ah x).length-i) 0),false⟩) (ah x).length ?_ ?_
 ·refine⟨0,0,[],rfl,by omega,by omega,rfl,rfl,?_⟩;simp+decide (disch:=first|omega|rfl|(simp+decide only[go_sem,true_and,and_true,Kcl,KaN]<;>rfl)|fail) only[go_sem,true_and,and_true,Kcl,KaN];simp
 rintro _ fr _ ⟨i,c,done,rfl,hi,hc,eW,hd,h1,h6,h7,lM,lN,g9,rfl⟩;refine Sz3 lM lN g9 ?_;refine Qb (fun hg=>?_) (fun hg=>?_)
 ·have aA:i<(ah x).length:=by omega
  have gG:=et dZ aA;rw[Q94 aA]at hd;have hlen:=Hb (n:=(ah x).length-i) eW (by omega:_=(ah x).length);simp+decide (disch:=try exact D6 h1 h6 h7 lM lN g9) only[go_sem,h1,h6,h7,lM,lN,g9];refine y7 (fun fr hp=>fr 1=PV.num y/\fr 6= .ms 21 (ah x).length/\fr 8= .int .i64 i/\fr 10= .int .i32 ((ah x)[i]-(c:Int)-((ah y).getD i 0:Nat))/\(ah y).getD i 0<65536/\fr 22=PV.num x/\fr 23= .int .i64 (ah x).length/\fr 24= .int .i64 i/\hp=Qy aE 21 ⟨1,76,cm (done++List.replicate ((ah x).length-i) 0),false⟩) ?_ ?_
  ·refine Qb (fun hq=>?_) (fun hq=>?_)
   ·have kt:i<(ah y).length:=by omega
    have ue:=et iz kt;simp+decide (disch:=first|omega|rfl|(simp+decide only[go_sem,h1,h6,h7,lM,lN,g9,gm kt,true_and,and_true]<;>rfl)|fail) only[go_sem,h1,h6,h7,lM,lN,g9,gm kt,true_and,and_true];exact ue
   ·simp+decide (disch:=first|omega|rfl|(simp+decide only[go_sem,h1,h6,h7,lM,lN,g9,true_and,and_true,gq (by omega:¬i<(ah y).length)]<;>rfl)|fail) only[go_sem,h1,h6,h7,lM,lN,g9,true_and,and_true,gq (by omega:¬i<(ah y).length)];simp
  clear h1 h6 lM lN g9;rintro fr _ ⟨h1,h6,h8,bF,ue,lM,lN,g9,rfl⟩;generalize hw:(ah y).getD i 0=yi at *
  refine Sz1 bF ?_;refine y7 (fun fr hp=>fr 1=PV.num y/\fr 6= .ms 21 (ah x).length/\fr 8= .int .i64 i/\fr 10= .int .i32 (((ah x)[i]+65536-c-yi)%65536:Nat)/\fr 7= .int .i32 ((if(ah x)[i]<c+yi then 1 else 0):Nat)/\fr 22=PV.num x/\fr 23= .int .i64 (ah x).length/\fr 24= .int .i64 i/\hp=Qy aE 21 ⟨1,76,cm (done++List.replicate ((ah x).length-i) 0),false⟩) ?_ ?_
  ·refine Qb (fun hq=>?_) (fun hq=>?_)
   ·rw[if_pos (by omega)];refine Sz9 h1 h6 h8 bF lM lN g9 @true_and @and_true ?_;simp;omega
   ·rw[if_neg (by omega)];refine Sz9 h1 h6 h8 bF lM lN g9 @true_and @and_true ?_;simp;omega
  clear h1 h6 h8 bF lM lN g9;rintro fr _ ⟨h1,h6,h8,bF,h7,lM,lN,g9,rfl⟩;refine Sz8 h1 h6 h7 h8 bF lM lN g9 ?_;refine nk (m:=(ah x).length-(i+1)) (by omega) ⟨i+1,_,_,rfl,by omega,?_,?_,(KbJ ..).symm.trans hd,?_⟩
  ·split<;>omega
  ·simp[eW]
  ·exact Tz13 h1 h6 h7 h8 bF lM lN g9 @true_and @and_true @zr @Nat.sub_sub @Nat.mod_mod
 ·obtain rfl:i=(ah x).length:=by omega
  rw[Kal (Kac _),lI,Kak]at hd;simp+decide (disch:=first|omega|rfl|(simp+decide only[go_sem,h6,KbP,Ka8,Kak]<;>rfl)|fail) only[go_sem,h6,KbP,Ka8,Kak];rw[hd];refine uK hP (ik jU (by omega)) (zs rfl r7.symm) rfl fun an=>?_;refine Sz0 ?_;exact fb rfl rfl rfl (sV (by rw[show val (lI (ah x) (ah y) 0)=x-y by omega])) (Qw _)
theorem zC{a b:List Nat}(ha:Qq a)(hb:Qq b)(bu:a.length<2^40)(cQ:b.length<2^40):Qc Tryz.prog 93 [PV.nat a,PV.nat b] (· =PV.num (val a*val b)):=by
 have gA:=cj ha;have iP:=cj hb;unfold nl at gA iP;refine Qf Qj Tryz.func93 rfl ahU (by simp[KY]) fun C hP=>?_;simp only[KY,Zo,Zg,Zm,Zc,Zf,Zl,Zh,Zs,Zi,Zb,Zk,Zn,Zu,Zq,Zr,Zz];refine Sz0 ?_;refine Qa hP (ik ha (by omega)) rfl rfl rfl ?_;refine Sz0 ?_;refine Qa hP (ik hb (by omega)) rfl rfl rfl ?_;refine Sz0 ?_;generalize val a=x at *
 generalize val b=y at *
 have dZ:=Qp x;have iz:=Qp y;refine dF (fun hz=>?_) (fun hz=>?_)
 ·refine Sz0 ?_;have:=oW (by omega:(ah x).length=0);rw[j9]at this;exact nu (zI (by simp[this])) rfl
 refine Sz0 ?_;refine Qb (fun EY=>?_) (fun EY=>?_)
 ·refine Sz0 ?_;have:=oW (by omega:(ah y).length=0);rw[j9]at this;exact nu (zI (by simp[this])) rfl
 refine Sz0 ?_;refine qf (fun m fr hp=>∃i lo,m=(ah x).length-i/\i<=(ah x).length/\Qq lo/\lo.length=i+(ah y).length/\val lo=val ((ah x).take i)*val (ah y)/\
  fr 1=PV.num y/\fr 5= .ms 28 ((ah x).length+(ah y).length)/\fr 29=PV.num x/\fr 30= .int .i64 (ah x).length/\fr 31= .int .i64 i/\hp=Qy aE 28 ⟨1,76,cm (lo++List.replicate ((ah x).length-i) 0),false⟩) (ah x).length ?_ ?_
 ·refine⟨0,List.replicate (ah y).length 0,rfl,by omega,?_,by simp,by simp[SK,val],?_⟩
  ·intro z hz;rw[List.eq_of_mem_replicate hz];omega
  ·refine Sz3 @true_and @and_true @Nat.sub_zero ?_;simp[KbQ]
 rintro _ fr _ ⟨i,lo,rfl,hi,oJ,Mb,hv,h1,h5,rR,pj,rS,rfl⟩;refine Sz3 rR pj rS ?_;refine Qb (fun hg=>?_) (fun hg=>?_)
 ·have aA:i<(ah x).length:=by omega
  have gG:=et dZ aA;have kv:=acu aA Mb hv;have AS:Qq (lo.take i++jL (lo.drop i) (ah y) (ah x)[i] 0):=nh.2 ⟨wF oJ i,Sa _ _ _ _ (by omega) gG (yR oJ i) iz⟩;have apW:(lo.take i++jL (lo.drop i) (ah y) (ah x)[i] 0).length=i+(ah y).length+1:=by rw[Kap,Rn _ _ _ _ (by simp[Mb])];simp;omega
  generalize dO:(ah x)[i]=xi at *
  refine Sz6 h1 h5 rR pj rS dO ?_;refine qf (fun m fr hp=>∃k c p rs,m=(ah y).length-k/\k<=(ah y).length/\c<65536/\Qq rs/\p.length=i+k/\rs.length=(ah y).length-k/\p++jL rs ((ah y).drop k) xi c=lo.take i++jL (lo.drop i) (ah y) xi 0/\
   fr 1=PV.num y/\fr 5= .ms 28 ((ah x).length+(ah y).length)/\fr 6= .int .i64 i/\fr 7= .int .u16 xi/\fr 8= .int .u32 c/\fr 29=PV.num x/\fr 30= .int .i64 (ah x).length/\fr 31= .int .i64 i/\fr 36=PV.num y/\fr 37= .int .i64 (ah y).length/\fr 38= .int .i64 k/\
   hp=Qy aE 28 ⟨1,76,cm (p++(rs++List.replicate ((ah x).length-i) 0)),false⟩) (ah y).length ?_ ?_
  ·refine⟨0,0,lo.take i,lo.drop i,rfl,by omega,by omega,yR oJ i,by simp;omega,by simp;omega,rfl,?_⟩;refine Sz7 h1 h5 rR pj rS @true_and @and_true ?_;rw[<-List.append_assoc,Kbn];simp
  clear h1 h5 rR pj rS;rintro _ fr _ ⟨k,c,p,rs,rfl,hk,hc,fj,gE,kZ,hinv,h1,h5,h6,h7,h8,rR,pj,rS,DY,DZ,Ea,rfl⟩;refine Sz3 DY DZ Ea ?_;refine Qb (fun hq=>?_) (fun hq=>?_)
  ·have dT:k<(ah y).length:=by omega
   have hyk:=et iz dT;rw[Kaz dT]at hinv;generalize VY:(ah y)[k]=yk at *
   obtain _|⟨r,rs⟩:=rs
   ·simp at kZ;omega
   rw[gX]at fj;have iU:=fj.1;have Bl:=sQ gG hyk;rw[jL]at hinv;have ar:i+k<(p++r::(rs++List.replicate ((ah x).length-i) 0)).length:=by simp;omega
   have eK:=Dx gE ar;simp+decide (disch:=first|omega|rfl|(simp+decide only[go_sem,h1,h5,h6,h7,h8,DY,DZ,Ea,VY,KaR,eK]<;>rfl)|fail) only[go_sem,h1,h5,h6,h7,h8,DY,DZ,Ea,VY,KaR,eK];refine nk (m:=(ah y).length-(k+1)) (by omega) ⟨k+1,_,_,_,rfl,by omega,?_,fj.2,?_,?_,(KbJ ..).symm.trans hinv,?_⟩
   ·omega
   ·simp[gE];omega
   ·simp at kZ;omega
   ·refine Sz14 h1 h5 h6 h7 h8 rR pj rS DY DZ Ea @true_and @and_true @nv ?_;simp
  ·obtain rfl:k=(ah y).length:=by omega
   obtain rfl:rs=[]:=Kar.1 (by omega);rw[Kal (Kac _),jL]at hinv
   rotate_left
   ·intros;simp_all
   obtain⟨z,hz⟩:∃z,(ah x).length-i=z+1:=⟨(ah x).length-i-1,by omega⟩
   have ar:i+(ah y).length<(p++0::(List.replicate z 0)).length:=by simp;omega
   simp+decide (disch:=first|omega|rfl|(simp+decide only[go_sem,h1,h5,h6,h8,rR,pj,rS,KaN,hz,KbE]<;>rfl)|fail) only[go_sem,h1,h5,h6,h8,rR,pj,rS,KaN,hz,KbE];refine nk (m:=(ah x).length-(i+1)) (by omega) ⟨i+1,lo.take i++jL (lo.drop i) (ah y) xi 0,rfl,by omega,AS,by omega,?_,?_⟩
   ·rw[kv]
   ·refine Sz8 h1 h5 rR pj rS @true_and @and_true @nv ?_;rw[<-hinv,show(ah x).length-(i+1)=z by omega,KaQ hc];simp
 ·obtain rfl:i=(ah x).length:=by omega
  rw[Kas,Q6,Q6]at hv;simp+decide (disch:=first|omega|rfl|(simp+decide only[go_sem,h5,KbP,Ka8,Kak]<;>rfl)|fail) only[go_sem,h5,KbP,Ka8,Kak];refine uK hP (ik oJ (by omega)) (zs rfl Mb.symm) rfl fun an=>?_;refine Sz0 ?_;exact Qd (by rw[hv]) rfl
theorem Xq{pre w post v:List Nat}{j m:Nat}(hw:Qq w)(hv:Qq v)(hj:pre.length=j)(hm:w.length=m)(hle:v.length<=w.length)(hlen:(pre++(w++post)).length<2^43):
  w9 Tryz.prog 174 [.ax B0 j m,PV.nat v] 76 (cm (pre++(w++post))) (fun r xs'=>r= .au []/\xs'=cm (pre++(ko w v 0++post))):=by
 simp only[Kap]at hlen;refine CT Qj Tryz.func174 rfl aeY (by simp[JD]) fun C hP=>?_;simp only[JD,Zo,Zg,Zm,Zc,Zf,Zl,Zh,Zs,Zi,Zb,Zk,Zn,Zu,Zq,Zr,Zz];refine Sz0 ?_;refine qf (fun k fr hp=>∃i c done,k=w.length-i/\i<=w.length/\c<=1/\done.length=i/\done++ko (w.drop i) (v.drop i) c=ko w v 0/\
  fr 0= .ax 1000000 j m/\fr 1=PV.nat v/\fr 4= .int .u32 c/\fr 7= .int .i64 m/\fr 8= .int .i64 i/\hp=Qy aE 1000000 ⟨1,76,cm ((pre++done)++(w.drop i++post)),false⟩) w.length ?_ ?_
 ·refine⟨0,0,[],rfl,by omega,by omega,rfl,rfl,?_⟩;simp+decide (disch:=first|omega|rfl|(simp+decide only[go_sem,true_and,and_true,Kak,Kbo]<;>rfl)|fail) only[go_sem,true_and,and_true,Kak,Kbo];simp
 rintro _ fr _ ⟨i,c,done,rfl,hi,hc,eW,hd,h0,h1,h4,h7,h8,rfl⟩;refine Sz2 h7 h8 ?_;refine Qb (fun hg=>?_) (fun hg=>?_)
 ·have aA:i<w.length:=by omega
  have hwi:=et hw aA;rw[aaK aA]at hd;have gE:(pre++done).length=j+i:=by simp[hj,eW]
  rw[Kaz aA];generalize hww:w[i]=wi at *
  have ar:j+i<((pre++done)++wi::(w.drop (i+1)++post)).length:=by simp;omega
  have eK:=Dx gE ar;simp+decide (disch:=first|omega|rfl|(simp+decide only[go_sem,h0,h1,h4,h7,h8,KaR,eK]<;>rfl)|fail) only[go_sem,h0,h1,h4,h7,h8,KaR,eK];refine Qb (fun hq=>?_) (fun hq=>?_)
  ·have kt:i<v.length:=by omega
   have VP:=et hv kt;rw[gm kt]at hd;simp+decide (disch:=first|omega|rfl|(simp+decide only[go_sem,h0,h1,h4,h7,h8,nv]<;>rfl)|fail) only[go_sem,h0,h1,h4,h7,h8,nv];refine nk (m:=w.length-(i+1)) (by omega) ⟨i+1,_,_,rfl,by omega,?_,?_,(KbJ ..).symm.trans hd,?_⟩
   ·omega
   ·simp[eW]
   ·refine Sz8 h0 h1 h4 h7 h8 @true_and @and_true @nv ?_;simp
  ·rw[gq (by omega)]at hd;refine Sz6 h0 h1 h4 h7 h8 @nv ?_;refine nk (m:=w.length-(i+1)) (by omega) ⟨i+1,_,_,rfl,by omega,?_,?_,(KbJ ..).symm.trans hd,?_⟩
   ·omega
   ·simp[eW]
   ·refine Sz8 h0 h1 h4 h7 h8 @true_and @and_true @nv ?_;simp
 ·obtain rfl:i=w.length:=by omega
  rw[Kal (Kac _),ko,Kak]at hd;refine Sz0 ?_;refine agR rfl (qg _) ?_ ⟨rfl,?_⟩
  ·simp[eW]
  ·rw[Kal (Kac _),hd];simp
theorem W1{pre w post v:List Nat}{j m q:Nat}(hw:Qq w)(hv:Qq v)(hq:q<65536)(hj:pre.length=j)(hm:w.length=m)(hle:v.length<=w.length)(hlen:(pre++(w++post)).length<2^43):
  w9 Tryz.prog 173 [.ax B0 j m,PV.nat v,.int .u32 q] 76 (cm (pre++(w++post))) (fun r xs'=>r= .bool (decide (0<(ft w v q 0 0).2.2))/\xs'=cm (pre++((ft w v q 0 0).1++post))):=by
 simp only[Kap]at hlen;refine CT Qj Tryz.func173 rfl aeX (by simp[JC]) fun C hP=>?_;simp only[JC,Zo,Zg,Zm,Zc,Zf,Zl,Zh,Zs,Zi,Zb,Zk,Zn,Zu,Zq,Zr,Zz];refine Sz0 ?_;refine qf (fun k fr hp=>∃i c b done,k=w.length-i/\i<=w.length/\c<65536/\b<=1/\done.length=i/\done++(ft (w.drop i) (v.drop i) q c b).1=(ft w v q 0 0).1/\(ft (w.drop i) (v.drop i) q c b).2=(ft w v q 0 0).2/\
  fr 0= .ax 1000000 j m/\fr 1=PV.nat v/\fr 2= .int .u32 q/\fr 7= .int .u32 c/\fr 8= .int .i32 (b:Nat)/\fr 12= .int .i64 m/\fr 13= .int .i64 i/\hp=Qy aE 1000000 ⟨1,76,cm ((pre++done)++(w.drop i++post)),false⟩) w.length ?_ ?_
 ·refine⟨0,0,0,[],rfl,by omega,by omega,by omega,rfl,rfl,rfl,?_⟩;simp+decide (disch:=first|omega|rfl|(simp+decide only[go_sem,true_and,and_true,Kak,Kbo]<;>rfl)|fail) only[go_sem,true_and,and_true,Kak,Kbo];simp
 rintro _ fr _ ⟨i,c,b,done,rfl,hi,hc,hb,eW,hd,gf,h0,h1,h2,h7,h8,bK,bU,rfl⟩;refine Sz2 bK bU ?_;refine Qb (fun hg=>?_) (fun hg=>?_)
 ·have aA:i<w.length:=by omega
  have hwi:=et hw aA;rw[aaL aA]at hd gf;simp only at hd gf;have gE:(pre++done).length=j+i:=by simp[hj,eW]
  rw[Kaz aA];generalize hww:w[i]=wi at *
  have ar:j+i<((pre++done)++wi::(w.drop (i+1)++post)).length:=by simp;omega
  have eK:=Dx gE ar;simp+decide (disch:=first|omega|rfl|(simp+decide only[go_sem,h0,h1,h2,h7,h8,bK,bU,KaR,eK]<;>rfl)|fail) only[go_sem,h0,h1,h2,h7,h8,bK,bU,KaR,eK];refine y7 (fun fr hp=>c+q*v.getD i 0<=4294967295/\fr 0= .ax 1000000 j m/\fr 1=PV.nat v/\fr 2= .int .u32 q/\fr 7= .int .u32 (c+q*v.getD i 0:Nat)/\fr 8= .int .i32 (b:Nat)/\fr 9= .int .i64 i/\fr 12= .int .i64 m/\fr 13= .int .i64 i/\hp=Qy aE 1000000 ⟨1,76,cm ((pre++done)++wi::(w.drop (i+1)++post)),false⟩) ?_ ?_
  ·refine Qb (fun qT=>?_) (fun qT=>?_)
   ·have kt:i<v.length:=by omega
    have VP:=et hv kt;have qT:=sQ hq VP;simp+decide (disch:=first|omega|rfl|(simp+decide only[go_sem,h0,h1,h2,h7,h8,bK,bU,gm kt,true_and,and_true]<;>rfl)|fail) only[go_sem,h0,h1,h2,h7,h8,bK,bU,gm kt,true_and,and_true];omega
   ·simp+decide (disch:=first|omega|rfl|(simp+decide only[go_sem,h0,h1,h2,h7,h8,bK,bU,true_and,and_true,gq (by omega:¬i<v.length),Kb0,KaT]<;>rfl)|fail) only[go_sem,h0,h1,h2,h7,h8,bK,bU,true_and,and_true,gq (by omega:¬i<v.length),Kb0,KaT];omega
  clear h0 h1 h2 h7 h8 bK bU;rintro fr _ ⟨oE,h0,h1,h2,h7,h8,h9,bK,bU,rfl⟩;generalize c+q*v.getD i 0=c1 at *
  refine Sz9 h0 h1 h2 h7 h8 h9 bK bU eK ?_;refine y7 (fun fr hp=>fr 0= .ax 1000000 j m/\fr 1=PV.nat v/\fr 2= .int .u32 q/\fr 7= .int .u32 (c1/65536:Nat)/\fr 8= .int .i32 ((if wi<c1%65536+b then 1 else 0):Nat)/\fr 9= .int .i64 i/\fr 10= .int .i32 ((wi+65536-c1%65536-b)%65536:Nat)/\fr 12= .int .i64 m/\fr 13= .int .i64 i/\hp=Qy aE 1000000 ⟨1,76,cm ((pre++done)++wi::(w.drop (i+1)++post)),false⟩) ?_ ?_
  ·refine Qb (fun hq=>?_) (fun hq=>?_)
   ·rw[if_pos (by omega)];refine BS h0 h1 h2 h7 h8 h9 bK bU @true_and @and_true ?_;simp;omega
   ·rw[if_neg (by omega)];refine BS h0 h1 h2 h7 h8 h9 bK bU @true_and @and_true ?_;simp;omega
  clear h0 h1 h2 h7 h8 h9 bK bU;rintro fr _ ⟨h0,h1,h2,h7,h8,h9,bF,bK,bU,rfl⟩;refine BS h0 h1 h2 h7 h8 h9 bF bK bU @nv ?_;refine nk (m:=w.length-(i+1)) (by omega) ⟨i+1,c1/65536,_,_,rfl,by omega,by omega,?_,?_,(KbJ ..).symm.trans hd,gf,?_⟩
  ·split<;>omega
  ·simp[eW]
  ·refine Sz13 h0 h1 h2 h7 h8 h9 bF bK bU @true_and @and_true @nv @Nat.mod_mod ?_;simp
 ·obtain rfl:i=w.length:=by omega
  rw[Kal (Kac _),ft]at hd gf;simp only[Kak]at hd;refine Sz1 h8 ?_;refine Ps (p:=.bool (decide (0<(b:Int)))) rfl (qg _) ?_ Tz0 rfl ⟨?_,?_⟩
  ·simp[eW]
  ·rw[<-gf];simp
  ·rw[Kal (Kac _),hd];simp
theorem W3{v u:List Nat}{dg n r j:Nat}(hv:Qq v)(hu:Qq u)(hn:2<=n)(iR:n=v.length)(hju:j+n<u.length)(hd:dg<4294967296)(hr:r<65536)(Mu:u.length<2^43):
  Qc Tryz.prog 172 [.pt [.int .u64 dg],.pt [PV.nat v],.pt [.int .i64 n],.pt [.int .u64 r],.pt [PV.nat u],.pt [.int .i64 j]]
   (· = .bool (decide (65536<=dg∨r*65536+u.getD (j+n-2) 0<dg*v.getD (n-2) 0))):=by
 have h1:n-2<v.length:=by omega
 have h2:j+n-2<u.length:=by omega
 have ER:=et hv h1;have Bh:=et hu h2;rw[gm h1,gm h2];refine Qf Qj Tryz.func172 rfl aeW (by simp[JB]) fun C hP=>?_;simp only[JB,Zo,Zg,Zm,Zc,Zf,Zl,Zh,Zs,Zi,Zb,Zk,Zn,Zu,Zq,Zr,Zz];refine Sz0 ?_;refine dF (fun hz=>?_) (fun hz=>?_)
 ·refine Sz0 ?_;exact Qd (by simp;omega) rfl
 ·have vI:dg<65536:=by omega
  have e1:(n:Int)-2=((n-2:Nat):Int):=by omega
  have e2:((j+n:Nat):Int)-2=((j+n-2:Nat):Int):=by omega
  generalize hvv:v[n-2]=vi at *
  generalize huu:u[j+n-2]=ui at *
  have hm:=sQ vI ER;refine Sz6 e1 e2 hvv huu @GS @Hd ?_;exact Qd (congrArg PV.bool (decide_eq_decide.2 ⟨fun h=>.inr (by omega),fun h=>by rcases h with h|h<;>omega⟩)) rfl
theorem YZ{l post:List Nat}(hv:Qq l)(hl:(l++post).length<2^43)(hlen:0<l.length):
  w9 Tryz.prog 143 [.ax B0 0 l.length] 76 (cm (l++post)) (fun r xs'=>r= .ax B0 0 (nl (val l))/\xs'=cm (l++post)):=by
 simp only[Kap]at hl;have apV:l.length<=(l++post).length:=by simp
 refine CT Qj Tryz.func143 rfl OX (by simp[yE]) fun C hP=>?_;simp only[yE,Zo,Zg,Zm,Zc,Zf,Zl,Zh,Zs,Zi,Zb,Zk,Zn,Zu,Zq,Zr,Zz];refine Sz0 ?_;refine qf (fun m fr hp=>m<=l.length/\cut l m=ah (val l)/\fr 0= .ax 1000000 0 l.length/\fr 3= .int .i64 m/\hp=Qy aE 1000000 ⟨1,76,cm (l++post),false⟩) l.length ?_ ?_
 ·exact⟨Kac _,zG hv,rfl,rfl,rfl⟩
 rintro n fr _ ⟨hn,hc,h0,h3,rfl⟩;refine Sz2 h0 h3 ?_;refine fX (fun hg=>?_) (fun hg=>?_)
 ·obtain _|n:=n
  ·omega
  have e:((n+1:Nat):Int)-1=n:=by omega
  have ar:n<(l++post).length:=by simp;omega
  have eK:(l++post)[n]=l[n]:=by simp[List.getElem_append,show n<l.length by omega]
  refine Sz4 h0 h3 e eK ?_;simp only[cut]at hc;refine Qb (fun hz=>?_) (fun hz=>?_)
  ·rw[if_pos (by grind)]at hc;refine Sz3 h0 h3 e ?_;refine nk (m:=n) (by omega) ⟨by omega,hc,?_⟩;exact Tz3 h0 @true_and @and_true
  ·rw[if_neg (by grind)]at hc;have lW:nl (val l)=n+1:=by rw[nl,<-hc];simp;omega
   refine Sz2 h0 h3 ?_;exact Om rfl (qg _) (by simp) (Tz1 lW) ⟨rfl,rfl⟩
 ·obtain rfl:n=0:=by omega
  have lW:nl (val l)=0:=by rw[nl,<-hc,cut];rfl
  refine Sz2 h0 h3 ?_;exact Om rfl (qg _) (by simp) (Tz1 lW) ⟨rfl,rfl⟩
theorem F9{a:List Nat}{s:Nat}(ha:Qq a)(bu:a.length<2^40)(hs:s<=15)(aP:val a≠0):zJ Tryz.prog 147 [PV.nat a,.int .i64 s] 76 (fun ys=>ys=cm (ah (val a*2^s))):=by
 have gA:=cj ha;unfold nl at gA;have nZ:(ah (val a)).length≠0:=by intro h;exact aP (j9.1 (oW h))
 refine Q99 Qj Tryz.func147 rfl Hv (by simp[vt]) fun C hP=>?_;simp only[vt,Zo,Zg,Zm,Zc,Zf,Zl,Zh,Zs,Zi,Zb,Zk,Zn,Zu,Zq,Zr,Zz];refine Sz0 ?_;refine Qa hP (ik ha (by omega)) rfl rfl rfl ?_;refine Sz0 ?_;generalize val a=x at *
 have dZ:=Qp x;have e1:s/16=0:=Kcc (by omega);have e2:s%16=s:=KaQ (by omega);refine dF (fun hz=>by omega) (fun hz=>?_);refine Sz0 ?_;refine dF (fun hz=>by omega) (fun hz=>?_);refine Sz0 ?_;refine Qb (fun hz=>by omega) (fun hz=>?_);refine Sz0 ?_;refine Qb (fun hz=>by omega) (fun hz=>?_);refine Sz4 @SO @SP e1 e2 ?_;refine qf (fun k fr hp=>∃i c done,k=(ah x).length-i/\i<=(ah x).length/\c<2^s/\done.length=i/\done++nI s ((ah x).drop i) c=nI s (ah x) 0/\
  fr 5= .int .i64 (0:Nat)/\fr 6= .int .i64 s/\fr 7= .ms 44 ((ah x).length+1)/\fr 45=PV.num x/\fr 46= .int .i64 (ah x).length/\fr 47= .int .i64 i/\
  hp=Qy aE 44 ⟨1,76,cm (done++c::List.replicate ((ah x).length-i) 0),false⟩) (ah x).length ?_ ?_
 ·refine⟨0,0,[],rfl,by omega,KbN (by omega),rfl,rfl,?_⟩;simp+decide (disch:=first|omega|rfl|(simp+decide only[go_sem,true_and,and_true,KaN,Kcl]<;>rfl)|fail) only[go_sem,true_and,and_true,KaN,Kcl];simp[KbE]
 rintro _ fr _ ⟨i,c,done,rfl,hi,hc,eW,hd,h5,h6,h7,Eb,Ec,Ed,rfl⟩;refine Sz3 Eb Ec Ed ?_;have ap5:2^s<=2^15:=KbC (by omega) hs;refine Qb (fun hg=>?_) (fun hg=>?_)
 ·have aA:i<(ah x).length:=by omega
  have gG:=et dZ aA;rw[Kaz aA,nI]at hd;generalize dO:(ah x)[i]=xi at *
  obtain⟨z,hz⟩:∃z,(ah x).length-i=z+1:=⟨(ah x).length-i-1,by omega⟩
  have ar:i<(done++c::List.replicate (z+1) 0).length:=by simp;omega
  have eK:=Dx eW ar;have gl:=NI (x:=xi) (show s<=16 by omega) hc;have eV:=SQ (show s<=16 by omega) gG;have hl:=agT hs gG;refine Sz13 h5 h6 h7 Eb Ec Ed dO hz eK @Oo @agS gl.2 @nv ?_;have jT:∀v u,(done++v::List.replicate (z+1) 0).set (i+1) u=(done++[v])++u::List.replicate z 0:=fun v u=>by rw[KbJ,KbE,nv (by simp[eW])]
  rw[Ph (by simp;omega),jT,KaQ (by omega:xi*2^s/65536<65536)];refine Sz6 h5 h6 h7 Eb Ec Ed ?_;refine nk (m:=(ah x).length-(i+1)) (by omega) ⟨i+1,xi*2^s/65536,done++[xi*2^s%65536+c],rfl,by omega,eV,by simp[eW],(KbJ ..).symm.trans hd,?_⟩;refine Sz8 h5 h6 h7 Eb Ec Ed @true_and @and_true ?_;rw[show(ah x).length-(i+1)=z by omega]
 ·obtain rfl:i=(ah x).length:=by omega
  rw[Kal (Kac _),nI]at hd;have pH:=RO hs (ah x) 0 dZ (KbN (by omega));have gF:=NH s (ah x) 0;have r7:=Rq s (ah x) 0;rw[Q6,KaT]at gF;rw[<-hd]at pH gF r7;have ap3:x*2^s≠0:=Nat.mul_ne_zero aP (Nat.ne_of_gt (KbN (by omega)));simp+decide (disch:=first|omega|rfl|(simp+decide only[go_sem,h7,KbP,Ka8]<;>rfl)|fail) only[go_sem,h7,KbP,Ka8];have ht:=YZ (l:=done++[c]) (post:=[]) pH (by simp[eW];omega) (by simp);rw[Kak,gF]at ht;refine DM hP ht (β:=44) Tz0 (qg _) (by simp) (by simp[jm,r7]) rfl ?_;rintro r xs' _ _ ⟨rfl,rfl⟩;simp+decide (disch:=first|omega|rfl|(simp+decide only[go_sem,nB]<;>rfl)|fail) only[go_sem,nB];refine⟨4,44,nl (x*2^s),_,rfl,by simp+decide (disch:=try exact D0) only[go_sem],rfl,by simp+decide (disch:=try exact D0) only[go_sem];rfl,qg _,?_,?_⟩
  ·have:= @wG (x*2^s);omega
  ·rw[<-gF,<-List.map_take,abT pH]
theorem Za{a:List Nat}{s:Nat}(ha:Qq a)(bu:a.length<2^42)(hs:s<=15):Qc Tryz.prog 171 [PV.nat a,.int .i64 s] (· =PV.num (val a/2^s)):=by
 have e1:s/16=0:=Kcc (by omega);have e2:s%16=s:=KaQ (by omega);refine Qf Qj Tryz.func171 rfl aeZ (by simp[JA]) fun C hP=>?_;simp only[JA,Zo,Zg,Zm,Zc,Zf,Zl,Zh,Zs,Zi,Zb,Zk,Zn,Zu,Zq,Zr,Zz];refine Sz4 @SO @SP e1 e2 ?_;refine Qb (fun hz=>?_) (fun hz=>?_)
 ·have:a=[]:=Kar.1 (by omega);subst this;refine Sz0 ?_;exact nu (zI (by simp[val])) rfl
 have e3:((a.length:Int)-((0:Nat):Int))=((a.length:Nat):Int):=by omega
 refine Sz1 e3 ?_;refine Qz (by repeat (first|exact Qs|exact Ql|exact Qm|exact Qn|exact Qo|apply Qk|apply Qr|apply Qx|apply Q4|apply Q5|apply Qi)) [(8,9),(25,60)] [] (fun k J hp=>∃i done,k=a.length-i/\i<=a.length/\done.length=i/\done++mJ s (a.drop i)=mJ s a/\J 25= .int .i64 i/\
  hp=Qy aE 22 ⟨1,76,cm (done++List.replicate (a.length-i) 0),false⟩) a.length ?_ ?_
 ·refine⟨0,[],rfl,by omega,rfl,rfl,?_⟩;simp+decide (disch:=first|omega|rfl|(simp+decide only[go_sem,true_and,and_true,KaN,Kcl]<;>rfl)|fail) only[go_sem,true_and,and_true,KaN,Kcl];simp
 rintro _ J _ ⟨i,done,rfl,hi,eW,hd,vv,rfl⟩;refine Sz1 vv ?_;refine Qb (fun hg=>?_) (fun hg=>?_)
 ·have aA:i<a.length:=by omega
  have En:=et ha aA;rw[aaP aA]at hd;generalize dO:a[i]=xi at *
  have hlen:=Hb (n:=a.length-i) eW (by omega:_=a.length);refine Sz2 vv dO ?_;refine Qb (fun hq=>?_) (fun hq=>?_)
  ·have kt:i+1<a.length:=by omega
   have haj:=et ha kt;rw[gm kt]at hd;simp+decide (disch:=first|omega|rfl|(simp+decide only[go_sem,vv,GU,SN,HN]<;>rfl)|fail) only[go_sem,vv,GU,SN,HN];refine Qh (a.length-(i+1)) (by omega) ⟨i+1,_,rfl,by omega,by simp[eW],(KbJ ..).symm.trans hd,?_⟩;exact Tz5 vv @true_and @and_true @zr @Nat.sub_sub
  ·rw[gq (by omega),KbH,Kbc]at hd;refine Sz2 vv @HN ?_;refine Qh (a.length-(i+1)) (by omega) ⟨i+1,_,rfl,by omega,by simp[eW],(KbJ ..).symm.trans hd,?_⟩;exact Tz5 vv @true_and @and_true @zr @Nat.sub_sub
 ·obtain rfl:i=a.length:=by omega
  rw[Kal (Kac _),mJ,Kak]at hd;simp+decide (disch:=first|omega|rfl|(simp+decide only[go_sem,KbP,Ka8,Kak]<;>rfl)|fail) only[go_sem,KbP,Ka8,Kak];rw[hd];refine uK hP (ik (RP s a) (by rw[F8];exact bu)) (zs rfl (F8 s a).symm) rfl fun an=>?_;refine Sz0 ?_;exact Qd (by rw[Nk (by omega) a ha]) rfl
theorem XE{x V d q:Nat}(hd:0<d)(h:q=V/d):(V%d*65536+x)/d+65536*q=(x+65536*V)/d/\(V%d*65536+x)%d=(x+65536*V)%d:=by
 subst h;have e:x+65536*V=(V%d*65536+x)+d*(65536*(V/d)):=by
  have:=Kbp V d
  calc x+65536*V=x+65536*(d*(V/d)+V%d):=by rw[this]
   _=_:=by rw[Ka2,Kbx];omega
 rw[e,Kcs _ _ hd,Kcp];exact⟨rfl,rfl⟩
theorem XF{a:List Nat}{d:Nat}(ha:Qq a)(bu:a.length<2^42)(hd:0<d)(gf:d<65536):Qc Tryz.prog 145 [PV.nat a,.int .u16 d] (· = .au [PV.num (val a/d),.int .u16 (val a%d:Nat)]):=by
 refine Qf Qj Tryz.func145 rfl aeV (by simp[Ja]) fun C hP=>?_;simp only[Ja,Zo,Zg,Zm,Zc,Zf,Zl,Zh,Zs,Zi,Zb,Zk,Zn,Zu,Zq,Zr,Zz];refine Sz0 ?_;refine Qz (by repeat (first|exact Qs|exact Ql|exact Qm|exact Qn|exact Qo|apply Qk|apply Qr|apply Qx|apply Q4|apply Q5|apply Qi)) [(7,8),(15,38)] [] (fun k J hp=>∃qs,k<=a.length/\qs.length=a.length-k/\Qq qs/\val qs=val (a.drop k)/d/\J 7= .int .u32 (val (a.drop k)%d:Nat)/\J 8= .int .i64 ((k:Int)-1)/\
  hp=Qy aE 11 ⟨1,76,cm (List.replicate k 0++qs),false⟩) a.length ?_ ?_
 ·refine⟨[],Kac _,by simp,nt,by simp[val],?_⟩;refine Sz2 @true_and @and_true ?_;simp[val]
 rintro k J _ ⟨qs,hk,sh,oK,hv,h7,h8,rfl⟩;refine Sz2 h7 h8 ?_;have hr:=Kbt (val (a.drop k)) hd;refine Qb (fun hg=>?_) (fun hg=>?_)
 ·obtain _|n:=k
  ·omega
  have hn:n<a.length:=by omega
  have vF:=et ha hn;have e:((n+1:Nat):Int)-1=n:=by omega
  have aF:=XE (x:=a[n]) hd hv;rw[<-lD hn]at aF;have ar:(val (a.drop (n+1))%d*65536+a[n])/d<65536:=by rw[Kbm hd];have:(val (a.drop (n+1))%d+1)*65536<=d*65536:=Kaf _ hr;omega
  generalize dO:a[n]=xn at *
  generalize val (a.drop (n+1))%d=r at *
  have hlen:n<(List.replicate (n+1) 0++qs).length:=by simp;omega
  refine Sz8 h7 h8 e dO @GU @abS @ael @qk ?_;refine Qh n (by omega) ⟨(r*65536+xn)/d::qs,by omega,?_,?_,?_,?_⟩
  ·simp;omega
  ·rw[gX];exact⟨ar,oK⟩
  ·rw[val,aF.1]
  ·refine Sz5 h7 h8 @true_and @and_true aF.2 ?_;rw[KaQ ar,List.replicate_succ',KbK,List.singleton_append,nv (by simp)]
 ·obtain rfl:k=0:=by omega
  rw[Kbo]at hv h7;have ar:=Kbt (val a) hd;simp+decide (disch:=first|omega|rfl|(simp+decide only[go_sem,h7,h8,Ka8,KaN]<;>rfl)|fail) only[go_sem,h7,h8,Ka8,KaN];refine uK hP (ik oK (by omega)) (zs rfl (by omega)) rfl fun an=>?_;refine Sz1 h7 ?_;refine fb rfl rfl rfl (sV (by rw[hv])) (sV ?_);rw[KaQ (by omega)]
theorem RW{x:Nat}(h:x<65536):Qc Tryz.prog 151 [.int .u16 x] (· = .int .i64 (Lib.bitLen x:Nat)):=
 XT (by simp[oA];exact⟨rfl,by decide⟩) (fun w=>XG x w (by omega) (by omega)) (fun _ _=>Qu.int _ _)
theorem Ga{x:Nat}(h:x<65536):Lib.bitLen x<=16:=Lib.bitLen_le x 16 (by omega) (by omega)
theorem Gx{x:Nat}(h:x<65536)(h0:x≠0):1<=Lib.bitLen x:=by have:=Lib.bitLen_half x h0 (by omega);omega
theorem XH:Lib.bitLen 0=0:=by decide
theorem Zd:∀(n x:Nat),Lib.bitLen x=n->x≠0->x<65536->2^n<=2*x/\x<2^n:=by
 intro n;induction n with
 |zero=>intro x h h0 hx;have:=Gx hx h0;omega
 | succ n ih=>
  intro x h h0 hx;have e:=Lib.bitLen_half x h0 (by omega);by_cases h2:x/2=0
  ·have:x=1:=by omega
   subst this;have:n=0:=by rw[h]at e;simp[XH]at e;exact e
   subst this;simp
  ·have:=ih (x/2) (by omega) h2 (by omega);rw[Kbz];omega
theorem Qre{x:Nat}(h:x<65536):Qc Tryz.prog 146 [.int .u16 x] (· = .int .i64 (16-Lib.bitLen x:Nat)):=by have:=Ga h;refine Qf Qj Tryz.func146 rfl ae0 (by simp[Jb]) fun C hP=>?_;simp only[Jb,Zo,Zg,Zm,Zc,Zf,Zl,Zh,Zs,Zi,Zb,Zk,Zn,Zu,Zq,Zr,Zz];refine Sz0 ?_;refine Qa hP (RW h) rfl rfl rfl ?_;refine Sz0 ?_;exact Qd (by congr 1;omega) rfl
theorem TF{a:List Nat}(ha:Qq a)(bu:a.length<2^40):Qc Tryz.prog 96 [PV.nat a] (fun r=>∃n:Nat,r= .int .i64 n/\(n=0↔val a=0)):=by
 have hd:=cj ha;unfold nl at hd;refine Qf Qj Tryz.func96 rfl ahr (by simp[K4]) fun C hP=>?_;simp only[K4,Zo,Zg,Zm,Zc,Zf,Zl,Zh,Zs,Zi,Zb,Zk,Zn,Zu,Zq,Zr,Zz];refine Sz0 ?_;refine Qa hP (ik ha (by omega)) rfl rfl rfl ?_;refine Sz0 ?_;refine Qb (fun hz=>?_) (fun hz=>?_)
 ·refine Sz0 ?_;have:val a=0:=j9.1 (Kar.1 (by omega));exact⟨rfl,_,Qw _,0,rfl,by simp[this]⟩
 ·have aP:val a≠0:=fun h=>by rw[h,fC]at hz;simp at hz
  have jj:=zq (val a);have EH:=Qp (val a);generalize val a=x at *
  obtain⟨k,hk⟩:∃k,(ah x).length=k+1:=⟨(ah x).length-1,by omega⟩
  have ar:k<(ah x).length:=by omega
  have ss:=et EH ar;have nZ:(ah x)[k]≠0:=by intro h;apply jj;rw[Ka3,hk,Nat.add_sub_cancel,Kam ar,h]
  have e:((k+1:Nat):Int)-1=k:=by omega
  generalize dO:(ah x)[k]=xi at *
  have hb:=Ga ss;have oD:=Gx ss nZ;refine Sz3 hk e dO ?_;refine Qa hP (RW ss) rfl rfl rfl ?_;have e2:(16:Int)*(k:Int)=((16*k:Nat):Int):=by omega
  refine Sz1 e2 ?_;exact⟨rfl,_,Qw _,16*k+Lib.bitLen xi,rfl,by omega⟩
theorem ajx(i:Nat):2^(16*i)=65536^i:=by rw[Nat.pow_mul]
theorem GN{a:List Nat}(ha:Qq a)(bu:a.length<2^40):Qc Tryz.prog 87 [PV.nat a] (· =if nl (val a)<=4 then .au [.int .u64 (val a),.bool true]else .au [.int .u64 0,.bool false]):=by
 have hd:=cj ha;unfold nl at hd;refine Qf Qj Tryz.func87 rfl ahq (by simp[KS]) fun C hP=>?_;simp only[KS,Zo,Zg,Zm,Zc,Zf,Zl,Zh,Zs,Zi,Zb,Zk,Zn,Zu,Zq,Zr,Zz];refine Sz0 ?_;refine Qa hP (ik ha (by omega)) rfl rfl rfl ?_;refine Sz0 ?_;have EH:=Qp (val a);have gN:=Q6 (val a);unfold nl;generalize val a=x at *
 refine Qb (fun hz=>?_) (fun hz=>?_)
 ·refine Sz0 ?_;rw[if_neg (by omega)];exact fb rfl rfl rfl (Qw _) (Qw _)
 ·refine Sz0 ?_;rw[if_pos (by omega)];refine Qz (by repeat (first|exact Qs|exact Ql|exact Qm|exact Qn|exact Qo|apply Qk|apply Qr|apply Qx|apply Q4|apply Q5|apply Qi)) [(4,6),(14,26)] [] (fun k J hp=>∃i,k=(ah x).length-i/\i<=(ah x).length/\J 14= .int .i64 i/\J 4= .int .u64 (val ((ah x).take i))/\hp=aE) (ah x).length ?_ ?_
  ·refine⟨0,rfl,by omega,?_⟩;simp+decide (disch:=first|omega|rfl|(simp+decide only[go_sem,true_and,and_true,Kb5]<;>rfl)|fail) only[go_sem,true_and,and_true,Kb5];simp[val]
  rintro _ J _ ⟨i,rfl,hi,cG,h4,rfl⟩;refine Sz2 cG h4 ?_;refine Qb (fun hg=>?_) (fun hg=>?_)
  ·have aA:i<(ah x).length:=by omega
   have gG:=et EH aA;have lf:=yH aA;have uc:=sH EH i (by omega);generalize dO:(ah x)[i]=xi at *
   have e2:(16:Int)*(i:Int)=((16*i:Nat):Int):=by omega
   have hb:xi*2^(16*i)+2^(16*i)<=18446744073709551616:=by have h3:2^(16*i)<=2^48:=KbC (by omega) (by omega);have:(xi+1)*2^(16*i)<=65536*2^48:=KaM (by omega) h3;rw[KaH]at this;omega
   have hpp:0<2^(16*i):=KbN (by omega);rw[<-ajx]at lf uc;have yd:(val ((ah x).take i)|||xi*2^(16*i))=val ((ah x).take (i+1)):=by rw[Nat.or_comm,zY uc,lf,KaS,KbQ]
   refine Sz7 cG h4 dO e2 @On @Pt yd ?_;refine Qh ((ah x).length-(i+1)) (by omega) ⟨i+1,rfl,by omega,?_⟩;exact Tz3 cG @true_and @and_true
  ·obtain rfl:i=(ah x).length:=by omega
   rw[Kas,gN]at h4;refine Sz1 h4 ?_;exact fb rfl rfl rfl (Qw _) (Qw _)
set_option maxHeartbeats 2000000 in
theorem aba{u v ex:List Nat}(hu:Qq u)(hv:Qq v)(hn:2<=v.length)(ar:v.length<u.length)(VL:32768<=v.getD (v.length-1) 0)(anj:val (u.drop (u.length-v.length))<val v)(Mu:u.length+ex.length<2^42):
  w9 Tryz.prog 148 [.ax B0 0 u.length,PV.nat v] 76 (cm (u++ex)) (fun r xs'=>r=PV.num (val u/val v)/\∃l,xs'=cm (l++ex)/\Qq l/\l.length=u.length/\val l=val u%val v):=by
 obtain⟨n,iR⟩:∃n,v.length=n+2:=⟨v.length-2,by omega⟩
 have e1:(u.length:Int)-(v.length:Int)=((u.length-v.length:Nat):Int):=by omega
 have uc:=OK iR;have Bi:=sH hv n (by omega);have aol:=ou hv;have ER:=et hv (show n+1<v.length by omega);have sn:=et hv (show n<v.length by omega);have qK:v[n+1]'(by omega)=v.getD (n+1) 0:=(gm _).symm;have fI:v[n]'(by omega)=v.getD n 0:=(gm _).symm;have aod:32768<=v.getD (n+1) 0:=by rw[iR]at VL;exact VL
 rw[qK]at ER;rw[fI]at sn;rw[iR]at aol;have hvp:0<val v:=by rw[uc];have:0<65536^n:=KbN (by omega);have:0<(v.getD (n+1) 0*65536+v.getD n 0)*65536^n:=Kce (by omega) this;omega
 refine CT Qj Tryz.func148 rfl aft (by simp[Jc]) fun C hP=>?_;simp only[Jc,Zo,Zg,Zm,Zc,Zf,Zl,Zh,Zs,Zi,Zb,Zk,Zn,Zu,Zq,Zr,Zz];refine Sz1 e1 ?_;refine Nl (by repeat (first|exact Qs|exact Ql|exact Qm|exact Qn|exact Qo|apply Qk|apply Qr|apply Qx|apply Q4|apply Q5|apply Qi)) [(7,11),(24,105)] [7,9,10] (fun k J hp=>∃l qs,k+qs.length=u.length-v.length/\Qq l/\l.length=u.length/\Qq qs/\val (l.drop k)<val v/\val u=val l+val v*(65536^k*val qs)/\J 7= .mp 7 0 0/\
  hp 7=some ⟨1,3,[.int .i64 ((k:Int)-1)],false⟩/\hp 1000000=some ⟨1,76,cm (l++ex),false⟩/\hp 18=some ⟨1,76,cm (List.replicate k 0++qs),false⟩/\
  hp 3=some ⟨1,39,[PV.nat v],false⟩/\hp 5=some ⟨1,3,[.int .i64 v.length],false⟩) (u.length-v.length) ?_ ?_
 ·refine⟨u,[],rfl,hu,rfl,nt,anj,by simp[val],?_⟩;refine Sz2 @true_and @and_true ?_;simp
 intro F hF;have kS:F 2= .rb 1000000 0 u.length:=by rw[hF];simp+decide (disch:=try exact D0) only[go_sem]
 have jf:F 3= .mp 3 0 0:=by rw[hF];simp+decide (disch:=try exact D0) only[go_sem]
 have jg:F 5= .mp 5 0 0:=by rw[hF];simp+decide (disch:=try exact D0) only[go_sem]
 have jh:F 6= .ms 18 (u.length-v.length):=by rw[hF];simp+decide (disch:=try exact D0) only[go_sem]
 have EE:∀β,[7,9,10].contains β=true->cI β F=F:=fun β h=>by rw[hF];exact Ca h
 have hk9:=EE 9 rfl;have apP:=EE 10 rfl;have ED:=EE 7 rfl;have AQ:bC [9,10] F=F:=by rw[hF];exact WZ rfl
 clear EE hF;rintro k J h ⟨l,qs,pP,hl,pI,oK,EO,gN,gy,mT,kV,pC,bw,iQ⟩;refine BS @gy mT @kV pC bw iQ @kS @jf @jg @jh ?_;refine Qb (fun hg=>?_) (fun hg=>?_)
 ·obtain _|j:=k
  ·omega
  have e2:((j+1:Nat):Int)-1=j:=by omega
  have e3:((n+2:Nat):Int)-1=((n+1:Nat):Int):=by omega
  have e4:((j+(n+2):Nat):Int)-1=((j+(n+1):Nat):Int):=by omega
  obtain⟨pre,w,post,Mc,gE,ud,yf,hw,pK,Ml,rY,VT,w0,ES,v7⟩:=agV (n:=n) hl (by omega) (by omega) EO;have gh:=et hl (show j+(n+2)<l.length by omega);have lU:=et hl (show j+(n+1)<l.length by omega);have ic:=et hl (show j+n<l.length by omega);have apU:(l++ex).length=u.length+ex.length:=by rw[Kap,pI]
  have US:(l++ex)[j+(n+2)]'(by omega)=l.getD (j+(n+2)) 0:=by rw[Kcv (by omega)];exact(gm _).symm
  have UR:(l++ex)[j+(n+1)]'(by omega)=l.getD (j+(n+1)) 0:=by rw[Kcv (by omega)];exact(gm _).symm
  rw[<-gm (by omega)]at gh lU;have Bf:(cm (l++ex)).take u.length=cm l:=by rw[<-List.map_take,<-pI,List.take_left]
  have Vg:l++ex=pre++(w++(post++ex)):=by rw[Mc];simp
  generalize l.getD (j+(n+2)) 0=w2 at *
  generalize l.getD (j+(n+1)) 0=w1 at *
  simp+decide (disch:=first|omega|rfl|(simp+decide only[go_sem,gy,mT,kV,pC,bw,iQ,kS,jf,jg,jh,iR,e2,e3,e4,US,UR,qK,GS,Hd,zK,qk]<;>rfl)|fail) only[go_sem,gy,mT,kV,pC,bw,iQ,kS,jf,jg,jh,iR,e2,e3,e4,US,UR,qK,GS,Hd,zK,qk];have aqg:w.length=n+3:=ud;have amN:=Yl uc v7 ES (by rw[<-gm (show j+n<l.length by omega)]at ic;omega) (by omega:0<v.getD (n+1) 0);have tT:=acC uc v7 Bi VT (KbN (by omega));have tN:=Kbp (w2*65536+w1) (v.getD (n+1) 0);have apJ:(w2*65536+w1)/v.getD (n+1) 0<131072:=by rw[Kbm (by omega)];omega
  have ap9:=Kbt (w2*65536+w1) (by omega:0<v.getD (n+1) 0);rw[KaS]at tN;generalize jA:(w2*65536+w1)/v.getD (n+1) 0=d0 at *
  generalize iU:(w2*65536+w1)%v.getD (n+1) 0=r0 at *
  have LO:∀(h:HP) v w,Qy (Qy h 10 v) 9 w=Qy (Qy h 9 w) 10 v:=fun h v w=>aaR 10 9 (by decide) h v w;refine aep (fun J=>J 7= .mp 7 0 0/\J 52= .int .u64 d0/\J 53= .int .u64 (w2*65536+w1:Nat)) (Tz3 @gy @true_and @and_true) ?_;clear gy;rintro J ⟨gy,Lo,Lp⟩;refine acD (by repeat (first|exact Qs|exact Ql|exact Qm|exact Qn|exact Qo|apply Qk|apply Qr|apply Qx|apply Q4|apply Q5|apply Qi)) [9,10] (fun J2 eX=>J2 7= .mp 7 0 0/\J2 9= .mp 9 0 0/\J2 10= .mp 10 0 0/\eX=Qy (Qy h 9 ⟨1,101,[.int .u64 d0],false⟩) 10 ⟨1,101,[.int .u64 r0],false⟩) ?_ ?_
  ·intro F' As;have Uj:F' 3= .mp 3 0 0:=by rw[As];simp+decide (disch:=try exact D1 jf) only[go_sem,jf]
   have Uk:F' 5= .mp 5 0 0:=by rw[As];simp+decide (disch:=try exact D1 jg) only[go_sem,jg]
   have U':cI 9 F'=F':=by rw[As];exact Ca rfl
   have UZ:cI 10 F'=F':=by rw[As];exact Ca rfl
   clear As
   repeat' (first|refine ns ?_ ?_|simp+decide (disch:=first|omega|rfl|(simp+decide only[go_sem,gy,Lo,Lp,bw,iQ,Uj,Uk,U',UZ,iR,e3,qK,qk]<;>rfl)|fail) only[go_sem,gy,Lo,Lp,bw,iQ,Uj,Uk,U',UZ,iR,e3,qK,qk])
   all_goals refine zL (J:=_) ?_
   all_goals simp+decide (disch:=try exact D5 gy iU LO true_and and_true) only[go_sem,gy,iU,LO,true_and,and_true]
  clear gy Lo Lp J;rintro J _ ⟨gy,nR,nQ,rfl⟩;simp+decide (disch:=first|omega|rfl|(simp+decide only[go_sem,gy,nR,nQ,kS,jf,jg,jh,TY,List.all_cons,List.all_nil,KaR,KaN,true_and]<;>rfl)|fail) only[go_sem,gy,nR,nQ,kS,jf,jg,jh,TY,List.all_cons,List.all_nil,KaR,KaN,true_and];refine Nl (by repeat (first|exact Qs|exact Ql|exact Qm|exact Qn|exact Qo|apply Qk|apply Qr|apply Qx|apply Q4|apply Q5|apply Qi)) [(62,77)] [] (fun m J hp=>∃d r,m=d/\d*v.getD (n+1) 0+r=w2*65536+w1/\val w<(d+1)*val v/\hp=Qy (Qy h 9 ⟨1,101,[.int .u64 d],false⟩) 10 ⟨1,101,[.int .u64 r],false⟩) d0 ?_ ?_
  ·exact⟨d0,r0,rfl,tN,amN,rfl⟩
  intro F1 xP;have Eh:F1 9= .mp 9 0 0:=by rw[xP,kb];simp+decide (disch:=try exact D1 nR) only[go_sem,nR]
  have Ef:F1 10= .mp 10 0 0:=by rw[xP,kb];simp+decide (disch:=try exact D1 nQ) only[go_sem,nQ]
  have Lk:F1 11= .fn 172 [] [.mp 9 0 0,.mp 3 0 0,.mp 5 0 0,.mp 10 0 0,.rb 1000000 0 u.length,.mp 7 0 0]:=by rw[xP,kb];simp+decide (disch:=try exact D0) only[go_sem]
  have xO:F1 3= .mp 3 0 0:=by rw[xP,kb];simp+decide (disch:=try exact D1 jf) only[go_sem,jf]
  have qD:F1 5= .mp 5 0 0:=by rw[xP,kb];simp+decide (disch:=try exact D1 jg) only[go_sem,jg]
  rintro d J2 _ ⟨_,r,rfl,tO,LQ,rfl⟩;have apH:d<131072:=by have:d*32768<=d*v.getD (n+1) 0:=Ka7 _ aod;omega
  refine Sz3 @Eh @Ef @Lk ?_;refine Xy (by repeat (first|exact Qs|exact Ql|exact Qm|exact Qn|exact Qo|apply Qk|apply Qr|apply Qx|apply Q4|apply Q5|apply Qi)) [(62,67)] [] (fun J hp=>J 67= .bool (decide (r<65536/\(65536<=d∨r*65536+l.getD (j+n) 0<d*v.getD n 0)))/\hp=Qy (Qy h 9 ⟨1,101,[.int .u64 d],false⟩) 10 ⟨1,101,[.int .u64 r],false⟩) ?_ ?_
  ·refine fX (fun hr=>?_) (fun hr=>?_)
   ·refine Sz3 @Eh @Ef @Lk ?_;refine aaJ hP (W3 (dg:=d) (r:=r) (j:=j) hv hl hn rfl (by omega) (by omega) (by omega) (by omega)) (by simp+decide (disch:=first|omega|rfl|(simp+decide only[go_sem,fG,kV,bw,iQ,mT,e2,Kak,KaN,List.getElem?_cons_zero,Kbo,Kae]<;>rfl)|fail) only[go_sem,fG,kV,bw,iQ,mT,e2,Kak,KaN,List.getElem?_cons_zero,Kbo,Kae];simp only[Kbo,Bf]) rfl rfl ?_;refine Sz1 iR ?_;refine zL ⟨?_,rfl⟩;refine Sz0 ?_;rw[show j+(n+2)-2=j+n by omega,show n+2-2=n by omega];exact congrArg PV.bool (decide_eq_decide.2 ⟨fun h=>⟨by omega,h⟩,fun h=>h.2⟩)
   ·refine Sz3 @Eh @Ef @Lk ?_;refine zL ⟨?_,rfl⟩;refine Sz0 ?_;simp;omega
  rintro J3 _ ⟨h67,rfl⟩;simp (disch:=decide) only[kb,nw];refine Sz1 h67 ?_;refine Qb (fun ht=>?_) (fun ht=>?_)
  ·obtain⟨hr,ht⟩:=ht;have vR:val w<d*val v:=by
    rcases ht with ht|ht
    ·exact KaK VT (Kaf _ ht)
    ·exact ab0 uc v7 ES tO ht
   obtain _|d:=d
   ·omega
   have e5:((d+1:Nat):Int)-1=(d:Nat):=by omega
   refine Sz11 @Eh @Ef @xO @qD bw iQ iR e3 e5 qK LO ?_;refine Qh d (by omega) ⟨d,r+v.getD (n+1) 0,rfl,?_,vR,rfl⟩;rw[KaH]at tO;omega
  have vK:d<65536:=by apply Decidable.byContradiction;intro fU;apply ht;refine⟨?_,.inl (by omega)⟩;have:65536*v.getD (n+1) 0<=d*v.getD (n+1) 0:=Kaf _ (by omega);omega
  have aoc:¬r*65536+l.getD (j+n) 0<d*v.getD n 0:=by
   intro anD;by_cases hr:r<65536
   ·exact ht ⟨hr,.inr anD⟩
   ·have:=sQ vK sn;omega
  have e5:j+(n+2)+1-j=n+3:=by omega
  subst xP;simp (disch:=decide) only[kb,AQ,nw];refine Sz14 @gy @nR @nQ @kS @jf @jg @jh bw iQ mT @kV e2 iR e5 ?_;have Be:=NG w v d 0 0 hw (by omega) (by omega);have Es:=RQ w v d 0 0 (by omega) (by omega) vK hv;have cH:=Se w v d 0 0;have VF:=Rp w v d 0 0;have VS:=ou hw;rw[ud]at Be VS;refine DM hP (W1 (pre:=pre) (w:=w) (post:=post++ex) (j:=j) (m:=n+3) (q:=d) hw hv vK gE ud (by omega) (by rw[<-Vg];omega)) (β:=1000000) (Tz2 @kV Vg) (qg _) (by simp;omega) (by simp[jm,B0]) rfl ?_;rintro _ _ _ _ ⟨rfl,rfl⟩;generalize ft w v d 0 0=sq at *
  obtain⟨⟨Be,oD⟩,Es⟩:=And.intro Be Es;have Ut:=ou cH;rw[VF,ud]at Ut;have ap6:pre.length+(w.length+post.length)=u.length:=by rw[<-pI,Mc];simp
  have aqa:j<(List.replicate (j+1) 0++qs).length:=by simp;omega
  have VQ:val l=val pre+65536^j*val w:=by rw[Mc,mu,mu,Ml,gE,Kb0,KaT]
  simp+decide (disch:=first|omega|rfl|(simp+decide only[go_sem,nB,gy,nR,nQ,kS,jf,jg,jh]<;>rfl)|fail) only[go_sem,nB,gy,nR,nQ,kS,jf,jg,jh];refine Qb (fun hb=>?_) (fun hb=>?_)
  ·have eU:sq.2.2=1:=by omega
   rw[Es,eU]at Be;obtain _|d:=d
   ·omega
   have UP:=ab1 uc v7 Bi (by omega) vK tO aoc;obtain⟨k,hk⟩:=NF sq.1 v 0 (by omega);have kZ:=Sd sq.1 v 0;have Vu:=Ro sq.1 v 0;rw[VF,ud]at hk Vu;have Vt:=ou kZ;rw[Vu]at Vt;obtain⟨Lu,Lw⟩:=aeq (B:=65536^(n+3)) (S:=val sq.1) (e:=d) (by omega) Ut UP (by omega) Vt VS;have e6:((d+1:Nat):Int)-1=(d:Nat):=by omega
   simp+decide (disch:=first|omega|rfl|(simp+decide only[go_sem,gy,nR,nQ,kS,jf,jg,jh,bw,iQ,mT,kV,e2,e6,iR,e5]<;>rfl)|fail) only[go_sem,gy,nR,nQ,kS,jf,jg,jh,bw,iQ,mT,kV,e2,e6,iR,e5];refine DM hP (Xq (pre:=pre) (w:=sq.1) (post:=post++ex) (j:=j) (m:=n+3) cH hv gE (by omega) (by omega) (by simp;omega)) (β:=1000000) Tz0 (qg _) (by simp;omega) (by simp[jm,B0]) rfl ?_;rintro _ _ _ _ ⟨rfl,rfl⟩;have AA:=Tl (q:=d) (R:=ko sq.1 v 0) gE Ml gN VQ Lw;simp+decide (disch:=first|omega|rfl|(simp+decide only[go_sem,nB,gy,nR,nQ,kS,jf,jg,jh,bw,iQ,mT,kV,pC,e2,e6,iR,e5,DA,KaQ (by omega:d<65536),ED]<;>rfl)|fail) only[go_sem,nB,gy,nR,nQ,kS,jf,jg,jh,bw,iQ,mT,kV,pC,e2,e6,iR,e5,DA,KaQ (by omega:d<65536),ED];refine Qh j (by omega) ⟨pre++(ko sq.1 v 0++post),d::qs,by simp;omega,?_,?_,?_,?_,AA.2,?_⟩
   ·rw[nh,nh];exact⟨yf,kZ,pK⟩
   ·simp;omega
   ·rw[gX];exact⟨by omega,oK⟩
   ·rw[AA.1];exact Lu
   ·simp+decide (disch:=first|omega|rfl|(simp+decide only[go_sem,bw,iQ,true_and,and_true,iR,KbK]<;>rfl)|fail) only[go_sem,bw,iQ,true_and,and_true,iR,KbK]
  ·have eU:sq.2.2=0:=by omega
   rw[Es,eU]at Be;obtain⟨Lu,Lw⟩:=ahs (S:=val sq.1) (d:=d) (by omega) LQ;have AA:=Tl (q:=d) (R:=sq.1) gE Ml gN VQ Lw;simp+decide (disch:=first|omega|rfl|(simp+decide only[go_sem,nB,gy,nR,nQ,kS,jf,jg,jh,bw,iQ,mT,kV,pC,e2,iR,e5,DA,KaQ vK,ED]<;>rfl)|fail) only[go_sem,nB,gy,nR,nQ,kS,jf,jg,jh,bw,iQ,mT,kV,pC,e2,iR,e5,DA,KaQ vK,ED];refine Qh j (by omega) ⟨pre++(sq.1++post),d::qs,by simp;omega,?_,?_,?_,?_,AA.2,?_⟩
   ·rw[nh,nh];exact⟨yf,cH,pK⟩
   ·simp;omega
   ·rw[gX];exact⟨vK,oK⟩
   ·rw[AA.1];exact Lu
   ·simp+decide (disch:=first|omega|rfl|(simp+decide only[go_sem,bw,iQ,true_and,and_true,iR,KbK]<;>rfl)|fail) only[go_sem,bw,iQ,true_and,and_true,iR,KbK]
 ·obtain rfl:k=0:=by omega
  rw[Kbo]at EO;rw[Nat.pow_zero,KcU]at gN;have hdiv:val u/val v=val qs:=by rw[gN,Kcs _ _ hvp,Kcc EO,Kbc]
  have AW:val u%val v=val l:=by rw[gN,Kcp,KaQ EO]
  simp+decide (disch:=first|omega|rfl|(simp+decide only[go_sem,gy,mT,kV,pC,bw,iQ,kS,jf,jg,jh,Ka8,KaN]<;>rfl)|fail) only[go_sem,gy,mT,kV,pC,bw,iQ,kS,jf,jg,jh,Ka8,KaN];refine iE hP (ik oK (by omega)) (zs (ty:=76) (fz:=false) (by simp+decide (disch:=first|omega|rfl|(simp+decide only[go_sem,pC,Ka8,KaN]<;>rfl)|fail) only[go_sem,pC,Ka8,KaN]) (by omega)) rfl ?_;refine Sz0 ?_;refine Ps (xs':=cm (l++ex)) (p:=PV.num (val qs)) ?_ (qg _) (by simp;omega) Tz0 rfl ⟨by rw[hdiv],l,rfl,hl,pI,AW.symm⟩;show FW.cb h [18] 1000000=_;simp only[FW.cb];rw[if_neg (by decide),kV]
theorem Ze{a:List Nat}{s:Nat}(ha:Qq a)(bu:a.length<2^40)(hs:s<=15):Qc Tryz.prog 147 [PV.nat a,.int .i64 (-(s:Int))] (· =PV.num (val a/2^s)):=by
 have gA:=cj ha;unfold nl at gA;by_cases h0:val a=0
 ·refine Qf Qj Tryz.func147 rfl Hv (by simp[vt]) fun C hP=>?_;simp only[vt,Zo,Zg,Zm,Zc,Zf,Zl,Zh,Zs,Zi,Zb,Zk,Zn,Zu,Zq,Zr,Zz];refine Sz0 ?_;refine Qa hP (ik ha (by omega)) rfl rfl rfl ?_;refine Sz0 ?_;refine dF (fun hz=>by omega) (fun hz=>?_);refine Sz0 ?_;refine dF (fun hz=>by omega) (fun hz=>?_);refine Sz0 ?_;refine Qb (fun hz=>?_) (fun hz=>absurd (by rw[h0,fC];rfl) hz);refine Sz0 ?_;exact nu (zI (by simp[h0])) rfl
 by_cases Bc:s=0
 ·subst Bc;have:=(F9 (s:=0) ha bu (by omega) h0).WA;rw[Nat.pow_zero,KbF]at this;rw[Nat.pow_zero,Nat.div_one];exact this
 have nZ:(ah (val a)).length≠0:=fun h=>h0 (j9.1 (oW h));refine Qf Qj Tryz.func147 rfl Hv (by simp[vt]) fun C hP=>?_;simp only[vt,Zo,Zg,Zm,Zc,Zf,Zl,Zh,Zs,Zi,Zb,Zk,Zn,Zu,Zq,Zr,Zz];refine Sz0 ?_;refine Qa hP (ik ha (by omega)) rfl rfl rfl ?_;refine Sz0 ?_;refine dF (fun hz=>by omega) (fun hz=>?_);refine Sz0 ?_;refine dF (fun hz=>by omega) (fun hz=>?_);refine Sz0 ?_;refine Qb (fun hz=>by omega) (fun hz=>?_);refine Sz0 ?_;refine Qb (fun hz=>?_) (fun hz=>by omega);have e:(0:Int)- -(s:Int)=(s:Nat):=by omega
 refine Sz1 e ?_;refine Qa hP (Za (Qp (val a)) (by omega) hs) rfl rfl rfl ?_;refine Sz1 @Q6 ?_;exact Qd rfl rfl
theorem Zj{x d:Nat}(hx:(ah x).length<2^42)(hd:0<d)(gf:d<65536):Qc Tryz.prog 145 [PV.num x,.int .u16 d] (· = .au [PV.num (x/d),.int .u16 (x%d:Nat)]):=by
 have:=XF (Qp x) hx hd gf
 rwa[Q6]at this
theorem Gb{a b:List Nat}(ha:Qq a)(hb:Qq b)(bu:a.length<2^38)(cQ:b.length<2^38):Qc Tryz.prog 89 [PV.nat a,PV.nat b]
  (· =if val b=0 then .au [PV.num 0,PV.num 0,.int .i64 3]else .au [PV.num (val a/val b),PV.num (val a%val b),.int .i64 0]):=by
 have gA:=cj ha;have iP:=cj hb;unfold nl at gA iP;refine Qf Qj Tryz.func89 rfl ahV (by simp[KU]) fun C hP=>?_;simp only[KU,Zo,Zg,Zm,Zc,Zf,Zl,Zh,Zs,Zi,Zb,Zk,Zn,Zu,Zq,Zr,Zz];refine Sz0 ?_;refine Qa hP (ik ha (by omega)) rfl rfl rfl ?_;refine Sz0 ?_;refine Qa hP (ik hb (by omega)) rfl rfl rfl ?_;refine Sz0 ?_;have dZ:=Qp (val a);have iz:=Qp (val b);have pQ:=Q6 (val a);have su:=Q6 (val b);have aoA:=zq (val b);generalize val a=x at *
 generalize val b=y at *
 refine Qb (fun hz=>?_) (fun hz=>?_)
 ·have cV:y=0:=j9.1 (oW (by omega));refine Sz0 ?_;rw[if_pos cV];exact tu rfl rfl rfl rfl wS wS (Qw _)
 have cV:y≠0:=fun h=>by rw[h,fC]at hz;simp at hz
 rw[if_neg cV];refine Sz0 ?_;refine Qa hP (Dd dZ iz (by omega) (by omega)) rfl rfl rfl ?_;refine Sz2 pQ su ?_;refine Qb (fun hc=>?_) (fun hc=>?_)
 ·have ar:x<y:=by
   unfold gM at hc;split at hc
   ·assumption
   ·split at hc<;>omega
  refine Sz0 ?_;refine Qa hP (ze dZ (by omega)) rfl rfl rfl ?_;refine Sz1 pQ ?_;exact tu rfl rfl rfl rfl (zI (Kcc ar)) (sV (by rw[KaQ ar])) (Qw _)
 have fU:y<=x:=by unfold gM at hc;split at hc<;>omega
 refine Sz0 ?_;refine Qb (fun h1=>?_) (fun h1=>?_)
 ·obtain⟨d,hd⟩:∃d,ah y=[d]:=by
   match h:ah y,h1 with
   | [d],_=>exact⟨d,rfl⟩
   | [],h1=>simp at h1
   |_::_::_,h1=>simp at h1;omega
  have VW:y=d:=by rw[<-su,hd];simp[val]
  have fw:d<65536:=by rw[hd]at iz;exact iz d (by simp)
  simp+decide (disch:=first|omega|rfl|(simp+decide only[go_sem,hd,Kbj,Kbu,KaX,Kbh]<;>rfl)|fail) only[go_sem,hd,Kbj,Kbu,KaX,Kbh];refine Qa hP (Zj (x:=x) (d:=d) (by omega) (by omega) fw) (by rw[PV.num];rfl) rfl rfl ?_;have hm:x%d<18446744073709551616:=by have:=Kbt x (show 0<d by omega);omega
  refine Sz0 ?_;refine Qa hP (zP hm) rfl rfl rfl ?_;refine Sz0 ?_;rw[VW];exact tu rfl rfl rfl rfl (Qw _) (Qw _) (Qw _)
 obtain⟨n,hn⟩:∃n,(ah y).length=n+2:=⟨(ah y).length-2,by omega⟩
 obtain⟨m,hm⟩:∃m,(ah x).length=m+2:=by have:=fE fU;unfold nl at this;exact⟨(ah x).length-2,by omega⟩
 have e1:((n+2:Nat):Int)-1=((n+1:Nat):Int):=by omega
 have jj:(ah y)[n+1]'(by omega)≠0:=by
  intro h;apply aoA;have:(ah y).getLast? =some ((ah y)[n+1]'(by omega)):=by rw[Ka3,show(ah y).length-1=n+1 by omega];exact Kam _
  rw[this,h]
 have EX:=et iz (show n+1<(ah y).length by omega);have apK:val (ah y)=y:=Q6 y;generalize ue:(ah y)[n+1]'(by omega)=yi at *
 have qF:=Ga EX;have hbp:=Gx EX jj;obtain⟨ba,aof⟩:=Zd _ yi rfl jj EX;obtain⟨s,hs,ua⟩:∃s,16-Lib.bitLen yi=s/\s<=15:=⟨_,rfl,by omega⟩
 refine Sz3 hn e1 ue ?_;refine Qa hP (Qre EX) rfl rfl rfl ?_;refine Sz1 hs ?_;have hso:=F9 (a:=ah x) (s:=s) dZ (by omega) ua (by rw[pQ];omega);refine agQ hP hso rfl rfl rfl (by decide) ?_;rintro _ _ rfl;rw[pQ];have hDl:(ah (x*2^s)).length<=m+3:=by have h1:=gJ x (2^s);have h2:nl (2^s)<=1:=mD.2 (by have:2^s<=2^15:=KbC (by omega) ua;omega);unfold nl at h1 h2;omega
 have apw:m+2<=(ah (x*2^s)).length:=by have:=fE (show x<=x*2^s from Nat.le_mul_of_pos_right _ (KbN (by omega)));unfold nl at this;omega
 refine Sz1 hm ?_;rw[Gt (ys:=cm [0,0]) (xs:=cm (ah (x*2^s))) (by simp+decide (disch:=first|omega|rfl|(simp+decide only[go_sem,jt]<;>rfl)|fail) only[go_sem,jt];rfl) Tz0 (by omega) (by simp) (by simp;omega) (by simp;omega)];rw[Kae (by simp),<-List.map_append];simp+decide (disch:=first|omega|rfl|(simp+decide only[go_sem,hm,KaX,Kbh]<;>rfl)|fail) only[go_sem,hm,KaX,Kbh];have VH:=(F9 (a:=ah y) (s:=s) iz (by omega) ua (by rw[su];omega)).WA;rw[su]at VH;refine Qa hP VH rfl rfl rfl ?_;obtain⟨g1,g2⟩:=aaU ua (by rw[show 16-s=Lib.bitLen yi by omega];exact ba) (by rw[show 16-s=Lib.bitLen yi by omega];exact aof);obtain⟨UB,hYt,amx⟩:=Xz hn ue g1 g2;have jR:n<=m:=by have:=fE fU;unfold nl at this;omega
 obtain⟨u,ex,Bh,v5,hu3,hu4,hu5,hu6⟩:=XA (s:=s) hm ua jR amx;have amP:x*2^s/(y*2^s)=x/y:=Nat.mul_div_mul_right _ _ (KbN (by omega));have amQ:x*2^s%(y*2^s)=x%y*2^s:=Nat.mul_mod_mul_right _ _ _;rw[Bh];refine Sz0 ?_;have nX:=aba (u:=u) (v:=ah (y*2^s)) (ex:=ex) hu3 (Qp _) (by omega) (by omega) (by rw[UB];exact hYt) (by rw[UB,v5,Q6];exact hu6) (by omega);rw[v5,hu4,Q6,amP,amQ]at nX;refine DM hP nX (β:=52) Tz0 (qg _) (by simp;omega) (by simp[jm]) rfl ?_;rintro _ _ _ _ ⟨rfl,l,rfl,lU,gh,AR⟩;have e5:IntKind.i64.wrap (0-(s:Int))= -(s:Int):=by rw[uN (by omega) (by omega)];omega
 have bn:(cm (l++ex)).take (m+2+1)=cm l:=by rw[<-List.map_take,show m+2+1=l.length by omega,List.take_left]
 simp+decide (disch:=first|omega|rfl|(simp+decide only[go_sem,nB]<;>rfl)|fail) only[go_sem,nB];refine iE hP (ik lU (by omega)) (by simp[aK,cB,bG,Qy,<-List.map_append,bn]) rfl ?_;refine Sz1 e5 ?_;rw[AR];have ub:=Ze (a:=ah (x%y*2^s)) (s:=s) (Qp _) (by have:=fE (show x%y*2^s<=x*2^s from Kaf _ (Nat.mod_le _ _));unfold nl at this;omega) ua;rw[Q6,Nat.mul_div_cancel _ (KbN (by omega))]at ub;refine Qa hP ub rfl rfl rfl ?_;refine Sz0 ?_;exact tu rfl rfl rfl rfl (Qw _) (Qw _) (Qw _)
theorem NQ{a b:List Nat}(ha:Qq a)(hb:Qq b)(bu:a.length<2^38)(cQ:b.length<2^38):Qc Tryz.prog 44 [PV.nat a,PV.nat b] (· =PV.num (Nat.gcd (val a) (val b))):=by
 have gA:=cj ha;have iP:=cj hb;unfold nl at gA iP;refine Qf Qj Tryz.func44 rfl ahW (by simp[Kf]) fun C hP=>?_;simp only[Kf,Zo,Zg,Zm,Zc,Zf,Zl,Zh,Zs,Zi,Zb,Zk,Zn,Zu,Zq,Zr,Zz];refine Sz0 ?_;refine Qa hP (ze ha (by omega)) rfl rfl rfl ?_;refine Sz0 ?_;refine Qa hP (ze hb (by omega)) rfl rfl rfl ?_;refine Sz0 ?_;refine Qz (by repeat (first|exact Qs|exact Ql|exact Qm|exact Qn|exact Qo|apply Qk|apply Qr|apply Qx|apply Q4|apply Q5|apply Qi)) [(0,1),(4,11),(16,49)] [] (fun m J hp=>∃x,Nat.gcd x m=Nat.gcd (val a) (val b)/\(ah x).length<2^38/\(ah m).length<2^38/\J 0=PV.num x/\J 1=PV.num m/\hp=aE) (val b) ?_ ?_
 ·refine⟨val a,rfl,by omega,by omega,?_⟩;exact Tz2 @true_and @and_true
 rintro y J _ ⟨x,hg,hx,hy,h0,h1,rfl⟩;generalize Nat.gcd (val a) (val b)=g at *
 refine Sz2 h0 h1 ?_;refine Qb (fun hc=>?_) (fun hc=>?_)
 ·have cV:y≠0:=fun h=>by rw[h,fC]at hc;simp at hc
  have AW:(ah (x%y)).length<2^38:=by have:=fE (Nat.le_of_lt (Kbt x (KaY cV)));unfold nl at this;omega
  refine Sz2 h0 h1 ?_;refine Qa hP (GN (Qp x) (by omega)) rfl rfl rfl ?_;refine Sz2 h0 h1 ?_;rw[Q6];by_cases gj:nl x<=4
  ·have EW:=CS.1 gj;rw[if_pos gj];refine Sz2 h0 h1 ?_;refine Qa hP (GN (Qp y) (by omega)) rfl rfl rfl ?_;rw[Q6];by_cases eY:nl y<=4
   ·have pR:=CS.1 eY;rw[if_pos eY];refine Sz2 h0 h1 ?_;refine Qz (by repeat (first|exact Qs|exact Ql|exact Qm|exact Qn|exact Qo|apply Qk|apply Qr|apply Qx|apply Q4|apply Q5|apply Qi)) [(5,5),(7,7),(33,38)] [] (fun m J hp=>∃p,Nat.gcd p m=g/\p<18446744073709551616/\m<18446744073709551616/\J 5= .int .u64 p/\J 7= .int .u64 m/\hp=aE) y ?_ ?_
    ·refine⟨x,hg,EW,pR,?_⟩;exact Tz2 @true_and @and_true
    rintro q J2 _ ⟨p,fI,iT,eX,h5,h7,rfl⟩;refine Sz2 h5 h7 ?_;refine Qb (fun hq=>?_) (fun hq=>?_)
    ·have iy:0<q:=by omega
     refine Sz3 h5 h7 @qk ?_;refine Qh (p%q) (Kbt _ iy) ⟨q,?_,eX,?_,?_⟩
     ·rw[<-fI,Kcx p q,Nat.gcd_rec q p,Kcx]
     ·have:=Kbt p iy;omega
     ·exact Tz2 @true_and @and_true
    ·obtain rfl:q=0:=by omega
     refine Sz2 h5 h7 ?_;refine Qa hP (zP iT) rfl rfl rfl ?_;refine Sz0 ?_;exact Qd (by rw[<-fI,Kc1]) rfl
   ·rw[if_neg eY];refine Sz2 h0 h1 ?_;refine Qa hP (Gb (Qp x) (Qp y) (by omega) (by omega)) rfl rfl rfl ?_;rw[Q6,Q6,if_neg cV];refine Sz2 h0 h1 ?_;refine Qh (x%y) (Kbt _ (KaY cV)) ⟨y,?_,hy,AW,?_⟩
    ·rw[<-hg,Kcx x y,Nat.gcd_rec y x,Kcx]
    ·exact Tz2 @true_and @and_true
  ·rw[if_neg gj];refine Sz2 h0 h1 ?_;refine Qa hP (GN (Qp y) (by omega)) rfl rfl rfl ?_;obtain⟨r1,r2,hr⟩:∃r1 r2,(if nl (val (ah y))<=4 then PV.au [.int .u64 (val (ah y)),.bool true]else .au [.int .u64 0,.bool false])= .au [.int .u64 r1,.bool r2]:=by split<;>exact⟨_,_,rfl⟩
   rw[hr];refine Sz2 h0 h1 ?_;refine Qa hP (Gb (Qp x) (Qp y) (by omega) (by omega)) rfl rfl rfl ?_;rw[Q6,Q6,if_neg cV];refine Sz2 h0 h1 ?_;refine Qh (x%y) (Kbt _ (KaY cV)) ⟨y,?_,hy,AW,?_⟩
   ·rw[<-hg,Kcx x y,Nat.gcd_rec y x,Kcx]
   ·exact Tz2 @true_and @and_true
 ·have cV:y=0:=j9.1 (oW (by omega));subst cV;refine Sz1 h0 ?_;exact Qd (by rw[<-hg,Kc1]) rfl
theorem wA(n:Bool)(x:Nat):Qc Tryz.prog 118 [.bool n,PV.num x] (· =PV.zz (if n then -(x:Int)else x)):=by
 refine Qf Qj Tryz.func118 rfl afm (by simp[II]) fun C hP=>?_;simp only[II,Zo,Zg,Zm,Zc,Zf,Zl,Zh,Zs,Zi,Zb,Zk,Zn,Zu,Zq,Zr,Zz];refine Sz0 ?_;refine wE (fun hn=>?_) (fun hn=>?_)
 all_goals
  refine Sz0 ?_;refine dA ?_;refine Sz0 ?_;exact Qd (by rw[<-HV,hn];simp) rfl
theorem abb{n:Bool}{a:List Nat}(ha:Qq a)(bu:a.length<2^42):Qc Tryz.prog 175 [.bool n,PV.nat a] (· =PV.zz (zv n a)):=by
 refine Qf Qj Tryz.func175 rfl afl (by simp[JE]) fun C hP=>?_;simp only[JE,Zo,Zg,Zm,Zc,Zf,Zl,Zh,Zs,Zi,Zb,Zk,Zn,Zu,Zq,Zr,Zz];refine Sz0 ?_;refine Qa hP (ze ha bu) rfl rfl rfl ?_;refine Sz0 ?_;refine wE (fun hn=>?_) (fun hn=>?_)
 all_goals
  refine Sz0 ?_;refine dA ?_;refine Sz0 ?_;exact Qd (by have:=HV n (val a);rw[hn]at this;subst hn;simpa[zv]using this) rfl
theorem XI{n:Bool}{a:List Nat}(ha:Qq a)(bu:a.length<2^42):Qc Tryz.prog 149 [PV.zi n a] (· =PV.zz (zv n a)):=by refine Qf Qj Tryz.func149 rfl afn (by simp[Jd]) fun C hP=>?_;simp only[Jd,Zo,Zg,Zm,Zc,Zf,Zl,Zh,Zs,Zi,Zb,Zk,Zn,Zu,Zq,Zr,Zz];refine Sz0 ?_;refine Qa hP (abb ha bu) rfl rfl rfl ?_;refine Sz0 ?_;refine dA ?_;refine Sz0 ?_;exact Qd rfl rfl
theorem Ct{n:Bool}{a:List Nat}(ha:Qq a)(bu:a.length<2^40):Qc Tryz.prog 50 [PV.zi n a] (· = .int .i64 (fk (zv n a))):=by
 refine Qf Qj Tryz.func50 rfl ah6 (by simp[Kk]) fun C hP=>?_;simp only[Kk,Zo,Zg,Zm,Zc,Zf,Zl,Zh,Zs,Zi,Zb,Zk,Zn,Zu,Zq,Zr,Zz];refine Sz0 ?_;refine rm hP (TF ha bu) rfl rfl rfl ?_;rintro _ ⟨k,rfl,hk⟩;refine Sz0 ?_;rw[Fu];refine Qb (fun hz=>?_) (fun hz=>?_)
 ·refine Sz0 ?_;rw[if_pos (hk.1 (by omega))];exact Qd rfl rfl
 ·rw[if_neg (fun h=>hz (by rw[hk.2 h];rfl))];refine Sz0 ?_;refine y4 (fun hn=>?_) (fun hn=>?_)
  ·refine Sz0 ?_;exact Qd (by simp[hn]) rfl
  ·refine Sz0 ?_;exact Qd (by simp[hn]) rfl
theorem RA{a b:List Nat}(ha:Qq a)(hb:Qq b)(bu:a.length<2^40)(cQ:b.length<2^40):Qc Tryz.prog 180 [PV.nat a,PV.nat b] (· = .int .i64 (gM (val a) (val b))):=by refine Qf Qj Tryz.func180 rfl afp (by simp[JK]) fun C hP=>?_;simp only[JK,Zo,Zg,Zm,Zc,Zf,Zl,Zh,Zs,Zi,Zb,Zk,Zn,Zu,Zq,Zr,Zz];refine Sz0 ?_;refine Qa hP (Dd ha hb bu cQ) rfl rfl rfl ?_;refine Sz0 ?_;exact Qd rfl rfl
theorem Zp{n m:Bool}{a b:List Nat}(ha:Qq a)(hb:Qq b)(bu:a.length<2^40)(cQ:b.length<2^40):Qc Tryz.prog 163 [PV.zi n a,PV.zi m b] (· = .int .i64 (cW (zv n a) (zv m b))):=by
 have hx:=Fu n a;have hy:=Fu m b;refine Qf Qj Tryz.func163 rfl afo (by simp[Jr]) fun C hP=>?_;simp only[Jr,Zo,Zg,Zm,Zc,Zf,Zl,Zh,Zs,Zi,Zb,Zk,Zn,Zu,Zq,Zr,Zz];refine Sz0 ?_;refine Qa hP (Ct ha bu) rfl rfl rfl ?_;refine Sz0 ?_;refine Qa hP (Ct hb cQ) rfl rfl rfl ?_;refine Sz0 ?_;refine Qb (fun hs=>?_) (fun hs=>?_)
 ·refine Sz0 ?_;exact Qd (by rw[adX hs]) rfl
 refine Sz0 ?_;refine Qb (fun eY=>?_) (fun eY=>?_)
 ·refine Sz0 ?_;exact Qd (by rw[adY eY]) rfl
 have he:fk (zv n a)=fk (zv m b):=by omega
 refine Sz0 ?_;refine Qb (fun vY=>?_) (fun vY=>?_)
 ·refine Sz0 ?_;refine Qa hP (RA hb ha cQ bu) rfl rfl rfl ?_;refine Sz0 ?_;exact Qd (by rw[adZ (xa.1 vY) (xa.1 (he▸vY))]) rfl
 ·refine Sz0 ?_;refine Qa hP (RA ha hb bu cQ) rfl rfl rfl ?_;refine Sz0 ?_;exact Qd (by rw[ad0 (fun h=>vY (xa.2 h)) (fun h=>vY (he▸xa.2 h))]) rfl
theorem Sm{n m:Bool}{a b:List Nat}(ha:Qq a)(hb:Qq b)(bu:a.length<2^40)(cQ:b.length<2^40):Qc Tryz.prog 150 [PV.zi n a,PV.zi m b] (· =PV.zz (zv n a+zv m b)):=by
 refine Qf Qj Tryz.func150 rfl afq (by simp[Jf]) fun C hP=>?_;simp only[Jf,Zo,Zg,Zm,Zc,Zf,Zl,Zh,Zs,Zi,Zb,Zk,Zn,Zu,Zq,Zr,Zz];refine Sz0 ?_;refine y4 (fun jR=>?_) (fun jR=>?_)
 ·have jR:n=m:=by simpa using jR
  subst jR;refine Sz0 ?_;refine Qa hP (acY ha hb bu cQ) rfl rfl rfl ?_;refine Sz0 ?_;refine Qa hP (wA n (val a+val b)) rfl rfl rfl ?_;refine Sz0 ?_;refine dA ?_;refine Sz0 ?_;exact Qd (congrArg PV.zz (by unfold zv;split<;>simp<;>omega)) rfl
 have jR:n= !m:=by cases n<;>cases m<;>simp_all
 subst jR;refine Sz0 ?_;refine Qa hP (Dd ha hb bu cQ) rfl rfl rfl ?_;refine Sz0 ?_;refine Qb (fun hc=>?_) (fun hc=>?_)
 ·rw[C8]at hc;refine Sz0 ?_;refine Qa hP (NP hb ha cQ bu (by omega)) rfl rfl rfl ?_;refine Sz0 ?_;refine Qa hP (wA m (val b-val a)) rfl rfl rfl ?_;refine Sz0 ?_;refine dA ?_;refine Sz0 ?_;exact Qd (congrArg PV.zz (by unfold zv;cases m<;>simp<;>omega)) rfl
 ·rw[C8]at hc;refine Sz0 ?_;refine Qa hP (NP ha hb bu cQ (by omega)) rfl rfl rfl ?_;refine Sz0 ?_;refine Qa hP (wA (!m) (val a-val b)) rfl rfl rfl ?_;refine Sz0 ?_;refine dA ?_;refine Sz0 ?_;exact Qd (congrArg PV.zz (by unfold zv;cases m<;>simp<;>omega)) rfl
theorem uJ{n m:Bool}{a b:List Nat}(ha:Qq a)(hb:Qq b)(bu:a.length<2^40)(cQ:b.length<2^40):Qc Tryz.prog 92 [PV.zi n a,PV.zi m b] (· =PV.zz (zv n a*zv m b)):=by refine Qf Qj Tryz.func92 rfl ah7 (by simp[KX]) fun C hP=>?_;simp only[KX,Zo,Zg,Zm,Zc,Zf,Zl,Zh,Zs,Zi,Zb,Zk,Zn,Zu,Zq,Zr,Zz];refine Sz0 ?_;refine Qa hP (zC ha hb bu cQ) rfl rfl rfl ?_;refine Sz0 ?_;refine Qa hP (wA (!(n==m)) (val a*val b)) rfl rfl rfl ?_;refine Sz0 ?_;refine dA ?_;refine Sz0 ?_;exact Qd (congrArg PV.zz (by unfold zv;cases n<;>cases m<;>simp[Int.neg_mul,Int.mul_neg])) rfl
theorem De{a:List Nat}(hl:a.length<2^43):Qc Tryz.prog 43 [PV.nat a] (· = .bool (decide (a=[1]))):=by
 refine Qf Qj Tryz.func43 rfl ah8 (by simp[Ke]) fun C hP=>?_;simp only[Ke,Zo,Zg,Zm,Zc,Zf,Zl,Zh,Zs,Zi,Zb,Zk,Zn,Zu,Zq,Zr,Zz];refine Sz0 ?_;refine Qb (fun hz=>?_) (fun hz=>?_)
 ·obtain⟨x,xs,rfl⟩:∃x xs,a=x::xs:=by
   match a,hz with
   |x::xs,_=>exact⟨x,xs,rfl⟩
  simp+decide (disch:=first|omega|rfl|(simp+decide only[go_sem,Kbj,List.getElem_cons_zero]<;>rfl)|fail) only[go_sem,Kbj,List.getElem_cons_zero];refine Qd (congrArg PV.bool ?_) rfl;rw[<-Bool.decide_and];exact decide_eq_decide.2 ⟨fun⟨h1,h2⟩=>by
   have:xs=[]:=Kar.1 (by omega);subst this;congr 1;omega,fun h=>by
   injection h with h1 h2;subst h1 h2;simp⟩
 ·have:a=[]:=Kar.1 (by omega);subst this;refine Sz0 ?_;exact Qd rfl rfl
theorem RC(x:Nat):(ah x=[1])↔x=1:=⟨fun h=>by have:=Q6 x;rw[h]at this;simpa[val]using this.symm,fun h=>by rw[h,rC]⟩
theorem Hw{x:Nat}(hl:(ah x).length<2^43):Qc Tryz.prog 43 [PV.num x] (· = .bool (decide (x=1))):=by
 have:=De hl
 rwa[decide_eq_decide.2 (RC x)]at this
theorem CJ:Qc Tryz.prog 64 [] (· =PV.nat [1]):=by refine Qf Qj Tryz.func64 rfl ah9 (by simp[Ky]) fun C hP=>?_;simp only[Ky,Zo,Zg,Zm,Zc,Zf,Zl,Zh,Zs,Zi,Zb,Zk,Zn,Zu,Zq,Zr,Zz];refine Sz0 ?_;exact Qd rfl rfl
theorem Gy{x y:Nat}(hx:(ah x).length<2^38)(hy:(ah y).length<2^38)(h0:y≠0):Qc Tryz.prog 89 [PV.num x,PV.num y] (· = .au [PV.num (x/y),PV.num (x%y),.int .i64 0]):=by
 have:=Gb (Qp x) (Qp y) hx hy
 rwa[Q6,Q6,if_neg h0]at this
theorem Hx{x y:Nat}(hx:(ah x).length<2^38)(hy:(ah y).length<2^38):Qc Tryz.prog 44 [PV.num x,PV.num y] (· =PV.num (Nat.gcd x y)):=by
 have:=NQ (Qp x) (Qp y) hx hy
 rwa[Q6,Q6]at this
theorem QP{n:Bool}{a d:List Nat}(ha:Qq a)(hd:Qq d)(bu:a.length<2^38)(vQ:d.length<2^38):Qc Tryz.prog 91 [PV.zi n a,PV.nat d] (· =PV.rat (rv n a d)):=by
 have AX:=cj ha;have Mh:=cj hd;rw[<-jF n a]at AX;unfold rv;unfold nl at AX Mh;refine Qf Qj Tryz.func91 rfl aia (by simp[KW]) fun C hP=>?_;simp only[KW,Zo,Zg,Zm,Zc,Zf,Zl,Zh,Zs,Zi,Zb,Zk,Zn,Zu,Zq,Zr,Zz];refine Sz0 ?_;refine Qa hP (ze hd (by omega)) rfl rfl rfl ?_;refine Sz0 ?_;refine Qa hP (XI ha (by omega)) rfl rfl rfl ?_;refine Sz0 ?_;generalize zv n a=z at *
 generalize val d=D at *
 have hlen:∀x:Nat,((ah x).length:Int)=0↔x=0:=fun x=>by rw[<-j9,<-List.length_eq_zero_iff];omega
 have Ud:∀ {fr:Fr} {hp:HP},(D=0∨z=0)->xD (· =PV.rat (mkRat z D)) (.agg [.bool false,.aa,PV.nat [1]]):=fun h=>by rw[Rs h];exact nu OM rfl
 refine dF (fun hz=>?_) (fun hz=>?_)
 ·refine Sz0 ?_;refine Qa hP CJ rfl rfl rfl ?_;refine Sz0 ?_;refine dA ?_;refine Sz0 ?_;exact Ud (fr:=bE) (hp:=aE) (.inl ((hlen _).1 hz))
 refine Sz0 ?_;refine Qb (fun EY=>?_) (fun EY=>?_)
 ·refine Sz0 ?_;refine Qa hP CJ rfl rfl rfl ?_;refine Sz0 ?_;refine dA ?_;refine Sz0 ?_;exact Ud (fr:=bE) (hp:=aE) (.inr (Int.natAbs_eq_zero.1 ((hlen _).1 EY)))
 have hD:D≠0:=fun h=>hz ((hlen _).2 h);refine Sz0 ?_;refine Qa hP (Hw (by omega)) rfl rfl rfl ?_;refine Sz0 ?_;refine Qb (fun h1=>?_) (fun h1=>?_)
 ·subst h1;refine Sz0 ?_;refine dA ?_;refine Sz0 ?_;exact Qd (by rw[<-ajY];simp only[rC]) rfl
 refine Sz0 ?_;refine Qa hP (Hx (by omega) (by omega)) rfl rfl rfl ?_;have ia:Nat.gcd z.natAbs D≠0:=fun h=>hD (Kcr h);have nV:(ah (Nat.gcd z.natAbs D)).length<2^38:=by have:=fE (Kdd z.natAbs (KaY hD));unfold nl at this;omega
 have kU:=Pw (z:=z) hD;generalize Nat.gcd z.natAbs D=g at *
 refine Sz0 ?_;refine Qa hP (Hw (by omega)) rfl rfl rfl ?_;refine Sz0 ?_;refine y4 (fun h2=>?_) (fun h2=>?_)
 ·refine Sz0 ?_;refine Qa hP (Gy (by omega) nV ia) rfl rfl rfl ?_;refine Sz0 ?_;refine Qa hP (Gy (by omega) nV ia) rfl rfl rfl ?_;refine Sz0 ?_;refine dA ?_;refine Sz0 ?_;exact Qd kU rfl
 ·have:g=1:=by simpa using h2
  subst this;rw[Nat.div_one,Nat.div_one]at kU;refine Sz0 ?_;refine dA ?_;refine Sz0 ?_;exact Qd kU rfl
theorem wN(a:List Nat):Qc Tryz.prog 95 [PV.nat a] (· =PV.zi false a):=by refine Qf Qj Tryz.func95 rfl aic (by simp[K3]) fun C hP=>?_;simp only[K3,Zo,Zg,Zm,Zc,Zf,Zl,Zh,Zs,Zi,Zb,Zk,Zn,Zu,Zq,Zr,Zz];refine Sz0 ?_;refine dA ?_;refine Sz0 ?_;exact Qd rfl rfl
def aik(k:Nat)(q:Rat)(r:PV):Prop:=∃n a d,r= .au [PV.zi n a,PV.nat d]/\Qq a/\Qq d/\a.length<=k/\d.length<=k/\val d≠0/\rv n a d=q
theorem uG{n:Bool}{a d:List Nat}{k:Nat}(ha:Qq a)(hd:Qq d)(hk:1<=k)(bu:a.length<=k)(vQ:d.length<=k)(mV:k<2^38):Qc Tryz.prog 49 [PV.rr n a d] (aik k (rv n a d)):=by
 refine Qf Qj Tryz.func49 rfl aib (by simp[Kj]) fun C hP=>?_;simp only[Kj,Zo,Zg,Zm,Zc,Zf,Zl,Zh,Zs,Zi,Zb,Zk,Zn,Zu,Zq,Zr,Zz];refine Sz0 ?_;refine rm hP (TF hd (by omega)) rfl rfl rfl ?_;rintro _ ⟨b,rfl,hb⟩;refine Sz0 ?_;refine Qb (fun hz=>?_) (fun hz=>?_)
 ·have h0:val d=0:=hb.1 (by omega);refine Sz0 ?_;refine Qa hP CJ rfl rfl rfl ?_;refine Sz0 ?_;refine jr ?_;refine Sz0 ?_;refine⟨⟨rfl,rfl⟩,.au [PV.zi false [],PV.nat [1]],⟨⟨rfl,trivial,trivial⟩,Qw _,trivial⟩,false,[],[1],rfl,nt,by intro x hx;simp at hx;omega,by simp,by simpa using hk,by simp[val],?_⟩;unfold rv;rw[h0,Rat.mkRat_zero];rfl
 ·have h0:val d≠0:=fun h=>hz (by rw[hb.2 h];rfl);refine Sz0 ?_;refine ns ?_ ?_
  all_goals
   refine Sz0 ?_;refine jr ?_;refine Sz0 ?_;exact⟨⟨rfl,rfl⟩,.au [PV.zi n a,PV.nat d],⟨Qw _,Qw _,trivial⟩,n,a,d,rfl,ha,hd,bu,vQ,h0,rfl⟩
theorem acZ{z:Int}{m:Bool}{b:List Nat}(hb:Qq b)(bu:nl z.natAbs<2^40)(cQ:b.length<2^40):Qc Tryz.prog 150 [PV.zz z,PV.zi m b] (· =PV.zz (z+zv m b)):=by
 have:=Sm (n:=decide (z<0)) (a:=ah z.natAbs) (m:=m) (Qp _) hb bu cQ
 rwa[lF]at this
theorem NR{n m:Bool}{a b:List Nat}(ha:Qq a)(hb:Qq b)(bu:a.length<2^39)(cQ:b.length<2^39):Qc Tryz.prog 94 [.sl 2 [PV.zi n a,PV.zi m b]] (· =PV.zz (zv n a+zv m b)):=by
 have AX:=cj ha;rw[<-jF n a]at AX;refine Qf Qj Tryz.func94 rfl aih (by simp[KZ]) fun C hP=>?_;simp only[KZ,Zo,Zg,Zm,Zc,Zf,Zl,Zh,Zs,Zi,Zb,Zk,Zn,Zu,Zq,Zr,Zz];refine Sz0 ?_;refine Qz (by repeat (first|exact Qs|exact Ql|exact Qm|exact Qn|exact Qo|apply Qk|apply Qr|apply Qx|apply Q4|apply Q5|apply Qi)) [(5,5),(8,15)] [5] (fun k J hp=>∃i,k=2-i/\i<=2/\J 8= .int .i64 (i:Nat)/\hp 2=some ⟨2,41,[.agg [.bool false,.aa]],false⟩/\hp 3=some ⟨2,41,[if i=0 then .agg [.bool false,.aa]else if i=1 then PV.zz (zv n a)else PV.zz (zv n a+zv m b)],false⟩) 2 ?_ ?_
 ·refine⟨0,rfl,by omega,?_⟩;refine Sz0 ?_;simp
 rintro _ J h ⟨i,rfl,hi,h8,tS,bw⟩;refine Sz1 h8 ?_;refine Qb (fun hg=>?_) (fun hg=>?_)
 ·have lT:i=0∨i=1:=by have:i<2:=(by omega);omega
  rcases lT with rfl|rfl
  ·have Ap:J 8= .int .i64 0:=h8;refine Sz3 Ap tS bw ?_;refine Qa hP ((Sm (n:=false) (a:=[]) (m:=n) (b:=a) nt ha (by simp) (by omega)).le (args':=[.agg [.bool false,.aa],PV.zi n a]) ⟨⟨rfl,trivial,trivial⟩,Qw _,trivial⟩) rfl rfl rfl ?_;refine Sz3 Ap tS bw ?_;refine Qh 1 (by omega) ⟨1,rfl,by omega,?_⟩;refine Sz2 tS bw ?_;simp[zv,val]
  ·rw[if_neg (by omega),if_pos rfl]at bw;have Ap:J 8= .int .i64 1:=h8;refine Sz3 Ap tS bw ?_;refine Qa hP (acZ (z:=zv n a) hb (by omega) (by omega)) rfl rfl rfl ?_;refine Sz3 Ap tS bw ?_;refine Qh 0 (by omega) ⟨2,rfl,by omega,?_⟩;refine Sz2 tS bw ?_;simp
 ·obtain rfl:i=2:=by simp at hg;omega
  rw[if_neg (by omega),if_neg (by omega)]at bw;refine Sz3 h8 tS bw ?_;refine dA ?_;refine Sz2 tS bw ?_;exact Qd rfl rfl
theorem Cz{z:Int}{d:List Nat}(hd:Qq d)(hz:nl z.natAbs<2^38)(vQ:d.length<2^38):Qc Tryz.prog 91 [PV.zz z,PV.nat d] (· =PV.rat (mkRat z (val d))):=by
 have:=QP (n:=decide (z<0)) (Qp z.natAbs) hd hz vQ
 rwa[rv,lF]at this
theorem PE{x y:Int}(hx:nl x.natAbs<2^39)(hy:nl y.natAbs<2^39):Qc Tryz.prog 94 [.sl 2 [PV.zz x,PV.zz y]] (· =PV.zz (x+y)):=by
 have:=NR (n:=decide (x<0)) (m:=decide (y<0)) (Qp x.natAbs) (Qp y.natAbs) hx hy
 rwa[lF,lF]at this
theorem ac0{x y:Int}(hx:nl x.natAbs<2^40)(hy:nl y.natAbs<2^40):Qc Tryz.prog 163 [PV.zz x,PV.zz y] (· = .int .i64 (cW x y)):=by
 have:=Zp (n:=decide (x<0)) (m:=decide (y<0)) (Qp x.natAbs) (Qp y.natAbs) hx hy
 rwa[lF,lF]at this
structure Raw(k:Nat)(n:Bool)(a d:List Nat):Prop where
 la:Qq a
 ld:Qq d
 sa:a.length<=k
 sd:d.length<=k
 k1:1<=k
theorem ir{q:Rat}{k:Nat}(h:rs q<=k):Raw k (decide (q.num<0)) (ah q.num.natAbs) (ah q.den):=by
 have:=Px q;unfold rs nl at *
 exact⟨Qp _,Qp _,by omega,by omega,by omega⟩
theorem Raw.rs{n:Bool}{a d:List Nat}{k:Nat}(h:Raw k n a d):FW.rs (rv n a d)<=k:=ahy (k:=k) (n:=k) h.la h.ld h.sa h.sd h.k1
theorem TG{n m:Bool}{a d b c:List Nat}{k:Nat}(hp:Raw k n a d)(hq:Raw k m b c)(hk:k<2^36):Qc Tryz.prog 48 [PV.rr n a d,PV.rr m b c] (· =PV.rat (rv n a d+rv m b c)):=by
 refine Qf Qj Tryz.func48 rfl aii (by simp[Ki]) fun C hP=>?_;simp only[Ki,Zo,Zg,Zm,Zc,Zf,Zl,Zh,Zs,Zi,Zb,Zk,Zn,Zu,Zq,Zr,Zz];refine Sz0 ?_;refine rm hP (uG hp.la hp.ld hp.k1 hp.sa hp.sd (by omega)) rfl rfl rfl ?_;rintro _ ⟨n',a',d',rfl,g1,g2,g3,g4,g5,g6⟩;refine Sz0 ?_;refine rm hP (uG hq.la hq.ld hq.k1 hq.sa hq.sd (by omega)) rfl rfl rfl ?_;rintro _ ⟨m',b',c',rfl,e1,e2,e3,e4,e5,e6⟩;refine Sz0 ?_;refine Qa hP (De (by omega)) rfl rfl rfl ?_;have key:=Rat.mkRat_add_mkRat (zv n' a') (zv m' b') g5 e5;have Bo:nl (zv n' a').natAbs<=k:=by rw[jF];exact Kay (cj g1) g3
 have VZ:nl (zv m' b').natAbs<=k:=by rw[jF];exact Kay (cj e1) e3
 have VO:nl (val d')<=k:=Kay (cj g2) g4;have yj:nl (val c')<=k:=Kay (cj e2) e4;rw[<-g6,<-e6];unfold rv;rw[key];refine Sz0 ?_;refine fX (fun h1=>?_) (fun h1=>?_)
 ·refine Sz0 ?_;refine Qa hP (De (by omega)) rfl rfl rfl ?_;refine Sz0 ?_;refine Qb (fun h2=>?_) (fun h2=>?_)
  ·subst h1 h2;refine Sz0 ?_;refine iE hP (NR (n:=n') (m:=m') g1 e1 (by omega) (by omega)) xH rfl ?_;refine eC ?_;have hs:=yI (zv n' a') (zv m' b');refine Qa hP (Cz g2 (by omega) (by omega)) rfl rfl rfl ?_;refine eC ?_;refine dA ?_;refine eC ?_;exact Qd (congrArg PV.rat (by simp[val])) rfl
  ·refine Sz0 ?_;refine Qa hP (wN _) rfl rfl rfl ?_;refine Sz0 ?_;refine Qa hP (uJ (n:=n') (m:=false) g1 e2 (by omega) (by omega)) rfl rfl rfl ?_;refine Sz0 ?_;refine Qa hP (wN _) rfl rfl rfl ?_;refine Sz0 ?_;refine Qa hP (uJ (n:=m') (m:=false) e1 g2 (by omega) (by omega)) rfl rfl rfl ?_;rw[sW,sW];have h3:=lA (zv n' a') (val c');have h4:=lA (zv m' b') (val d');have h5:=yI (zv n' a'*(val c':Int)) (zv m' b'*(val d':Int));have h6:=gJ (val d') (val c');rw[KaD]at h3 h4;refine Sz0 ?_;refine iE hP (PE (x:=zv n' a'*(val c':Int)) (y:=zv m' b'*(val d':Int)) (by omega) (by omega)) xH rfl ?_;refine eC ?_;refine Qa hP (zC g2 e2 (by omega) (by omega)) rfl rfl rfl ?_;refine eC ?_;refine Qa hP (Cz (z:=zv n' a'*(val c':Int)+zv m' b'*(val d':Int)) (Qp _) (by omega) (by show nl _<_;omega)) rfl rfl rfl ?_;refine eC ?_;refine dA ?_;refine eC ?_;exact Qd (by rw[Q6]) rfl
 · simp+decide (disch:=try exact D0) only[go_sem]
   refine Qa hP (wN _) rfl rfl rfl ?_;refine Sz0 ?_;refine Qa hP (uJ (n:=n') (m:=false) g1 e2 (by omega) (by omega)) rfl rfl rfl ?_;refine Sz0 ?_;refine Qa hP (wN _) rfl rfl rfl ?_;refine Sz0 ?_;refine Qa hP (uJ (n:=m') (m:=false) e1 g2 (by omega) (by omega)) rfl rfl rfl ?_;rw[sW,sW];have h3:=lA (zv n' a') (val c');have h4:=lA (zv m' b') (val d');have h5:=yI (zv n' a'*(val c':Int)) (zv m' b'*(val d':Int));have h6:=gJ (val d') (val c');rw[KaD]at h3 h4;refine Sz0 ?_;refine iE hP (PE (x:=zv n' a'*(val c':Int)) (y:=zv m' b'*(val d':Int)) (by omega) (by omega)) xH rfl ?_;refine eC ?_;refine Qa hP (zC g2 e2 (by omega) (by omega)) rfl rfl rfl ?_;refine eC ?_;refine Qa hP (Cz (z:=zv n' a'*(val c':Int)+zv m' b'*(val d':Int)) (Qp _) (by omega) (by show nl _<_;omega)) rfl rfl rfl ?_;refine eC ?_;refine dA ?_;refine eC ?_;exact Qd (by rw[Q6]) rfl
theorem abc{n m:Bool}{a d b c:List Nat}{k:Nat}(hp:Raw k n a d)(hq:Raw k m b c)(hk:k<2^36):Qc Tryz.prog 46 [PV.rr n a d,PV.rr m b c] (· =PV.rat (rv n a d*rv m b c)):=by
 refine Qf Qj Tryz.func46 rfl aij (by simp[Kh]) fun C hP=>?_;simp only[Kh,Zo,Zg,Zm,Zc,Zf,Zl,Zh,Zs,Zi,Zb,Zk,Zn,Zu,Zq,Zr,Zz];refine Sz0 ?_;refine rm hP (uG hp.la hp.ld hp.k1 hp.sa hp.sd (by omega)) rfl rfl rfl ?_;rintro _ ⟨n',a',d',rfl,g1,g2,g3,g4,g5,g6⟩;refine Sz0 ?_;refine rm hP (uG hq.la hq.ld hq.k1 hq.sa hq.sd (by omega)) rfl rfl rfl ?_;rintro _ ⟨m',b',c',rfl,e1,e2,e3,e4,e5,e6⟩;refine Sz0 ?_;have Bo:nl (zv n' a').natAbs<=k:=by rw[jF];exact Kay (cj g1) g3
 have VZ:nl (zv m' b').natAbs<=k:=by rw[jF];exact Kay (cj e1) e3
 have VO:nl (val d')<=k:=Kay (cj g2) g4;have yj:nl (val c')<=k:=Kay (cj e2) e4;have h3:=lA (zv n' a') (zv m' b');have h6:=gJ (val d') (val c');refine Qa hP (uJ (n:=n') (m:=m') g1 e1 (by omega) (by omega)) rfl rfl rfl ?_;refine Sz0 ?_;refine Qa hP (zC g2 e2 (by omega) (by omega)) rfl rfl rfl ?_;refine Sz0 ?_;refine Qa hP (Cz (z:=zv n' a'*zv m' b') (Qp _) (by omega) (by show nl _<_;omega)) rfl rfl rfl ?_;refine Sz0 ?_;refine dA ?_;refine Sz0 ?_;refine Qd ?_ rfl;rw[Q6,<-g6,<-e6];unfold rv;rw[Rat.mkRat_mul_mkRat]
theorem CA{n:Bool}{a d:List Nat}{k:Nat}(hp:Raw k n a d)(hk:k<2^36):Qc Tryz.prog 17 [PV.rr n a d] (· = .int .i64 (ga (rv n a d))):=by refine Qf Qj Tryz.func17 rfl aif (by simp[Jy]) fun C hP=>?_;simp only[Jy,Zo,Zg,Zm,Zc,Zf,Zl,Zh,Zs,Zi,Zb,Zk,Zn,Zu,Zq,Zr,Zz];refine Sz0 ?_;refine rm hP (uG hp.la hp.ld hp.k1 hp.sa hp.sd (by omega)) rfl rfl rfl ?_;rintro _ ⟨n',a',d',rfl,g1,g2,g3,g4,g5,g6⟩;refine Sz0 ?_;refine Qa hP (Ct g1 (by omega)) rfl rfl rfl ?_;refine Sz0 ?_;exact Qd (by rw[<-g6];unfold rv;rw[aaX g5]) rfl
theorem abd{n m:Bool}{a d b c:List Nat}{k:Nat}(hp:Raw k n a d)(hq:Raw k m b c)(hk:k<2^36):Qc Tryz.prog 126 [PV.rr n a d,PV.rr m b c] (· = .int .i64 (nJ (rv n a d) (rv m b c))):=by
 refine Qf Qj Tryz.func126 rfl afr (by simp[IQ]) fun C hP=>?_;simp only[IQ,Zo,Zg,Zm,Zc,Zf,Zl,Zh,Zs,Zi,Zb,Zk,Zn,Zu,Zq,Zr,Zz];refine Sz0 ?_;refine Qa hP (CA hp hk) rfl rfl rfl ?_;refine Sz0 ?_;refine Qa hP (CA hq hk) rfl rfl rfl ?_;refine Sz0 ?_;refine Qb (fun h1=>?_) (fun h1=>?_)
 ·refine Sz0 ?_;refine Qb (fun h2=>?_) (fun h2=>?_)
  ·refine Sz0 ?_;exact Qd (by rw[No h2]) rfl
  ·refine Sz0 ?_;exact Qd (by rw[acO (by omega)]) rfl
 refine Sz0 ?_;refine rm hP (uG hp.la hp.ld hp.k1 hp.sa hp.sd (by omega)) rfl rfl rfl ?_;rintro _ ⟨n',a',d',rfl,g1,g2,g3,g4,g5,g6⟩;refine Sz0 ?_;refine rm hP (uG hq.la hq.ld hq.k1 hq.sa hq.sd (by omega)) rfl rfl rfl ?_;rintro _ ⟨m',b',c',rfl,e1,e2,e3,e4,e5,e6⟩;have Bo:nl (zv n' a').natAbs<=k:=by rw[jF];exact Kay (cj g1) g3
 have VZ:nl (zv m' b').natAbs<=k:=by rw[jF];exact Kay (cj e1) e3
 have VO:nl (val d')<=k:=Kay (cj g2) g4;have yj:nl (val c')<=k:=Kay (cj e2) e4;have h3:=lA (zv n' a') (val c');have h4:=lA (zv m' b') (val d');rw[KaD]at h3 h4;refine Sz0 ?_;refine Qa hP (wN _) rfl rfl rfl ?_;refine Sz0 ?_;refine Qa hP (uJ (n:=n') (m:=false) g1 e2 (by omega) (by omega)) rfl rfl rfl ?_;refine Sz0 ?_;refine Qa hP (wN _) rfl rfl rfl ?_;refine Sz0 ?_;refine Qa hP (uJ (n:=m') (m:=false) e1 g2 (by omega) (by omega)) rfl rfl rfl ?_;rw[sW,sW];refine Sz0 ?_;refine Qa hP (ac0 (x:=zv n' a'*(val c':Int)) (y:=zv m' b'*(val d':Int)) (by omega) (by omega)) rfl rfl rfl ?_;refine Sz0 ?_;exact Qd (by rw[<-g6,<-e6];unfold rv;rw[ON g5 e5]) rfl
theorem abe{x:Int}(h1: -9223372036854775808<=x)(h2:x<=9223372036854775807):Qc Tryz.prog 63 [.int .i64 x] (· =PV.zz x):=by
 refine Qf Qj Tryz.func63 rfl ah5 (by simp[Kx]) fun C hP=>?_;simp only[Kx,Zo,Zg,Zm,Zc,Zf,Zl,Zh,Zs,Zi,Zb,Zk,Zn,Zu,Zq,Zr,Zz];refine Sz0 ?_;refine Qb (fun hc=>?_) (fun hc=>?_)
 ·obtain⟨y,hy⟩:∃y:Nat,x= -((y:Int)+1):=⟨(-(x+1)).toNat,by omega⟩
  have e1:IntKind.i64.wrap (x+1)= -(y:Int):=by rw[uN (by omega) (by omega)];omega
  have e2:IntKind.i64.wrap (0- -(y:Int))=(y:Int):=by rw[uN (by omega) (by omega)];omega
  have e3:IntKind.u64.wrap (y:Int)=(y:Int):=rz (by omega) (by omega);have e4:IntKind.u64.wrap ((y+1:Nat):Int)=((y+1:Nat):Int):=rz (by omega) (by omega);refine Sz4 e1 e2 e3 e4 ?_;refine Qa hP (zP (by omega)) rfl rfl rfl ?_;refine Sz0 ?_;refine Qa hP (wA true (y+1)) rfl rfl rfl ?_;refine Sz0 ?_;refine dA ?_;refine Sz0 ?_;exact Qd (congrArg PV.zz (by simp;omega)) rfl
 ·obtain⟨y,rfl⟩:∃y:Nat,x=y:=⟨x.toNat,by omega⟩
  refine Sz0 ?_;refine Qa hP (zP (by omega)) rfl rfl rfl ?_;refine Sz0 ?_;refine Qa hP (wA false y) rfl rfl rfl ?_;refine Sz0 ?_;refine dA ?_;refine Sz0 ?_;exact Qd (congrArg PV.zz (by simp)) rfl
theorem uL{x:Int}(h1: -9223372036854775808<=x)(h2:x<=9223372036854775807):Qc Tryz.prog 26 [.int .i64 x] (· =PV.rat (x:Rat)):=by refine Qf Qj Tryz.func26 rfl aie (by simp[JV]) fun C hP=>?_;simp only[JV,Zo,Zg,Zm,Zc,Zf,Zl,Zh,Zs,Zi,Zb,Zk,Zn,Zu,Zq,Zr,Zz];refine Sz0 ?_;refine Qa hP (abe h1 h2) rfl rfl rfl ?_;refine Sz0 ?_;refine Qa hP CJ rfl rfl rfl ?_;refine Sz0 ?_;refine dA ?_;refine Sz0 ?_;exact Qd (by rw[PV.rat,Rat.num_intCast,Rat.den_intCast,PV.num,PV.num,rC];rfl) rfl
theorem Xr{n:Bool}{a:List Nat}(ha:Qq a)(bu:a.length<2^42):Qc Tryz.prog 42 [PV.zi n a] (· = .bool (nC n a)):=by
 refine Qf Qj Tryz.func42 rfl ah4 (by simp[Kd]) fun C hP=>?_;simp only[Kd,Zo,Zg,Zm,Zc,Zf,Zl,Zh,Zs,Zi,Zb,Zk,Zn,Zu,Zq,Zr,Zz];refine Sz0 ?_;refine fX (fun h0=>?_) (fun h0=>?_)
 ·have:a=[]:=Kar.1 (by omega);subst this;refine Sz0 ?_;cases n
  ·refine Sz0 ?_;refine Qd (congrArg PV.bool ?_) rfl;simp[nC]
  ·refine Sz0 ?_;refine Qd (congrArg PV.bool ?_) rfl;simp[nC]
 ·obtain⟨k,hk⟩:∃k,a.length=k+1:=⟨a.length-1,by omega⟩
  have aP:a≠[]:=fun h=>by rw[h]at hk;simp at hk
  have hl:=Rt hk;have e:((k+1:Nat):Int)-1=k:=by omega
  generalize hx:a[k]'(by omega)=x at *
  refine Sz3 hk e hx ?_;refine fX (fun h=>?_) (fun h=>absurd (by omega) h);refine Sz3 hk e hx ?_;refine Qd (congrArg PV.bool ?_) rfl;unfold nC;rw[if_neg aP,hl];exact decide_eq_decide.2 ⟨fun h h'=>h (by injection h' with h';rw[h'];rfl),fun h h'=>h (by rw[show x=0 by omega])⟩
theorem XU{n:Bool}{a d:List Nat}{k:Nat}(hp:Raw k n a d)(hk:k<2^36):Qc Tryz.prog 15 [PV.rr n a d] (· = .bool (o8 n a d)):=by
 obtain⟨ha,hd,sa,sd,k1⟩:=hp;refine Qf Qj Tryz.func15 rfl aid (by simp[Je]) fun C hP=>?_;simp only[Je,Zo,Zg,Zm,Zc,Zf,Zl,Zh,Zs,Zi,Zb,Zk,Zn,Zu,Zq,Zr,Zz];refine Sz0 ?_;refine Qa hP (Xr ha (by omega)) rfl rfl rfl ?_;unfold o8;refine Sz0 ?_;cases hio:nC n a
 ·refine Sz1 @Bool.not_false ?_;exact Qd (by simp) rfl
 rw[KbY];refine Sz1 @Bool.not_true ?_;refine dF (fun h0=>?_) (fun h0=>?_)
 ·have:d=[]:=Kar.1 (by omega);subst this;refine Sz0 ?_;exact Qd (by simp) rfl
 obtain⟨k',dT⟩:∃k,d.length=k+1:=⟨d.length-1,by omega⟩
 have aP:d≠[]:=fun h=>by rw[h]at dT;simp at dT
 have hl:=Rt dT;have e:((k'+1:Nat):Int)-1=k':=by omega
 generalize hx:d[k']'(by omega)=x at *
 refine Sz3 dT e hx ?_;refine Qb (fun h1=>?_) (fun h1=>?_)
 ·refine Sz0 ?_;refine Qd (congrArg PV.bool ?_) rfl;rw[hl,show x=0 by omega];simp
 have bp:x≠0:=by omega
 refine Sz0 ?_;refine Qa hP (De (by omega)) rfl rfl rfl ?_;refine Sz0 ?_;refine dF (fun h2=>?_) (fun h2=>?_)
 ·subst h2;refine Sz0 ?_;refine Qd (congrArg PV.bool ?_) rfl;simp[val]
 ·refine Sz0 ?_;refine Qa hP (NQ ha hd (by omega) (by omega)) rfl rfl rfl ?_;have hD:0<val d:=by apply KaY;intro h0;have qG:=zF hd (by rw[hl];simpa using bp);rw[h0,fC]at qG;exact aP qG.symm
  have nV:(ah (Nat.gcd (val a) (val d))).length<2^43:=by have h3:=fE (Kdd (val a) hD);have h4:=cj hd;unfold nl at h3 h4;omega
  refine Sz0 ?_;refine Qa hP (Hw nV) rfl rfl rfl ?_;refine Sz0 ?_;refine Qd (congrArg PV.bool ?_) rfl;rw[hl];simp[aP,bp]
theorem RD{a:List Int}(hl:a.length<2^42):Qc Tryz.prog 90 [PV.mono a] (· =PV.mono (gL a)):=by
 refine Qf Qj Tryz.func90 rfl ahX (by simp[KV]) fun C hP=>?_;simp only[KV,Zo,Zg,Zm,Zc,Zf,Zl,Zh,Zs,Zi,Zb,Zk,Zn,Zu,Zq,Zr,Zz];refine Sz0 ?_;refine Qz (by repeat (first|exact Qs|exact Ql|exact Qm|exact Qn|exact Qo|apply Qk|apply Qr|apply Qx|apply Q4|apply Q5|apply Qi)) [(3,3),(6,17)] [] (fun n J hp=>n<=a.length/\kp a n=gL a/\J 3= .int .i64 n/\hp=aE) a.length ?_ ?_
 ·refine⟨Kac _,rfl,?_⟩;exact Tz0
 rintro n J _ ⟨hn,hc,h3,rfl⟩;refine Sz1 h3 ?_;refine fX (fun hg=>?_) (fun hg=>?_)
 ·obtain _|n:=n
  ·omega
  have e:((n+1:Nat):Int)-1=n:=by omega
  simp only[kp]at hc;simp+decide (disch:=try exact D2 h3 e) only[go_sem,h3,e];refine Qb (fun hz=>?_) (fun hz=>?_)
  ·rw[if_pos (by simp[hz,show n<a.length by omega])]at hc;refine Sz2 h3 e ?_;refine Qh n (by omega) ⟨by omega,hc,?_⟩;exact Tz0
  ·rw[if_neg (by simpa[show n<a.length by omega]using hz)]at hc;refine Sz2 h3 e ?_;refine Qb (fun h=>by omega) (fun h=>?_);refine Sz2 h3 e ?_;exact Qd (congrArg PV.mono hc) rfl
 ·obtain rfl:n=0:=by omega
  refine Sz1 h3 ?_;exact nu (Tq (by rw[<-hc];rfl)) rfl
theorem Xs{a:List Int}(hl:a.length<2^42):Qc Tryz.prog 84 [PV.mono a] (· = .bool (fo a)):=by
 refine Qf Qj Tryz.func84 rfl ahY (by simp[KQ]) fun C hP=>?_;simp only[KQ,Zo,Zg,Zm,Zc,Zf,Zl,Zh,Zs,Zi,Zb,Zk,Zn,Zu,Zq,Zr,Zz];refine Sz0 ?_;have bad:(64<a.length∨a.getLast? =some 0∨∃x∈a,x<0∨1048576<x)->fo a=false:=fun h=>by
  cases hb:fo a with
  |false=>rfl
  |true=>
   have:=MB.uk hb;simp only[fo,Kat,decide_eq_true_eq]at hb;rcases h with h|h|⟨x,hx,h⟩
   ·omega
   ·exact absurd h hb.2.1
   ·have h5:=this.lo x hx;have h6:=this.hi x hx;omega
 refine dF (fun h1=>?_) (fun h1=>?_)
 ·refine Sz0 ?_;exact Qd (by rw[bad (.inl (by omega))]) rfl
 refine Sz0 ?_;have fin:a.length<=64->a.getLast? ≠some 0->(∀x∈a,0<=x/\x<=1048576)->fo a=true:=fun h1 h2 h3=>by simp only[fo,Kat,decide_eq_true_eq,Kax];exact⟨h1,h2,h3⟩
 refine fX (fun h2=>?_) (fun h2=>?_)
 ·obtain⟨k,hk⟩:∃k,a.length=k+1:=⟨a.length-1,by omega⟩
  have jj:=C1 hk;have e:((k+1:Nat):Int)-1=k:=by omega
  generalize hy:a[k]'(by omega)=y at *
  refine Sz3 hk e hy ?_;refine Qb (fun h3=>?_) (fun h3=>?_)
  ·refine Sz0 ?_;exact Qd (by rw[bad (.inr (.inl (by rw[jj,h3])))]) rfl
  have jj:a.getLast? ≠some 0:=by rw[jj];simpa using h3
  rw[<-hk]at *
  refine Sz0 ?_;refine Qz (by repeat (first|exact Qs|exact Ql|exact Qm|exact Qn|exact Qo|apply Qk|apply Qr|apply Qx|apply Q4|apply Q5|apply Qi)) [(2,2),(4,4),(24,34)] [] (fun k J hp=>∃i,k=a.length-i/\i<=a.length/\(∀x∈a.take i,0<=x/\x<=1048576)/\J 24= .int .i64 i/\hp=aE) a.length ?_ ?_
  ·refine⟨0,rfl,by omega,by simp,?_⟩;refine Sz0 ?_;rfl
  rintro _ J _ ⟨i,rfl,hi,cu,g9,rfl⟩;refine Sz1 g9 ?_;refine Qb (fun hg=>?_) (fun hg=>?_)
  ·have aA:i<a.length:=by omega
   have eo:=Kah aA;have bn:∀x∈a.take (i+1),x∈a.take i∨x=a[i]:=fun x hx=>by
    rw[Kag aA]at hx;rcases KaU.1 hx with h|h
    ·exact .inl h
    ·exact .inr (KaP.1 h)
   generalize hx:a[i]=x at *
   refine Sz2 g9 hx ?_;refine dF (fun h5=>?_) (fun h5=>?_)
   ·refine Sz0 ?_;exact Qd (by rw[bad (.inr (.inr ⟨x,eo,.inl h5⟩))]) rfl
   ·refine Sz0 ?_;refine Qb (fun h6=>?_) (fun h6=>?_)
    ·refine Sz0 ?_;exact Qd (by rw[bad (.inr (.inr ⟨x,eo,.inr h6⟩))]) rfl
    ·refine Sz1 g9 ?_;refine Qh (a.length-(i+1)) (by omega) ⟨i+1,rfl,by omega,fun y hy=>?_,?_⟩
     ·rcases bn y hy with h|rfl
      ·exact cu y h
      ·omega
     ·exact Tz0
  ·rw[Kae (by omega)]at cu;refine Sz0 ?_;exact Qd (by rw[fin (by omega) jj cu]) rfl
 ·have EJ:a=[]:=Kar.1 (by omega);have jj:a.getLast? ≠some 0:=by rw[EJ];simp
  refine Sz0 ?_;refine Qz (by repeat (first|exact Qs|exact Ql|exact Qm|exact Qn|exact Qo|apply Qk|apply Qr|apply Qx|apply Q4|apply Q5|apply Qi)) [(2,2),(4,4),(24,34)] [] (fun k J hp=>∃i,k=a.length-i/\i<=a.length/\(∀x∈a.take i,0<=x/\x<=1048576)/\J 24= .int .i64 i/\hp=aE) a.length ?_ ?_
  ·refine⟨0,rfl,by omega,by simp,?_⟩;refine Sz0 ?_;rfl
  rintro _ J _ ⟨i,rfl,hi,cu,g9,rfl⟩;refine Sz1 g9 ?_;refine Qb (fun hg=>?_) (fun hg=>?_)
  ·have aA:i<a.length:=by omega
   have eo:=Kah aA;have bn:∀x∈a.take (i+1),x∈a.take i∨x=a[i]:=fun x hx=>by
    rw[Kag aA]at hx;rcases KaU.1 hx with h|h
    ·exact .inl h
    ·exact .inr (KaP.1 h)
   generalize hx:a[i]=x at *
   refine Sz2 g9 hx ?_;refine dF (fun h5=>?_) (fun h5=>?_)
   ·refine Sz0 ?_;exact Qd (by rw[bad (.inr (.inr ⟨x,eo,.inl h5⟩))]) rfl
   ·refine Sz0 ?_;refine Qb (fun h6=>?_) (fun h6=>?_)
    ·refine Sz0 ?_;exact Qd (by rw[bad (.inr (.inr ⟨x,eo,.inr h6⟩))]) rfl
    ·refine Sz1 g9 ?_;refine Qh (a.length-(i+1)) (by omega) ⟨i+1,rfl,by omega,fun y hy=>?_,?_⟩
     ·rcases bn y hy with h|rfl
      ·exact cu y h
      ·omega
     ·exact Tz0
  ·rw[Kae (by omega)]at cu;refine Sz0 ?_;exact Qd (by rw[fin (by omega) jj cu]) rfl
theorem QK{a:List Int}(hl:a.length<=1048576)(hb:∀x∈a,0<=x/\x<=1099511627776):Qc Tryz.prog 170 [PV.mono a] (· = .int .i64 (ff a)):=by
 refine Qf Qj Tryz.func170 rfl aes (by simp[Jz]) fun C hP=>?_;simp only[Jz,Zo,Zg,Zm,Zc,Zf,Zl,Zh,Zs,Zi,Zb,Zk,Zn,Zu,Zq,Zr,Zz];refine Sz0 ?_;refine Qz (by repeat (first|exact Qs|exact Ql|exact Qm|exact Qn|exact Qo|apply Qk|apply Qr|apply Qx|apply Q4|apply Q5|apply Qi)) [(3,3),(5,5),(8,15)] [] (fun k J hp=>∃(i:Nat)(s:Int),k=a.length-i/\i<=a.length/\0<=s/\s<=1099511627776*i/\s+(a.drop i).sum=ff a/\J 8= .int .i64 (i:Nat)/\J 3= .int .i64 s/\hp=aE) a.length ?_ ?_
 ·refine⟨0,0,rfl,by omega,by omega,by omega,by simp[ff],?_⟩;refine Sz0 ?_;simp
 rintro _ J _ ⟨i,s,rfl,hi,Bc,gj,pP,h8,h3,rfl⟩;refine Sz2 h8 h3 ?_;refine Qb (fun hg=>?_) (fun hg=>?_)
 ·have aA:i<a.length:=by omega
  have hx:=hb _ (Kah aA);rw[Kaz aA,Kdh]at pP;generalize dO:a[i]=x at *
  refine Sz3 h8 h3 dO ?_;refine Qh (a.length-(i+1)) (by omega) ⟨i+1,s+x,rfl,by omega,by omega,by push_cast;omega,by omega,?_⟩;exact Tz0
 ·rw[Kal (by omega),List.sum_nil,Int.add_zero]at pP;refine Sz1 h3 ?_;exact Qd (by rw[pP]) rfl
theorem Sn{a:List Int}{v:Int}(hl:a.length<2^42):Qc Tryz.prog 124 [PV.mono a,.int .i64 v] (· = .int .i64 (if v<0 then 0 else eN a v.toNat)):=by
 refine Qf Qj Tryz.func124 rfl aet (by simp[IN]) fun C hP=>?_;simp only[IN,Zo,Zg,Zm,Zc,Zf,Zl,Zh,Zs,Zi,Zb,Zk,Zn,Zu,Zq,Zr,Zz];refine Sz0 ?_;refine dF (fun h1=>?_) (fun h1=>?_)
 ·refine Sz0 ?_;exact Qd (by rw[if_pos h1]) rfl
 ·obtain⟨n,rfl⟩:∃n:Nat,v=n:=⟨v.toNat,by omega⟩
  rw[if_neg h1];refine Sz0 ?_;refine Qb (fun h2=>?_) (fun h2=>?_)
  ·refine Sz0 ?_;exact Qd (by rw[fq (by omega)]) rfl
  ·have hn:n<a.length:=by omega
   refine Sz0 ?_;exact Qd (by rw[e9 hn]) rfl
theorem CK{a:List Int}{i:Nat}(hl:a.length<2^42):Qc Tryz.prog 124 [PV.mono a,.int .i64 i] (· = .int .i64 (eN a i)):=by
 have:=Sn (v:=i) hl
 rwa[if_neg (by omega),KbM]at this
theorem Qx7{a b:List Int}{f:Nat}{g:Int->Int->Int}(bu:a.length<2^40)(cQ:b.length<2^40)(hf:∀i,Qc Tryz.prog f [.int .i64 (eN a i),.int .i64 (eN b i)] (· = .int .i64 (g (eN a i) (eN b i)))):
  Qc Tryz.prog 178 [PV.mono a,PV.mono b,.fn f [] []] (· =PV.mono (kq g a b)):=by
 refine Qf Qj Tryz.func178 rfl aer (by simp[JH]) fun C hP=>?_;simp only[JH,Zo,Zg,Zm,Zc,Zf,Zl,Zh,Zs,Zi,Zb,Zk,Zn,Zu,Zq,Zr,Zz];refine Sz0 ?_;refine Qz (by repeat (first|exact Qs|exact Ql|exact Qm|exact Qn|exact Qo|apply Qk|apply Qr|apply Qx|apply Q4|apply Q5|apply Qi)) [(8,10),(19,45)] [] (fun k J hp=>∃i,k=max a.length b.length-i/\i<=max a.length b.length/\J 19= .int .i64 (i:Nat)/\hp=Qy aE 16 ⟨1,3,iI ((kq g a b).take i++List.replicate (max a.length b.length-i) 0),false⟩) (max a.length b.length) ?_ ?_
 ·refine⟨0,rfl,by omega,?_⟩;refine Sz0 ?_;simp
 rintro _ J _ ⟨i,rfl,hi,je,rfl⟩;refine Sz1 je ?_;refine Qb (fun hg=>?_) (fun hg=>?_)
 ·have aA:i<max a.length b.length:=by omega
  have vM:=hf i;have qU:((kq g a b).take i).length=i:=by rw[KaF,oU];omega
  have jT:=fun v=>aaZ (v:=v) (z:=(0:Int)) qU (show 0<max a.length b.length-i by omega);have hlen:i<((kq g a b).take i++List.replicate (max a.length b.length-i) (0:Int)).length:=by rw[Kap,qU,List.length_replicate];omega
  have bn:=GY (g:=g) aA;have fin:∀x y,x=eN a i->y=eN b i->Qc Tryz.prog f [.int .i64 x,.int .i64 y] (· = .int .i64 (g (eN a i) (eN b i))):=by rintro _ _ rfl rfl;exact vM
  refine Sz1 je ?_;refine Qb (fun h1=>?_) (fun h1=>?_)
  ·have lL:i<a.length:=by omega
   simp+decide (disch:=try exact D1 je) only[go_sem,je];refine Qb (fun h2=>?_) (fun h2=>?_)
   ·have mR:i<b.length:=by omega
    simp+decide (disch:=try exact D1 je) only[go_sem,je];refine Qa hP (fin _ _ (e9 lL).symm (e9 mR).symm) rfl rfl rfl ?_;simp+decide (disch:=first|omega|rfl|(simp+decide only[go_sem,je,jT,<-bn]<;>rfl)|fail) only[go_sem,je,jT,<-bn];refine Qh (max a.length b.length-(i+1)) (by omega) ⟨i+1,rfl,by omega,?_⟩;exact Tz1 @Nat.sub_sub
   ·refine Sz1 je ?_;refine Qa hP (fin _ _ (e9 lL).symm (fq (by omega)).symm) rfl rfl rfl ?_;simp+decide (disch:=first|omega|rfl|(simp+decide only[go_sem,je,jT,<-bn]<;>rfl)|fail) only[go_sem,je,jT,<-bn];refine Qh (max a.length b.length-(i+1)) (by omega) ⟨i+1,rfl,by omega,?_⟩;exact Tz1 @Nat.sub_sub
  ·refine Sz1 je ?_;refine Qb (fun h2=>?_) (fun h2=>by omega);have mR:i<b.length:=by omega
   simp+decide (disch:=try exact D1 je) only[go_sem,je];refine Qa hP (fin _ _ (fq (by omega)).symm (e9 mR).symm) rfl rfl rfl ?_;simp+decide (disch:=first|omega|rfl|(simp+decide only[go_sem,je,jT,<-bn]<;>rfl)|fail) only[go_sem,je,jT,<-bn];refine Qh (max a.length b.length-(i+1)) (by omega) ⟨i+1,rfl,by omega,?_⟩;exact Tz1 @Nat.sub_sub
 ·obtain rfl:i=max a.length b.length:=by omega
  refine eC ?_;exact Qd (by simp[Kae,oU]) rfl
theorem XV{x y:Int}(h1: -9223372036854775808<=x+y)(h2:x+y<=9223372036854775807):Qc Tryz.prog 179 [.int .i64 x,.int .i64 y] (· = .int .i64 (x+y)):=by refine Qf Qj Tryz.func179 rfl aev (by simp[JI]) fun C hP=>?_;simp only[JI,Zo,Zg,Zm,Zc,Zf,Zl,Zh,Zs,Zi,Zb,Zk,Zn,Zu,Zq,Zr,Zz];refine Sz0 ?_;exact Qd rfl rfl
theorem Zt{k:Nat}{a b:List Int}(ha:MB k a)(hb:MB k b)(hk:k<=1099511627776):Qc Tryz.prog 158 [PV.mono a,PV.mono b] (· =PV.mono (b7 a b)):=by have h1:=ha.len;have h2:=hb.len;have hz:=oU (· + ·) a b;refine Qf Qj Tryz.func158 rfl aeu (by simp[Jm]) fun C hP=>?_;simp only[Jm,Zo,Zg,Zm,Zc,Zf,Zl,Zh,Zs,Zi,Zb,Zk,Zn,Zu,Zq,Zr,Zz];refine Sz0 ?_;refine Qa hP (Qx7 (f:=179) (g:=(· + ·)) (by omega) (by omega) (fun i=>XV (by have:=ha.eN i;have:=hb.eN i;omega) (by have:=ha.eN i;have:=hb.eN i;omega))) rfl rfl rfl ?_;refine Sz0 ?_;refine Qa hP (RD (by omega)) rfl rfl rfl ?_;refine Sz0 ?_;exact Qd rfl rfl
theorem XW{a:List Int}(hl:a.length<2^42):Qc Tryz.prog 45 [PV.mono a] (· = .int .i64 ((gL a).length-1)):=by have:=sI a;refine Qf Qj Tryz.func45 rfl ahZ (by simp[Kg]) fun C hP=>?_;simp only[Kg,Zo,Zg,Zm,Zc,Zf,Zl,Zh,Zs,Zi,Zb,Zk,Zn,Zu,Zq,Zr,Zz];refine Sz0 ?_;refine Qa hP (RD hl) rfl rfl rfl ?_;refine Sz0 ?_;exact Qd rfl rfl
theorem So{k:Nat}{a b:List Int}{o:Int}(ha:MB k a)(hb:MB k b)(hk:k<=1099511627776):Qc Tryz.prog 142 [PV.mono a,PV.mono b,.int .i64 o] (· = .int .i64 (jM o a b)):=by
 have h1:=ha.len;have h2:=hb.len;have gA:∀x∈a,0<=x/\x<=1099511627776:=fun x hx=>by have:=ha.lo x hx;have:=ha.hi x hx;omega
 have iP:∀x∈b,0<=x/\x<=1099511627776:=fun x hx=>by have:=hb.lo x hx;have:=hb.hi x hx;omega
 refine Qf Qj Tryz.func142 rfl aew (by simp[I9]) fun C hP=>?_;simp only[I9,Zo,Zg,Zm,Zc,Zf,Zl,Zh,Zs,Zi,Zb,Zk,Zn,Zu,Zq,Zr,Zz];refine Sz0 ?_;refine Qb (fun ho=>?_) (fun ho=>?_)
 ·refine Sz0 ?_;refine Qa hP (QK (by omega) gA) rfl rfl rfl ?_;refine Sz0 ?_;refine Qa hP (QK (by omega) iP) rfl rfl rfl ?_;refine Sz0 ?_;refine Qb (fun hd=>?_) (fun hd=>?_)
  ·have jS:jM o a b=cW (ff a) (ff b):=by unfold jM;rw[if_pos ⟨ho,hd⟩]
   refine Sz0 ?_;refine Qb (fun h5=>?_) (fun h5=>?_)
   ·refine Sz0 ?_;exact Qd (by rw[jS,cW,if_pos h5]) rfl
   ·refine Sz0 ?_;exact Qd (by rw[jS,cW,if_neg h5,if_pos (by omega)]) rfl
  have jS:jM o a b=aR a b:=by unfold jM;rw[if_neg (fun h=>hd h.2)]
  refine Sz0 ?_;refine Qz (by repeat (first|exact Qs|exact Ql|exact Qm|exact Qn|exact Qo|apply Qk|apply Qr|apply Qx|apply Q4|apply Q5|apply Qi)) [(6,6),(9,11),(30,45)] [] (fun n J hp=>n<=max a.length b.length/\dp a b n=aR a b/\J 9= .int .i64 ((n:Int)-1)/\hp=aE) (max a.length b.length) ?_ ?_
  ·refine⟨by omega,rfl,?_⟩;exact Tz0
  rintro n J _ ⟨hn,hc,h9,rfl⟩;refine Sz1 h9 ?_;refine Qb (fun hg=>?_) (fun hg=>?_)
  ·obtain _|n:=n
   ·omega
   have e:((n+1:Nat):Int)-1=n:=by omega
   rw[dp]at hc;refine Sz2 h9 e ?_;refine Qa hP (CK (by omega)) rfl rfl rfl ?_;refine Sz2 h9 e ?_;refine Qa hP (CK (by omega)) rfl rfl rfl ?_;refine Sz2 h9 e ?_;refine Qb (fun h4=>?_) (fun h4=>?_)
   ·rw[if_neg h4]at hc;refine Sz2 h9 e ?_;refine Qb (fun h5=>?_) (fun h5=>?_)
    ·refine Sz2 h9 e ?_;exact Qd (by rw[jS,<-hc,cW,if_pos h5]) rfl
    ·refine Sz2 h9 e ?_;exact Qd (by rw[jS,<-hc,cW,if_neg h5,if_pos (by omega)]) rfl
   ·rw[if_pos (by omega)]at hc;refine Sz2 h9 e ?_;refine Qh n (by omega) ⟨by omega,hc,?_⟩;exact Tz0
  ·obtain rfl:n=0:=by omega
   refine Sz0 ?_;exact Qd (by rw[jS,<-hc];rfl) rfl
 ·have jS:jM o a b=aR a b:=by unfold jM;rw[if_neg (fun h=>ho h.1)]
  refine Sz0 ?_;refine Qz (by repeat (first|exact Qs|exact Ql|exact Qm|exact Qn|exact Qo|apply Qk|apply Qr|apply Qx|apply Q4|apply Q5|apply Qi)) [(6,6),(9,11),(30,45)] [] (fun n J hp=>n<=max a.length b.length/\dp a b n=aR a b/\J 9= .int .i64 ((n:Int)-1)/\hp=aE) (max a.length b.length) ?_ ?_
  ·refine⟨by omega,rfl,?_⟩;exact Tz0
  rintro n J _ ⟨hn,hc,h9,rfl⟩;refine Sz1 h9 ?_;refine Qb (fun hg=>?_) (fun hg=>?_)
  ·obtain _|n:=n
   ·omega
   have e:((n+1:Nat):Int)-1=n:=by omega
   rw[dp]at hc;refine Sz2 h9 e ?_;refine Qa hP (CK (by omega)) rfl rfl rfl ?_;refine Sz2 h9 e ?_;refine Qa hP (CK (by omega)) rfl rfl rfl ?_;refine Sz2 h9 e ?_;refine Qb (fun h4=>?_) (fun h4=>?_)
   ·rw[if_neg h4]at hc;refine Sz2 h9 e ?_;refine Qb (fun h5=>?_) (fun h5=>?_)
    ·refine Sz2 h9 e ?_;exact Qd (by rw[jS,<-hc,cW,if_pos h5]) rfl
    ·refine Sz2 h9 e ?_;exact Qd (by rw[jS,<-hc,cW,if_neg h5,if_pos (by omega)]) rfl
   ·rw[if_pos (by omega)]at hc;refine Sz2 h9 e ?_;refine Qh n (by omega) ⟨by omega,hc,?_⟩;exact Tz0
  ·obtain rfl:n=0:=by omega
   refine Sz0 ?_;exact Qd (by rw[jS,<-hc];rfl) rfl
theorem ajy{a b:Rat}{k:Nat}(ha:rs a<=k)(hb:rs b<=k)(hk:k<2^36):Qc Tryz.prog 48 [PV.rat a,PV.rat b] (· =PV.rat (a+b)):=by
 have:=TG (ir ha) (ir hb) hk
 rwa[gK,gK]at this
theorem ajz{a b:Rat}{k:Nat}(ha:rs a<=k)(hb:rs b<=k)(hk:k<2^36):Qc Tryz.prog 46 [PV.rat a,PV.rat b] (· =PV.rat (a*b)):=by
 have:=abc (ir ha) (ir hb) hk
 rwa[gK,gK]at this
theorem ajA{a b:Rat}{k:Nat}(ha:rs a<=k)(hb:rs b<=k)(hk:k<2^36):Qc Tryz.prog 126 [PV.rat a,PV.rat b] (· = .int .i64 (nJ a b)):=by
 have:=abd (ir ha) (ir hb) hk
 rwa[gK,gK]at this
theorem zU{a:Rat}(ha:rs a<2^36):Qc Tryz.prog 17 [PV.rat a] (· = .int .i64 (ga a)):=by
 have:=CA (ir (Kac (rs a))) ha
 rwa[gK]at this
theorem Sp{s t:Tm}{E:Nat}(hs:MB E s.2)(ht:MB E t.2)(hE:E<=2^38):Qc Tryz.prog 85 [PV.term s,PV.term t] (· = .int .i64 (aR s.2 t.2)):=by refine Qf Qj Tryz.func85 rfl PD (by simp[Al]) fun C hP=>?_;simp only[Al,Zo,Zg,Zm,Zc,Zf,Zl,Zh,Zs,Zi,Zb,Zk,Zn,Zu,Zq,Zr,Zz];refine Sz0 ?_;refine Qa hP (So (o:=0) hs ht (by omega)) rfl rfl rfl ?_;refine Sz0 ?_;exact Qd (by rw[DE]) rfl
theorem Xt{s t:Tm}{k:Nat}(hs:rs s.1<=k)(ht:rs t.1<=k)(hk:k<2^34):Qc Tryz.prog 156 [PV.term s,PV.term t] (· = .au [PV.term (s.1+t.1,s.2),.bool (decide (¬s.1+t.1=0))]):=by have hr:=DD s.1 t.1;refine Qf Qj Tryz.func156 rfl aey (by simp[Jk]) fun C hP=>?_;simp only[Jk,Zo,Zg,Zm,Zc,Zf,Zl,Zh,Zs,Zi,Zb,Zk,Zn,Zu,Zq,Zr,Zz];refine Sz0 ?_;refine Qa hP (ajy (a:=s.1) (b:=t.1) hs ht (by omega)) rfl rfl rfl ?_;refine Sz0 ?_;refine Qa hP (zU (a:=s.1+t.1) (by omega)) rfl rfl rfl ?_;refine Sz0 ?_;refine jr ?_;refine Sz0 ?_;exact fb rfl rfl rfl (Qw _) (sV (congrArg PV.bool (decide_eq_decide.2 (not_congr gY))))
theorem W4{c:Rat}{m:List Int}(hc:rs c<2^36):Qc Tryz.prog 119 [PV.rat c,PV.mono m] (· =PV.aj (if c=0 then []else [(c,m)])):=by
 refine Qf Qj Tryz.func119 rfl aez (by simp[IJ]) fun C hP=>?_;simp only[IJ,Zo,Zg,Zm,Zc,Zf,Zl,Zh,Zs,Zi,Zb,Zk,Zn,Zu,Zq,Zr,Zz];refine Sz0 ?_;refine Qa hP (zU (a:=c) hc) rfl rfl rfl ?_;refine Sz0 ?_;refine Qb (fun h0=>?_) (fun h0=>?_)
 ·rw[if_pos (gY.1 h0)];refine Sz0 ?_;exact nu oZ rfl
 ·rw[if_neg (fun h=>h0 (gY.2 h))];refine eC ?_;exact Qd rfl rfl
theorem Xu{p q:List Tm}{K E:Nat}(hp:PB K E p)(hq:PB K E q)(hK:K<=2^33)(hE:E<=2^38)(bV:p.length<=2^36)(ie:q.length<=2^36):
  Qc Tryz.prog 155 [PV.aj p,PV.aj q,.fn 85 [] [],.fn 156 [] []] (· =PV.aj (Q7 p q)):=by
 refine Qf Qj Tryz.func155 rfl aex (by simp[Jj]) fun C hP=>?_;simp only[Jj,Zo,Zg,Zm,Zc,Zf,Zl,Zh,Zs,Zi,Zb,Zk,Zn,Zu,Zq,Zr,Zz];refine Sz0 ?_;refine Qz (by repeat (first|exact Qs|exact Ql|exact Qm|exact Qn|exact Qo|apply Qk|apply Qr|apply Qx|apply Q4|apply Q5|apply Qi)) [(9,14),(21,86)] [13,20,57,58,71,72,83,84] (fun n J hp=>∃i k out,n=(p.length-i)+(q.length-k)/\i<=p.length/\k<=q.length/\out.length<=i+k/\out++Q7 (p.drop i) (q.drop k)=Q7 p q/\
  J 9= .ms 20 out.length/\J 10= .int .i64 (i:Nat)/\J 11= .int .i64 (k:Nat)/\hp 20=some ⟨4,54,out.map PV.term,false⟩) (p.length+q.length) ?_ ?_
 ·refine⟨0,0,[],by omega,by omega,by omega,by simp,rfl,?_⟩;refine Sz0 ?_;simp
 rintro _ J h ⟨i,k,out,rfl,hi,hk,fy,dX,h9,bF,cn,hh⟩;refine Sz3 h9 bF cn ?_;refine fX (fun hg=>?_) (fun hg=>?_)
 ·have aA:i<p.length:=by omega
  refine Sz3 h9 bF cn ?_;refine Qb (fun fI=>?_) (fun fI=>?_)
  ·have dT:k<q.length:=by omega
   have ba:=hp.get aA;have ob:=hq.get dT;rw[Tr aA dT]at dX;have c1:=ba.c;have c2:=ob.c;generalize hx:p[i]=x at *
   generalize hy:q[k]=y at *
   refine Sz5 h9 bF cn hx hy ?_;refine Qa hP (Sp (s:=x) (t:=y) ba.m ob.m hE) rfl rfl rfl ?_;refine Sz5 h9 bF cn hx hy ?_;refine Qb (fun hc=>?_) (fun hc=>?_)
   ·rw[if_pos hc]at dX;refine Sz5 h9 bF cn hx hy ?_;rw[Q9 (f:=PV.term) (y:=x) (xs:=out) (ty':=54) (fz:=false) (Tz1 hh) cE (by omega) rfl (by omega) (by omega)];refine Sz5 h9 bF cn hx hy ?_;refine Qh ((p.length-(i+1))+(q.length-k)) (by omega) ⟨i+1,k,out++[x],rfl,by omega,hk,by simp;omega,by simpa using dX,?_⟩;refine Sz3 h9 bF cn ?_;simp
   rw[if_neg hc]at dX;refine Sz5 h9 bF cn hx hy ?_;refine Qb (fun iM=>?_) (fun iM=>?_)
   ·rw[if_pos iM]at dX;refine Sz5 h9 bF cn hx hy ?_;rw[Q9 (f:=PV.term) (y:=y) (xs:=out) (ty':=54) (fz:=false) (Tz1 hh) cE (by omega) rfl (by omega) (by omega)];refine Sz5 h9 bF cn hx hy ?_;refine Qh ((p.length-i)+(q.length-(k+1))) (by omega) ⟨i,k+1,out++[y],rfl,hi,by omega,by simp;omega,by simpa using dX,?_⟩;refine Sz3 h9 bF cn ?_;simp
   rw[if_neg iM]at dX;refine Sz5 h9 bF cn hx hy ?_;refine ns ?_ ?_
   all_goals
    refine Sz5 h9 bF cn hx hy ?_;refine Qa hP (Xt (s:=x) (t:=y) (k:=2^33) (by omega) (by omega) (by omega)) rfl rfl rfl ?_;refine Sz5 h9 bF cn hx hy ?_;refine Qb (fun hz=>?_) (fun hz=>?_)
    ·rw[if_neg hz]at dX;refine Sz5 h9 bF cn hx hy ?_;rw[Q9 (f:=PV.term) (y:=(x.1+y.1,x.2)) (xs:=out) (ty':=54) (fz:=false) (Tz1 hh) cE (by omega) rfl (by omega) (by omega)];refine Sz5 h9 bF cn hx hy ?_;refine Qh ((p.length-(i+1))+(q.length-(k+1))) (by omega) ⟨i+1,k+1,out++[(x.1+y.1,x.2)],rfl,by omega,by omega,by simp;omega,by simpa using dX,?_⟩;refine Sz3 h9 bF cn ?_;simp
    ·rw[if_pos (Decidable.not_not.1 hz)]at dX;refine Sz5 h9 bF cn hx hy ?_;refine Qh ((p.length-(i+1))+(q.length-(k+1))) (by omega) ⟨i+1,k+1,out,rfl,by omega,by omega,by omega,dX,?_⟩;exact Tz4 h9 bF cn hh
  ·have kU:(out++p.drop i++q.drop k).take (out.length+(p.drop i).length+(q.drop k).length)=Q7 p q:=by rw[Kae (by simp;omega),<-dX,Kal (by omega:q.length<=k),kK,Kak]
   refine Sz3 h9 bF cn ?_;rw[mz (f:=PV.term) (xs:=out) (ys:=p.drop i) (Tz1 hh) rfl (by omega) (by simp;omega) (by simp;omega)];refine Sz3 h9 bF cn ?_;rw[mz (f:=PV.term) (xs:=out++p.drop i) (ys:=q.drop k) Tz0 (by simp) (by omega) (by simp;omega) (by simp;omega)];refine Ac h9 bF cn ?_;exact Qd (by rw[<-List.map_take,kU]) rfl
 ·have kU:(out++p.drop i++q.drop k).take (out.length+(p.drop i).length+(q.drop k).length)=Q7 p q:=by rw[Kae (by simp;omega),<-dX,Kal (by omega:p.length<=i),qi,Kak]
  refine Sz3 h9 bF cn ?_;rw[mz (f:=PV.term) (xs:=out) (ys:=p.drop i) (Tz1 hh) rfl (by omega) (by simp;omega) (by simp;omega)];refine Sz3 h9 bF cn ?_;rw[mz (f:=PV.term) (xs:=out++p.drop i) (ys:=q.drop k) Tz0 (by simp) (by omega) (by simp;omega) (by simp;omega)];refine Ac h9 bF cn ?_;exact Qd (by rw[<-List.map_take,kU]) rfl
theorem Gz{p q:List Tm}{K E:Nat}(hp:PB K E p)(hq:PB K E q)(hK:K<=2^33)(hE:E<=2^38)(bV:p.length<=2^36)(ie:q.length<=2^36):
  Qc Tryz.prog 108 [PV.aj p,PV.aj q] (· =PV.aj (Q7 p q)):=by
 refine Qf Qj Tryz.func108 rfl afc (by simp[Iy]) fun C hP=>?_;simp only[Iy,Zo,Zg,Zm,Zc,Zf,Zl,Zh,Zs,Zi,Zb,Zk,Zn,Zu,Zq,Zr,Zz];refine Sz0 ?_;refine Qa hP (Xu hp hq hK hE bV ie) rfl rfl rfl ?_;refine Sz0 ?_;exact Qd rfl rfl
theorem Sq{K E:Nat}(hE:E<=2^38):∀(n:Nat)(l:List (List Tm)),l.length<=n->(∀p∈l,PB K E p)->l.length*K<=2^33->l.length<=2^36->rL l<=2^36->Qc Tryz.prog 111 [PV.bZ l] (· =PV.aj (cN l)):=by
 intro n;induction n with
 |zero=>intro l hl _ _ _ _;have:l=[]:=Kar.1 (by omega);subst this;refine Qf Qj Tryz.func111 rfl OY (by simp[yF]) fun C hP=>?_;simp only[yF,Zo,Zg,Zm,Zc,Zf,Zl,Zh,Zs,Zi,Zb,Zk,Zn,Zu,Zq,Zr,Zz];simp+decide (disch:=first|omega|rfl|(simp+decide only[go_sem,Kbu,Kbh]<;>rfl)|fail) only[go_sem,Kbu,Kbh];exact nu (GK (by rw[cN])) rfl
 | succ n ih=>
  intro l hl hb hK pI gE;refine Qf Qj Tryz.func111 rfl OY (by simp[yF]) fun C hP=>?_;simp only[yF,Zo,Zg,Zm,Zc,Zf,Zl,Zh,Zs,Zi,Zb,Zk,Zn,Zu,Zq,Zr,Zz];refine Sz0 ?_;refine Qb (fun h0=>?_) (fun h0=>?_)
  ·have:l=[]:=Kar.1 (by omega);subst this;refine Sz0 ?_;exact nu (GK (by rw[cN])) rfl
  refine Sz0 ?_;refine Qb (fun h1=>?_) (fun h1=>?_)
  ·obtain⟨p,rfl⟩:∃p,l=[p]:=List.length_eq_one_iff.1 (by omega);simp+decide (disch:=first|omega|rfl|(simp+decide only[go_sem,Kbj,Kbu]<;>rfl)|fail) only[go_sem,Kbj,Kbu];exact Qd (by rw[cN];rfl) rfl
  have h2:2<=l.length:=by omega
  have hs:=RS l (l.length/2);have e:(2:Int)=((2:Nat):Int):=rfl;have hq:∀d fr hp K,ck .quo false (.int .i64 (l.length:Int)) (.int .i64 2) d fr hp K=K (af fr d (.int .i64 ((l.length/2:Nat):Int))) hp:=fun d fr hp K=>by rw[e,HQ (by omega) (by omega)]
  have b1:=Gl (K:=K) (E:=E) _ (l.take (l.length/2)) (Kac _) (fun p hp=>hb p (Kbb hp));have b2:=Gl (K:=K) (E:=E) _ (l.drop (l.length/2)) (Kac _) (fun p hp=>hb p (Kbv hp));have l1:(l.take (l.length/2)).length*K<=l.length*K:=Kaf _ (by rw[KaF];omega);have l2:(l.drop (l.length/2)).length*K<=l.length*K:=Kaf _ (by rw[Ka5];omega);refine Sz1 hq ?_;refine Qa hP (ih (l.take (l.length/2)) (by rw[KaF];omega) (fun p hp=>hb p (Kbb hp)) (by omega) (by rw[KaF];omega) (by omega)) rfl rfl rfl ?_;refine Sz1 hq ?_;refine Qa hP (ih (l.drop (l.length/2)) (by rw[Ka5];omega) (fun p hp=>hb p (Kbv hp)) (by omega) (by rw[Ka5];omega) (by omega)) rfl rfl rfl ?_;refine Sz1 hq ?_;refine Qa hP (Gz (b1.1.mono (K':=l.length*K) l1 (Kac _)) (b2.1.mono l2 (Kac _)) hK hE (by omega) (by omega)) rfl rfl rfl ?_;refine Sz0 ?_;exact Qd (by rw[y9 h2]) rfl
theorem Gc{p:List Tm}{t:Tm}{i:Nat}(h:i<p.length):bb (p.take (i+1)) t=bb (p.take i) t++(if p[i].1*t.1=0 then []else [(p[i].1*t.1,b7 p[i].2 t.2)]):=by rw[Kag h,bb,KcM,bb];congr 1;simp only[Kbk,List.filterMap_nil];split<;>split<;>simp_all
theorem F2{p:List Tm}{t:Tm}{K E:Nat}(hp:PB K E p)(ht:TB K E t)(hK:K<=2^33)(hE:E<=2^38)(bV:p.length<=2^36):
  Qc Tryz.prog 110 [PV.aj p,PV.term t] (· =PV.aj (bb p t)):=by
 refine Qf Qj Tryz.func110 rfl afe (by simp[IB]) fun C hP=>?_;simp only[IB,Zo,Zg,Zm,Zc,Zf,Zl,Zh,Zs,Zi,Zb,Zk,Zn,Zu,Zq,Zr,Zz];refine Sz0 ?_;refine Qz (by repeat (first|exact Qs|exact Ql|exact Qm|exact Qn|exact Qo|apply Qk|apply Qr|apply Qx|apply Q4|apply Q5|apply Qi)) [(5,5),(7,8),(14,36)] [7,8,11,34,35] (fun n J hp=>∃i,n=p.length-i/\i<=p.length/\J 5= .ms 11 (bb (p.take i) t).length/\J 14= .int .i64 (i:Nat)/\hp 3=some ⟨4,54,[PV.term t],false⟩/\hp 11=some ⟨4,54,(bb (p.take i) t).map PV.term,false⟩) p.length ?_ ?_
 ·refine⟨0,rfl,by omega,?_⟩;refine Sz0 ?_;simp[bb]
 rintro _ J h ⟨i,rfl,hi,h5,cG,bw,EB⟩;refine Sz2 h5 cG ?_;refine Qb (fun hg=>?_) (fun hg=>?_)
 ·have aA:i<p.length:=by omega
  have ba:=hp.get aA;have bn:=Gc (t:=t) aA;have hlen:=uz (p.take i) t;rw[KaF]at hlen;have c1:=ba.c;have c2:=ht.c;have hrm:=Py p[i].1 t.1;generalize hx:p[i]=x at *
  refine Sz4 h5 cG bw hx ?_;refine Qa hP (ajz (a:=x.1) (b:=t.1) (k:=2^33) (by omega) (by omega) (by omega)) rfl rfl rfl ?_;refine Sz4 h5 cG bw hx ?_;refine Qa hP (zU (a:=x.1*t.1) (by omega)) rfl rfl rfl ?_;refine Sz4 h5 cG bw hx ?_;refine Qb (fun hz=>?_) (fun hz=>?_)
  ·rw[if_neg (fun h=>hz (gY.2 h))]at bn;refine Sz4 h5 cG bw hx ?_;refine Qa hP (Zt ba.m ht.m (by omega)) rfl rfl rfl ?_;refine Sz4 h5 cG bw hx ?_;rw[Q9 (f:=PV.term) (y:=(x.1*t.1,b7 x.2 t.2)) (xs:=bb (p.take i) t) (ty':=54) (fz:=false) (Tz1 EB) cE (by omega) rfl (by omega) (by omega)];rw[<-bn];refine Sz4 h5 cG bw hx ?_;refine Qh (p.length-(i+1)) (by omega) ⟨i+1,rfl,by omega,?_⟩;rw[bn];simp+decide (disch:=first|omega|rfl|(simp+decide only[go_sem,h5,cG,bw,Kap]<;>rfl)|fail) only[go_sem,h5,cG,bw,Kap]
  ·rw[if_pos (gY.1 (Decidable.not_not.1 hz)),Kak]at bn;refine Sz4 h5 cG bw hx ?_;refine Qh (p.length-(i+1)) (by omega) ⟨i+1,rfl,by omega,?_⟩;rw[bn];exact Tz4 h5 cG bw EB
 ·obtain rfl:i=p.length:=by omega
  rw[Kas]at h5 EB;refine kQ h5 EB ?_;exact Qd (by simp[Kae]) rfl
theorem rh{p q:List Tm}{K E:Nat}(hp:PB K E p)(hq:PB K E q)(hE:E<=2^37)(bV:p.length<=2^30)(ie:q.length<=2^30)(AT:p.length*q.length<=2^36)(hK:min p.length q.length*(K+K)<=2^33)(lO:K<=2^33):
  Qc Tryz.prog 60 [PV.aj p,PV.aj q] (· =PV.aj (Q8 p q)):=by
 have main:∀(p q:List Tm),PB K E p->PB K E q->p.length<=2^30->q.length<=2^30->p.length*q.length<=2^36->p.length*(K+K)<=2^33->p.length<=q.length->True:=fun _ _ _ _ _ _ _ _ _=>trivial;refine Qf Qj Tryz.func60 rfl ah3 (by simp[Ku]) fun C hP=>?_;simp only[Ku,Zo,Zg,Zm,Zc,Zf,Zl,Zh,Zs,Zi,Zb,Zk,Zn,Zu,Zq,Zr,Zz];refine Sz0 ?_;refine Qb (fun hg=>?_) (fun hg=>?_)
 ·have kU:ow q p=Q8 p q:=by rw[Q8,if_pos (by omega)]
  have Ul:q.length*(K+K)<=2^33:=by rw[Kdc (by omega)]at hK;exact hK
  have apX:q.length*p.length<=2^36:=by rw[KaS];exact AT
  refine Sz0 ?_;refine Qz (by repeat (first|exact Qs|exact Ql|exact Qm|exact Qn|exact Qo|apply Qk|apply Qr|apply Qx|apply Q4|apply Q5|apply Qi)) [(5,5),(7,7),(20,30)] [7,17,28,29] (fun n J hp=>∃i,n=q.length-i/\i<=q.length/\J 5= .ms 17 i/\J 20= .int .i64 (i:Nat)/\hp 17=some ⟨1,32,((q.take i).map (bb p)).map PV.aj,false⟩) q.length ?_ ?_
  ·refine⟨0,rfl,by omega,?_⟩;refine Sz0 ?_;simp
  rintro _ J h ⟨i,rfl,hi,h5,ph,hh⟩;refine Sz2 h5 ph ?_;refine Qb (fun fI=>?_) (fun fI=>?_)
  ·have aA:i<q.length:=by omega
   have ba:=hq.get aA;have bn:(q.take (i+1)).map (bb p)=(q.take i).map (bb p)++[bb p q[i]]:=by rw[Kag aA,List.map_append];rfl
   generalize hx:q[i]=x at *
   refine Sz3 h5 ph hx ?_;refine Qa hP (F2 (t:=x) hp ba lO (by omega) (by omega)) rfl rfl rfl ?_;refine Sz3 h5 ph hx ?_;rw[Q9 (f:=PV.aj) (y:=bb p x) (xs:=(q.take i).map (bb p)) (ty':=32) (fz:=false) (Tz1 hh) cE (by omega) (by simp;omega) (by omega) (by omega)];rw[<-bn];refine Sz3 h5 ph hx ?_;refine Qh (q.length-(i+1)) (by omega) ⟨i+1,rfl,by omega,?_⟩;exact Tz2 h5 ph
  ·obtain rfl:i=q.length:=by omega
   rw[Kas]at hh;have gE:=FQ q p;refine Sz2 h5 hh ?_;refine iE hP (Sq (K:=K+K) (E:=E+E) (by omega) _ (q.map (bb p)) (Kac _) (fun x hx=>by obtain⟨t,ht,rfl⟩:=KaI.1 hx;exact sR hp (hq t ht)) (by rw[KaV];omega) (by rw[KaV];omega) (by omega)) (by simp+decide (disch:=try exact E1 hh) only[go_sem,hh,dV,Kav,KaC,Kau,KaA,Kak];simp[Kae]) rfl ?_;refine Sz0 ?_;exact Qd (congrArg PV.aj kU) rfl
 ·have kU:ow p q=Q8 p q:=by rw[Q8,if_neg (by omega)]
  have Ul:p.length*(K+K)<=2^33:=by rw[KbX (by omega)]at hK;exact hK
  refine Sz0 ?_;refine Qz (by repeat (first|exact Qs|exact Ql|exact Qm|exact Qn|exact Qo|apply Qk|apply Qr|apply Qx|apply Q4|apply Q5|apply Qi)) [(5,5),(7,7),(20,30)] [7,17,28,29] (fun n J hp=>∃i,n=p.length-i/\i<=p.length/\J 5= .ms 17 i/\J 20= .int .i64 (i:Nat)/\hp 17=some ⟨1,32,((p.take i).map (bb q)).map PV.aj,false⟩) p.length ?_ ?_
  ·refine⟨0,rfl,by omega,?_⟩;refine Sz0 ?_;simp
  rintro _ J h ⟨i,rfl,hi,h5,ph,hh⟩;refine Sz2 h5 ph ?_;refine Qb (fun fI=>?_) (fun fI=>?_)
  ·have aA:i<p.length:=by omega
   have ba:=hp.get aA;have bn:(p.take (i+1)).map (bb q)=(p.take i).map (bb q)++[bb q p[i]]:=by rw[Kag aA,List.map_append];rfl
   generalize hx:p[i]=x at *
   refine Sz3 h5 ph hx ?_;refine Qa hP (F2 (t:=x) hq ba lO (by omega) (by omega)) rfl rfl rfl ?_;refine Sz3 h5 ph hx ?_;rw[Q9 (f:=PV.aj) (y:=bb q x) (xs:=(p.take i).map (bb q)) (ty':=32) (fz:=false) (Tz1 hh) cE (by omega) (by simp;omega) (by omega) (by omega)];rw[<-bn];refine Sz3 h5 ph hx ?_;refine Qh (p.length-(i+1)) (by omega) ⟨i+1,rfl,by omega,?_⟩;exact Tz2 h5 ph
  ·obtain rfl:i=p.length:=by omega
   rw[Kas]at hh;have gE:=FQ p q;refine Sz2 h5 hh ?_;refine iE hP (Sq (K:=K+K) (E:=E+E) (by omega) _ (p.map (bb q)) (Kac _) (fun x hx=>by obtain⟨t,ht,rfl⟩:=KaI.1 hx;exact sR hq (hp t ht)) (by rw[KaV];omega) (by rw[KaV];omega) (by omega)) (by simp+decide (disch:=try exact E1 hh) only[go_sem,hh,dV,Kav,KaC,Kau,KaA,Kak];simp[Kae]) rfl ?_;refine Sz0 ?_;exact Qd (congrArg PV.aj kU) rfl
theorem Cb{p:List Tm}{a:Rat}{K E:Nat}(hp:PB K E p)(ha:rs a+1<=K)(hK:K<=2^33)(hE:E<=2^38)(bV:p.length<=2^36):Qc Tryz.prog 121 [PV.aj p,PV.rat a] (· =PV.aj (ch p a)):=by
 refine Qf Qj Tryz.func121 rfl aff (by simp[IK]) fun C hP=>?_;simp only[IK,Zo,Zg,Zm,Zc,Zf,Zl,Zh,Zs,Zi,Zb,Zk,Zn,Zu,Zq,Zr,Zz];refine Sz0 ?_;refine Qa hP (zU (a:=a) (by omega)) rfl rfl rfl ?_;refine Sz0 ?_;refine Qb (fun h0=>?_) (fun h0=>?_)
 ·refine Sz0 ?_;exact nu (GK (by rw[ch,if_pos (gY.1 h0)])) rfl
 ·refine Sz0 ?_;refine Qa hP ((F2 (t:=(a,[])) hp (TB.num ha) hK hE bV).le (args':=[PV.aj p,.agg [.bool (decide (a.num<0)),PV.num a.num.natAbs,PV.num a.den,.aa]]) ⟨Qw _,⟨rfl,zo _,zo _,trivial,trivial⟩,trivial⟩) rfl rfl rfl ?_;refine Sz0 ?_;exact Qd (by rw[ch,if_neg (fun h=>h0 (gY.2 h))]) rfl
theorem YD{p:List Tm}{K E:Nat}(hp:PB K E p)(lO:2<=K)(hK:K<=2^33)(hE:E<=2^38)(bV:p.length<=2^36):Qc Tryz.prog 157 [PV.aj p] (· =PV.aj (kP p)):=by have h1:=FI;refine Qf Qj Tryz.func157 rfl afb (by simp[Jl]) fun C hP=>?_;simp only[Jl,Zo,Zg,Zm,Zc,Zf,Zl,Zh,Zs,Zi,Zb,Zk,Zn,Zu,Zq,Zr,Zz];refine Sz0 ?_;refine Qa hP (uL (x:= -1) (by omega) (by omega)) rfl rfl rfl ?_;refine Sz0 ?_;refine Qa hP (Cb (a:=((-1:Int):Rat)) hp (by have:((-1:Int):Rat)= -1:=rfl;rw[this];omega) hK hE bV) rfl rfl rfl ?_;refine Sz0 ?_;exact Qd rfl rfl
theorem GA{p q:List Tm}{K E:Nat}(hp:PB K E p)(hq:PB K E q)(lO:2<=K)(hK:K<=2^32)(hE:E<=2^38)(bV:p.length<=2^36)(ie:q.length<=2^36):Qc Tryz.prog 109 [PV.aj p,PV.aj q] (· =PV.aj (fY p q)):=by have hl:=uA q (-1);refine Qf Qj Tryz.func109 rfl afd (by simp[Iz]) fun C hP=>?_;simp only[Iz,Zo,Zg,Zm,Zc,Zf,Zl,Zh,Zs,Zi,Zb,Zk,Zn,Zu,Zq,Zr,Zz];refine Sz0 ?_;refine Qa hP (YD hq lO (by omega) hE ie) rfl rfl rfl ?_;refine Sz0 ?_;refine Qa hP (Gz (hp.mono (K':=K+2) (by omega) (Kac _)) (xc hq) (by omega) hE bV (by show(ch q (-1)).length<=_;omega)) rfl rfl rfl ?_;refine Sz0 ?_;exact Qd rfl rfl
theorem YE{n:Bool}{a d:List Nat}{k:Nat}(hp:Raw k n a d)(hk:k<2^36):Qc Tryz.prog 48 [PV.rr n a d,PV.rat ((0:Int):Rat)] (· =PV.rat (rv n a d)):=by
 have h0:rs ((0:Int):Rat)<=k:=by have:=aoY;have:=hp.k1;have e:((0:Int):Rat)=0:=rfl;rw[e];omega
 have:=TG hp (ir h0) hk;rw[gK]at this;have e:rv n a d+((0:Int):Rat)=rv n a d:=Rat.add_zero _
 rwa[e]at this
theorem Xv{n:Bool}{a d:List Nat}{k:Nat}(hp:Raw k n a d)(hk:k<2^36):Qc Tryz.prog 65 [PV.rr n a d] (· =PV.aj (dQ (rv n a d))):=by have hr:=hp.rs;refine Qf Qj Tryz.func65 rfl ah1 (by simp[Kz]) fun C hP=>?_;simp only[Kz,Zo,Zg,Zm,Zc,Zf,Zl,Zh,Zs,Zi,Zb,Zk,Zn,Zu,Zq,Zr,Zz];refine Sz0 ?_;refine Qa hP (uL (x:=0) (by omega) (by omega)) rfl rfl rfl ?_;refine Sz0 ?_;refine Qa hP (YE hp hk) rfl rfl rfl ?_;refine Sz0 ?_;refine Qa hP ((W4 (c:=rv n a d) (m:=[]) (by omega)).le (args':=[PV.rat (rv n a d),.aa]) ⟨Qw _,trivial,trivial⟩) rfl rfl rfl ?_;refine Sz0 ?_;exact Qd rfl rfl
theorem XX{s t:Tm}{K E:Nat}(hs:TB K E s)(ht:TB K E t)(hK:K<=2^33)(hE:E<=2^38):Qc Tryz.prog 125 [PV.term s,PV.term t] (· = .int .i64 (mL s t)):=by
 have c1:=hs.c;have c2:=ht.c;refine Qf Qj Tryz.func125 rfl aeA (by simp[IP]) fun C hP=>?_;simp only[IP,Zo,Zg,Zm,Zc,Zf,Zl,Zh,Zs,Zi,Zb,Zk,Zn,Zu,Zq,Zr,Zz];refine Sz0 ?_;refine Qa hP (Sp (s:=s) (t:=t) hs.m ht.m hE) rfl rfl rfl ?_;refine Sz0 ?_;refine Qb (fun h=>?_) (fun h=>?_)
 ·refine Sz0 ?_;exact Qd (by rw[mL,if_pos h]) rfl
 ·refine Sz0 ?_;refine Qa hP (ajA (a:=s.1) (b:=t.1) (k:=2^33) (by omega) (by omega) (by omega)) rfl rfl rfl ?_;refine Sz0 ?_;exact Qd (by rw[mL,if_neg h]) rfl
theorem Qr7{p q:List Tm}{K E:Nat}(hp:PB K E p)(hq:PB K E q)(hK:K<=2^33)(hE:E<=2^38)(bV:p.length<=2^36)(ie:q.length<=2^36):
  Qc Tryz.prog 127 [PV.aj p,PV.aj q,.fn 125 [] []] (· = .int .i64 (gO p q)):=by
 refine Qf Qj Tryz.func127 rfl afg (by simp[IS]) fun C hP=>?_;simp only[IS,Zo,Zg,Zm,Zc,Zf,Zl,Zh,Zs,Zi,Zb,Zk,Zn,Zu,Zq,Zr,Zz];refine Sz0 ?_;refine Qz (by repeat (first|exact Qs|exact Ql|exact Qm|exact Qn|exact Qo|apply Qk|apply Qr|apply Qx|apply Q4|apply Q5|apply Qi)) [(6,10),(13,33)] [8,9] (fun n J hp=>∃i,n=p.length-i/\i<=p.length/\(i<=q.length)/\gO (p.drop i) (q.drop i)=gO p q/\J 13= .int .i64 (i:Nat)) p.length ?_ ?_
 ·refine⟨0,rfl,by omega,by omega,rfl,?_⟩;refine Sz0 ?_;rfl
 rintro _ J h ⟨i,rfl,hi,lT,fV,bU⟩;refine Sz1 bU ?_;refine Qb (fun hg=>?_) (fun hg=>?_)
 ·have aA:i<p.length:=by omega
  have ba:=hp.get aA;have hdp:p.drop i=p[i]::p.drop (i+1):=Kaz aA;have Mj:=fun hk=>Ts (q:=q) aA hk;generalize hx:p[i]=x at *
  refine Sz2 bU hx ?_;refine Qb (fun hk=>?_) (fun hk=>?_)
  ·rw[hdp,Kal (show q.length<=i by omega),gO]at fV;refine Sz0 ?_;exact Qd (by rw[fV]) rfl
  ·have dT:i<q.length:=by omega
   have ob:=hq.get dT;have Mj:=Mj dT;generalize hy:q[i]=y at *
   rw[Mj]at fV;refine Sz3 bU hx hy ?_;refine Qa hP (XX (s:=x) (t:=y) ba ob hK hE) rfl rfl rfl ?_;refine Sz3 bU hx hy ?_;refine Qb (fun hc=>?_) (fun hc=>?_)
   ·rw[if_pos hc]at fV;refine Sz0 ?_;exact Qd (by rw[fV]) rfl
   ·rw[if_neg hc]at fV;refine Sz1 bU ?_;refine Qh (p.length-(i+1)) (by omega) ⟨i+1,rfl,by omega,by omega,fV,?_⟩;exact Tz0
 ·obtain rfl:i=p.length:=by omega
  rw[Kal (Kac _),zy]at fV;refine Sz0 ?_;refine Qb (fun hk=>?_) (fun hk=>?_)
  ·rw[if_neg (by rw[Ka5];omega)]at fV;refine Sz0 ?_;exact Qd (by rw[fV]) rfl
  ·rw[if_pos (by rw[Ka5];omega)]at fV;refine Sz0 ?_;exact Qd (by rw[fV]) rfl
theorem YG{p q:List Tm}{K E:Nat}(hp:PB K E p)(hq:PB K E q)(hK:K<=2^33)(hE:E<=2^38)(bV:p.length<=2^36)(ie:q.length<=2^36):Qc Tryz.prog 68 [PV.aj p,PV.aj q] (· = .int .i64 (gO p q)):=by refine Qf Qj Tryz.func68 rfl ah2 (by simp[KB]) fun C hP=>?_;simp only[KB,Zo,Zg,Zm,Zc,Zf,Zl,Zh,Zs,Zi,Zb,Zk,Zn,Zu,Zq,Zr,Zz];refine Sz0 ?_;refine Qa hP (Qr7 hp hq hK hE bV ie) rfl rfl rfl ?_;refine Sz0 ?_;exact Qd rfl rfl
end Go.Proofs.YtdjoomkeehihmaaGreat
namespace Go.FW
open Go
def bA(φ:List Int->Rat):List Tm->Rat
 | []=>0
 |t::p=>t.1*φ t.2+bA φ p
theorem ke(φ:List Int->Rat):bA φ []=0:=rfl
theorem eu(φ:List Int->Rat)(t:Tm)(p:List Tm):bA φ (t::p)=t.1*φ t.2+bA φ p:=rfl
theorem qc{φ ψ:List Int->Rat}:∀ {p:List Tm},(∀t∈p,φ t.2=ψ t.2)->bA φ p=bA ψ p
 | [],_=>rfl
 |t::p,h=>by rw[eu,eu,h t (by simp),qc (p:=p) (fun x hx=>h x (by simp[hx]))]
theorem OZ(φ ψ:List Int->Rat):∀(p:List Tm),bA (fun m=>φ m+ψ m) p=bA φ p+bA ψ p
 | []=>by simp only[ke];grind
 |t::p=>by simp only[eu];rw[OZ φ ψ p];grind
theorem NS(c:Rat)(φ:List Int->Rat):∀(p:List Tm),bA (fun m=>c*φ m) p=c*bA φ p
 | []=>by simp only[ke];grind
 |t::p=>by simp only[eu];rw[NS c φ p];grind
theorem NT:∀(p:List Tm),bA (fun _=>0) p=0
 | []=>rfl
 |t::p=>by simp only[eu];rw[NT p];grind
theorem Df(ψ:List Int->List Int->Rat)(q:List Tm):∀(p:List Tm),bA (fun m=>bA (fun n=>ψ m n) q) p=bA (fun n=>bA (fun m=>ψ m n) p) q
 | []=>by simp only[ke];rw[NT]
 |t::p=>by simp only[eu];rw[Df ψ q p,OZ (fun n=>t.1*ψ t.2 n),NS]
def Can(p:List Tm):Prop:=∀t∈p,t.2.getLast? ≠some 0
def NZ(p:List Tm):Prop:=∀t∈p,t.1≠0
structure aC(p:List Tm):Prop where
 c:Can p
 z:NZ p
 s:eR p
theorem Can.cons{t:Tm}{p:List Tm}:Can (t::p)↔t.2.getLast? ≠some 0/\Can p:=by simp[Can]
theorem NZ.cons{t:Tm}{p:List Tm}:NZ (t::p)↔t.1≠0/\NZ p:=by simp[NZ]
theorem aC.nil:aC []:=⟨by simp[Can],by simp[NZ],trivial⟩
theorem aC.tail{t:Tm}{p:List Tm}(h:aC (t::p)):aC p:=⟨(Can.cons.1 h.c).2,(NZ.cons.1 h.z).2,h.s.2⟩
theorem aC.one{t:Tm}(h:t.1≠0)(hm:t.2.getLast? ≠some 0):aC [t]:=⟨by simpa[Can]using hm,by simpa[NZ]using h,⟨by simp,trivial⟩⟩
theorem rf.og{p:List Tm}(h:rf p):aC p:=⟨fun t ht=>Rw (h.t t ht).m,fun t ht=>(h.t t ht).c,h.s⟩
theorem GO{E:Nat}{a:List Int}(h:MB E a)(hE:E<=1048576)(hl:a.getLast? ≠some 0):fo a=true:=by simp only[fo,Kat,decide_eq_true_eq,Kax];exact⟨h.len,hl,fun x hx=>⟨h.lo x hx,by have:=h.hi x hx;omega⟩⟩
theorem aC.Wp{K E:Nat}{p:List Tm}(h:aC p)(hb:PB K E p)(hE:E<=1048576):rf p:=
 ⟨fun t ht=>⟨h.z t ht,GO (hb t ht).m hE (hb t ht).l⟩,h.s⟩
theorem zD{φ:List Int->Rat}:∀ {p q:List Tm},Can p->Can q->bA φ (Q7 p q)=bA φ p+bA φ q:=by
 intro p q;induction p,q using Q7.induct with
 |case1 q=>rw[Q7,ke];intros;grind
 |case2 p h=>rw[kK,ke];intros;grind
 |case3 c m p d l q h ih=>intro hp hq;rw[Q7,if_pos h,eu,eu,ih (Can.cons.1 hp).2 hq];grind
 |case4 c m p d l q h1 h2 ih=>intro hp hq;rw[Q7,if_neg h1,if_pos h2,eu,ih hp (Can.cons.1 hq).2,eu φ (d,l)];grind
 |case5 c m p d l q h1 h2 h3 ih=>
  intro hp hq;have e:=Gm h1 h2 (Can.cons.1 hp).1 (Can.cons.1 hq).1;rw[Q7,if_neg h1,if_neg h2,if_pos h3,ih (Can.cons.1 hp).2 (Can.cons.1 hq).2,eu,eu];subst e;have:c*φ m+d*φ m=0:=by rw[<-Rat.add_mul,h3];grind
  grind
 |case6 c m p d l q h1 h2 h3 ih=>intro hp hq;have e:=Gm h1 h2 (Can.cons.1 hp).1 (Can.cons.1 hq).1;rw[Q7,if_neg h1,if_neg h2,if_neg h3,eu,ih (Can.cons.1 hp).2 (Can.cons.1 hq).2,eu,eu];subst e;grind
theorem sY:∀ {p q:List Tm} {t:Tm},t∈Q7 p q->(∃s∈p,s.2=t.2)∨(∃s∈q,s.2=t.2):=by
 intro p q;induction p,q using Q7.induct with
 |case1 q=>rw[Q7];intro t ht;exact Or.inr ⟨t,ht,rfl⟩
 |case2 p h=>rw[kK];intro t ht;exact Or.inl ⟨t,ht,rfl⟩
 | case3 c m p d l q h ih=>
  intro t ht;rw[Q7,if_pos h]at ht;rcases KaO.1 ht with rfl|ht
  ·exact Or.inl ⟨_,by simp,rfl⟩
  ·rcases ih ht with⟨s,h1,h2⟩|h1
   ·exact Or.inl ⟨s,by simp[h1],h2⟩
   ·exact Or.inr h1
 | case4 c m p d l q h1 h2 ih=>
  intro t ht;rw[Q7,if_neg h1,if_pos h2]at ht;rcases KaO.1 ht with rfl|ht
  ·exact Or.inr ⟨_,by simp,rfl⟩
  ·rcases ih ht with h3|⟨s,h3,h4⟩
   ·exact Or.inl h3
   ·exact Or.inr ⟨s,by simp[h3],h4⟩
 |case5 c m p d l q h1 h2 h3 ih=>
  intro t ht;rw[Q7,if_neg h1,if_neg h2,if_pos h3]at ht;rcases ih ht with⟨s,h4,h5⟩|⟨s,h4,h5⟩
  ·exact Or.inl ⟨s,by simp[h4],h5⟩
  ·exact Or.inr ⟨s,by simp[h4],h5⟩
 | case6 c m p d l q h1 h2 h3 ih=>
  intro t ht;rw[Q7,if_neg h1,if_neg h2,if_neg h3]at ht;rcases KaO.1 ht with rfl|ht
  ·exact Or.inl ⟨(c,m),by simp,rfl⟩
  ·rcases ih ht with⟨s,h4,h5⟩|⟨s,h4,h5⟩
   ·exact Or.inl ⟨s,by simp[h4],h5⟩
   ·exact Or.inr ⟨s,by simp[h4],h5⟩
theorem NU{p q:List Tm}(hp:Can p)(hq:Can q):Can (Q7 p q):=fun t ht=>by
 rcases sY ht with⟨s,h1,h2⟩|⟨s,h1,h2⟩
 ·rw[<-h2];exact hp s h1
 ·rw[<-h2];exact hq s h1
theorem afu:∀ {p q:List Tm},NZ p->NZ q->NZ (Q7 p q):=by
 intro p q;induction p,q using Q7.induct with
 |case1 q=>rw[Q7];exact fun _ h=>h
 |case2 p h=>rw[kK];exact fun h _=>h
 |case3 c m p d l q h ih=>intro hp hq;rw[Q7,if_pos h,NZ.cons];exact⟨(NZ.cons.1 hp).1,ih (NZ.cons.1 hp).2 hq⟩
 |case4 c m p d l q h1 h2 ih=>intro hp hq;rw[Q7,if_neg h1,if_pos h2,NZ.cons];exact⟨(NZ.cons.1 hq).1,ih hp (NZ.cons.1 hq).2⟩
 |case5 c m p d l q h1 h2 h3 ih=>intro hp hq;rw[Q7,if_neg h1,if_neg h2,if_pos h3];exact ih (NZ.cons.1 hp).2 (NZ.cons.1 hq).2
 |case6 c m p d l q h1 h2 h3 ih=>intro hp hq;rw[Q7,if_neg h1,if_neg h2,if_neg h3,NZ.cons];exact⟨h3,ih (NZ.cons.1 hp).2 (NZ.cons.1 hq).2⟩
theorem YH{a b c:List Int}(h:aR a b=0)(h2:0<aR b c):0<aR a c:=by
 have e:∀i,eN a i=eN b i:=by
  intro i;have:=(CW a b _).1 h;by_cases hi:i<max a.length b.length
  ·exact this i hi
  ·rw[fq (by omega),fq (by omega)]
 rw[YT e (fun _=>rfl)];exact h2
theorem XY:∀ {p q:List Tm},eR p->eR q->eR (Q7 p q):=by
 intro p q;induction p,q using Q7.induct with
 |case1 q=>rw[Q7];exact fun _ h=>h
 |case2 p h=>rw[kK];exact fun h _=>h
 | case3 c m p d l q h ih=>
  intro hp hq;rw[Q7,if_pos h];refine⟨fun t ht=>?_,ih hp.2 hq⟩;rcases sY ht with⟨s,h1,h2⟩|⟨s,h1,h2⟩
  ·rw[<-h2];exact hp.1 s h1
  ·rw[<-h2];rcases KaO.1 h1 with rfl|h1
   ·exact h
   ·exact wz h (hq.1 s h1)
 | case4 c m p d l q h1 h2 ih=>
  intro hp hq;rw[Q7,if_neg h1,if_pos h2];have mR:0<aR l m:=by have:=uO m l;omega
  refine⟨fun t ht=>?_,ih hp hq.2⟩;rcases sY ht with⟨s,h3,h4⟩|⟨s,h3,h4⟩
  ·rw[<-h4];rcases KaO.1 h3 with rfl|h3
   ·exact mR
   ·exact wz mR (hp.1 s h3)
  ·rw[<-h4];exact hq.1 s h3
 |case5 c m p d l q h1 h2 h3 ih=>intro hp hq;rw[Q7,if_neg h1,if_neg h2,if_pos h3];exact ih hp.2 hq.2
 |case6 c m p d l q h1 h2 h3 ih=>
  intro hp hq;rw[Q7,if_neg h1,if_neg h2,if_neg h3];refine⟨fun t ht=>?_,ih hp.2 hq.2⟩;rcases sY ht with⟨s,h4,h5⟩|⟨s,h4,h5⟩
  ·rw[<-h5];exact hp.1 s h4
  ·rw[<-h5];exact YH (b:=l) (by show aR m l=0;omega) (hq.1 s h4)
theorem wT{p q:List Tm}(hp:aC p)(hq:aC q):aC (Q7 p q):=⟨NU hp.c hq.c,afu hp.z hq.z,XY hp.s hq.s⟩
def ind(m:List Int):List Int->Rat:=fun n=>if n=m then 1 else 0
theorem Cg{m:List Int}:∀ {p:List Tm},(∀t∈p,t.2≠m)->bA (ind m) p=0
 | [],_=>rfl
 |t::p,h=>by rw[eu,Cg (p:=p) (fun x hx=>h x (by simp[hx])),ind,if_neg (h t (by simp))];grind
theorem te{a b:List Int}(h:0<aR a b):b≠a:=by rintro rfl;rw[CH]at h;omega
theorem wB{t:Tm}{p:List Tm}(h:eR (t::p)):bA (ind t.2) (t::p)=t.1:=by rw[eu,Cg (fun s hs=>te (h.1 s hs)),ind,if_pos rfl];grind
theorem DB:∀ {p q:List Tm},aC p->aC q->(∀φ,bA φ p=bA φ q)->p=q
 | [],[],_,_,_=>rfl
 | [],t::q,_,hq,h=>by have:=h (ind t.2);rw[wB hq.s,ke]at this;exact absurd this.symm (hq.z t (by simp))
 |t::p,[],hp,_,h=>by have:=h (ind t.2);rw[wB hp.s,ke]at this;exact absurd this (hp.z t (by simp))
 | s ::p,t::q,hp,hq,h=>by
  by_cases h1:0<aR s.2 t.2
  ·have:=h (ind s.2);rw[wB hp.s,Cg (fun x hx=>?_)]at this
   ·exact absurd this (hp.z s (by simp))
   ·rcases KaO.1 hx with rfl|hx
    ·exact te h1
    ·exact te (wz h1 (hq.s.1 x hx))
  ·by_cases h2:aR s.2 t.2<0
   ·have mR:0<aR t.2 s.2:=by have:=uO s.2 t.2;omega
    have:=h (ind t.2);rw[wB hq.s,Cg (fun x hx=>?_)]at this
    ·exact absurd this.symm (hq.z t (by simp))
    ·rcases KaO.1 hx with rfl|hx
     ·exact te mR
     ·exact te (wz mR (hp.s.1 x hx))
   ·have e:=Gm h1 h2 (hp.c s (by simp)) (hq.c t (by simp));have e2:=h (ind s.2);rw[wB hp.s,e,wB hq.s]at e2;have e3:s=t:=Prod.ext e2 e;subst e3;rw[DB hp.tail hq.tail (fun φ=>by have:=h φ;rw[eu,eu]at this;grind)]
theorem abf{φ:List Int->Rat}:∀(n:Nat)(l:List (List Tm)),l.length<=n->(∀p∈l,Can p)->Can (cN l)/\bA φ (cN l)=(l.map (bA φ)).sum:=by
 intro n;induction n with
 |zero=>intro l hl _;have:l=[]:=Kar.1 (by omega);subst this;rw[cN];exact⟨aC.nil.c,rfl⟩
 | succ n ih=>
  intro l hl h
  match l,h with
  | [],_=>rw[cN];exact⟨aC.nil.c,rfl⟩
  | [p],h=>rw[cN];exact⟨h p (by simp),by simp;grind⟩
  |p::q::r,h=>
   rw[y9 (by simp)];generalize hL:p::q::r=L at *
   have hlen:2<=L.length:=by rw[<-hL];simp
   obtain⟨a1,a2⟩:=ih (L.take (L.length/2)) (by rw[KaF];omega) (fun x hx=>h x (Kbb hx));obtain⟨b1,b2⟩:=ih (L.drop (L.length/2)) (by rw[Ka5];omega) (fun x hx=>h x (Kbv hx));refine⟨NU a1 b1,?_⟩;rw[zD a1 b1,a2,b2,<-List.sum_append,<-List.map_append,Kbn]
theorem ac1:∀(n:Nat)(l:List (List Tm)),l.length<=n->(∀p∈l,aC p)->aC (cN l):=by
 intro n;induction n with
 |zero=>intro l hl _;have:l=[]:=Kar.1 (by omega);subst this;rw[cN];exact aC.nil
 | succ n ih=>
  intro l hl h
  match l,h with
  | [],_=>rw[cN];exact aC.nil
  | [p],h=>rw[cN];exact h p (by simp)
  | p::q::r,h=>
   rw[y9 (by simp)];generalize hL:p::q::r=L at *
   have hlen:2<=L.length:=by rw[<-hL];simp
   exact wT (ih (L.take (L.length/2)) (by rw[KaF];omega) (fun x hx=>h x (Kbb hx)))
    (ih (L.drop (L.length/2)) (by rw[Ka5];omega) (fun x hx=>h x (Kbv hx)))
theorem CB(φ:List Int->Rat)(t:Tm):∀(p:List Tm),bA φ (bb p t)=t.1*bA (fun m=>φ (b7 m t.2)) p
 | []=>by rw[bb,List.filterMap_nil,ke,ke];grind
 | s::p=>by
  have ih:=CB φ t p;rw[bb]at ih⊢;rw[Kbk];by_cases h:s.1*t.1=0
  ·simp only[h,if_true,eu];rw[ih];have:t.1*(s.1*φ (b7 s.2 t.2))=(s.1*t.1)*φ (b7 s.2 t.2):=by grind
   rw[Rat.mul_add,this,h];grind
  ·simp only[h,if_false,eu];rw[ih];grind
theorem GB(p:List Tm)(t:Tm):Can (bb p t):=by
 intro x hx;simp only[bb,KbR]at hx;obtain⟨y,hy,h⟩:=hx;split at h
 ·cases h
 ·cases h;exact rp _ _
theorem abg(p:List Tm)(t:Tm):NZ (bb p t):=by
 intro x hx;simp only[bb,KbR]at hx;obtain⟨y,hy,h⟩:=hx;split at h
 ·cases h
 ·rename_i h0;cases h;exact h0
theorem QL(t:Tm):∀(p:List Tm),eR p->eR (bb p t)
 | [],_=>trivial
 | s ::p,hp=>by
  have ih:=QL t p hp.2;rw[bb]at ih⊢;rw[Kbk];split
  ·exact ih
  ·rename_i b hb;split at hb
   ·cases hb
   ·cases hb;refine⟨fun x hx=>?_,ih⟩;simp only[KbR]at hx;obtain⟨y,hy,h⟩:=hx;split at h
    ·cases h
    ·cases h;simp only[acR];exact hp.1 y hy
theorem GC{p:List Tm}(t:Tm)(hp:eR p):aC (bb p t):=⟨GB _ _,abg _ _,QL t p hp⟩
theorem Sr(φ:List Int->Rat)(q:List Tm):∀(p:List Tm),((p.map (bb q)).map (bA φ)).sum=bA (fun m=>bA (fun n=>φ (b7 m n)) q) p
 | []=>rfl
 |t::p=>by rw[Kbj,Kbj,Kdh,Sr φ q p,CB,eu];congr 2;exact qc fun s _=>by rw[CI]
theorem TH(φ:List Int->Rat)(p q:List Tm):bA φ (ow p q)=bA (fun m=>bA (fun n=>φ (b7 m n)) q) p:=by rw[ow,(abf (φ:=φ) _ _ (Kac _) ?_).2,Sr];intro x hx;obtain⟨t,_,rfl⟩:=KaI.1 hx;exact GB _ _
theorem zE(φ:List Int->Rat)(p q:List Tm):bA φ (Q8 p q)=bA (fun m=>bA (fun n=>φ (b7 m n)) q) p:=by
 unfold Q8;split
 ·rw[TH,Df (fun m n=>φ (b7 m n))];exact qc fun s _=>qc fun t _=>by rw[CI]
 ·exact TH φ p q
theorem TI{p q:List Tm}(hq:eR q):aC (ow p q):=ac1 _ _ (Kac _) fun x hx=>by obtain⟨t,_,rfl⟩:=KaI.1 hx;exact GC t hq
theorem kd{p q:List Tm}(hp:eR p)(hq:eR q):aC (Q8 p q):=by
 unfold Q8;split
 ·exact TI hp
 ·exact TI hq
theorem YI(φ:List Int->Rat){p:List Tm}(hp:Can p)(a:Rat):bA φ (ch p a)=a*bA φ p:=by
 unfold ch;split
 ·rename_i h;rw[h,ke];grind
 ·rw[CB];congr 1;exact qc fun s hs=>by rw[uP (hp s hs)]
theorem sJ{p:List Tm}(hp:eR p)(a:Rat):aC (ch p a):=by
 unfold ch;split
 ·exact aC.nil
 ·exact GC _ hp
theorem ac2(φ:List Int->Rat){p:List Tm}(hp:Can p):bA φ (kP p)= -bA φ p:=by rw[kP,YI φ hp];grind
theorem ac3(φ:List Int->Rat){p q:List Tm}(hp:Can p)(hq:aC q):bA φ (fY p q)=bA φ p-bA φ q:=by rw[fY,zD hp (show Can (kP q)from(sJ hq.s _).c),ac2 φ hq.c];grind
theorem Dg{p q:List Tm}(hp:aC p)(hq:aC q):aC (fY p q):=wT hp (sJ hq.s _)
theorem CC(a:Rat):aC (dQ a):=by
 unfold dQ;split
 ·exact aC.nil
 ·rename_i h;exact aC.one h (by simp)
def mF(p q:List Tm):List Tm:=q.foldl (fun out t=>Q7 out (bb p t)) []
theorem TJ(p:List Tm)(hp:aC p):∀(q out:List Tm),aC out->aC (q.foldl (fun out t=>Q7 out (bb p t)) out)/\
  ∀φ,bA φ (q.foldl (fun out t=>Q7 out (bb p t)) out)=bA φ out+bA (fun m=>bA (fun n=>φ (b7 n m)) p) q
 | [],out,h=>⟨h,fun φ=>by rw[List.foldl_nil,ke];grind⟩
 |t::q,out,h=>by obtain⟨h1,h2⟩:=TJ p hp q (Q7 out (bb p t)) (wT h (GC t hp.s));refine⟨h1,fun φ=>?_⟩;rw[KcI,h2,zD h.c (GB _ _),CB,eu];grind
theorem uQ{p q:List Tm}(hp:aC p)(hq:aC q):mF p q=Q8 p q:=by obtain⟨h1,h2⟩:=TJ p hp q [] aC.nil;refine DB h1 (kd hp.s hq.s) fun φ=>?_;rw[mF,h2,zE,ke,Df (fun m n=>φ (b7 m n))];grind
variable {C : Ctx} {fr : Fr} {hp : HP} {w : World} {K R : Qg}
theorem XZ{e by_ ty d:Nat}(h0:0<e):iH e by_ ty .aa (.sl e []) d fr hp K=K (af (cI d fr) d (.ms d 0)) (Qy hp d ⟨e,ty,[],false⟩):=by have:=Cw (fr:=fr) (hp:=hp) (K:=K) (e:=e) (by_:=by_) (ty:=ty) (d:=d) (x:=.sl e []) (ys:=[]) rfl h0 (by simp) (by simp);simpa using this
def bf(p:List Tm):Bool:=decide (4000<p.length)||p.any fun t=>t.2.any fun x=>decide (1048576<x)
end Go.FW
namespace Go.FW
open Go
theorem Hy{m:List Int}{c:Rat}:∀ {u v:List Tm},(∀t∈u,0<aR t.2 m)->(∀t∈v,aR t.2 m<0)->Q7 (u++v) [(c,m)]=u++(c,m)::v
 | [],[],_,_=>by rw[KaN,qi];rfl
 | [],t::v,_,hv=>by have h1:=hv t (by simp);rw[KaN,za,if_neg (by show ¬0<aR t.2 m;omega),if_pos (by exact h1),kK];rfl
 |t::u,v,hu,hv=>by rw[KaR,za,if_pos (by exact hu t (by simp)),Hy (fun s hs=>hu s (by simp[hs])) hv];rfl
theorem O0{m:List Int}{c d:Rat}:∀ {u v:List Tm},(∀t∈u,0<aR t.2 m)->Q7 (u++(d,m)::v) [(c,m)]=u++(if d+c=0 then []else [(d+c,m)])++v
 | [],v,_=>by have h0:=CH m;rw[KaN,za,if_neg (by show ¬0<aR m m;omega),if_neg (by show ¬aR m m<0;omega)];show(if d+c=0 then Q7 v []else(d+c,m)::Q7 v [])=_;rw[kK];split<;>rfl
 |t::u,v,hu=>by rw[KaR,za,if_pos (by exact hu t (by simp)),O0 (fun s hs=>hu s (by simp[hs]))];simp
def ja(p:List Tm)(c:Rat)(m:List Int):List Tm:=Q7 p (if c=0 then []else [(c,m)])
theorem Xw{p:List Tm}(hs:eR p):∀ {i:Nat} (h:i<p.length),∀t∈p.take i,0<aR t.2 p[i].2:=by
 induction p with
 |nil=>intro i h;simp at h
 | cons s p ih=>
  intro i h t ht;cases i with
  |zero=>simp at ht
  |succ i=>
   simp only[List.take_succ_cons,KaO]at ht;have hi:i<p.length:=by simpa using h
   show 0<aR t.2 p[i].2;rcases ht with rfl|ht
   ·exact hs.1 _ (Kah hi)
   ·exact ih hs.2 hi t ht
theorem PF{c:Rat}{m:List Int}(hl:m.getLast? ≠some 0):aC (if c=0 then []else [(c,m)]):=by
 split
 ·exact aC.nil
 ·rename_i h;exact aC.one h hl
theorem abh{p:List Tm}{c:Rat}{m:List Int}(hp:aC p)(hl:m.getLast? ≠some 0):aC (ja p c m):=wT hp (PF hl)
theorem abi{φ:List Int->Rat}{p:List Tm}{c:Rat}{m:List Int}(hp:Can p)(hl:m.getLast? ≠some 0):bA φ (ja p c m)=bA φ p+c*φ m:=by
 rw[ja,zD hp (PF hl).c];split
 ·rename_i h;rw[h,ke];grind
 ·rw[eu,ke];grind
def cF(p:List Tm):Nat->List Tm
 |0=>dQ 1
 |n+1=>Q8 (cF p n) p
theorem wU{p:List Tm}(hp:aC p):∀n,aC (cF p n)
 |0=>CC 1
 |n+1=>kd (wU hp n).s hp.s
def rK{α:Type}(g:α->Bool)(l:List α):Int:=match l.findIdx? g with
 |some i=>i
 |none=> -1
theorem GP{α:Type}(g:α->Bool)(l:List α):decide (0<=rK g l)=l.any g:=by
 unfold rK;cases h:l.findIdx? g with
 |none=>rw[List.findIdx?_eq_none_iff]at h;symm;show l.any g=decide ((0:Int)<= -1);rw[show decide ((0:Int)<= -1)=false from rfl,KbB];intro x hx;simp[h x hx]
 |some i=>obtain⟨hi,h1,_⟩:=List.findIdx?_eq_some_iff_getElem.1 h;symm;show l.any g=decide ((0:Int)<=(i:Int));rw[decide_eq_true (by omega),Ka4];exact⟨_,Kah hi,h1⟩
theorem Hi{α:Type}{g:α->Bool}{l:List α}{i:Nat}(hi:i<l.length)(h1:g l[i]=true)(h2:∀j (h:j<l.length),j<i->g l[j]=false):rK g l=i:=by unfold rK;rw[List.findIdx?_eq_some_iff_getElem.2 ⟨hi,h1,fun j hj=>by simp[h2 j (by omega) hj]⟩]
theorem GD{α:Type}{g:α->Bool}{l:List α}(h2:∀j (h:j<l.length),g l[j]=false):rK g l= -1:=by unfold rK;rw[List.findIdx?_eq_none_iff.2 (fun x hx=>by obtain⟨j,hj,rfl⟩:=Kbd hx;exact h2 j hj)]
end Go.FW
