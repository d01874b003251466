/- Part 4 of the proof of GoalsPolynomials: C1, CI, C1b, N1, N2, N3, N4, N5, N6, N7, N8, N9, N10, N11, N12, N13, N14, N15, I1, R1, R2, FwNG, FwNS, FwNT, FwQA, FwSD, FwSE, FwSF, FwSG, FwSH, FwSI, FwSJ, FwSK, FwSL, FwUA, FwSM, FwUC, FwVA. Own lemmas; no conditions. -/
import Derived.Test.YtonjiljafkiikaaGreatGoalsPolynomialsPart3
import Derived.Test.YtonjiljafkiikaaGreatProg
set_option maxHeartbeats 1000000
set_option linter.unusedSimpArgs false
set_option linter.unusedVariables false
set_option linter.unnecessarySimpa false
set_option maxRecDepth 100000
namespace Go.Proofs.YtonjiljafkiikaaGreat
open Go Go.FW
theorem Qh:Tryz.prog.follows .mixedOrders=true:=by kernel_rfl
def vo:az:=⟨21,[.t 2],Zr (Zo (.mv 2 (.c .aa)) .nil)<|Zr (Zm 4 0<|
 Zn 5 4<|
 Zm 3 5 .nil)<| .seq (.block 0<| .loop<| .seq (Zr (Zm 6 3<|
 Zk 7 .gtr 6 0<|
 Zm 8 7<|
 Zg 8 true (.mv 9 (.t 0))<|
 Zg 8 true (.mv 10 (.t 3))<|
 Zg 8 true (.bin 11 .sub false (.t 10) (.c (Zz 1)))<|
 Zg 8 true (.idx 12 1 (.t 9) (.t 11))<|
 Zg 8 true (.ld 13 1 false (.t 12))<|
 Zg 8 true (.bin 14 .eql false (.t 13) (.c (.int .u16 0)))<|
 Zo (.pick 15 (.t 8) (.t 14) (.c (.bool false))) .nil)<| .cond (.t 15) .skip (.exit 0))<| .block 1<| .rg (Zm 16 3<|
 Zk 17 .sub 16 1<|
 Zm 3 17 .nil))<|Zr (Zm 18 0<|
 Zm 19 3<|
 Zo (.sl 20 1 (.t 18) none (some (.t 19)) none)<|
 Zm 2 20 .nil) .ret⟩
theorem Gw:Qe Tryz.prog Tryz.f162=some vo:=by kernel_rfl
def Ad:az:=⟨16,[.t 2],Zr (Zo (.mv 2 (.c .aa)) .nil)<|Zr (Zm 4 0<|
 Zq 5 false 162 [.t 4]<|
 Zm 0 5 .nil)<| .seq (Zr (Zm 6 0<|
 Zn 7 6<|
 Zk 8 .eql 7 0 .nil)<| .cond (.t 8) (Zr (Zo (.mv 2 (.c .aa)) .nil) .ret) .skip)<|Zr (Zm 9 0<|
 Zn 10 9<|
 Zo (.mk 11 1 2 152 (.int .u16 0) (.t 10) (.t 10))<|
 Zm 3 11 .nil)<|Zr (Zm 12 3<|
 Zm 13 0<|
 Zo (.pk 14 1 (.t 12) (.t 13)) .nil)<|Zr (Zm 15 3<|
 Zm 2 15 .nil) .ret⟩
theorem Tb:Qe Tryz.prog Tryz.f148=some Ad:=by kernel_rfl
def Ae:az:=⟨14,[.t 2],Zr (Zo (.mv 2 (.c .aa)) .nil)<|Zr (Zo (.mv 3 (.c .aa)) .nil)<| .seq (.block 0<| .loop<| .seq (Zr (Zm 4 0<|
 Zo (.bin 5 .gtr false (.t 4) (.c (.int .u64 0))) .nil)<| .cond (.t 5) .skip (.exit 0))<| .seq (.block 1<| .rg (Zm 8 3<|
 Zm 9 0<|
 Zo (.conv 10 .u16 (.t 9))<|
 Zo (.bs 11 1 152 [.t 10])<|
 Zo (.app 12 1 2 152 (.t 8) (.t 11))<|
 Zm 3 12 .nil))<| .rg (Zm 6 0<|
 Zo (.bin 7 .shr false (.t 6) (.c (.int .u64 16)))<|
 Zm 0 7 .nil))<|Zr (Zm 13 3<|
 Zm 2 13 .nil) .ret⟩
theorem TP:Qe Tryz.prog Tryz.f150=some Ae:=by kernel_rfl
def Af:az:=⟨28,[.t 2,.t 3],Zr (Zo (.mv 2 (.c (.int .u64 0)))<|
 Zo (.mv 3 (.c (.bool false))) .nil)<|Zr (Zm 7 0<|
 Zq 8 false 162 [.t 7]<|
 Zm 0 8 .nil)<| .seq (Zr (Zm 9 0<|
 Zn 10 9<|
 Zk 11 .gtr 10 4 .nil)<| .cond (.t 11) (Zr (Zo (.mv 2 (.c (.int .u64 0)))<|
 Zo (.mv 3 (.c (.bool false))) .nil) .ret) .skip)<|Zr (Zo (.mv 4 (.c (.int .u64 0))) .nil)<| .seq (Zr (Zm 12 0<|
 Zn 13 12<|
 Zc 14 0 .nil)<| .block 0<| .loop<|Zr (Zb 15 .lss 14 13 .nil)<| .seq (.cond (.t 15) .skip (.exit 0))<| .seq (.block 1<|Zr (Zm 16 14<|
 Zi 17 1 12 14<|
 Zl 18 1 17<|
 Zm 5 16<|
 Zm 6 18 .nil)<| .rg (Zm 19 4<|
 Zm 20 6<|
 Zo (.conv 21 .u64 (.t 20))<|
 Zm 22 5<|
 Zo (.bin 23 .mul false (.c (Zz 16)) (.t 22))<|
 Zb 24 .shl 21 23<|
 Zb 25 .or 19 24<|
 Zm 4 25 .nil))<| .rg (Zk 26 .add 14 1<|
 Zm 14 26 .nil))<|Zr (Zm 27 4<|
 Zm 2 27<|
 Zo (.mv 3 (.c (.bool true))) .nil) .ret⟩
theorem TQ:Qe Tryz.prog Tryz.f149=some Af:=by kernel_rfl
def Ag:az:=⟨20,[.t 2],Zr (Zc 2 0 .nil)<|Zr (Zm 3 0<|
 Zq 4 false 162 [.t 3]<|
 Zm 0 4 .nil)<| .seq (Zr (Zm 5 0<|
 Zn 6 5<|
 Zk 7 .eql 6 0 .nil)<| .cond (.t 7) (Zr (Zc 2 0 .nil) .ret) .skip)<|Zr (Zm 8 0<|
 Zn 9 8<|
 Zk 10 .sub 9 1<|
 Zo (.bin 11 .mul false (.c (Zz 16)) (.t 10))<|
 Zm 12 0<|
 Zm 13 0<|
 Zn 14 13<|
 Zk 15 .sub 14 1<|
 Zi 16 1 12 15<|
 Zl 17 1 16<|
 Zq 18 false 176 [.t 17]<|
 Zb 19 .add 11 18<|
 Zm 2 19 .nil) .ret⟩
theorem TR:Qe Tryz.prog Tryz.f187=some Ag:=by kernel_rfl
def Ah:az:=⟨45,[.t 4],Zr (Zc 4 0 .nil)<|Zr (Zm 6 0<|
 Zq 7 false 162 [.t 6]<|
 Zm 8 1<|
 Zq 9 false 162 [.t 8]<|
 Zm 0 7<|
 Zm 1 9 .nil)<| .seq (Zr (Zm 10 0<|
 Zn 11 10<|
 Zm 12 1<|
 Zn 13 12<|
 Zb 14 .neq 11 13 .nil)<| .cond (.t 14) (.seq (Zr (Zm 15 0<|
 Zn 16 15<|
 Zm 17 1<|
 Zn 18 17<|
 Zb 19 .lss 16 18 .nil)<| .cond (.t 19) (Zr (Zc 4 (-1) .nil) .ret) .skip)<|Zr (Zc 4 1 .nil) .ret) .skip)<| .seq (Zr (Zm 20 0<|
 Zn 21 20<|
 Zk 22 .sub 21 1<|
 Zm 5 22 .nil)<| .block 0<| .loop<| .seq (Zr (Zm 23 5<|
 Zk 24 .geq 23 0 .nil)<| .cond (.t 24) .skip (.exit 0))<| .seq (.block 1<| .seq (Zr (Zm 27 0<|
 Zm 28 5<|
 Zi 29 1 27 28<|
 Zl 30 1 29<|
 Zm 31 1<|
 Zm 32 5<|
 Zi 33 1 31 32<|
 Zl 34 1 33<|
 Zb 35 .lss 30 34 .nil)<| .cond (.t 35) (Zr (Zc 4 (-1) .nil) .ret) .skip)<|Zr (Zm 36 0<|
 Zm 37 5<|
 Zi 38 1 36 37<|
 Zl 39 1 38<|
 Zm 40 1<|
 Zm 41 5<|
 Zi 42 1 40 41<|
 Zl 43 1 42<|
 Zb 44 .gtr 39 43 .nil)<| .cond (.t 44) (Zr (Zc 4 1 .nil) .ret) .skip)<| .rg (Zm 25 5<|
 Zk 26 .sub 25 1<|
 Zm 5 26 .nil))<|Zr (Zc 4 0 .nil) .ret⟩
theorem TS:Qe Tryz.prog Tryz.f163=some Ah:=by kernel_rfl
def Ai:az:=⟨64,[.t 4],Zr (Zo (.mv 4 (.c .aa)) .nil)<|Zr (Zm 9 0<|
 Zq 10 false 162 [.t 9]<|
 Zm 11 1<|
 Zq 12 false 162 [.t 11]<|
 Zm 0 10<|
 Zm 1 12 .nil)<| .seq (Zr (Zm 13 0<|
 Zn 14 13<|
 Zm 15 1<|
 Zn 16 15<|
 Zb 17 .lss 14 16 .nil)<| .cond (.t 17) (.rg (Zm 18 1<|
 Zm 19 0<|
 Zm 0 18<|
 Zm 1 19 .nil)) .skip)<|Zr (Zm 20 0<|
 Zn 21 20<|
 Zm 22 0<|
 Zn 23 22<|
 Zk 24 .add 23 1<|
 Zo (.mk 25 1 2 152 (.int .u16 0) (.t 21) (.t 24))<|
 Zm 5 25 .nil)<|Zr (Zo (.mv 6 (.c (.int .u32 0))) .nil)<| .seq (Zr (Zm 26 0<|
 Zn 27 26<|
 Zc 28 0 .nil)<| .block 0<| .loop<|Zr (Zb 29 .lss 28 27 .nil)<| .seq (.cond (.t 29) .skip (.exit 0))<| .seq (.block 1<|Zr (Zm 30 28<|
 Zi 31 1 26 28<|
 Zl 32 1 31<|
 Zm 7 30<|
 Zm 8 32 .nil)<|Zr (Zm 33 6<|
 Zm 34 8<|
 Zo (.conv 35 .u32 (.t 34))<|
 Zb 36 .add 33 35<|
 Zm 6 36 .nil)<| .seq (Zr (Zm 37 7<|
 Zm 38 1<|
 Zn 39 38<|
 Zb 40 .lss 37 39 .nil)<| .cond (.t 40) (.rg (Zm 41 6<|
 Zm 42 1<|
 Zm 43 7<|
 Zi 44 1 42 43<|
 Zl 45 1 44<|
 Zo (.conv 46 .u32 (.t 45))<|
 Zb 47 .add 41 46<|
 Zm 6 47 .nil)) .skip)<|Zr (Zm 48 5<|
 Zm 49 7<|
 Zm 50 6<|
 Zo (.conv 51 .u16 (.t 50))<|
 Zi 52 1 48 49<|
 Zs 1 52 51 .nil)<| .rg (Zm 53 6<|
 Zo (.bin 54 .shr false (.t 53) (.c (.int .u64 16)))<|
 Zm 6 54 .nil))<| .rg (Zk 55 .add 28 1<|
 Zm 28 55 .nil))<| .seq (Zr (Zm 56 6<|
 Zo (.bin 57 .gtr false (.t 56) (.c (.int .u32 0))) .nil)<| .cond (.t 57) (.rg (Zm 58 5<|
 Zm 59 6<|
 Zo (.conv 60 .u16 (.t 59))<|
 Zo (.bs 61 1 152 [.t 60])<|
 Zo (.app 62 1 2 152 (.t 58) (.t 61))<|
 Zm 5 62 .nil)) .skip)<|Zr (Zm 63 5<|
 Zm 4 63 .nil) .ret⟩
theorem TT:Qe Tryz.prog Tryz.f197=some Ai:=by kernel_rfl
def Aj:az:=⟨56,[.t 4,.t 5],Zr (Zo (.mv 4 (.c .aa))<|
 Zc 5 0 .nil)<| .seq (Zr (Zm 11 0<|
 Zm 12 1<|
 Zq 13 false 163 [.t 11,.t 12]<|
 Zk 14 .lss 13 0 .nil)<| .cond (.t 14) (Zr (Zo (.mv 4 (.c .aa))<|
 Zc 5 2 .nil) .ret) .skip)<|Zr (Zm 15 0<|
 Zq 16 false 162 [.t 15]<|
 Zm 17 1<|
 Zq 18 false 162 [.t 17]<|
 Zm 0 16<|
 Zm 1 18 .nil)<|Zr (Zm 19 0<|
 Zn 20 19<|
 Zo (.mk 21 1 2 152 (.int .u16 0) (.t 20) (.t 20))<|
 Zm 6 21 .nil)<|Zr (Zo (.mv 7 (.c (.int .i32 0))) .nil)<| .seq (Zr (Zm 22 0<|
 Zn 23 22<|
 Zc 24 0 .nil)<| .block 0<| .loop<|Zr (Zb 25 .lss 24 23 .nil)<| .seq (.cond (.t 25) .skip (.exit 0))<| .seq (.block 1<|Zr (Zm 26 24<|
 Zi 27 1 22 24<|
 Zl 28 1 27<|
 Zm 8 26<|
 Zm 9 28 .nil)<|Zr (Zm 29 9<|
 Zo (.conv 30 .i32 (.t 29))<|
 Zm 31 7<|
 Zb 32 .sub 30 31<|
 Zm 10 32 .nil)<| .seq (Zr (Zm 33 8<|
 Zm 34 1<|
 Zn 35 34<|
 Zb 36 .lss 33 35 .nil)<| .cond (.t 36) (.rg (Zm 37 10<|
 Zm 38 1<|
 Zm 39 8<|
 Zi 40 1 38 39<|
 Zl 41 1 40<|
 Zo (.conv 42 .i32 (.t 41))<|
 Zb 43 .sub 37 42<|
 Zm 10 43 .nil)) .skip)<|Zr (Zo (.mv 7 (.c (.int .i32 0))) .nil)<| .seq (Zr (Zm 44 10<|
 Zo (.bin 45 .lss false (.t 44) (.c (.int .i32 0))) .nil)<| .cond (.t 45) (Zr (Zm 46 10<|
 Zo (.bin 47 .add false (.t 46) (.c (.int .i32 65536)))<|
 Zm 10 47 .nil)<| .rg (Zo (.mv 7 (.c (.int .i32 1))) .nil)) .skip)<| .rg (Zm 48 6<|
 Zm 49 8<|
 Zm 50 10<|
 Zo (.conv 51 .u16 (.t 50))<|
 Zi 52 1 48 49<|
 Zs 1 52 51 .nil))<| .rg (Zk 53 .add 24 1<|
 Zm 24 53 .nil))<|Zr (Zm 54 6<|
 Zq 55 false 162 [.t 54]<|
 Zm 4 55<|
 Zc 5 0 .nil) .ret⟩
theorem TU:Qe Tryz.prog Tryz.f198=some Aj:=by kernel_rfl
def Ak:az:=⟨79,[.t 4],Zr (Zo (.mv 4 (.c .aa)) .nil)<|Zr (Zm 11 0<|
 Zq 12 false 162 [.t 11]<|
 Zm 13 1<|
 Zq 14 false 162 [.t 13]<|
 Zm 0 12<|
 Zm 1 14 .nil)<| .seq (Zr (Zm 15 0<|
 Zn 16 15<|
 Zk 17 .eql 16 0<|
 Zm 18 17<|
 Zg 18 false (.mv 19 (.t 1))<|
 Zg 18 false (.len 20 (.t 19))<|
 Zg 18 false (.bin 21 .eql false (.t 20) (.c (Zz 0)))<|
 Zo (.pick 22 (.t 18) (.c (.bool true)) (.t 21)) .nil)<| .cond (.t 22) (Zr (Zo (.mv 4 (.c .aa)) .nil) .ret) .skip)<|Zr (Zm 23 0<|
 Zn 24 23<|
 Zm 25 1<|
 Zn 26 25<|
 Zb 27 .add 24 26<|
 Zo (.mk 28 1 2 152 (.int .u16 0) (.t 27) (.t 27))<|
 Zm 5 28 .nil)<| .seq (Zr (Zm 29 0<|
 Zn 30 29<|
 Zc 31 0 .nil)<| .block 0<| .loop<|Zr (Zb 32 .lss 31 30 .nil)<| .seq (.cond (.t 32) .skip (.exit 0))<| .seq (.block 1<|Zr (Zm 33 31<|
 Zi 34 1 29 31<|
 Zl 35 1 34<|
 Zm 6 33<|
 Zm 7 35 .nil)<|Zr (Zo (.mv 8 (.c (.int .u32 0))) .nil)<| .seq (Zr (Zm 36 1<|
 Zn 37 36<|
 Zc 38 0 .nil)<| .block 2<| .loop<|Zr (Zb 39 .lss 38 37 .nil)<| .seq (.cond (.t 39) .skip (.exit 2))<| .seq (.block 3<|Zr (Zm 40 38<|
 Zi 41 1 36 38<|
 Zl 42 1 41<|
 Zm 9 40<|
 Zm 10 42 .nil)<|Zr (Zm 43 8<|
 Zm 44 5<|
 Zm 45 6<|
 Zm 46 9<|
 Zb 47 .add 45 46<|
 Zi 48 1 44 47<|
 Zl 49 1 48<|
 Zo (.conv 50 .u32 (.t 49))<|
 Zm 51 7<|
 Zo (.conv 52 .u32 (.t 51))<|
 Zm 53 10<|
 Zo (.conv 54 .u32 (.t 53))<|
 Zb 55 .mul 52 54<|
 Zb 56 .add 50 55<|
 Zb 57 .add 43 56<|
 Zm 8 57 .nil)<|Zr (Zm 58 5<|
 Zm 59 6<|
 Zm 60 9<|
 Zb 61 .add 59 60<|
 Zm 62 8<|
 Zo (.conv 63 .u16 (.t 62))<|
 Zi 64 1 58 61<|
 Zs 1 64 63 .nil)<| .rg (Zm 65 8<|
 Zo (.bin 66 .shr false (.t 65) (.c (.int .u64 16)))<|
 Zm 8 66 .nil))<| .rg (Zk 67 .add 38 1<|
 Zm 38 67 .nil))<| .rg (Zm 68 5<|
 Zm 69 6<|
 Zm 70 1<|
 Zn 71 70<|
 Zb 72 .add 69 71<|
 Zm 73 8<|
 Zo (.conv 74 .u16 (.t 73))<|
 Zi 75 1 68 72<|
 Zs 1 75 74 .nil))<| .rg (Zk 76 .add 31 1<|
 Zm 31 76 .nil))<|Zr (Zm 77 5<|
 Zq 78 false 162 [.t 77]<|
 Zm 4 78 .nil) .ret⟩
theorem TV:Qe Tryz.prog Tryz.f183=some Ak:=by kernel_rfl
def Ap:az:=⟨43,[.t 4,.t 5],Zr (Zo (.mv 4 (.c .aa))<|
 Zo (.mv 5 (.c (.int .u16 0))) .nil)<|Zr (Zm 9 0<|
 Zn 10 9<|
 Zo (.mk 11 1 2 152 (.int .u16 0) (.t 10) (.t 10))<|
 Zm 6 11 .nil)<|Zr (Zo (.mv 7 (.c (.int .u32 0))) .nil)<| .seq (Zr (Zm 12 0<|
 Zn 13 12<|
 Zk 14 .sub 13 1<|
 Zm 8 14 .nil)<| .block 0<| .loop<| .seq (Zr (Zm 15 8<|
 Zk 16 .geq 15 0 .nil)<| .cond (.t 16) .skip (.exit 0))<| .seq (.block 1<|Zr (Zm 19 7<|
 Zo (.bin 20 .shl false (.t 19) (.c (.int .u64 16)))<|
 Zm 21 0<|
 Zm 22 8<|
 Zi 23 1 21 22<|
 Zl 24 1 23<|
 Zo (.conv 25 .u32 (.t 24))<|
 Zb 26 .or 20 25<|
 Zm 7 26 .nil)<|Zr (Zm 27 6<|
 Zm 28 8<|
 Zm 29 7<|
 Zm 30 1<|
 Zo (.conv 31 .u32 (.t 30))<|
 Zb 32 .quo 29 31<|
 Zo (.conv 33 .u16 (.t 32))<|
 Zi 34 1 27 28<|
 Zs 1 34 33 .nil)<| .rg (Zm 35 7<|
 Zm 36 1<|
 Zo (.conv 37 .u32 (.t 36))<|
 Zb 38 .rem 35 37<|
 Zm 7 38 .nil))<| .rg (Zm 17 8<|
 Zk 18 .sub 17 1<|
 Zm 8 18 .nil))<|Zr (Zm 39 6<|
 Zq 40 false 162 [.t 39]<|
 Zm 41 7<|
 Zo (.conv 42 .u16 (.t 41))<|
 Zm 4 40<|
 Zm 5 42 .nil) .ret⟩
theorem TW:Qe Tryz.prog Tryz.f164=some Ap:=by kernel_rfl
def Aq:az:=⟨71,[.t 4,.t 5,.t 6],Zr (Zo (.mv 4 (.c .aa))<|
 Zo (.mv 5 (.c .aa))<|
 Zc 6 0 .nil)<|Zr (Zm 12 0<|
 Zq 13 false 162 [.t 12]<|
 Zm 14 1<|
 Zq 15 false 162 [.t 14]<|
 Zm 0 13<|
 Zm 1 15 .nil)<| .seq (.block 0<|Zr (Zm 17 1<|
 Zn 18 17<|
 Zk 19 .eql 18 0<|
 Zm 16 19 .nil)<| .cond (.t 16) (Zr (Zo (.mv 4 (.c .aa))<|
 Zo (.mv 5 (.c .aa))<|
 Zc 6 3 .nil) .ret) (Zr (Zm 21 0<|
 Zm 22 1<|
 Zq 23 false 163 [.t 21,.t 22]<|
 Zk 24 .lss 23 0<|
 Zm 20 24 .nil)<| .cond (.t 20) (Zr (Zm 25 0<|
 Zq 26 false 148 [.t 25]<|
 Zo (.mv 4 (.c .aa))<|
 Zm 5 26<|
 Zc 6 0 .nil) .ret) (Zr (Zm 28 1<|
 Zn 29 28<|
 Zk 30 .eql 29 1<|
 Zm 27 30 .nil)<| .cond (.t 27) (Zr (Zm 32 0<|
 Zm 33 1<|
 Zo (.idx 34 1 (.t 33) (.c (Zz 0)))<|
 Zl 35 1 34<|
 Zq 36 false 164 [.t 32,.t 35]<|
 Zm 31 36<|
 Zo (.ext 37 (.t 31) 0)<|
 Zo (.ext 38 (.t 31) 1)<|
 Zm 7 37<|
 Zm 8 38 .nil)<|Zr (Zm 39 7<|
 Zm 40 8<|
 Zo (.conv 41 .u64 (.t 40))<|
 Zq 42 false 150 [.t 41]<|
 Zm 4 39<|
 Zm 5 42<|
 Zc 6 0 .nil) .ret) .skip)))<|Zr (Zm 43 1<|
 Zm 44 1<|
 Zn 45 44<|
 Zk 46 .sub 45 1<|
 Zi 47 1 43 46<|
 Zl 48 1 47<|
 Zq 49 false 165 [.t 48]<|
 Zm 9 49 .nil)<|Zr (Zm 50 0<|
 Zm 51 9<|
 Zq 52 false 166 [.t 50,.t 51]<|
 Zo (.bs 53 1 152 [.c (.int .u16 0),.c (.int .u16 0)])<|
 Zo (.app 54 1 2 152 (.t 52) (.t 53))<|
 Zm 55 0<|
 Zn 56 55<|
 Zk 57 .add 56 1<|
 Zo (.sl 58 1 (.t 54) none (some (.t 57)) none)<|
 Zm 10 58 .nil)<|Zr (Zm 59 1<|
 Zm 60 9<|
 Zq 61 false 166 [.t 59,.t 60]<|
 Zm 11 61 .nil)<|Zr (Zm 62 10<|
 Zm 63 11<|
 Zq 64 false 167 [.t 62,.t 63]<|
 Zm 4 64 .nil)<|Zr (Zm 65 4<|
 Zm 66 10<|
 Zq 67 false 162 [.t 66]<|
 Zm 68 9<|
 Zo (.un 69 .neg (.t 68))<|
 Zq 70 false 166 [.t 67,.t 69]<|
 Zm 4 65<|
 Zm 5 70<|
 Zc 6 0 .nil) .ret⟩
theorem TX:Qe Tryz.prog Tryz.f151=some Aq:=by kernel_rfl
def Ar:az:=⟨31,[.t 6],Zr (Zo (.mv 6 (.c (.bool false))) .nil)<|Zr (Zl 7 1 0<|
 Zo (.bin 8 .geq false (.t 7) (.c (.int .u64 65536)))<|
 Zm 9 8<|
 Zg 9 false (.ld 10 1 false (.t 0))<|
 Zg 9 false (.ld 11 1 false (.t 1))<|
 Zg 9 false (.ld 12 1 false (.t 2))<|
 Zg 9 false (.bin 13 .sub false (.t 12) (.c (Zz 2)))<|
 Zg 9 false (.idx 14 1 (.t 11) (.t 13))<|
 Zg 9 false (.ld 15 1 false (.t 14))<|
 Zg 9 false (.conv 16 .u64 (.t 15))<|
 Zg 9 false (.bin 17 .mul false (.t 10) (.t 16))<|
 Zg 9 false (.ld 18 1 false (.t 3))<|
 Zg 9 false (.bin 19 .shl false (.t 18) (.c (.int .u64 16)))<|
 Zg 9 false (.ld 20 1 false (.t 4))<|
 Zg 9 false (.ld 21 1 false (.t 5))<|
 Zg 9 false (.ld 22 1 false (.t 2))<|
 Zg 9 false (.bin 23 .add false (.t 21) (.t 22))<|
 Zg 9 false (.bin 24 .sub false (.t 23) (.c (Zz 2)))<|
 Zg 9 false (.idx 25 1 (.t 20) (.t 24))<|
 Zg 9 false (.ld 26 1 false (.t 25))<|
 Zg 9 false (.conv 27 .u64 (.t 26))<|
 Zg 9 false (.bin 28 .or false (.t 19) (.t 27))<|
 Zg 9 false (.bin 29 .gtr false (.t 17) (.t 28))<|
 Zo (.pick 30 (.t 9) (.c (.bool true)) (.t 29))<|
 Zm 6 30 .nil) .ret⟩
theorem TY:Qe Tryz.prog Tryz.f178=some Ar:=by kernel_rfl
def As:az:=⟨54,[.t 6],Zr (Zo (.mv 6 (.c (.bool false))) .nil)<|Zr (Zo (.mv 7 (.c (.int .u32 0))) .nil)<|Zr (Zo (.mv 8 (.c (.int .i32 0))) .nil)<| .seq (Zr (Zm 11 0<|
 Zn 12 11<|
 Zc 13 0 .nil)<| .block 0<| .loop<|Zr (Zb 14 .lss 13 12 .nil)<| .seq (.cond (.t 14) .skip (.exit 0))<| .seq (.block 1<|Zr (Zm 15 13<|
 Zm 9 15 .nil)<| .seq (Zr (Zm 16 9<|
 Zm 17 1<|
 Zn 18 17<|
 Zb 19 .lss 16 18 .nil)<| .cond (.t 19) (.rg (Zm 20 7<|
 Zm 21 2<|
 Zm 22 1<|
 Zm 23 9<|
 Zi 24 1 22 23<|
 Zl 25 1 24<|
 Zo (.conv 26 .u32 (.t 25))<|
 Zb 27 .mul 21 26<|
 Zb 28 .add 20 27<|
 Zm 7 28 .nil)) .skip)<|Zr (Zm 29 0<|
 Zm 30 9<|
 Zi 31 1 29 30<|
 Zl 32 1 31<|
 Zo (.conv 33 .i32 (.t 32))<|
 Zm 34 7<|
 Zo (.conv 35 .u16 (.t 34))<|
 Zo (.conv 36 .i32 (.t 35))<|
 Zb 37 .sub 33 36<|
 Zm 38 8<|
 Zb 39 .sub 37 38<|
 Zm 10 39 .nil)<|Zr (Zm 40 7<|
 Zo (.bin 41 .shr false (.t 40) (.c (.int .u64 16)))<|
 Zm 7 41 .nil)<|Zr (Zo (.mv 8 (.c (.int .i32 0))) .nil)<| .seq (Zr (Zm 42 10<|
 Zo (.bin 43 .lss false (.t 42) (.c (.int .i32 0))) .nil)<| .cond (.t 43) (Zr (Zm 44 10<|
 Zo (.bin 45 .add false (.t 44) (.c (.int .i32 65536)))<|
 Zm 10 45 .nil)<| .rg (Zo (.mv 8 (.c (.int .i32 1))) .nil)) .skip)<| .rg (Zm 46 0<|
 Zm 47 9<|
 Zm 48 10<|
 Zo (.conv 49 .u16 (.t 48))<|
 Zi 50 1 46 47<|
 Zs 1 50 49 .nil))<| .rg (Zk 51 .add 13 1<|
 Zm 13 51 .nil))<|Zr (Zm 52 8<|
 Zo (.bin 53 .gtr false (.t 52) (.c (.int .i32 0)))<|
 Zm 6 53 .nil) .ret⟩
theorem TZ:Qe Tryz.prog Tryz.f179=some As:=by kernel_rfl
def At:az:=⟨37,[],Zr (Zo (.mv 4 (.c (.int .u32 0))) .nil)<|Zr (Zm 6 0<|
 Zn 7 6<|
 Zc 8 0 .nil)<| .block 0<| .loop<|Zr (Zb 9 .lss 8 7 .nil)<| .seq (.cond (.t 9) .skip (.exit 0))<| .seq (.block 1<|Zr (Zm 10 8<|
 Zm 5 10 .nil)<|Zr (Zm 11 4<|
 Zm 12 0<|
 Zm 13 5<|
 Zi 14 1 12 13<|
 Zl 15 1 14<|
 Zo (.conv 16 .u32 (.t 15))<|
 Zb 17 .add 11 16<|
 Zm 4 17 .nil)<| .seq (Zr (Zm 18 5<|
 Zm 19 1<|
 Zn 20 19<|
 Zb 21 .lss 18 20 .nil)<| .cond (.t 21) (.rg (Zm 22 4<|
 Zm 23 1<|
 Zm 24 5<|
 Zi 25 1 23 24<|
 Zl 26 1 25<|
 Zo (.conv 27 .u32 (.t 26))<|
 Zb 28 .add 22 27<|
 Zm 4 28 .nil)) .skip)<|Zr (Zm 29 0<|
 Zm 30 5<|
 Zm 31 4<|
 Zo (.conv 32 .u16 (.t 31))<|
 Zi 33 1 29 30<|
 Zs 1 33 32 .nil)<| .rg (Zm 34 4<|
 Zo (.bin 35 .shr false (.t 34) (.c (.int .u64 16)))<|
 Zm 4 35 .nil))<| .rg (Zk 36 .add 8 1<|
 Zm 8 36 .nil)⟩
theorem Ua:Qe Tryz.prog Tryz.f180=some At:=by kernel_rfl
def Au:az:=⟨51,[.t 4],Zr (Zo (.mv 4 (.c .aa)) .nil)<|Zr (Zm 12 0<|
 Zq 13 false 148 [.t 12]<|
 Zm 14 1<|
 Zq 15 false 148 [.t 14]<|
 Zm 0 13<|
 Zm 1 15 .nil)<| .seq (.block 0<| .loop<| .seq (Zr (Zm 16 1<|
 Zn 17 16<|
 Zk 18 .gtr 17 0 .nil)<| .cond (.t 18) .skip (.exit 0))<| .block 1<|Zr (Zm 20 0<|
 Zq 21 false 149 [.t 20]<|
 Zm 19 21<|
 Zo (.ext 22 (.t 19) 0)<|
 Zo (.ext 23 (.t 19) 1)<|
 Zm 5 22<|
 Zm 6 23 .nil)<|Zr (Zm 25 1<|
 Zq 26 false 149 [.t 25]<|
 Zm 24 26<|
 Zo (.ext 27 (.t 24) 0)<|
 Zo (.ext 28 (.t 24) 1)<|
 Zm 7 27<|
 Zm 8 28 .nil)<| .seq (Zr (Zm 29 6<|
 Zm 30 29<|
 Zg 30 true (.mv 31 (.t 8))<|
 Zo (.pick 32 (.t 30) (.t 31) (.c (.bool false))) .nil)<| .cond (.t 32) (.seq (.block 2<| .loop<| .seq (Zr (Zm 33 7<|
 Zo (.bin 34 .gtr false (.t 33) (.c (.int .u64 0))) .nil)<| .cond (.t 34) .skip (.exit 2))<| .block 3<| .rg (Zm 35 7<|
 Zm 36 5<|
 Zm 37 7<|
 Zb 38 .rem 36 37<|
 Zm 5 35<|
 Zm 7 38 .nil))<|Zr (Zm 39 5<|
 Zq 40 false 150 [.t 39]<|
 Zm 4 40 .nil) .ret) .skip)<|Zr (Zm 42 0<|
 Zm 43 1<|
 Zq 44 false 151 [.t 42,.t 43]<|
 Zm 41 44<|
 Zo (.ext 45 (.t 41) 0)<|
 Zo (.ext 46 (.t 41) 1)<|
 Zo (.ext 47 (.t 41) 2)<|
 Zm 9 45<|
 Zm 10 46<|
 Zm 11 47 .nil)<| .rg (Zm 48 1<|
 Zm 49 10<|
 Zm 0 48<|
 Zm 1 49 .nil))<|Zr (Zm 50 0<|
 Zm 4 50 .nil) .ret⟩
theorem Ub:Qe Tryz.prog Tryz.f113=some Au:=by kernel_rfl
def qJ:az:=⟨78,[.t 4],Zr (Zo (.mv 4 (.c .aa)) .nil)<|Zr (Zm 11 0<|
 Zq 12 false 162 [.t 11]<|
 Zm 0 12 .nil)<| .seq (Zr (Zm 13 1<|
 Zk 14 .lss 13 (-1048576)<|
 Zm 15 14<|
 Zg 15 false (.mv 16 (.t 1))<|
 Zg 15 false (.bin 17 .gtr false (.t 16) (.c (Zz 1048576)))<|
 Zo (.pick 18 (.t 15) (.c (.bool true)) (.t 17))<|
 Zm 19 18<|
 Zg 19 false (.mv 20 (.t 0))<|
 Zg 19 false (.len 21 (.t 20))<|
 Zg 19 false (.bin 22 .eql false (.t 21) (.c (Zz 0)))<|
 Zo (.pick 23 (.t 19) (.c (.bool true)) (.t 22)) .nil)<| .cond (.t 23) (Zr (Zo (.mv 4 (.c .aa)) .nil) .ret) .skip)<| .seq (Zr (Zm 24 1<|
 Zk 25 .lss 24 0 .nil)<| .cond (.t 25) (Zr (Zm 26 0<|
 Zm 27 1<|
 Zo (.un 28 .neg (.t 27))<|
 Zq 29 false 177 [.t 26,.t 28]<|
 Zm 4 29 .nil) .ret) .skip)<|Zr (Zm 30 1<|
 Zk 31 .quo 30 16<|
 Zm 32 1<|
 Zk 33 .rem 32 16<|
 Zm 5 31<|
 Zm 6 33 .nil)<|Zr (Zm 34 0<|
 Zn 35 34<|
 Zm 36 5<|
 Zb 37 .add 35 36<|
 Zk 38 .add 37 1<|
 Zm 39 0<|
 Zn 40 39<|
 Zm 41 5<|
 Zb 42 .add 40 41<|
 Zk 43 .add 42 3<|
 Zo (.mk 44 1 2 152 (.int .u16 0) (.t 38) (.t 43))<|
 Zm 7 44 .nil)<| .seq (Zr (Zm 45 0<|
 Zn 46 45<|
 Zc 47 0 .nil)<| .block 0<| .loop<|Zr (Zb 48 .lss 47 46 .nil)<| .seq (.cond (.t 48) .skip (.exit 0))<| .seq (.block 1<|Zr (Zm 49 47<|
 Zi 50 1 45 47<|
 Zl 51 1 50<|
 Zm 8 49<|
 Zm 9 51 .nil)<|Zr (Zm 52 9<|
 Zo (.conv 53 .u32 (.t 52))<|
 Zm 54 6<|
 Zb 55 .shl 53 54<|
 Zm 10 55 .nil)<|Zr (Zm 56 7<|
 Zm 57 8<|
 Zm 58 5<|
 Zb 59 .add 57 58<|
 Zi 60 1 56 59<|
 Zl 61 1 60<|
 Zm 62 10<|
 Zo (.conv 63 .u16 (.t 62))<|
 Zb 64 .or 61 63<|
 Zi 65 1 56 59<|
 Zs 1 65 64 .nil)<| .rg (Zm 66 7<|
 Zm 67 8<|
 Zm 68 5<|
 Zb 69 .add 67 68<|
 Zk 70 .add 69 1<|
 Zm 71 10<|
 Zo (.bin 72 .shr false (.t 71) (.c (.int .u64 16)))<|
 Zo (.conv 73 .u16 (.t 72))<|
 Zi 74 1 66 70<|
 Zs 1 74 73 .nil))<| .rg (Zk 75 .add 47 1<|
 Zm 47 75 .nil))<|Zr (Zm 76 7<|
 Zq 77 false 162 [.t 76]<|
 Zm 4 77 .nil) .ret⟩
theorem CG:Qe Tryz.prog Tryz.f166=some qJ:=by kernel_rfl
def Av:az:=⟨63,[.t 4],Zr (Zo (.mv 4 (.c .aa)) .nil)<|Zr (Zm 10 1<|
 Zk 11 .quo 10 16<|
 Zm 12 1<|
 Zk 13 .rem 12 16<|
 Zm 5 11<|
 Zm 6 13 .nil)<| .seq (Zr (Zm 14 5<|
 Zm 15 0<|
 Zn 16 15<|
 Zb 17 .geq 14 16 .nil)<| .cond (.t 17) (Zr (Zo (.mv 4 (.c .aa)) .nil) .ret) .skip)<|Zr (Zm 18 0<|
 Zn 19 18<|
 Zm 20 5<|
 Zb 21 .sub 19 20<|
 Zo (.mk 22 1 2 152 (.int .u16 0) (.t 21) (.t 21))<|
 Zm 7 22 .nil)<| .seq (Zr (Zm 23 7<|
 Zn 24 23<|
 Zc 25 0 .nil)<| .block 0<| .loop<|Zr (Zb 26 .lss 25 24 .nil)<| .seq (.cond (.t 26) .skip (.exit 0))<| .seq (.block 1<|Zr (Zm 27 25<|
 Zm 8 27 .nil)<|Zr (Zm 28 0<|
 Zm 29 8<|
 Zm 30 5<|
 Zb 31 .add 29 30<|
 Zi 32 1 28 31<|
 Zl 33 1 32<|
 Zo (.conv 34 .u32 (.t 33))<|
 Zm 9 34 .nil)<| .seq (Zr (Zm 35 8<|
 Zm 36 5<|
 Zb 37 .add 35 36<|
 Zk 38 .add 37 1<|
 Zm 39 0<|
 Zn 40 39<|
 Zb 41 .lss 38 40 .nil)<| .cond (.t 41) (.rg (Zm 42 9<|
 Zm 43 0<|
 Zm 44 8<|
 Zm 45 5<|
 Zb 46 .add 44 45<|
 Zk 47 .add 46 1<|
 Zi 48 1 43 47<|
 Zl 49 1 48<|
 Zo (.conv 50 .u32 (.t 49))<|
 Zo (.bin 51 .shl false (.t 50) (.c (.int .u64 16)))<|
 Zb 52 .or 42 51<|
 Zm 9 52 .nil)) .skip)<| .rg (Zm 53 7<|
 Zm 54 8<|
 Zm 55 9<|
 Zm 56 6<|
 Zb 57 .shr 55 56<|
 Zo (.conv 58 .u16 (.t 57))<|
 Zi 59 1 53 54<|
 Zs 1 59 58 .nil))<| .rg (Zk 60 .add 25 1<|
 Zm 25 60 .nil))<|Zr (Zm 61 7<|
 Zq 62 false 162 [.t 61]<|
 Zm 4 62 .nil) .ret⟩
theorem Uc:Qe Tryz.prog Tryz.f177=some Av:=by kernel_rfl
def Aw:az:=⟨6,[.t 2],Zr (Zc 2 0 .nil)<|Zr (Zm 3 0<|
 Zq 4 false 176 [.t 3]<|
 Zo (.bin 5 .sub false (.c (Zz 16)) (.t 4))<|
 Zm 2 5 .nil) .ret⟩
theorem Ud:Qe Tryz.prog Tryz.f165=some Aw:=by kernel_rfl
def Ax:az:=⟨15,[.cell 4 2 true],Zr (Zo (.alloc 4 2 30 (.agg [.bool false,.aa])) .nil)<|Zr (Zm 5 1<|
 Zq 6 false 148 [.t 5]<|
 Zm 1 6 .nil)<|Zr (Zm 7 0<|
 Zm 8 7<|
 Zg 8 true (.mv 9 (.t 1))<|
 Zg 8 true (.len 10 (.t 9))<|
 Zg 8 true (.bin 11 .gtr false (.t 10) (.c (Zz 0)))<|
 Zo (.pick 12 (.t 8) (.t 11) (.c (.bool false)))<|
 Zm 13 1<|
 Zo (.cw 14 [.bool false,.aa] [(0,1,.t 12),(1,1,.t 13)])<|
 Zs 2 4 14 .nil) .ret⟩
theorem Ue:Qe Tryz.prog Tryz.f196=some Ax:=by kernel_rfl
def Ay:az:=⟨13,[.cell 4 2 true],Zr (Zo (.alloc 4 2 30 (.agg [.bool false,.aa])) .nil)<|Zr (Zm 5 0<|
 Zm 6 5<|
 Zg 6 true (.mv 7 (.t 1))<|
 Zg 6 true (.len 8 (.t 7))<|
 Zg 6 true (.bin 9 .gtr false (.t 8) (.c (Zz 0)))<|
 Zo (.pick 10 (.t 6) (.t 9) (.c (.bool false)))<|
 Zm 11 1<|
 Zo (.cw 12 [.bool false,.aa] [(0,1,.t 10),(1,1,.t 11)])<|
 Zs 2 4 12 .nil) .ret⟩
theorem Uf:Qe Tryz.prog Tryz.f155=some Ay:=by kernel_rfl
def Az:az:=⟨27,[.t 2],Zr (Zo (.box 1 2 30 (.t 0))<|
 Zo (.mv 2 (.c (.bool false))) .nil)<|Zr (Zf 4 1 1<|
 Zl 5 1 4<|
 Zn 6 5<|
 Zm 3 6 .nil)<|Zr (Zm 7 3<|
 Zk 8 .eql 7 0<|
 Zm 9 8<|
 Zg 9 true (.aX 10 0 (.t 1))<|
 Zg 9 true (.ld 11 1 false (.t 10))<|
 Zg 9 true (.un 12 .not (.t 11))<|
 Zo (.pick 13 (.t 9) (.t 12) (.c (.bool false)))<|
 Zm 14 13<|
 Zg 14 false (.mv 15 (.t 3))<|
 Zg 14 false (.bin 16 .gtr false (.t 15) (.c (Zz 0)))<|
 Zg 14 false (.mv 17 (.t 16))<|
 Zg 17 true (.aX 18 1 (.t 1))<|
 Zg 17 true (.ld 19 1 false (.t 18))<|
 Zg 17 true (.mv 20 (.t 3))<|
 Zg 17 true (.bin 21 .sub false (.t 20) (.c (Zz 1)))<|
 Zg 17 true (.idx 22 1 (.t 19) (.t 21))<|
 Zg 17 true (.ld 23 1 false (.t 22))<|
 Zg 17 true (.bin 24 .neq false (.t 23) (.c (.int .u16 0)))<|
 Zg 14 false (.pick 25 (.t 17) (.t 24) (.c (.bool false)))<|
 Zo (.pick 26 (.t 14) (.c (.bool true)) (.t 25))<|
 Zm 2 26 .nil) .ret⟩
theorem Ug:Qe Tryz.prog Tryz.f111=some Az:=by kernel_rfl
def AA:az:=⟨8,[.cell 2 2 true],Zr (Zo (.box 1 2 30 (.t 0))<|
 Zo (.alloc 2 2 30 (.agg [.bool false,.aa])) .nil)<|Zr (Zf 3 0 1<|
 Zl 4 1 3<|
 Zf 5 1 1<|
 Zl 6 1 5<|
 Zq 7 false 196 [.t 4,.t 6]<|
 Zs 2 2 7 .nil) .ret⟩
theorem Uh:Qe Tryz.prog Tryz.f194=some AA:=by kernel_rfl
def AB:az:=⟨16,[.cell 2 2 true],Zr (Zo (.alloc 2 2 30 (.agg [.bool false,.aa])) .nil)<| .seq (Zr (Zm 3 0<|
 Zk 4 .lss 3 0 .nil)<| .cond (.t 4) (Zr (Zm 5 0<|
 Zk 6 .add 5 1<|
 Zo (.un 7 .neg (.t 6))<|
 Zo (.conv 8 .u64 (.t 7))<|
 Zo (.bin 9 .add false (.t 8) (.c (.int .u64 1)))<|
 Zq 10 false 150 [.t 9]<|
 Zq 11 false 155 [.c (.bool true),.t 10]<|
 Zs 2 2 11 .nil) .ret) .skip)<|Zr (Zm 12 0<|
 Zo (.conv 13 .u64 (.t 12))<|
 Zq 14 false 150 [.t 13]<|
 Zq 15 false 155 [.c (.bool false),.t 14]<|
 Zs 2 2 15 .nil) .ret⟩
theorem Ui:Qe Tryz.prog Tryz.f118=some AB:=by kernel_rfl
def AD:az:=⟨11,[.t 2],Zr (Zo (.box 1 2 30 (.t 0))<|
 Zc 2 0 .nil)<| .seq (.block 0<|Zr (Zf 4 1 1<|
 Zl 5 1 4<|
 Zq 6 false 187 [.t 5]<|
 Zk 7 .eql 6 0<|
 Zm 3 7 .nil)<| .cond (.t 3) (Zr (Zc 2 0 .nil) .ret) (Zr (Zf 9 0 1<|
 Zl 10 1 9<|
 Zm 8 10 .nil)<| .cond (.t 8) (Zr (Zc 2 (-1) .nil) .ret) .skip))<|Zr (Zc 2 1 .nil) .ret⟩
theorem Uj:Qe Tryz.prog Tryz.f171=some AD:=by kernel_rfl
def AE:az:=⟨40,[.cell 4 2 true],Zr (Zo (.box 2 2 30 (.t 0))<|
 Zo (.box 3 2 30 (.t 1))<|
 Zo (.alloc 4 2 30 (.agg [.bool false,.aa])) .nil)<| .seq (Zr (Zf 7 0 2<|
 Zl 8 1 7<|
 Zf 9 0 3<|
 Zl 10 1 9<|
 Zo (.bin 11 .eql true (.t 8) (.t 10)) .nil)<| .cond (.t 11) (Zr (Zf 12 0 2<|
 Zl 13 1 12<|
 Zf 14 1 2<|
 Zl 15 1 14<|
 Zf 16 1 3<|
 Zl 17 1 16<|
 Zq 18 true 197 [.t 15,.t 17]<|
 Zq 19 true 155 [.t 13,.t 18]<|
 Zs 2 4 19 .nil) .ret) .skip)<| .seq (Zr (Zf 20 1 2<|
 Zl 21 1 20<|
 Zf 22 1 3<|
 Zl 23 1 22<|
 Zq 24 false 163 [.t 21,.t 23]<|
 Zk 25 .lss 24 0 .nil)<| .cond (.t 25) (.rg (Zh 26 2 3<|
 Zh 27 2 2<|
 Zs 2 2 26<|
 Zs 2 3 27 .nil)) .skip)<|Zr (Zf 29 1 2<|
 Zl 30 1 29<|
 Zf 31 1 3<|
 Zl 32 1 31<|
 Zq 33 false 198 [.t 30,.t 32]<|
 Zm 28 33<|
 Zo (.ext 34 (.t 28) 0)<|
 Zo (.ext 35 (.t 28) 1)<|
 Zm 5 34<|
 Zm 6 35 .nil)<|Zr (Zf 36 0 2<|
 Zl 37 1 36<|
 Zm 38 5<|
 Zq 39 false 155 [.t 37,.t 38]<|
 Zs 2 4 39 .nil) .ret⟩
theorem Uk:Qe Tryz.prog Tryz.f195=some AE:=by kernel_rfl
def AF:az:=⟨16,[.cell 4 2 true],Zr (Zo (.box 2 2 30 (.t 0))<|
 Zo (.box 3 2 30 (.t 1))<|
 Zo (.alloc 4 2 30 (.agg [.bool false,.aa])) .nil)<|Zr (Zf 5 0 2<|
 Zl 6 1 5<|
 Zf 7 0 3<|
 Zl 8 1 7<|
 Zo (.bin 9 .neq true (.t 6) (.t 8))<|
 Zf 10 1 2<|
 Zl 11 1 10<|
 Zf 12 1 3<|
 Zl 13 1 12<|
 Zq 14 true 183 [.t 11,.t 13]<|
 Zq 15 true 155 [.t 9,.t 14]<|
 Zs 2 4 15 .nil) .ret⟩
theorem Ul:Qe Tryz.prog Tryz.f182=some AF:=by kernel_rfl
def AG:az:=⟨17,[.t 2],Zr (Zo (.mv 2 (.c (.bool false))) .nil)<|Zr (Zm 4 0<|
 Zn 5 4<|
 Zo (.cw 6 [Zz 0,.int .u16 0] [(0,1,.t 5)])<|
 Zo (.alloc 3 2 185 (.agg [Zz 0,.int .u16 0]))<|
 Zs 2 3 6 .nil)<| .seq (Zr (Zm 7 0<|
 Zn 8 7<|
 Zk 9 .gtr 8 0 .nil)<| .cond (.t 9) (.rg (Zm 10 0<|
 Zo (.idx 11 1 (.t 10) (.c (Zz 0)))<|
 Zl 12 1 11<|
 Zf 13 1 3<|
 Zs 1 13 12 .nil)) .skip)<|Zr (Zh 14 2 3<|
 Zo (.cw 15 [Zz 0,.int .u16 0] [(0,1,.c (Zz 1)),(1,1,.c (.int .u16 1))])<|
 Zo (.eqs 16 false (.t 14) (.t 15))<|
 Zm 2 16 .nil) .ret⟩
theorem Um:Qe Tryz.prog Tryz.f112=some AG:=by kernel_rfl
def AH:az:=⟨2,[.t 0],Zr (Zo (.mv 0 (.c .aa)) .nil)<|Zr (Zo (.bs 1 1 152 [.c (.int .u16 1)])<|
 Zm 0 1 .nil) .ret⟩
theorem Un:Qe Tryz.prog Tryz.f119=some AH:=by kernel_rfl
def AI:az:=⟨52,[.cell 4 3 true],Zr (Zo (.box 2 2 30 (.t 0))<|
 Zo (.alloc 4 3 32 (.agg [.bool false,.aa,.aa])) .nil)<|Zr (Zm 6 1<|
 Zq 7 false 148 [.t 6]<|
 Zm 1 7 .nil)<|Zr (Zh 8 2 2<|
 Zq 9 false 194 [.t 8]<|
 Zs 2 2 9 .nil)<| .seq (Zr (Zm 10 1<|
 Zn 11 10<|
 Zk 12 .eql 11 0<|
 Zm 13 12<|
 Zg 13 false (.aX 14 1 (.t 2))<|
 Zg 13 false (.ld 15 1 false (.t 14))<|
 Zg 13 false (.len 16 (.t 15))<|
 Zg 13 false (.bin 17 .eql false (.t 16) (.c (Zz 0)))<|
 Zo (.pick 18 (.t 13) (.c (.bool true)) (.t 17)) .nil)<| .cond (.t 18) (Zr (Zq 19 false 119 []<|
 Zo (.cw 20 [.bool false,.aa,.aa] [(2,1,.t 19)])<|
 Zs 3 4 20 .nil) .ret) .skip)<| .seq (Zr (Zm 21 1<|
 Zq 22 false 112 [.t 21] .nil)<| .cond (.t 22) (Zr (Zh 23 2 2<|
 Zm 24 1<|
 Zo (.cw 25 [.bool false,.aa,.aa] [(0,2,.t 23),(2,1,.t 24)])<|
 Zs 3 4 25 .nil) .ret) .skip)<|Zr (Zf 26 1 2<|
 Zl 27 1 26<|
 Zm 28 1<|
 Zq 29 false 113 [.t 27,.t 28]<|
 Zm 5 29 .nil)<| .seq (Zr (Zm 30 5<|
 Zq 31 false 112 [.t 30]<|
 Zu 32 31 .nil)<| .cond (.t 32) (Zr (Zf 34 1 2<|
 Zl 35 1 34<|
 Zm 36 5<|
 Zq 37 false 151 [.t 35,.t 36]<|
 Zm 33 37<|
 Zo (.ext 38 (.t 33) 0)<|
 Zo (.ext 39 (.t 33) 1)<|
 Zo (.ext 40 (.t 33) 2)<|
 Zf 41 1 2<|
 Zs 1 41 38 .nil)<| .rg (Zm 43 1<|
 Zm 44 5<|
 Zq 45 false 151 [.t 43,.t 44]<|
 Zm 42 45<|
 Zo (.ext 46 (.t 42) 0)<|
 Zo (.ext 47 (.t 42) 1)<|
 Zo (.ext 48 (.t 42) 2)<|
 Zm 1 46 .nil)) .skip)<|Zr (Zh 49 2 2<|
 Zm 50 1<|
 Zo (.cw 51 [.bool false,.aa,.aa] [(0,2,.t 49),(2,1,.t 50)])<|
 Zs 3 4 51 .nil) .ret⟩
theorem Uo:Qe Tryz.prog Tryz.f181=some AI:=by kernel_rfl
def AJ:az:=⟨14,[.cell 2 2 true,.t 3],Zr (Zo (.box 1 3 32 (.t 0))<|
 Zo (.alloc 2 2 30 (.agg [.bool false,.aa]))<|
 Zo (.mv 3 (.c .aa)) .nil)<| .seq (Zr (Zf 4 2 1<|
 Zl 5 1 4<|
 Zq 6 false 187 [.t 5]<|
 Zk 7 .eql 6 0 .nil)<| .cond (.t 7) (Zr (Zo (.cw 8 [.bool false,.aa] [])<|
 Zq 9 false 119 []<|
 Zs 2 2 8<|
 Zm 3 9 .nil) .ret) .skip)<|Zr (Zf 10 0 1<|
 Zh 11 2 10<|
 Zf 12 2 1<|
 .br (Zl 13 1 12<|
 Zs 2 2 11<|
 Zm 3 13 .nil) (Zs 2 2 11<|
 Zl 13 1 12<|
 Zm 3 13 .nil)) .ret⟩
theorem TF:Qe Tryz.prog Tryz.f170=some AJ:=by kernel_rfl
def AK:az:=⟨5,[.cell 2 2 true],Zr (Zo (.alloc 2 2 30 (.agg [.bool false,.aa])) .nil)<|Zr (Zm 3 0<|
 Zo (.cw 4 [.bool false,.aa] [(1,1,.t 3)])<|
 Zs 2 2 4 .nil) .ret⟩
theorem TG:Qe Tryz.prog Tryz.f191=some AK:=by kernel_rfl
def Ev:az:=⟨36,[.t 2],Zr (Zo (.box 1 3 32 (.t 0))<|
 Zo (.mv 2 (.c (.bool false))) .nil)<|Zr (Zf 4 2 1<|
 Zl 5 1 4<|
 Zn 6 5<|
 Zm 3 6 .nil)<| .seq (Zr (Zf 7 0 1<|
 Zh 8 2 7<|
 Zq 9 false 111 [.t 8]<|
 Zu 10 9<|
 Zm 11 10<|
 Zg 11 false (.mv 12 (.t 3))<|
 Zg 11 false (.bin 13 .eql false (.t 12) (.c (Zz 0)))<|
 Zo (.pick 14 (.t 11) (.c (.bool true)) (.t 13))<|
 Zm 15 14<|
 Zg 15 false (.aX 16 2 (.t 1))<|
 Zg 15 false (.ld 17 1 false (.t 16))<|
 Zg 15 false (.mv 18 (.t 3))<|
 Zg 15 false (.bin 19 .sub false (.t 18) (.c (Zz 1)))<|
 Zg 15 false (.idx 20 1 (.t 17) (.t 19))<|
 Zg 15 false (.ld 21 1 false (.t 20))<|
 Zg 15 false (.bin 22 .eql false (.t 21) (.c (.int .u16 0)))<|
 Zo (.pick 23 (.t 15) (.c (.bool true)) (.t 22)) .nil)<| .cond (.t 23) (Zr (Zo (.mv 2 (.c (.bool false))) .nil) .ret) .skip)<|Zr (Zf 24 2 1<|
 Zl 25 1 24<|
 Zq 26 false 112 [.t 25]<|
 Zm 27 26<|
 Zg 27 false (.aX 28 0 (.t 1))<|
 Zg 27 false (.aX 29 1 (.t 28))<|
 Zg 27 false (.ld 30 1 false (.t 29))<|
 Zg 27 false (.aX 31 2 (.t 1))<|
 Zg 27 false (.ld 32 1 false (.t 31))<|
 Zg 27 false (.call (some 33) false (.c (.fn 113 [] [])) [.t 30,.t 32])<|
 Zg 27 false (.call (some 34) false (.c (.fn 112 [] [])) [.t 33])<|
 Zo (.pick 35 (.t 27) (.c (.bool true)) (.t 34))<|
 Zm 2 35 .nil) .ret⟩
theorem WV:Qe Tryz.prog Tryz.f60=some Ev:=by kernel_rfl
def EB:az:=⟨7,[.cell 2 3 true],Zr (Zo (.alloc 2 3 32 (.agg [.bool false,.aa,.aa])) .nil)<|Zr (Zm 3 0<|
 Zq 4 false 118 [.t 3]<|
 Zq 5 false 119 []<|
 Zo (.cw 6 [.bool false,.aa,.aa] [(0,2,.t 4),(2,1,.t 5)])<|
 Zs 3 2 6 .nil) .ret⟩
theorem WW:Qe Tryz.prog Tryz.f65=some EB:=by kernel_rfl
def AL:az:=⟨12,[.t 2],Zr (Zo (.box 1 3 32 (.t 0))<|
 Zc 2 0 .nil)<|Zr (Zh 6 3 1<|
 Zq 7 false 170 [.t 6]<|
 Zm 5 7<|
 Zo (.ext 8 (.t 5) 0)<|
 Zo (.ext 9 (.t 5) 1)<|
 Zo (.alloc 3 2 30 (.agg [.bool false,.aa]))<|
 Zs 2 3 8<|
 Zm 4 9 .nil)<|Zr (Zh 10 2 3<|
 Zq 11 false 171 [.t 10]<|
 Zm 2 11 .nil) .ret⟩
theorem TH:Qe Tryz.prog Tryz.f154=some AL:=by kernel_rfl
def AM:az:=⟨17,[.cell 2 2 true],Zr (Zo (.alloc 2 2 30 (.agg [.bool false,.aa])) .nil)<|Zr (Zo (.alloc 3 2 30 (.agg [.bool false,.aa])) .nil)<| .seq (Zr (Zm 6 0<|
 Zn 7 6<|
 Zc 8 0 .nil)<| .block 0<| .loop<|Zr (Zb 9 .lss 8 7 .nil)<| .seq (.cond (.t 9) .skip (.exit 0))<| .seq (.block 1<|Zr (Zi 10 2 6 8<|
 Zh 11 2 10<|
 Zo (.alloc 5 2 30 (.agg [.bool false,.aa]))<|
 Zs 2 5 11 .nil)<| .rg (Zh 12 2 3<|
 Zh 13 2 5<|
 Zq 14 false 195 [.t 12,.t 13]<|
 Zs 2 3 14 .nil))<| .rg (Zk 15 .add 8 1<|
 Zm 8 15 .nil))<|Zr (Zh 16 2 3<|
 Zs 2 2 16 .nil) .ret⟩
theorem TI:Qe Tryz.prog Tryz.f190=some AM:=by kernel_rfl
def AN:az:=⟨45,[.cell 4 3 true],Zr (Zo (.box 2 3 32 (.t 0))<|
 Zo (.box 3 3 32 (.t 1))<|
 Zo (.alloc 4 3 32 (.agg [.bool false,.aa,.aa])) .nil)<|Zr (Zh 10 3 2<|
 Zq 11 false 170 [.t 10]<|
 Zm 9 11<|
 Zo (.ext 12 (.t 9) 0)<|
 Zo (.ext 13 (.t 9) 1)<|
 Zo (.alloc 5 2 30 (.agg [.bool false,.aa]))<|
 Zs 2 5 12<|
 Zm 6 13 .nil)<|Zr (Zh 15 3 3<|
 Zq 16 false 170 [.t 15]<|
 Zm 14 16<|
 Zo (.ext 17 (.t 14) 0)<|
 Zo (.ext 18 (.t 14) 1)<|
 Zo (.alloc 7 2 30 (.agg [.bool false,.aa]))<|
 Zs 2 7 17<|
 Zm 8 18 .nil)<| .seq (Zr (Zm 19 6<|
 Zq 20 false 112 [.t 19]<|
 Zm 21 20<|
 Zg 21 true (.mv 22 (.t 8))<|
 Zg 21 true (.call (some 23) false (.c (.fn 112 [] [])) [.t 22])<|
 Zo (.pick 24 (.t 21) (.t 23) (.c (.bool false))) .nil)<| .cond (.t 24) (Zr (Zh 25 2 5<|
 Zh 26 2 7<|
 Zo (.bs 27 2 30 [.t 25,.t 26])<|
 Zq 28 false 190 [.t 27]<|
 Zm 29 6<|
 Zq 30 false 181 [.t 28,.t 29]<|
 Zs 3 4 30 .nil) .ret) .skip)<|Zr (Zh 31 2 5<|
 Zm 32 8<|
 Zh 35 2 7<|
 Zm 36 6<|
 Zm 41 6<|
 Zm 42 8<|
 Zq 33 true 191 [.t 32]<|
 Zq 34 true 182 [.t 31,.t 33]<|
 Zq 37 true 191 [.t 36]<|
 Zq 38 true 182 [.t 35,.t 37]<|
 Zo (.bs 39 2 30 [.t 34,.t 38])<|
 Zq 40 true 190 [.t 39]<|
 Zq 43 true 183 [.t 41,.t 42]<|
 Zq 44 true 181 [.t 40,.t 43]<|
 Zs 3 4 44 .nil) .ret⟩
theorem TJ:Qe Tryz.prog Tryz.f173=some AN:=by kernel_rfl
def AO:az:=⟨26,[.cell 4 3 true],Zr (Zo (.box 2 3 32 (.t 0))<|
 Zo (.box 3 3 32 (.t 1))<|
 Zo (.alloc 4 3 32 (.agg [.bool false,.aa,.aa])) .nil)<|Zr (Zh 10 3 2<|
 Zq 11 false 170 [.t 10]<|
 Zm 9 11<|
 Zo (.ext 12 (.t 9) 0)<|
 Zo (.ext 13 (.t 9) 1)<|
 Zo (.alloc 5 2 30 (.agg [.bool false,.aa]))<|
 Zs 2 5 12<|
 Zm 6 13 .nil)<|Zr (Zh 15 3 3<|
 Zq 16 false 170 [.t 15]<|
 Zm 14 16<|
 Zo (.ext 17 (.t 14) 0)<|
 Zo (.ext 18 (.t 14) 1)<|
 Zo (.alloc 7 2 30 (.agg [.bool false,.aa]))<|
 Zs 2 7 17<|
 Zm 8 18 .nil)<|Zr (Zh 19 2 5<|
 Zh 20 2 7<|
 Zq 21 false 182 [.t 19,.t 20]<|
 Zm 22 6<|
 Zm 23 8<|
 Zq 24 false 183 [.t 22,.t 23]<|
 Zq 25 false 181 [.t 21,.t 24]<|
 Zs 3 4 25 .nil) .ret⟩
theorem TK:Qe Tryz.prog Tryz.f168=some AO:=by kernel_rfl
def AP:az:=⟨108,[.t 4],Zr (Zo (.box 2 1 28 (.t 0))<|
 Zo (.box 3 1 28 (.t 1))<|
 Zo (.mv 4 (.c .aa)) .nil)<|Zr (Zl 12 1 3<|
 Zn 13 12<|
 Zo (.alloc 5 1 3 (Zz 0))<|
 Zs 1 5 13 .nil)<|Zr (Zl 14 1 2<|
 Zn 15 14<|
 Zl 16 1 5<|
 Zb 17 .sub 15 16<|
 Zo (.mk 18 1 2 152 (.int .u16 0) (.t 17) (.t 17))<|
 Zm 6 18 .nil)<| .seq (Zr (Zl 19 1 2<|
 Zn 20 19<|
 Zl 21 1 5<|
 Zb 22 .sub 20 21<|
 Zk 23 .sub 22 1<|
 Zo (.alloc 7 1 3 (Zz 0))<|
 Zs 1 7 23 .nil)<| .block 0<| .loop<| .seq (Zr (Zl 24 1 7<|
 Zk 25 .geq 24 0 .nil)<| .cond (.t 25) .skip (.exit 0))<| .seq (.block 1<|Zr (Zl 28 1 2<|
 Zl 29 1 7<|
 Zl 30 1 5<|
 Zb 31 .add 29 30<|
 Zi 32 1 28 31<|
 Zl 33 1 32<|
 Zo (.conv 34 .u64 (.t 33))<|
 Zo (.bin 35 .shl false (.t 34) (.c (.int .u64 16)))<|
 Zl 36 1 2<|
 Zl 37 1 7<|
 Zl 38 1 5<|
 Zb 39 .add 37 38<|
 Zk 40 .sub 39 1<|
 Zi 41 1 36 40<|
 Zl 42 1 41<|
 Zo (.conv 43 .u64 (.t 42))<|
 Zb 44 .or 35 43<|
 Zm 8 44 .nil)<|Zr (Zm 45 8<|
 Zl 46 1 3<|
 Zl 47 1 5<|
 Zk 48 .sub 47 1<|
 Zi 49 1 46 48<|
 Zl 50 1 49<|
 Zo (.conv 51 .u64 (.t 50))<|
 Zb 52 .quo 45 51<|
 Zm 53 8<|
 .br (Zl 54 1 3<|
 .br (Zl 55 1 5<|
 Zk 56 .sub 55 1<|
 Zi 57 1 54 56<|
 .br (Zl 58 1 57<|
 Zo (.conv 59 .u64 (.t 58))<|
 Zb 60 .rem 53 59<|
 .br (Zo (.alloc 9 1 115 (.int .u64 0))<|
 Zo (.alloc 10 1 115 (.int .u64 0))<|
 Zs 1 9 52<|
 Zs 1 10 60 .nil) (Zo (.alloc 10 1 115 (.int .u64 0))<|
 Zo (.alloc 9 1 115 (.int .u64 0))<|
 Zs 1 9 52<|
 Zs 1 10 60 .nil)) (.br (Zo (.alloc 9 1 115 (.int .u64 0))<|
 .br (Zl 58 1 57<|
 Zo (.conv 59 .u64 (.t 58))<|
 Zb 60 .rem 53 59<|
 Zo (.alloc 10 1 115 (.int .u64 0))<|
 Zs 1 9 52<|
 Zs 1 10 60 .nil) (Zo (.alloc 10 1 115 (.int .u64 0))<|
 .br (Zl 58 1 57<|
 Zo (.conv 59 .u64 (.t 58))<|
 Zb 60 .rem 53 59<|
 Zs 1 9 52<|
 Zs 1 10 60 .nil) (Zs 1 9 52<|
 Zl 58 1 57<|
 Zo (.conv 59 .u64 (.t 58))<|
 Zb 60 .rem 53 59<|
 Zs 1 10 60 .nil))) (Zo (.alloc 10 1 115 (.int .u64 0))<|
 .br (Zl 58 1 57<|
 Zo (.conv 59 .u64 (.t 58))<|
 Zb 60 .rem 53 59<|
 Zo (.alloc 9 1 115 (.int .u64 0))<|
 Zs 1 9 52<|
 Zs 1 10 60 .nil) (Zo (.alloc 9 1 115 (.int .u64 0))<|
 .br (Zl 58 1 57<|
 Zo (.conv 59 .u64 (.t 58))<|
 Zb 60 .rem 53 59<|
 Zs 1 9 52<|
 Zs 1 10 60 .nil) (Zs 1 9 52<|
 Zl 58 1 57<|
 Zo (.conv 59 .u64 (.t 58))<|
 Zb 60 .rem 53 59<|
 Zs 1 10 60 .nil))))) (.br (Zo (.alloc 9 1 115 (.int .u64 0))<|
 .br (Zl 55 1 5<|
 Zk 56 .sub 55 1<|
 Zi 57 1 54 56<|
 .br (Zl 58 1 57<|
 Zo (.conv 59 .u64 (.t 58))<|
 Zb 60 .rem 53 59<|
 Zo (.alloc 10 1 115 (.int .u64 0))<|
 Zs 1 9 52<|
 Zs 1 10 60 .nil) (Zo (.alloc 10 1 115 (.int .u64 0))<|
 .br (Zl 58 1 57<|
 Zo (.conv 59 .u64 (.t 58))<|
 Zb 60 .rem 53 59<|
 Zs 1 9 52<|
 Zs 1 10 60 .nil) (Zs 1 9 52<|
 Zl 58 1 57<|
 Zo (.conv 59 .u64 (.t 58))<|
 Zb 60 .rem 53 59<|
 Zs 1 10 60 .nil))) (Zo (.alloc 10 1 115 (.int .u64 0))<|
 .br (Zl 55 1 5<|
 Zk 56 .sub 55 1<|
 Zi 57 1 54 56<|
 .br (Zl 58 1 57<|
 Zo (.conv 59 .u64 (.t 58))<|
 Zb 60 .rem 53 59<|
 Zs 1 9 52<|
 Zs 1 10 60 .nil) (Zs 1 9 52<|
 Zl 58 1 57<|
 Zo (.conv 59 .u64 (.t 58))<|
 Zb 60 .rem 53 59<|
 Zs 1 10 60 .nil)) (Zs 1 9 52<|
 Zl 55 1 5<|
 Zk 56 .sub 55 1<|
 Zi 57 1 54 56<|
 Zl 58 1 57<|
 Zo (.conv 59 .u64 (.t 58))<|
 Zb 60 .rem 53 59<|
 Zs 1 10 60 .nil))) (Zo (.alloc 10 1 115 (.int .u64 0))<|
 .br (Zl 55 1 5<|
 Zk 56 .sub 55 1<|
 Zi 57 1 54 56<|
 .br (Zl 58 1 57<|
 Zo (.conv 59 .u64 (.t 58))<|
 Zb 60 .rem 53 59<|
 Zo (.alloc 9 1 115 (.int .u64 0))<|
 Zs 1 9 52<|
 Zs 1 10 60 .nil) (Zo (.alloc 9 1 115 (.int .u64 0))<|
 .br (Zl 58 1 57<|
 Zo (.conv 59 .u64 (.t 58))<|
 Zb 60 .rem 53 59<|
 Zs 1 9 52<|
 Zs 1 10 60 .nil) (Zs 1 9 52<|
 Zl 58 1 57<|
 Zo (.conv 59 .u64 (.t 58))<|
 Zb 60 .rem 53 59<|
 Zs 1 10 60 .nil))) (Zo (.alloc 9 1 115 (.int .u64 0))<|
 .br (Zl 55 1 5<|
 Zk 56 .sub 55 1<|
 Zi 57 1 54 56<|
 .br (Zl 58 1 57<|
 Zo (.conv 59 .u64 (.t 58))<|
 Zb 60 .rem 53 59<|
 Zs 1 9 52<|
 Zs 1 10 60 .nil) (Zs 1 9 52<|
 Zl 58 1 57<|
 Zo (.conv 59 .u64 (.t 58))<|
 Zb 60 .rem 53 59<|
 Zs 1 10 60 .nil)) (Zs 1 9 52<|
 Zl 55 1 5<|
 Zk 56 .sub 55 1<|
 Zi 57 1 54 56<|
 Zl 58 1 57<|
 Zo (.conv 59 .u64 (.t 58))<|
 Zb 60 .rem 53 59<|
 Zs 1 10 60 .nil))))) (.br (Zl 55 1 5<|
 Zk 56 .sub 55 1<|
 .br (Zl 54 1 3<|
 Zi 57 1 54 56<|
 .br (Zl 58 1 57<|
 Zo (.conv 59 .u64 (.t 58))<|
 Zb 60 .rem 53 59<|
 .br (Zo (.alloc 9 1 115 (.int .u64 0))<|
 Zo (.alloc 10 1 115 (.int .u64 0))<|
 Zs 1 9 52<|
 Zs 1 10 60 .nil) (Zo (.alloc 10 1 115 (.int .u64 0))<|
 Zo (.alloc 9 1 115 (.int .u64 0))<|
 Zs 1 9 52<|
 Zs 1 10 60 .nil)) (.br (Zo (.alloc 9 1 115 (.int .u64 0))<|
 .br (Zl 58 1 57<|
 Zo (.conv 59 .u64 (.t 58))<|
 Zb 60 .rem 53 59<|
 Zo (.alloc 10 1 115 (.int .u64 0))<|
 Zs 1 9 52<|
 Zs 1 10 60 .nil) (Zo (.alloc 10 1 115 (.int .u64 0))<|
 .br (Zl 58 1 57<|
 Zo (.conv 59 .u64 (.t 58))<|
 Zb 60 .rem 53 59<|
 Zs 1 9 52<|
 Zs 1 10 60 .nil) (Zs 1 9 52<|
 Zl 58 1 57<|
 Zo (.conv 59 .u64 (.t 58))<|
 Zb 60 .rem 53 59<|
 Zs 1 10 60 .nil))) (Zo (.alloc 10 1 115 (.int .u64 0))<|
 .br (Zl 58 1 57<|
 Zo (.conv 59 .u64 (.t 58))<|
 Zb 60 .rem 53 59<|
 Zo (.alloc 9 1 115 (.int .u64 0))<|
 Zs 1 9 52<|
 Zs 1 10 60 .nil) (Zo (.alloc 9 1 115 (.int .u64 0))<|
 .br (Zl 58 1 57<|
 Zo (.conv 59 .u64 (.t 58))<|
 Zb 60 .rem 53 59<|
 Zs 1 9 52<|
 Zs 1 10 60 .nil) (Zs 1 9 52<|
 Zl 58 1 57<|
 Zo (.conv 59 .u64 (.t 58))<|
 Zb 60 .rem 53 59<|
 Zs 1 10 60 .nil))))) (.br (Zo (.alloc 9 1 115 (.int .u64 0))<|
 .br (Zl 54 1 3<|
 Zi 57 1 54 56<|
 .br (Zl 58 1 57<|
 Zo (.conv 59 .u64 (.t 58))<|
 Zb 60 .rem 53 59<|
 Zo (.alloc 10 1 115 (.int .u64 0))<|
 Zs 1 9 52<|
 Zs 1 10 60 .nil) (Zo (.alloc 10 1 115 (.int .u64 0))<|
 .br (Zl 58 1 57<|
 Zo (.conv 59 .u64 (.t 58))<|
 Zb 60 .rem 53 59<|
 Zs 1 9 52<|
 Zs 1 10 60 .nil) (Zs 1 9 52<|
 Zl 58 1 57<|
 Zo (.conv 59 .u64 (.t 58))<|
 Zb 60 .rem 53 59<|
 Zs 1 10 60 .nil))) (Zo (.alloc 10 1 115 (.int .u64 0))<|
 .br (Zl 54 1 3<|
 Zi 57 1 54 56<|
 .br (Zl 58 1 57<|
 Zo (.conv 59 .u64 (.t 58))<|
 Zb 60 .rem 53 59<|
 Zs 1 9 52<|
 Zs 1 10 60 .nil) (Zs 1 9 52<|
 Zl 58 1 57<|
 Zo (.conv 59 .u64 (.t 58))<|
 Zb 60 .rem 53 59<|
 Zs 1 10 60 .nil)) (Zs 1 9 52<|
 Zl 54 1 3<|
 Zi 57 1 54 56<|
 Zl 58 1 57<|
 Zo (.conv 59 .u64 (.t 58))<|
 Zb 60 .rem 53 59<|
 Zs 1 10 60 .nil))) (Zo (.alloc 10 1 115 (.int .u64 0))<|
 .br (Zl 54 1 3<|
 Zi 57 1 54 56<|
 .br (Zl 58 1 57<|
 Zo (.conv 59 .u64 (.t 58))<|
 Zb 60 .rem 53 59<|
 Zo (.alloc 9 1 115 (.int .u64 0))<|
 Zs 1 9 52<|
 Zs 1 10 60 .nil) (Zo (.alloc 9 1 115 (.int .u64 0))<|
 .br (Zl 58 1 57<|
 Zo (.conv 59 .u64 (.t 58))<|
 Zb 60 .rem 53 59<|
 Zs 1 9 52<|
 Zs 1 10 60 .nil) (Zs 1 9 52<|
 Zl 58 1 57<|
 Zo (.conv 59 .u64 (.t 58))<|
 Zb 60 .rem 53 59<|
 Zs 1 10 60 .nil))) (Zo (.alloc 9 1 115 (.int .u64 0))<|
 .br (Zl 54 1 3<|
 Zi 57 1 54 56<|
 .br (Zl 58 1 57<|
 Zo (.conv 59 .u64 (.t 58))<|
 Zb 60 .rem 53 59<|
 Zs 1 9 52<|
 Zs 1 10 60 .nil) (Zs 1 9 52<|
 Zl 58 1 57<|
 Zo (.conv 59 .u64 (.t 58))<|
 Zb 60 .rem 53 59<|
 Zs 1 10 60 .nil)) (Zs 1 9 52<|
 Zl 54 1 3<|
 Zi 57 1 54 56<|
 Zl 58 1 57<|
 Zo (.conv 59 .u64 (.t 58))<|
 Zb 60 .rem 53 59<|
 Zs 1 10 60 .nil))))) (.br (Zo (.alloc 9 1 115 (.int .u64 0))<|
 .br (Zl 54 1 3<|
 .br (Zl 55 1 5<|
 Zk 56 .sub 55 1<|
 Zi 57 1 54 56<|
 .br (Zl 58 1 57<|
 Zo (.conv 59 .u64 (.t 58))<|
 Zb 60 .rem 53 59<|
 Zo (.alloc 10 1 115 (.int .u64 0))<|
 Zs 1 9 52<|
 Zs 1 10 60 .nil) (Zo (.alloc 10 1 115 (.int .u64 0))<|
 .br (Zl 58 1 57<|
 Zo (.conv 59 .u64 (.t 58))<|
 Zb 60 .rem 53 59<|
 Zs 1 9 52<|
 Zs 1 10 60 .nil) (Zs 1 9 52<|
 Zl 58 1 57<|
 Zo (.conv 59 .u64 (.t 58))<|
 Zb 60 .rem 53 59<|
 Zs 1 10 60 .nil))) (Zo (.alloc 10 1 115 (.int .u64 0))<|
 .br (Zl 55 1 5<|
 Zk 56 .sub 55 1<|
 Zi 57 1 54 56<|
 .br (Zl 58 1 57<|
 Zo (.conv 59 .u64 (.t 58))<|
 Zb 60 .rem 53 59<|
 Zs 1 9 52<|
 Zs 1 10 60 .nil) (Zs 1 9 52<|
 Zl 58 1 57<|
 Zo (.conv 59 .u64 (.t 58))<|
 Zb 60 .rem 53 59<|
 Zs 1 10 60 .nil)) (Zs 1 9 52<|
 Zl 55 1 5<|
 Zk 56 .sub 55 1<|
 Zi 57 1 54 56<|
 Zl 58 1 57<|
 Zo (.conv 59 .u64 (.t 58))<|
 Zb 60 .rem 53 59<|
 Zs 1 10 60 .nil))) (.br (Zl 55 1 5<|
 Zk 56 .sub 55 1<|
 .br (Zl 54 1 3<|
 Zi 57 1 54 56<|
 .br (Zl 58 1 57<|
 Zo (.conv 59 .u64 (.t 58))<|
 Zb 60 .rem 53 59<|
 Zo (.alloc 10 1 115 (.int .u64 0))<|
 Zs 1 9 52<|
 Zs 1 10 60 .nil) (Zo (.alloc 10 1 115 (.int .u64 0))<|
 .br (Zl 58 1 57<|
 Zo (.conv 59 .u64 (.t 58))<|
 Zb 60 .rem 53 59<|
 Zs 1 9 52<|
 Zs 1 10 60 .nil) (Zs 1 9 52<|
 Zl 58 1 57<|
 Zo (.conv 59 .u64 (.t 58))<|
 Zb 60 .rem 53 59<|
 Zs 1 10 60 .nil))) (Zo (.alloc 10 1 115 (.int .u64 0))<|
 .br (Zl 54 1 3<|
 Zi 57 1 54 56<|
 .br (Zl 58 1 57<|
 Zo (.conv 59 .u64 (.t 58))<|
 Zb 60 .rem 53 59<|
 Zs 1 9 52<|
 Zs 1 10 60 .nil) (Zs 1 9 52<|
 Zl 58 1 57<|
 Zo (.conv 59 .u64 (.t 58))<|
 Zb 60 .rem 53 59<|
 Zs 1 10 60 .nil)) (Zs 1 9 52<|
 Zl 54 1 3<|
 Zi 57 1 54 56<|
 Zl 58 1 57<|
 Zo (.conv 59 .u64 (.t 58))<|
 Zb 60 .rem 53 59<|
 Zs 1 10 60 .nil))) (Zo (.alloc 10 1 115 (.int .u64 0))<|
 .br (Zl 54 1 3<|
 .br (Zl 55 1 5<|
 Zk 56 .sub 55 1<|
 Zi 57 1 54 56<|
 .br (Zl 58 1 57<|
 Zo (.conv 59 .u64 (.t 58))<|
 Zb 60 .rem 53 59<|
 Zs 1 9 52<|
 Zs 1 10 60 .nil) (Zs 1 9 52<|
 Zl 58 1 57<|
 Zo (.conv 59 .u64 (.t 58))<|
 Zb 60 .rem 53 59<|
 Zs 1 10 60 .nil)) (Zs 1 9 52<|
 Zl 55 1 5<|
 Zk 56 .sub 55 1<|
 Zi 57 1 54 56<|
 Zl 58 1 57<|
 Zo (.conv 59 .u64 (.t 58))<|
 Zb 60 .rem 53 59<|
 Zs 1 10 60 .nil)) (.br (Zl 55 1 5<|
 Zk 56 .sub 55 1<|
 .br (Zl 54 1 3<|
 Zi 57 1 54 56<|
 .br (Zl 58 1 57<|
 Zo (.conv 59 .u64 (.t 58))<|
 Zb 60 .rem 53 59<|
 Zs 1 9 52<|
 Zs 1 10 60 .nil) (Zs 1 9 52<|
 Zl 58 1 57<|
 Zo (.conv 59 .u64 (.t 58))<|
 Zb 60 .rem 53 59<|
 Zs 1 10 60 .nil)) (Zs 1 9 52<|
 Zl 54 1 3<|
 Zi 57 1 54 56<|
 Zl 58 1 57<|
 Zo (.conv 59 .u64 (.t 58))<|
 Zb 60 .rem 53 59<|
 Zs 1 10 60 .nil)) (Zs 1 9 52<|
 .br (Zl 54 1 3<|
 Zl 55 1 5<|
 Zk 56 .sub 55 1<|
 Zi 57 1 54 56<|
 Zl 58 1 57<|
 Zo (.conv 59 .u64 (.t 58))<|
 Zb 60 .rem 53 59<|
 Zs 1 10 60 .nil) (Zl 55 1 5<|
 Zk 56 .sub 55 1<|
 Zl 54 1 3<|
 Zi 57 1 54 56<|
 Zl 58 1 57<|
 Zo (.conv 59 .u64 (.t 58))<|
 Zb 60 .rem 53 59<|
 Zs 1 10 60 .nil)))))) (Zo (.alloc 10 1 115 (.int .u64 0))<|
 .br (Zl 54 1 3<|
 .br (Zl 55 1 5<|
 Zk 56 .sub 55 1<|
 Zi 57 1 54 56<|
 .br (Zl 58 1 57<|
 Zo (.conv 59 .u64 (.t 58))<|
 Zb 60 .rem 53 59<|
 Zo (.alloc 9 1 115 (.int .u64 0))<|
 Zs 1 9 52<|
 Zs 1 10 60 .nil) (Zo (.alloc 9 1 115 (.int .u64 0))<|
 .br (Zl 58 1 57<|
 Zo (.conv 59 .u64 (.t 58))<|
 Zb 60 .rem 53 59<|
 Zs 1 9 52<|
 Zs 1 10 60 .nil) (Zs 1 9 52<|
 Zl 58 1 57<|
 Zo (.conv 59 .u64 (.t 58))<|
 Zb 60 .rem 53 59<|
 Zs 1 10 60 .nil))) (Zo (.alloc 9 1 115 (.int .u64 0))<|
 .br (Zl 55 1 5<|
 Zk 56 .sub 55 1<|
 Zi 57 1 54 56<|
 .br (Zl 58 1 57<|
 Zo (.conv 59 .u64 (.t 58))<|
 Zb 60 .rem 53 59<|
 Zs 1 9 52<|
 Zs 1 10 60 .nil) (Zs 1 9 52<|
 Zl 58 1 57<|
 Zo (.conv 59 .u64 (.t 58))<|
 Zb 60 .rem 53 59<|
 Zs 1 10 60 .nil)) (Zs 1 9 52<|
 Zl 55 1 5<|
 Zk 56 .sub 55 1<|
 Zi 57 1 54 56<|
 Zl 58 1 57<|
 Zo (.conv 59 .u64 (.t 58))<|
 Zb 60 .rem 53 59<|
 Zs 1 10 60 .nil))) (.br (Zl 55 1 5<|
 Zk 56 .sub 55 1<|
 .br (Zl 54 1 3<|
 Zi 57 1 54 56<|
 .br (Zl 58 1 57<|
 Zo (.conv 59 .u64 (.t 58))<|
 Zb 60 .rem 53 59<|
 Zo (.alloc 9 1 115 (.int .u64 0))<|
 Zs 1 9 52<|
 Zs 1 10 60 .nil) (Zo (.alloc 9 1 115 (.int .u64 0))<|
 .br (Zl 58 1 57<|
 Zo (.conv 59 .u64 (.t 58))<|
 Zb 60 .rem 53 59<|
 Zs 1 9 52<|
 Zs 1 10 60 .nil) (Zs 1 9 52<|
 Zl 58 1 57<|
 Zo (.conv 59 .u64 (.t 58))<|
 Zb 60 .rem 53 59<|
 Zs 1 10 60 .nil))) (Zo (.alloc 9 1 115 (.int .u64 0))<|
 .br (Zl 54 1 3<|
 Zi 57 1 54 56<|
 .br (Zl 58 1 57<|
 Zo (.conv 59 .u64 (.t 58))<|
 Zb 60 .rem 53 59<|
 Zs 1 9 52<|
 Zs 1 10 60 .nil) (Zs 1 9 52<|
 Zl 58 1 57<|
 Zo (.conv 59 .u64 (.t 58))<|
 Zb 60 .rem 53 59<|
 Zs 1 10 60 .nil)) (Zs 1 9 52<|
 Zl 54 1 3<|
 Zi 57 1 54 56<|
 Zl 58 1 57<|
 Zo (.conv 59 .u64 (.t 58))<|
 Zb 60 .rem 53 59<|
 Zs 1 10 60 .nil))) (Zo (.alloc 9 1 115 (.int .u64 0))<|
 .br (Zl 54 1 3<|
 .br (Zl 55 1 5<|
 Zk 56 .sub 55 1<|
 Zi 57 1 54 56<|
 .br (Zl 58 1 57<|
 Zo (.conv 59 .u64 (.t 58))<|
 Zb 60 .rem 53 59<|
 Zs 1 9 52<|
 Zs 1 10 60 .nil) (Zs 1 9 52<|
 Zl 58 1 57<|
 Zo (.conv 59 .u64 (.t 58))<|
 Zb 60 .rem 53 59<|
 Zs 1 10 60 .nil)) (Zs 1 9 52<|
 Zl 55 1 5<|
 Zk 56 .sub 55 1<|
 Zi 57 1 54 56<|
 Zl 58 1 57<|
 Zo (.conv 59 .u64 (.t 58))<|
 Zb 60 .rem 53 59<|
 Zs 1 10 60 .nil)) (.br (Zl 55 1 5<|
 Zk 56 .sub 55 1<|
 .br (Zl 54 1 3<|
 Zi 57 1 54 56<|
 .br (Zl 58 1 57<|
 Zo (.conv 59 .u64 (.t 58))<|
 Zb 60 .rem 53 59<|
 Zs 1 9 52<|
 Zs 1 10 60 .nil) (Zs 1 9 52<|
 Zl 58 1 57<|
 Zo (.conv 59 .u64 (.t 58))<|
 Zb 60 .rem 53 59<|
 Zs 1 10 60 .nil)) (Zs 1 9 52<|
 Zl 54 1 3<|
 Zi 57 1 54 56<|
 Zl 58 1 57<|
 Zo (.conv 59 .u64 (.t 58))<|
 Zb 60 .rem 53 59<|
 Zs 1 10 60 .nil)) (Zs 1 9 52<|
 .br (Zl 54 1 3<|
 Zl 55 1 5<|
 Zk 56 .sub 55 1<|
 Zi 57 1 54 56<|
 Zl 58 1 57<|
 Zo (.conv 59 .u64 (.t 58))<|
 Zb 60 .rem 53 59<|
 Zs 1 10 60 .nil) (Zl 55 1 5<|
 Zk 56 .sub 55 1<|
 Zl 54 1 3<|
 Zi 57 1 54 56<|
 Zl 58 1 57<|
 Zo (.conv 59 .u64 (.t 58))<|
 Zb 60 .rem 53 59<|
 Zs 1 10 60 .nil)))))))))<|Zr (Zo (.fn 61 178 [] [.t 9,.t 3,.t 5,.t 10,.t 2,.t 7])<|
 Zm 11 61 .nil)<| .seq (.block 2<| .loop<| .seq (Zr (Zl 62 1 10<|
 Zo (.bin 63 .lss false (.t 62) (.c (.int .u64 65536)))<|
 Zm 64 63<|
 Zg 64 true (.mv 65 (.t 11))<|
 Zg 64 true (.call (some 66) false (.t 65) [])<|
 Zo (.pick 67 (.t 64) (.t 66) (.c (.bool false))) .nil)<| .cond (.t 67) .skip (.exit 2))<| .block 3<|Zr (Zl 68 1 9<|
 Zo (.bin 69 .sub false (.t 68) (.c (.int .u64 1)))<|
 Zs 1 9 69 .nil)<| .rg (Zl 70 1 10<|
 Zl 71 1 3<|
 Zl 72 1 5<|
 Zk 73 .sub 72 1<|
 Zi 74 1 71 73<|
 Zl 75 1 74<|
 Zo (.conv 76 .u64 (.t 75))<|
 Zb 77 .add 70 76<|
 Zs 1 10 77 .nil))<| .seq (Zr (Zl 78 1 2<|
 Zl 79 1 7<|
 Zl 80 1 7<|
 Zl 81 1 5<|
 Zb 82 .add 80 81<|
 Zk 83 .add 82 1<|
 Zo (.sl 84 1 (.t 78) (some (.t 79)) (some (.t 83)) none)<|
 Zl 85 1 3<|
 Zl 86 1 9<|
 Zo (.conv 87 .u32 (.t 86))<|
 Zq 88 false 179 [.t 84,.t 85,.t 87] .nil)<| .cond (.t 88) (Zr (Zl 89 1 9<|
 Zo (.bin 90 .sub false (.t 89) (.c (.int .u64 1)))<|
 Zs 1 9 90 .nil)<| .rg (Zl 91 1 2<|
 Zl 92 1 7<|
 Zl 93 1 7<|
 Zl 94 1 5<|
 Zb 95 .add 93 94<|
 Zk 96 .add 95 1<|
 Zo (.sl 97 1 (.t 91) (some (.t 92)) (some (.t 96)) none)<|
 Zl 98 1 3<|
 Zq 99 false 180 [.t 97,.t 98] .nil)) .skip)<| .rg (Zm 100 6<|
 Zl 101 1 7<|
 Zl 102 1 9<|
 Zo (.conv 103 .u16 (.t 102))<|
 Zi 104 1 100 101<|
 Zs 1 104 103 .nil))<| .seq (Zr (Zl 105 1 7 .nil)<| .rg (Zo (.alloc 7 1 3 (Zz 0))<|
 Zs 1 7 105 .nil))<| .rg (Zl 26 1 7<|
 Zk 27 .sub 26 1<|
 Zs 1 7 27 .nil))<|Zr (Zm 106 6<|
 Zq 107 false 162 [.t 106]<|
 Zm 4 107 .nil) .ret⟩
theorem TL:Qe Tryz.prog Tryz.f167=some AP:=by kernel_rfl
theorem fo{l:List Nat}(hv:Qk l)(hl:l.length<2^42):Qd Tryz.prog 162 [PV.nat l] (· =PV.num (val l)):=by
 refine Qf Qh Tryz.func162 rfl Gw (by simp[vo]) fun C hP=>?_;simp only[vo,Zo,Zg,Zm,Zc,Zf,Zl,Zh,Zs,Zi,Zb,Zk,Zn,Zu,Zq,Zr,Zz];refine Sz0 ?_;refine m9 (fun m fr hp=>m<=l.length/\cut l m=ak (val l)/\fr 0=PV.nat l/\fr 3= .int .i64 m/\hp=au) l.length ?_ ?_
 ·exact⟨Kag _,uO hv,rfl,rfl,rfl⟩
 rintro n fr _ ⟨hn,hc,h0,h3,rfl⟩;refine Sz2 h0 h3 ?_;refine eK (fun hg=>?_) (fun hg=>?_)
 ·simp+decide (disch:=first|omega|rfl|(simp+decide only[go_sem,h0,h3,ql,mg]<;>rfl)|fail) only[go_sem,h0,h3,ql,mg];obtain _|n:=n
  ·omega
  have e:((n+1:Nat):Int)-1=n:=by omega
  simp only[cut]at hc;refine Qb (fun hz=>?_) (fun hz=>?_)
  ·rw[if_pos (by grind)]at hc;simp+decide (disch:=try exact D3 h0 h3 e) only[go_sem,h0,h3,e];refine kv (m:=n) (by omega) ⟨by omega,hc,?_⟩;exact Tz3 h0 @true_and @and_true
  ·refine Sz3 h0 h3 @BK ?_;rw[if_neg (by grind)]at hc;exact Qc (by simp[hc]) rfl
 ·obtain rfl:n=0:=by omega
  refine Sz3 h0 h3 @BK ?_;exact Qc (by simp[<-hc,cut]) rfl
theorem ur{l:List Nat}(hv:Qk l)(hl:l.length<2^42):Qd Tryz.prog 148 [PV.nat l] (· =PV.num (val l)):=by
 have hd:=bS hv;unfold nl at hd;refine Qf Qh Tryz.func148 rfl Tb (by simp[Ad]) fun C hP=>?_;simp only[Ad,Zo,Zg,Zm,Zc,Zf,Zl,Zh,Zs,Zi,Zb,Zk,Zn,Zu,Zq,Zr,Zz];refine Sz0 ?_;refine Qa hP (fo hv hl) rfl rfl rfl ?_;refine Sz0 ?_;refine Qb (fun hz=>?_) (fun hz=>?_)
 ·refine Sz0 ?_;have:ak (val l)=[]:=Kat.1 (by omega);exact mc (by rw[PV.num,this];exact V') rfl
 ·refine Sz0 ?_;rw[Tc rfl (by simp)];refine Sz0 ?_;exact eX rfl (by simp[Kaj])
theorem yh{n:Nat}(hn:n<18446744073709551616):Qd Tryz.prog 150 [.int .u64 n] (· =PV.num n):=by
 have hlen:=nP hn;unfold nl at hlen;refine Qf Qh Tryz.func150 rfl TP (by simp[Ae]) fun C hP=>?_;simp only[Ae,Zo,Zg,Zm,Zc,Zf,Zl,Zh,Zs,Zi,Zb,Zk,Zn,Zu,Zq,Zr,Zz];refine Sz0 ?_;refine ug (fun m fr hp=>∃done:List Nat,ak n=done++ak m/\m<=n/\fr 0= .int .u64 m/\fr 3= .ms 12 done.length/\hp 12=some ⟨1,152,done.map fun(x:Nat)=>.int .u16 x,false⟩) n (GV 3 12 1 152 (by omega) ?_) ?_ ?_
 ·exact Tz0
 ·refine⟨[],?_⟩;simp+decide (disch:=first|omega|rfl|(simp+decide only[go_sem,KaE,Kby,Kbg,true_and,and_true,Kag]<;>rfl)|fail) only[go_sem,KaE,Kby,Kbg,true_and,and_true,Kag]
 rintro m fr hp ⟨done,hd,hm,h0,h3,hh⟩;rw[hd,KaJ]at hlen;refine Sz1 h0 ?_;refine Qb (fun hz=>?_) (fun hz=>?_)
 ·have bh:m≠0:=by omega
  have lM:ak n=(done++[m%65536])++ak (m/65536):=by rw[hd,oQ bh];simp
  refine Sz2 h0 h3 ?_;rw[Cb (xs:=done.map fun(x:Nat)=>.int .u16 x) (Tz1 hh) rfl (by omega) (by simp) (by omega) (by omega)];refine Sz4 h0 h3 @HY @Jt ?_;refine kv (m:=m/65536) (by omega) ⟨done++[m%65536],lM,by omega,?_⟩;refine Sz3 h0 h3 hh ?_;simp
 ·obtain rfl:m=0:=by omega
  refine Sz1 h3 ?_;exact eX hh (by simp[PV.num,PV.nat,hd,eh,Kaj])
theorem BX{a b:List Nat}(ha:Qk a)(hb:Qk b)(bz:a.length<2^40)(dG:b.length<2^40):Qd Tryz.prog 163 [PV.nat a,PV.nat b] (· = .int .i64 (gk (val a) (val b))):=by
 have eQ:=bS ha;have fP:=bS hb;have L9:= @Kk (val a) (val b);have L':= @Kk (val b) (val a);have acC:=Ql (val a);have acD:=Ql (val b);have hva:=Qz (val a);have hvb:=Qz (val b);unfold nl at eQ fP L9 L';refine Qf Qh Tryz.func163 rfl TS (by simp[Ah]) fun C hP=>?_;simp only[Ah,Zo,Zg,Zm,Zc,Zf,Zl,Zh,Zs,Zi,Zb,Zk,Zn,Zu,Zq,Zr,Zz];refine Sz0 ?_;refine Qa hP (fo ha (by omega)) rfl rfl rfl ?_;refine Sz0 ?_;refine Qa hP (fo hb (by omega)) rfl rfl rfl ?_;refine Sz0 ?_;generalize val a=x at *
 generalize val b=y at *
 refine Qb (fun hz=>?_) (fun hz=>?_)
 ·refine Sz0 ?_;refine Qb (fun hz=>?_) (fun hz=>?_)
  ·refine Sz0 ?_;exact Qc (by rw[Ct (L9 (by omega))]) rfl
  ·refine Sz0 ?_;exact Qc (by rw[Cu (L' (by omega))]) rfl
 refine Sz0 ?_;refine m9 (fun m fr hp=>m<=(ak x).length/\val ((ak x).drop m)=val ((ak y).drop m)/\fr 0=PV.num x/\fr 1=PV.num y/\fr 5= .int .i64 ((m:Int)-1)/\hp=au) (ak x).length ?_ ?_
 ·refine⟨Kag _,?_,?_⟩
  ·rw[Kal (Kag _),Kal (by omega)]
  ·exact Tz2 @true_and @and_true
 rintro m fr _ ⟨hm,hd,h0,h1,h5,rfl⟩;refine Sz3 h0 h1 h5 ?_;refine Qb (fun hg=>?_) (fun hg=>?_)
 ·obtain _|m:=m
  ·omega
  have e:((m+1:Nat):Int)-1=m:=by omega
  have FK:m<(ak x).length:=by omega
  have vW:m<(ak y).length:=by omega
  simp+decide (disch:=try exact D4 h0 h1 h5 e) only[go_sem,h0,h1,h5,e];refine Qb (fun hq=>?_) (fun hq=>?_)
  ·refine Sz0 ?_;exact Qc (by rw[Ct];have:=Jv acC FK vW (by omega) hd;omega) rfl
  simp+decide (disch:=try exact D4 h0 h1 h5 e) only[go_sem,h0,h1,h5,e];refine Qb (fun lR=>?_) (fun lR=>?_)
  ·refine Sz0 ?_;exact Qc (by rw[Cu];have:=Jv acD vW FK (by omega) hd.symm;omega) rfl
  refine Sz4 h0 h1 h5 e ?_;refine kv (m:=m) (by omega) ⟨by omega,?_,?_⟩
  ·rw[iZ FK,iZ vW,hd];omega
  ·exact Tz4 h0 h1 @true_and @and_true
 ·obtain rfl:m=0:=by omega
  refine Sz0 ?_;refine Qc ?_ rfl;rw[K6];simp at hd;omega
theorem RR{a b:List Nat}(ha:Qk a)(hb:Qk b)(bz:a.length<2^40)(dG:b.length<2^40):Qd Tryz.prog 197 [PV.nat a,PV.nat b] (· =PV.num (val a+val b)):=by
 have eQ:=bS ha;have fP:=bS hb;unfold nl at eQ fP;refine Qf Qh Tryz.func197 rfl TT (by simp[Ai]) fun C hP=>?_;simp only[Ai,Zo,Zg,Zm,Zc,Zf,Zl,Zh,Zs,Zi,Zb,Zk,Zn,Zu,Zq,Zr,Zz];refine Sz0 ?_;refine Qa hP (fo ha (by omega)) rfl rfl rfl ?_;refine Sz0 ?_;refine Qa hP (fo hb (by omega)) rfl rfl rfl ?_;refine Sz0 ?_;generalize val a=x0 at *
 generalize val b=y0 at *
 refine uj (fun fr hp=>∃x y,x+y=x0+y0/\(ak x).length<2^40/\(ak y).length<=(ak x).length/\fr 0=PV.num x/\fr 1=PV.num y/\hp=au) ?_ ?_
 ·refine Qb (fun hz=>?_) (fun hz=>?_)
  ·refine Sz0 ?_;refine⟨y0,x0,by omega,by omega,by omega,?_⟩;exact Tz2 @true_and @and_true
  ·refine Sz0 ?_;refine⟨x0,y0,by omega,by omega,by omega,?_⟩;exact Tz2 @true_and @and_true
 rintro fr _ ⟨x,y,mM,hx,hy,h0,h1,rfl⟩;rw[<-mM];clear mM eQ fP;have dS:=Ql x;have iP:=Ql y;refine Sz2 h0 h1 ?_;refine m9 (fun m fr hp=>∃i c done,m=(ak x).length-i/\i<=(ak x).length/\c<=1/\done.length=i/\done++fT ((ak x).drop i) ((ak y).drop i) c=ak (x+y)/\
  fr 1=PV.num y/\fr 5= .ms 25 (ak x).length/\fr 6= .int .u32 c/\fr 26=PV.num x/\fr 27= .int .i64 (ak x).length/\fr 28= .int .i64 i/\hp=Qi au 25 ⟨1,152,bI (done++List.replicate ((ak x).length-i) 0),false⟩) (ak x).length ?_ ?_
 ·refine⟨0,0,[],rfl,by omega,by omega,rfl,by simpa using Rl hy,?_⟩;simp+decide (disch:=first|omega|rfl|(simp+decide only[go_sem,h0,h1,true_and,and_true,Kb0,KaE]<;>rfl)|fail) only[go_sem,h0,h1,true_and,and_true,Kb0,KaE];simp
 rintro _ fr _ ⟨i,c,done,rfl,hi,hc,dR,hd,h1,h5,h6,pA,pB,pC,rfl⟩;refine Sz3 pA pB pC ?_;refine Qb (fun hg=>?_) (fun hg=>?_)
 ·have aD:i<(ak x).length:=by omega
  have eg:=dn dS aD;rw[Ou aD]at hd;have hlen:=Cf (n:=(ak x).length-i) dR (by omega:_=(ak x).length);simp+decide (disch:=try exact D6 h1 h5 h6 pA pB pC) only[go_sem,h1,h5,h6,pA,pB,pC];refine Qb (fun hq=>?_) (fun hq=>?_)
  ·have fR:i<(ak y).length:=by omega
   have pS:=dn iP fR;rw[eL fR]at hd;simp+decide (disch:=try exact D6 h1 h5 h6 pA pB pC) only[go_sem,h1,h5,h6,pA,pB,pC];refine kv (m:=(ak x).length-(i+1)) (by omega) ⟨i+1,_,_,rfl,by omega,?_,?_,(Kbz ..).symm.trans hd,?_⟩
   ·omega
   ·simp[dR]
   ·exact Tz10 h1 h5 h6 pA pB pC @true_and @and_true @ux @Nat.sub_sub
  ·rw[eM (by omega)]at hd;refine Sz6 h1 h5 h6 pA pB pC ?_;refine kv (m:=(ak x).length-(i+1)) (by omega) ⟨i+1,_,_,rfl,by omega,?_,?_,(Kbz ..).symm.trans hd,?_⟩
   ·omega
   ·simp[dR]
   ·exact Tz11 h1 h5 h6 pA pB pC @true_and @and_true @ux @Nat.sub_sub @Nat.add_zero
 ·obtain rfl:i=(ak x).length:=by omega
  rw[Kal (Kag _),Kal hy]at hd;simp+decide (disch:=first|omega|rfl|(simp+decide only[go_sem,h5,h6,KbD,KaW,Kao]<;>rfl)|fail) only[go_sem,h5,h6,KbD,KaW,Kao];refine Qb (fun hq=>?_) (fun hq=>?_)
  ·refine Sz2 h5 h6 ?_;rw[Cb (xs:=bI done) Tz0 rfl (by omega) (by simp[dR]) (by omega) (by omega)];refine Sz1 h5 ?_;refine eX rfl ?_;rw[fT,if_neg (by omega)]at hd;rw[PV.num,<-hd];simp[bI,dR,Kaj];omega
  ·refine Sz1 h5 ?_;refine eX rfl ?_;rw[fT,if_pos (by omega)]at hd;rw[PV.num,<-hd];simp[bI,dR,Kaj]
theorem Kz{a b:List Nat}(ha:Qk a)(hb:Qk b)(bz:a.length<2^40)(dG:b.length<2^40)(hle:val b<=val a):Qd Tryz.prog 198 [PV.nat a,PV.nat b] (· = .aO [PV.num (val a-val b),.int .i64 0]):=by
 have eQ:=bS ha;have fP:=bS hb;have ju:=fm hle;unfold nl at eQ fP ju;refine Qf Qh Tryz.func198 rfl TU (by simp[Aj]) fun C hP=>?_;simp only[Aj,Zo,Zg,Zm,Zc,Zf,Zl,Zh,Zs,Zi,Zb,Zk,Zn,Zu,Zq,Zr,Zz];refine Sz0 ?_;refine Qa hP (BX ha hb bz dG) rfl rfl rfl ?_;have ab4:¬gk (val a) (val b)<0:=by unfold gk;split<;>(try split)<;>omega
 refine Sz0 ?_;refine Qb (fun hz=>absurd hz ab4) (fun hz=>?_);refine Sz0 ?_;refine Qa hP (fo ha (by omega)) rfl rfl rfl ?_;refine Sz0 ?_;refine Qa hP (fo hb (by omega)) rfl rfl rfl ?_;refine Sz0 ?_;generalize val a=x at *
 generalize val b=y at *
 have dS:=Ql x;have iP:=Ql y;have er:=Km (ak x) (ak y) 0 (by omega) dS iP ju (by rw[Qz,Qz];exact hle);rw[Qz,Qz,KaM]at er;have jB:=IL (ak x) (ak y) 0;have zo:=Ii (ak x) (ak y) 0;refine m9 (fun m fr hp=>∃i c done,m=(ak x).length-i/\i<=(ak x).length/\c<=1/\done.length=i/\done++ji ((ak x).drop i) ((ak y).drop i) c=ji (ak x) (ak y) 0/\
  fr 1=PV.num y/\fr 6= .ms 21 (ak x).length/\fr 7= .int .i32 (c:Nat)/\fr 22=PV.num x/\fr 23= .int .i64 (ak x).length/\fr 24= .int .i64 i/\hp=Qi au 21 ⟨1,152,bI (done++List.replicate ((ak x).length-i) 0),false⟩) (ak x).length ?_ ?_
 ·refine⟨0,0,[],rfl,by omega,by omega,rfl,rfl,?_⟩;simp+decide (disch:=first|omega|rfl|(simp+decide only[go_sem,true_and,and_true,Kb0,KaE]<;>rfl)|fail) only[go_sem,true_and,and_true,Kb0,KaE];simp
 rintro _ fr _ ⟨i,c,done,rfl,hi,hc,dR,hd,h1,h6,h7,jm,jn,jo,rfl⟩;refine Sz3 jm jn jo ?_;refine Qb (fun hg=>?_) (fun hg=>?_)
 ·have aD:i<(ak x).length:=by omega
  have eg:=dn dS aD;rw[Ov aD]at hd;have hlen:=Cf (n:=(ak x).length-i) dR (by omega:_=(ak x).length);simp+decide (disch:=try exact D6 h1 h6 h7 jm jn jo) only[go_sem,h1,h6,h7,jm,jn,jo];refine uj (fun fr hp=>fr 1=PV.num y/\fr 6= .ms 21 (ak x).length/\fr 8= .int .i64 i/\fr 10= .int .i32 ((ak x)[i]-(c:Int)-((ak y).getD i 0:Nat))/\(ak y).getD i 0<65536/\fr 22=PV.num x/\fr 23= .int .i64 (ak x).length/\fr 24= .int .i64 i/\hp=Qi au 21 ⟨1,152,bI (done++List.replicate ((ak x).length-i) 0),false⟩) ?_ ?_
  ·refine Qb (fun hq=>?_) (fun hq=>?_)
   ·have fR:i<(ak y).length:=by omega
    have pS:=dn iP fR;simp+decide (disch:=first|omega|rfl|(simp+decide only[go_sem,h1,h6,h7,jm,jn,jo,eL fR,true_and,and_true]<;>rfl)|fail) only[go_sem,h1,h6,h7,jm,jn,jo,eL fR,true_and,and_true];exact pS
   ·simp+decide (disch:=first|omega|rfl|(simp+decide only[go_sem,h1,h6,h7,jm,jn,jo,true_and,and_true,eM (by omega:¬i<(ak y).length)]<;>rfl)|fail) only[go_sem,h1,h6,h7,jm,jn,jo,true_and,and_true,eM (by omega:¬i<(ak y).length)];simp
  clear h1 h6 jm jn jo;rintro fr _ ⟨h1,h6,h8,bC,pS,jm,jn,jo,rfl⟩;generalize hw:(ak y).getD i 0=yi at *
  refine Sz1 bC ?_;refine uj (fun fr hp=>fr 1=PV.num y/\fr 6= .ms 21 (ak x).length/\fr 8= .int .i64 i/\fr 10= .int .i32 (((ak x)[i]+65536-c-yi)%65536:Nat)/\fr 7= .int .i32 ((if(ak x)[i]<c+yi then 1 else 0):Nat)/\fr 22=PV.num x/\fr 23= .int .i64 (ak x).length/\fr 24= .int .i64 i/\hp=Qi au 21 ⟨1,152,bI (done++List.replicate ((ak x).length-i) 0),false⟩) ?_ ?_
  ·refine Qb (fun hq=>?_) (fun hq=>?_)
   ·rw[if_pos (by omega)];refine Sz9 h1 h6 h8 bC jm jn jo @true_and @and_true ?_;simp;omega
   ·rw[if_neg (by omega)];refine Sz9 h1 h6 h8 bC jm jn jo @true_and @and_true ?_;simp;omega
  clear h1 h6 h8 bC jm jn jo;rintro fr _ ⟨h1,h6,h8,bC,h7,jm,jn,jo,rfl⟩;refine Sz8 h1 h6 h7 h8 bC jm jn jo ?_;refine kv (m:=(ak x).length-(i+1)) (by omega) ⟨i+1,_,_,rfl,by omega,?_,?_,(Kbz ..).symm.trans hd,?_⟩
  ·split<;>omega
  ·simp[dR]
  ·exact Tz13 h1 h6 h7 h8 bC jm jn jo @true_and @and_true @ux @Nat.sub_sub @Nat.mod_mod
 ·obtain rfl:i=(ak x).length:=by omega
  rw[Kal (Kag _),ji,Kao]at hd;simp+decide (disch:=first|omega|rfl|(simp+decide only[go_sem,h6,KbD,KaW,Kao]<;>rfl)|fail) only[go_sem,h6,KbD,KaW,Kao];rw[hd];refine qf hP (fo jB (by omega)) (uA rfl zo.symm) rfl fun hp'=>?_;refine Sz0 ?_;exact jR rfl rfl rfl (oO (by rw[show val (ji (ak x) (ak y) 0)=x-y by omega])) (bT _)
theorem xT{a b:List Nat}(ha:Qk a)(hb:Qk b)(bz:a.length<2^40)(dG:b.length<2^40):Qd Tryz.prog 183 [PV.nat a,PV.nat b] (· =PV.num (val a*val b)):=by
 have eQ:=bS ha;have fP:=bS hb;unfold nl at eQ fP;refine Qf Qh Tryz.func183 rfl TV (by simp[Ak]) fun C hP=>?_;simp only[Ak,Zo,Zg,Zm,Zc,Zf,Zl,Zh,Zs,Zi,Zb,Zk,Zn,Zu,Zq,Zr,Zz];refine Sz0 ?_;refine Qa hP (fo ha (by omega)) rfl rfl rfl ?_;refine Sz0 ?_;refine Qa hP (fo hb (by omega)) rfl rfl rfl ?_;refine Sz0 ?_;generalize val a=x at *
 generalize val b=y at *
 have dS:=Ql x;have iP:=Ql y;refine dA (fun hz=>?_) (fun hz=>?_)
 ·refine Sz0 ?_;have:=l0 (by omega:(ak x).length=0);rw[iU]at this;exact mc (uP (by simp[this])) rfl
 refine Sz0 ?_;refine Qb (fun zF=>?_) (fun zF=>?_)
 ·refine Sz0 ?_;have:=l0 (by omega:(ak y).length=0);rw[iU]at this;exact mc (uP (by simp[this])) rfl
 refine Sz0 ?_;refine m9 (fun m fr hp=>∃i lo,m=(ak x).length-i/\i<=(ak x).length/\Qk lo/\lo.length=i+(ak y).length/\val lo=val ((ak x).take i)*val (ak y)/\
  fr 1=PV.num y/\fr 5= .ms 28 ((ak x).length+(ak y).length)/\fr 29=PV.num x/\fr 30= .int .i64 (ak x).length/\fr 31= .int .i64 i/\hp=Qi au 28 ⟨1,152,bI (lo++List.replicate ((ak x).length-i) 0),false⟩) (ak x).length ?_ ?_
 ·refine⟨0,List.replicate (ak y).length 0,rfl,by omega,?_,by simp,by simp[Ju,val],?_⟩
  ·intro z hz;rw[List.eq_of_mem_replicate hz];omega
  ·refine Sz3 @true_and @and_true @Nat.sub_zero ?_;simp[KbO]
 rintro _ fr _ ⟨i,lo,rfl,hi,nw,FI,hv,h1,h5,mw,og,oh,rfl⟩;refine Sz3 mw og oh ?_;refine Qb (fun hg=>?_) (fun hg=>?_)
 ·have aD:i<(ak x).length:=by omega
  have eg:=dn dS aD;have jz:=Rm aD FI hv;have vV:Qk (lo.take i++gD (lo.drop i) (ak y) (ak x)[i] 0):=ky.2 ⟨rR nw i,IN _ _ _ _ (by omega) eg (tW nw i) iP⟩;have aeW:(lo.take i++gD (lo.drop i) (ak y) (ak x)[i] 0).length=i+(ak y).length+1:=by rw[KaJ,Ij _ _ _ _ (by simp[FI])];simp;omega
  generalize cR:(ak x)[i]=xi at *
  refine Sz6 h1 h5 mw og oh cR ?_;refine m9 (fun m fr hp=>∃k c p rs,m=(ak y).length-k/\k<=(ak y).length/\c<65536/\Qk rs/\p.length=i+k/\rs.length=(ak y).length-k/\p++gD rs ((ak y).drop k) xi c=lo.take i++gD (lo.drop i) (ak y) xi 0/\
   fr 1=PV.num y/\fr 5= .ms 28 ((ak x).length+(ak y).length)/\fr 6= .int .i64 i/\fr 7= .int .u16 xi/\fr 8= .int .u32 c/\fr 29=PV.num x/\fr 30= .int .i64 (ak x).length/\fr 31= .int .i64 i/\fr 36=PV.num y/\fr 37= .int .i64 (ak y).length/\fr 38= .int .i64 k/\
   hp=Qi au 28 ⟨1,152,bI (p++(rs++List.replicate ((ak x).length-i) 0)),false⟩) (ak y).length ?_ ?_
  ·refine⟨0,0,lo.take i,lo.drop i,rfl,by omega,by omega,tW nw i,by simp;omega,by simp;omega,rfl,?_⟩;refine Sz7 h1 h5 mw og oh @true_and @and_true ?_;rw[<-List.append_assoc,Kbj];simp
  clear h1 h5 mw og oh;rintro _ fr _ ⟨k,c,p,rs,rfl,hk,hc,cr,cJ,rq,hinv,h1,h5,h6,h7,h8,mw,og,oh,yT,yU,yV,rfl⟩;refine Sz3 yT yU yV ?_;refine Qb (fun hq=>?_) (fun hq=>?_)
  ·have dF:k<(ak y).length:=by omega
   have hyk:=dn iP dF;rw[Kas dF]at hinv;generalize MG:(ak y)[k]=yk at *
   obtain _|⟨r,rs⟩:=rs
   ·simp at rq;omega
   rw[e7]at cr;have wb:=cr.1;have wx:=oN eg hyk;rw[gD]at hinv;have an:i+k<(p++r::(rs++List.replicate ((ak x).length-i) 0)).length:=by simp;omega
   have dz:=yc cJ an;simp+decide (disch:=first|omega|rfl|(simp+decide only[go_sem,h1,h5,h6,h7,h8,yT,yU,yV,MG,KaH,dz]<;>rfl)|fail) only[go_sem,h1,h5,h6,h7,h8,yT,yU,yV,MG,KaH,dz];refine kv (m:=(ak y).length-(k+1)) (by omega) ⟨k+1,_,_,_,rfl,by omega,?_,cr.2,?_,?_,(Kbz ..).symm.trans hinv,?_⟩
   ·omega
   ·simp[cJ];omega
   ·simp at rq;omega
   ·refine Sz14 h1 h5 h6 h7 h8 mw og oh yT yU yV @true_and @and_true @kB ?_;simp
  ·obtain rfl:k=(ak y).length:=by omega
   obtain rfl:rs=[]:=Kat.1 (by omega);rw[Kal (Kag _),gD]at hinv
   rotate_left
   ·intros;simp_all
   obtain⟨z,hz⟩:∃z,(ak x).length-i=z+1:=⟨(ak x).length-i-1,by omega⟩
   have an:i+(ak y).length<(p++0::(List.replicate z 0)).length:=by simp;omega
   simp+decide (disch:=first|omega|rfl|(simp+decide only[go_sem,h1,h5,h6,h8,mw,og,oh,KaE,hz,Kbt]<;>rfl)|fail) only[go_sem,h1,h5,h6,h8,mw,og,oh,KaE,hz,Kbt];refine kv (m:=(ak x).length-(i+1)) (by omega) ⟨i+1,lo.take i++gD (lo.drop i) (ak y) xi 0,rfl,by omega,vV,by omega,?_,?_⟩
   ·rw[jz]
   ·refine Sz8 h1 h5 mw og oh @true_and @and_true @kB ?_;rw[<-hinv,show(ak x).length-(i+1)=z by omega,KaC hc];simp
 ·obtain rfl:i=(ak x).length:=by omega
  rw[Kbp,Qz,Qz]at hv;simp+decide (disch:=first|omega|rfl|(simp+decide only[go_sem,h5,KbD,KaW,Kao]<;>rfl)|fail) only[go_sem,h5,KbD,KaW,Kao];refine qf hP (fo nw (by omega)) (uA rfl FI.symm) rfl fun hp'=>?_;refine Sz0 ?_;exact Qc (by rw[hv]) rfl
theorem Qxf{pre w post v:List Nat}{j m:Nat}(hw:Qk w)(hv:Qk v)(hj:pre.length=j)(hm:w.length=m)(hle:v.length<=w.length)(hlen:(pre++(w++post)).length<2^43):
  sj Tryz.prog 180 [.aq B0 j m,PV.nat v] 152 (bI (pre++(w++post))) (fun r xs'=>r= .aO []/\xs'=bI (pre++(g9 w v 0++post))):=by
 simp only[KaJ]at hlen;refine xy Qh Tryz.func180 rfl Ua (by simp[At]) fun C hP=>?_;simp only[At,Zo,Zg,Zm,Zc,Zf,Zl,Zh,Zs,Zi,Zb,Zk,Zn,Zu,Zq,Zr,Zz];refine Sz0 ?_;refine m9 (fun k fr hp=>∃i c done,k=w.length-i/\i<=w.length/\c<=1/\done.length=i/\done++g9 (w.drop i) (v.drop i) c=g9 w v 0/\
  fr 0= .aq 1000000 j m/\fr 1=PV.nat v/\fr 4= .int .u32 c/\fr 7= .int .i64 m/\fr 8= .int .i64 i/\hp=Qi au 1000000 ⟨1,152,bI ((pre++done)++(w.drop i++post)),false⟩) w.length ?_ ?_
 ·refine⟨0,0,[],rfl,by omega,by omega,rfl,rfl,?_⟩;simp+decide (disch:=first|omega|rfl|(simp+decide only[go_sem,true_and,and_true,Kao,Kbq]<;>rfl)|fail) only[go_sem,true_and,and_true,Kao,Kbq];simp
 rintro _ fr _ ⟨i,c,done,rfl,hi,hc,dR,hd,h0,h1,h4,h7,h8,rfl⟩;refine Sz2 h7 h8 ?_;refine Qb (fun hg=>?_) (fun hg=>?_)
 ·have aD:i<w.length:=by omega
  have hwi:=dn hw aD;rw[O5 aD]at hd;have cJ:(pre++done).length=j+i:=by simp[hj,dR]
  rw[Kas aD];generalize hww:w[i]=wi at *
  have an:j+i<((pre++done)++wi::(w.drop (i+1)++post)).length:=by simp;omega
  have dz:=yc cJ an;simp+decide (disch:=first|omega|rfl|(simp+decide only[go_sem,h0,h1,h4,h7,h8,KaH,dz]<;>rfl)|fail) only[go_sem,h0,h1,h4,h7,h8,KaH,dz];refine Qb (fun hq=>?_) (fun hq=>?_)
  ·have fR:i<v.length:=by omega
   have Mx:=dn hv fR;rw[eL fR]at hd;simp+decide (disch:=first|omega|rfl|(simp+decide only[go_sem,h0,h1,h4,h7,h8,kB]<;>rfl)|fail) only[go_sem,h0,h1,h4,h7,h8,kB];refine kv (m:=w.length-(i+1)) (by omega) ⟨i+1,_,_,rfl,by omega,?_,?_,(Kbz ..).symm.trans hd,?_⟩
   ·omega
   ·simp[dR]
   ·refine Sz8 h0 h1 h4 h7 h8 @true_and @and_true @kB ?_;simp
  ·rw[eM (by omega)]at hd;refine Sz6 h0 h1 h4 h7 h8 @kB ?_;refine kv (m:=w.length-(i+1)) (by omega) ⟨i+1,_,_,rfl,by omega,?_,?_,(Kbz ..).symm.trans hd,?_⟩
   ·omega
   ·simp[dR]
   ·refine Sz8 h0 h1 h4 h7 h8 @true_and @and_true @kB ?_;simp
 ·obtain rfl:i=w.length:=by omega
  rw[Kal (Kag _),g9,Kao]at hd;refine Sz0 ?_;refine Wp rfl (na _) ?_ ⟨rfl,?_⟩
  ·simp[dR]
  ·rw[Kal (Kag _),hd];simp
theorem ZZ{pre w post v:List Nat}{j m q:Nat}(hw:Qk w)(hv:Qk v)(hq:q<65536)(hj:pre.length=j)(hm:w.length=m)(hle:v.length<=w.length)(hlen:(pre++(w++post)).length<2^43):
  sj Tryz.prog 179 [.aq B0 j m,PV.nat v,.int .u32 q] 152 (bI (pre++(w++post))) (fun r xs'=>r= .bool (decide (0<(dP w v q 0 0).2.2))/\xs'=bI (pre++((dP w v q 0 0).1++post))):=by
 simp only[KaJ]at hlen;refine xy Qh Tryz.func179 rfl TZ (by simp[As]) fun C hP=>?_;simp only[As,Zo,Zg,Zm,Zc,Zf,Zl,Zh,Zs,Zi,Zb,Zk,Zn,Zu,Zq,Zr,Zz];refine Sz0 ?_;refine m9 (fun k fr hp=>∃i c b done,k=w.length-i/\i<=w.length/\c<65536/\b<=1/\done.length=i/\done++(dP (w.drop i) (v.drop i) q c b).1=(dP w v q 0 0).1/\(dP (w.drop i) (v.drop i) q c b).2=(dP w v q 0 0).2/\
  fr 0= .aq 1000000 j m/\fr 1=PV.nat v/\fr 2= .int .u32 q/\fr 7= .int .u32 c/\fr 8= .int .i32 (b:Nat)/\fr 12= .int .i64 m/\fr 13= .int .i64 i/\hp=Qi au 1000000 ⟨1,152,bI ((pre++done)++(w.drop i++post)),false⟩) w.length ?_ ?_
 ·refine⟨0,0,0,[],rfl,by omega,by omega,by omega,rfl,rfl,rfl,?_⟩;simp+decide (disch:=first|omega|rfl|(simp+decide only[go_sem,true_and,and_true,Kao,Kbq]<;>rfl)|fail) only[go_sem,true_and,and_true,Kao,Kbq];simp
 rintro _ fr _ ⟨i,c,b,done,rfl,hi,hc,hb,dR,hd,lM,h0,h1,h2,h7,h8,fO,gq,rfl⟩;refine Sz2 fO gq ?_;refine Qb (fun hg=>?_) (fun hg=>?_)
 ·have aD:i<w.length:=by omega
  have hwi:=dn hw aD;rw[O6 aD]at hd lM;simp only at hd lM;have cJ:(pre++done).length=j+i:=by simp[hj,dR]
  rw[Kas aD];generalize hww:w[i]=wi at *
  have an:j+i<((pre++done)++wi::(w.drop (i+1)++post)).length:=by simp;omega
  have dz:=yc cJ an;simp+decide (disch:=first|omega|rfl|(simp+decide only[go_sem,h0,h1,h2,h7,h8,fO,gq,KaH,dz]<;>rfl)|fail) only[go_sem,h0,h1,h2,h7,h8,fO,gq,KaH,dz];refine uj (fun fr hp=>c+q*v.getD i 0<=4294967295/\fr 0= .aq 1000000 j m/\fr 1=PV.nat v/\fr 2= .int .u32 q/\fr 7= .int .u32 (c+q*v.getD i 0:Nat)/\fr 8= .int .i32 (b:Nat)/\fr 9= .int .i64 i/\fr 12= .int .i64 m/\fr 13= .int .i64 i/\hp=Qi au 1000000 ⟨1,152,bI ((pre++done)++wi::(w.drop (i+1)++post)),false⟩) ?_ ?_
  ·refine Qb (fun nB=>?_) (fun nB=>?_)
   ·have fR:i<v.length:=by omega
    have Mx:=dn hv fR;have nB:=oN hq Mx;simp+decide (disch:=first|omega|rfl|(simp+decide only[go_sem,h0,h1,h2,h7,h8,fO,gq,eL fR,true_and,and_true]<;>rfl)|fail) only[go_sem,h0,h1,h2,h7,h8,fO,gq,eL fR,true_and,and_true];omega
   ·simp+decide (disch:=first|omega|rfl|(simp+decide only[go_sem,h0,h1,h2,h7,h8,fO,gq,true_and,and_true,eM (by omega:¬i<v.length),KbK,KaM]<;>rfl)|fail) only[go_sem,h0,h1,h2,h7,h8,fO,gq,true_and,and_true,eM (by omega:¬i<v.length),KbK,KaM];omega
  clear h0 h1 h2 h7 h8 fO gq;rintro fr _ ⟨jZ,h0,h1,h2,h7,h8,h9,fO,gq,rfl⟩;generalize c+q*v.getD i 0=c1 at *
  refine Sz9 h0 h1 h2 h7 h8 h9 fO gq dz ?_;refine uj (fun fr hp=>fr 0= .aq 1000000 j m/\fr 1=PV.nat v/\fr 2= .int .u32 q/\fr 7= .int .u32 (c1/65536:Nat)/\fr 8= .int .i32 ((if wi<c1%65536+b then 1 else 0):Nat)/\fr 9= .int .i64 i/\fr 10= .int .i32 ((wi+65536-c1%65536-b)%65536:Nat)/\fr 12= .int .i64 m/\fr 13= .int .i64 i/\hp=Qi au 1000000 ⟨1,152,bI ((pre++done)++wi::(w.drop (i+1)++post)),false⟩) ?_ ?_
  ·refine Qb (fun hq=>?_) (fun hq=>?_)
   ·rw[if_pos (by omega)];refine vm h0 h1 h2 h7 h8 h9 fO gq @true_and @and_true ?_;simp;omega
   ·rw[if_neg (by omega)];refine vm h0 h1 h2 h7 h8 h9 fO gq @true_and @and_true ?_;simp;omega
  clear h0 h1 h2 h7 h8 h9 fO gq;rintro fr _ ⟨h0,h1,h2,h7,h8,h9,bC,fO,gq,rfl⟩;refine vm h0 h1 h2 h7 h8 h9 bC fO gq @kB ?_;refine kv (m:=w.length-(i+1)) (by omega) ⟨i+1,c1/65536,_,_,rfl,by omega,by omega,?_,?_,(Kbz ..).symm.trans hd,lM,?_⟩
  ·split<;>omega
  ·simp[dR]
  ·refine Al h0 h1 h2 h7 h8 h9 bC fO gq @true_and @and_true @kB @Nat.mod_mod ?_;simp
 ·obtain rfl:i=w.length:=by omega
  rw[Kal (Kag _),dP]at hd lM;simp only[Kao]at hd;refine Sz1 h8 ?_;refine G1 (p:=.bool (decide (0<(b:Int)))) rfl (na _) ?_ Tz0 rfl ⟨?_,?_⟩
  ·simp[dR]
  ·rw[<-lM];simp
  ·rw[Kal (Kag _),hd];simp
theorem Z'{v u:List Nat}{dg n r j:Nat}(hv:Qk v)(hu:Qk u)(hn:2<=n)(fi:n=v.length)(hju:j+n<u.length)(hd:dg<4294967296)(hr:r<65536)(F3:u.length<2^43):
  Qd Tryz.prog 178 [.pt [.int .u64 dg],.pt [PV.nat v],.pt [.int .i64 n],.pt [.int .u64 r],.pt [PV.nat u],.pt [.int .i64 j]]
   (· = .bool (decide (65536<=dg∨r*65536+u.getD (j+n-2) 0<dg*v.getD (n-2) 0))):=by
 have h1:n-2<v.length:=by omega
 have h2:j+n-2<u.length:=by omega
 have tx:=dn hv h1;have Mw:=dn hu h2;rw[eL h1,eL h2];refine Qf Qh Tryz.func178 rfl TY (by simp[Ar]) fun C hP=>?_;simp only[Ar,Zo,Zg,Zm,Zc,Zf,Zl,Zh,Zs,Zi,Zb,Zk,Zn,Zu,Zq,Zr,Zz];refine Sz0 ?_;refine dA (fun hz=>?_) (fun hz=>?_)
 ·refine Sz0 ?_;exact Qc (by simp;omega) rfl
 ·have oo:dg<65536:=by omega
  have e1:(n:Int)-2=((n-2:Nat):Int):=by omega
  have e2:((j+n:Nat):Int)-2=((j+n-2:Nat):Int):=by omega
  generalize hvv:v[n-2]=vi at *
  generalize huu:u[j+n-2]=ui at *
  have hm:=oN oo tx;refine Sz6 e1 e2 hvv huu @BL @Ch ?_;exact Qc (congrArg PV.bool (decide_eq_decide.2 ⟨fun h=>.inr (by omega),fun h=>by rcases h with h|h<;>omega⟩)) rfl
theorem Nu{l post:List Nat}(hv:Qk l)(hl:(l++post).length<2^43)(hlen:0<l.length):
  sj Tryz.prog 162 [.aq B0 0 l.length] 152 (bI (l++post)) (fun r xs'=>r= .aq B0 0 (nl (val l))/\xs'=bI (l++post)):=by
 simp only[KaJ]at hl;have aeV:l.length<=(l++post).length:=by simp
 refine xy Qh Tryz.func162 rfl Gw (by simp[vo]) fun C hP=>?_;simp only[vo,Zo,Zg,Zm,Zc,Zf,Zl,Zh,Zs,Zi,Zb,Zk,Zn,Zu,Zq,Zr,Zz];refine Sz0 ?_;refine m9 (fun m fr hp=>m<=l.length/\cut l m=ak (val l)/\fr 0= .aq 1000000 0 l.length/\fr 3= .int .i64 m/\hp=Qi au 1000000 ⟨1,152,bI (l++post),false⟩) l.length ?_ ?_
 ·exact⟨Kag _,uO hv,rfl,rfl,rfl⟩
 rintro n fr _ ⟨hn,hc,h0,h3,rfl⟩;refine Sz2 h0 h3 ?_;refine eK (fun hg=>?_) (fun hg=>?_)
 ·obtain _|n:=n
  ·omega
  have e:((n+1:Nat):Int)-1=n:=by omega
  have an:n<(l++post).length:=by simp;omega
  have dz:(l++post)[n]=l[n]:=by simp[List.getElem_append,show n<l.length by omega]
  refine Sz4 h0 h3 e dz ?_;simp only[cut]at hc;refine Qb (fun hz=>?_) (fun hz=>?_)
  ·rw[if_pos (by grind)]at hc;refine Sz3 h0 h3 e ?_;refine kv (m:=n) (by omega) ⟨by omega,hc,?_⟩;exact Tz3 h0 @true_and @and_true
  ·rw[if_neg (by grind)]at hc;have ju:nl (val l)=n+1:=by rw[nl,<-hc];simp;omega
   refine Sz2 h0 h3 ?_;exact K7 rfl (na _) (by simp) (Tz1 ju) ⟨rfl,rfl⟩
 ·obtain rfl:n=0:=by omega
  have ju:nl (val l)=0:=by rw[nl,<-hc,cut];rfl
  refine Sz2 h0 h3 ?_;exact K7 rfl (na _) (by simp) (Tz1 ju) ⟨rfl,rfl⟩
theorem Bh{a:List Nat}{s:Nat}(ha:Qk a)(bz:a.length<2^40)(hs:s<=15)(bh:val a≠0):uQ Tryz.prog 166 [PV.nat a,.int .i64 s] 152 (fun ys=>ys=bI (ak (val a*2^s))):=by
 have eQ:=bS ha;unfold nl at eQ;have kU:(ak (val a)).length≠0:=by intro h;exact bh (iU.1 (l0 h))
 refine O3 Qh Tryz.func166 rfl CG (by simp[qJ]) fun C hP=>?_;simp only[qJ,Zo,Zg,Zm,Zc,Zf,Zl,Zh,Zs,Zi,Zb,Zk,Zn,Zu,Zq,Zr,Zz];refine Sz0 ?_;refine Qa hP (fo ha (by omega)) rfl rfl rfl ?_;refine Sz0 ?_;generalize val a=x at *
 have dS:=Ql x;have e1:s/16=0:=Kcd (by omega);have e2:s%16=s:=KaC (by omega);refine dA (fun hz=>by omega) (fun hz=>?_);refine Sz0 ?_;refine dA (fun hz=>by omega) (fun hz=>?_);refine Sz0 ?_;refine Qb (fun hz=>by omega) (fun hz=>?_);refine Sz0 ?_;refine Qb (fun hz=>by omega) (fun hz=>?_);refine Sz4 @Jy @Jz e1 e2 ?_;refine m9 (fun k fr hp=>∃i c done,k=(ak x).length-i/\i<=(ak x).length/\c<2^s/\done.length=i/\done++kF s ((ak x).drop i) c=kF s (ak x) 0/\
  fr 5= .int .i64 (0:Nat)/\fr 6= .int .i64 s/\fr 7= .ms 44 ((ak x).length+1)/\fr 45=PV.num x/\fr 46= .int .i64 (ak x).length/\fr 47= .int .i64 i/\
  hp=Qi au 44 ⟨1,152,bI (done++c::List.replicate ((ak x).length-i) 0),false⟩) (ak x).length ?_ ?_
 ·refine⟨0,0,[],rfl,by omega,KbI (by omega),rfl,rfl,?_⟩;simp+decide (disch:=first|omega|rfl|(simp+decide only[go_sem,true_and,and_true,KaE,Kb0]<;>rfl)|fail) only[go_sem,true_and,and_true,KaE,Kb0];simp[Kbt]
 rintro _ fr _ ⟨i,c,done,rfl,hi,hc,dR,hd,h5,h6,h7,yW,yY,yZ,rfl⟩;refine Sz3 yW yY yZ ?_;have ae2:2^s<=2^15:=KaX (by omega) hs;refine Qb (fun hg=>?_) (fun hg=>?_)
 ·have aD:i<(ak x).length:=by omega
  have eg:=dn dS aD;rw[Kas aD,kF]at hd;generalize cR:(ak x)[i]=xi at *
  obtain⟨z,hz⟩:∃z,(ak x).length-i=z+1:=⟨(ak x).length-i-1,by omega⟩
  have an:i<(done++c::List.replicate (z+1) 0).length:=by simp;omega
  have dz:=yc dR an;have fF:=Kr (x:=xi) (show s<=16 by omega) hc;have dY:=JA (show s<=16 by omega) eg;have hl:=Wr hs eg;refine Al h5 h6 h7 yW yY yZ cR hz dz @KO @Wq fF.2 @kB ?_;have ki:∀v u,(done++v::List.replicate (z+1) 0).set (i+1) u=(done++[v])++u::List.replicate z 0:=fun v u=>by rw[Kbz,Kbt,kB (by simp[dR])]
  rw[GQ (by simp;omega),ki,KaC (by omega:xi*2^s/65536<65536)];refine Sz6 h5 h6 h7 yW yY yZ ?_;refine kv (m:=(ak x).length-(i+1)) (by omega) ⟨i+1,xi*2^s/65536,done++[xi*2^s%65536+c],rfl,by omega,dY,by simp[dR],(Kbz ..).symm.trans hd,?_⟩;refine Sz8 h5 h6 h7 yW yY yZ @true_and @and_true ?_;rw[show(ak x).length-(i+1)=z by omega]
 ·obtain rfl:i=(ak x).length:=by omega
  rw[Kal (Kag _),kF]at hd;have mJ:=Ix hs (ak x) 0 dS (KbI (by omega));have ie:=Kq s (ak x) 0;have zo:=H3 s (ak x) 0;rw[Qz,KaM]at ie;rw[<-hd]at mJ ie zo;have ae0:x*2^s≠0:=Nat.mul_ne_zero bh (Nat.ne_of_gt (KbI (by omega)));simp+decide (disch:=first|omega|rfl|(simp+decide only[go_sem,h7,KbD,KaW]<;>rfl)|fail) only[go_sem,h7,KbD,KaW];have ht:=Nu (l:=done++[c]) (post:=[]) mJ (by simp[dR];omega) (by simp);rw[Kao,ie]at ht;refine yv hP ht (β:=44) Tz0 (na _) (by simp) (by simp[gf,zo]) rfl ?_;rintro r xs' _ _ ⟨rfl,rfl⟩;simp+decide (disch:=first|omega|rfl|(simp+decide only[go_sem,kD]<;>rfl)|fail) only[go_sem,kD];refine⟨4,44,nl (x*2^s),_,rfl,by simp+decide (disch:=try exact D0) only[go_sem],rfl,by simp+decide (disch:=try exact D0) only[go_sem];rfl,na _,?_,?_⟩
  ·have:= @BB (x*2^s);omega
  ·rw[<-ie,<-List.map_take,Ro mJ]
theorem Nv{a:List Nat}{s:Nat}(ha:Qk a)(bz:a.length<2^42)(hs:s<=15):Qd Tryz.prog 177 [PV.nat a,.int .i64 s] (· =PV.num (val a/2^s)):=by
 have e1:s/16=0:=Kcd (by omega);have e2:s%16=s:=KaC (by omega);refine Qf Qh Tryz.func177 rfl Uc (by simp[Av]) fun C hP=>?_;simp only[Av,Zo,Zg,Zm,Zc,Zf,Zl,Zh,Zs,Zi,Zb,Zk,Zn,Zu,Zq,Zr,Zz];refine Sz4 @Jy @Jz e1 e2 ?_;refine Qb (fun hz=>?_) (fun hz=>?_)
 ·have:a=[]:=Kat.1 (by omega);subst this;refine Sz0 ?_;exact mc (uP (by simp[val])) rfl
 have e3:((a.length:Int)-((0:Nat):Int))=((a.length:Nat):Int):=by omega
 refine Sz1 e3 ?_;refine Q3 (by repeat (first|exact Qx|exact Qq|exact Qr|exact Qt|exact Qu|apply Qp|apply Qw|apply Q2|apply Q7|apply Q8|apply Qn)) [(8,9),(25,60)] [] (fun k J hp=>∃i done,k=a.length-i/\i<=a.length/\done.length=i/\done++jT s (a.drop i)=jT s a/\J 25= .int .i64 i/\
  hp=Qi au 22 ⟨1,152,bI (done++List.replicate (a.length-i) 0),false⟩) a.length ?_ ?_
 ·refine⟨0,[],rfl,by omega,rfl,rfl,?_⟩;simp+decide (disch:=first|omega|rfl|(simp+decide only[go_sem,true_and,and_true,KaE,Kb0]<;>rfl)|fail) only[go_sem,true_and,and_true,KaE,Kb0];simp
 rintro _ J _ ⟨i,done,rfl,hi,dR,hd,qO,rfl⟩;refine Sz1 qO ?_;refine Qb (fun hg=>?_) (fun hg=>?_)
 ·have aD:i<a.length:=by omega
  have zb:=dn ha aD;rw[O' aD]at hd;generalize cR:a[i]=xi at *
  have hlen:=Cf (n:=a.length-i) dR (by omega:_=a.length);refine Sz2 qO cR ?_;refine Qb (fun hq=>?_) (fun hq=>?_)
  ·have fR:i+1<a.length:=by omega
   have haj:=dn ha fR;rw[eL fR]at hd;simp+decide (disch:=first|omega|rfl|(simp+decide only[go_sem,qO,BM,Jx,Cv]<;>rfl)|fail) only[go_sem,qO,BM,Jx,Cv];refine Qm (a.length-(i+1)) (by omega) ⟨i+1,_,rfl,by omega,by simp[dR],(Kbz ..).symm.trans hd,?_⟩;exact Tz5 qO @true_and @and_true @ux @Nat.sub_sub
  ·rw[eM (by omega),Kca,Ka2]at hd;refine Sz2 qO @Cv ?_;refine Qm (a.length-(i+1)) (by omega) ⟨i+1,_,rfl,by omega,by simp[dR],(Kbz ..).symm.trans hd,?_⟩;exact Tz5 qO @true_and @and_true @ux @Nat.sub_sub
 ·obtain rfl:i=a.length:=by omega
  rw[Kal (Kag _),jT,Kao]at hd;simp+decide (disch:=first|omega|rfl|(simp+decide only[go_sem,KbD,KaW,Kao]<;>rfl)|fail) only[go_sem,KbD,KaW,Kao];rw[hd];refine qf hP (fo (Iy s a) (by rw[Bf];exact bz)) (uA rfl (Bf s a).symm) rfl fun hp'=>?_;refine Sz0 ?_;exact Qc (by rw[Kt (by omega) a ha]) rfl
theorem Qyz{x V d q:Nat}(hd:0<d)(h:q=V/d):(V%d*65536+x)/d+65536*q=(x+65536*V)/d/\(V%d*65536+x)%d=(x+65536*V)%d:=by
 subst h;have e:x+65536*V=(V%d*65536+x)+d*(65536*(V/d)):=by
  have:=Kbb V d
  calc x+65536*V=x+65536*(d*(V/d)+V%d):=by rw[this]
   _=_:=by rw[KaO,Kbw];omega
 rw[e,Kb6 _ _ hd,Kb5];exact⟨rfl,rfl⟩
theorem Qy0{a:List Nat}{d:Nat}(ha:Qk a)(bz:a.length<2^42)(hd:0<d)(lM:d<65536):Qd Tryz.prog 164 [PV.nat a,.int .u16 d] (· = .aO [PV.num (val a/d),.int .u16 (val a%d:Nat)]):=by
 refine Qf Qh Tryz.func164 rfl TW (by simp[Ap]) fun C hP=>?_;simp only[Ap,Zo,Zg,Zm,Zc,Zf,Zl,Zh,Zs,Zi,Zb,Zk,Zn,Zu,Zq,Zr,Zz];refine Sz0 ?_;refine Q3 (by repeat (first|exact Qx|exact Qq|exact Qr|exact Qt|exact Qu|apply Qp|apply Qw|apply Q2|apply Q7|apply Q8|apply Qn)) [(7,8),(15,38)] [] (fun k J hp=>∃qs,k<=a.length/\qs.length=a.length-k/\Qk qs/\val qs=val (a.drop k)/d/\J 7= .int .u32 (val (a.drop k)%d:Nat)/\J 8= .int .i64 ((k:Int)-1)/\
  hp=Qi au 11 ⟨1,152,bI (List.replicate k 0++qs),false⟩) a.length ?_ ?_
 ·refine⟨[],Kag _,by simp,kA,by simp[val],?_⟩;refine Sz2 @true_and @and_true ?_;simp[val]
 rintro k J _ ⟨qs,hk,Md,lS,hv,h7,h8,rfl⟩;refine Sz2 h7 h8 ?_;have hr:=Kbn (val (a.drop k)) hd;refine Qb (fun hg=>?_) (fun hg=>?_)
 ·obtain _|n:=k
  ·omega
  have hn:n<a.length:=by omega
  have Fh:=dn ha hn;have e:((n+1:Nat):Int)-1=n:=by omega
  have aW:=Qyz (x:=a[n]) hd hv;rw[<-iZ hn]at aW;have an:(val (a.drop (n+1))%d*65536+a[n])/d<65536:=by rw[Ka6 hd];have:(val (a.drop (n+1))%d+1)*65536<=d*65536:=Kam _ hr;omega
  generalize cR:a[n]=xn at *
  generalize val (a.drop (n+1))%d=r at *
  have hlen:n<(List.replicate (n+1) 0++qs).length:=by simp;omega
  refine Sz8 h7 h8 e cR @BM @Rn @Ti @mX ?_;refine Qm n (by omega) ⟨(r*65536+xn)/d::qs,by omega,?_,?_,?_,?_⟩
  ·simp;omega
  ·rw[e7];exact⟨an,lS⟩
  ·rw[val,aW.1]
  ·refine Sz5 h7 h8 @true_and @and_true aW.2 ?_;rw[KaC an,List.replicate_succ',Kbv,List.singleton_append,kB (by simp)]
 ·obtain rfl:k=0:=by omega
  rw[Kbq]at hv h7;have an:=Kbn (val a) hd;simp+decide (disch:=first|omega|rfl|(simp+decide only[go_sem,h7,h8,KaW,KaE]<;>rfl)|fail) only[go_sem,h7,h8,KaW,KaE];refine qf hP (fo lS (by omega)) (uA rfl (by omega)) rfl fun hp'=>?_;refine Sz1 h7 ?_;refine jR rfl rfl rfl (oO (by rw[hv])) (oO ?_);rw[KaC (by omega)]
theorem IZ{x:Nat}(h:x<65536):Qd Tryz.prog 176 [.int .u16 x] (· = .int .i64 (Lib.bitLen x:Nat)):=
 Qyu (by simp[lI];exact⟨rfl,by decide⟩) (fun w=>Qy1 x w (by omega) (by omega)) (fun _ _=>Qo.int _ _)
theorem Bi{x:Nat}(h:x<65536):Lib.bitLen x<=16:=Lib.bitLen_le x 16 (by omega) (by omega)
theorem BD{x:Nat}(h:x<65536)(h0:x≠0):1<=Lib.bitLen x:=by have:=Lib.bitLen_half x h0 (by omega);omega
theorem Qy2:Lib.bitLen 0=0:=by decide
theorem Nw:∀(n x:Nat),Lib.bitLen x=n->x≠0->x<65536->2^n<=2*x/\x<2^n:=by
 intro n;induction n with
 |zero=>intro x h h0 hx;have:=BD hx h0;omega
 | succ n ih=>
  intro x h h0 hx;have e:=Lib.bitLen_half x h0 (by omega);by_cases h2:x/2=0
  ·have:x=1:=by omega
   subst this;have:n=0:=by rw[h]at e;simp[Qy2]at e;exact e
   subst this;simp
  ·have:=ih (x/2) (by omega) h2 (by omega);rw[Kbi];omega
theorem ZK{x:Nat}(h:x<65536):Qd Tryz.prog 165 [.int .u16 x] (· = .int .i64 (16-Lib.bitLen x:Nat)):=by have:=Bi h;refine Qf Qh Tryz.func165 rfl Ud (by simp[Aw]) fun C hP=>?_;simp only[Aw,Zo,Zg,Zm,Zc,Zf,Zl,Zh,Zs,Zi,Zb,Zk,Zn,Zu,Zq,Zr,Zz];refine Sz0 ?_;refine Qa hP (IZ h) rfl rfl rfl ?_;refine Sz0 ?_;exact Qc (by congr 1;omega) rfl
theorem JO{a:List Nat}(ha:Qk a)(bz:a.length<2^40):Qd Tryz.prog 187 [PV.nat a] (fun r=>∃n:Nat,r= .int .i64 n/\(n=0↔val a=0)):=by
 have hd:=bS ha;unfold nl at hd;refine Qf Qh Tryz.func187 rfl TR (by simp[Ag]) fun C hP=>?_;simp only[Ag,Zo,Zg,Zm,Zc,Zf,Zl,Zh,Zs,Zi,Zb,Zk,Zn,Zu,Zq,Zr,Zz];refine Sz0 ?_;refine Qa hP (fo ha (by omega)) rfl rfl rfl ?_;refine Sz0 ?_;refine Qb (fun hz=>?_) (fun hz=>?_)
 ·refine Sz0 ?_;have:val a=0:=iU.1 (Kat.1 (by omega));exact⟨rfl,_,bT _,0,rfl,by simp[this]⟩
 ·have bh:val a≠0:=fun h=>by rw[h,eh]at hz;simp at hz
  have tj:=Ce (val a);have zp:=Ql (val a);generalize val a=x at *
  obtain⟨k,hk⟩:∃k,(ak x).length=k+1:=⟨(ak x).length-1,by omega⟩
  have an:k<(ak x).length:=by omega
  have oz:=dn zp an;have kU:(ak x)[k]≠0:=by intro h;apply tj;rw[Ka7,hk,Nat.add_sub_cancel,Kaf an,h]
  have e:((k+1:Nat):Int)-1=k:=by omega
  generalize cR:(ak x)[k]=xi at *
  have hb:=Bi oz;have ba:=BD oz kU;refine Sz3 hk e cR ?_;refine Qa hP (IZ oz) rfl rfl rfl ?_;have e2:(16:Int)*(k:Int)=((16*k:Nat):Int):=by omega
  refine Sz1 e2 ?_;exact⟨rfl,_,bT _,16*k+Lib.bitLen xi,rfl,by omega⟩
theorem Yi(i:Nat):2^(16*i)=65536^i:=by rw[Nat.pow_mul]
theorem BV{a:List Nat}(ha:Qk a)(bz:a.length<2^40):Qd Tryz.prog 149 [PV.nat a] (· =if nl (val a)<=4 then .aO [.int .u64 (val a),.bool true]else .aO [.int .u64 0,.bool false]):=by
 have hd:=bS ha;unfold nl at hd;refine Qf Qh Tryz.func149 rfl TQ (by simp[Af]) fun C hP=>?_;simp only[Af,Zo,Zg,Zm,Zc,Zf,Zl,Zh,Zs,Zi,Zb,Zk,Zn,Zu,Zq,Zr,Zz];refine Sz0 ?_;refine Qa hP (fo ha (by omega)) rfl rfl rfl ?_;refine Sz0 ?_;have zp:=Ql (val a);have er:=Qz (val a);unfold nl;generalize val a=x at *
 refine Qb (fun hz=>?_) (fun hz=>?_)
 ·refine Sz0 ?_;rw[if_neg (by omega)];exact jR rfl rfl rfl (bT _) (bT _)
 ·refine Sz0 ?_;rw[if_pos (by omega)];refine Q3 (by repeat (first|exact Qx|exact Qq|exact Qr|exact Qt|exact Qu|apply Qp|apply Qw|apply Q2|apply Q7|apply Q8|apply Qn)) [(4,6),(14,26)] [] (fun k J hp=>∃i,k=(ak x).length-i/\i<=(ak x).length/\J 14= .int .i64 i/\J 4= .int .u64 (val ((ak x).take i))/\hp=au) (ak x).length ?_ ?_
  ·refine⟨0,rfl,by omega,?_⟩;simp+decide (disch:=first|omega|rfl|(simp+decide only[go_sem,true_and,and_true,Kb3]<;>rfl)|fail) only[go_sem,true_and,and_true,Kb3];simp[val]
  rintro _ J _ ⟨i,rfl,hi,gH,h4,rfl⟩;refine Sz2 gH h4 ?_;refine Qb (fun hg=>?_) (fun hg=>?_)
  ·have aD:i<(ak x).length:=by omega
   have eg:=dn zp aD;have iN:=tM aD;have pR:=oK zp i (by omega);generalize cR:(ak x)[i]=xi at *
   have e2:(16:Int)*(i:Int)=((16*i:Nat):Int):=by omega
   have hb:xi*2^(16*i)+2^(16*i)<=18446744073709551616:=by have h3:2^(16*i)<=2^48:=KaX (by omega) (by omega);have:(xi+1)*2^(16*i)<=65536*2^48:=KbU (by omega) h3;rw[Kaz]at this;omega
   have hpp:0<2^(16*i):=KbI (by omega);rw[<-Yi]at iN pR;have tr:(val ((ak x).take i)|||xi*2^(16*i))=val ((ak x).take (i+1)):=by rw[Nat.or_comm,u5 pR,iN,KaS,KbO]
   refine Sz7 gH h4 cR e2 @K8 @G2 tr ?_;refine Qm ((ak x).length-(i+1)) (by omega) ⟨i+1,rfl,by omega,?_⟩;exact Tz3 gH @true_and @and_true
  ·obtain rfl:i=(ak x).length:=by omega
   rw[Kbp,er]at h4;refine Sz1 h4 ?_;exact jR rfl rfl rfl (bT _) (bT _)
set_option maxHeartbeats 2000000 in
theorem Px{u v ex:List Nat}(hu:Qk u)(hv:Qk v)(hn:2<=v.length)(an:v.length<u.length)(Mv:32768<=v.getD (v.length-1) 0)(acs:val (u.drop (u.length-v.length))<val v)(F3:u.length+ex.length<2^42):
  sj Tryz.prog 167 [.aq B0 0 u.length,PV.nat v] 152 (bI (u++ex)) (fun r xs'=>r=PV.num (val u/val v)/\∃l,xs'=bI (l++ex)/\Qk l/\l.length=u.length/\val l=val u%val v):=by
 obtain⟨n,fi⟩:∃n,v.length=n+2:=⟨v.length-2,by omega⟩
 have e1:(u.length:Int)-(v.length:Int)=((u.length-v.length:Nat):Int):=by omega
 have pR:=KR fi;have wj:=oK hv n (by omega);have adj:=lv hv;have tx:=dn hv (show n+1<v.length by omega);have oy:=dn hv (show n<v.length by omega);have tf:v[n+1]'(by omega)=v.getD (n+1) 0:=(eL _).symm;have gI:v[n]'(by omega)=v.getD n 0:=(eL _).symm;have ac8:32768<=v.getD (n+1) 0:=by rw[fi]at Mv;exact Mv
 rw[tf]at tx;rw[gI]at oy;rw[fi]at adj;have hvp:0<val v:=by rw[pR];have:0<65536^n:=KbI (by omega);have:0<(v.getD (n+1) 0*65536+v.getD n 0)*65536^n:=Nat.mul_pos (by omega) this;omega
 refine xy Qh Tryz.func167 rfl TL (by simp[AP]) fun C hP=>?_;simp only[AP,Zo,Zg,Zm,Zc,Zf,Zl,Zh,Zs,Zi,Zb,Zk,Zn,Zu,Zq,Zr,Zz];refine Sz1 e1 ?_;refine J1 (by repeat (first|exact Qx|exact Qq|exact Qr|exact Qt|exact Qu|apply Qp|apply Qw|apply Q2|apply Q7|apply Q8|apply Qn)) [(7,11),(24,105)] [7,9,10] (fun k J hp=>∃l qs,k+qs.length=u.length-v.length/\Qk l/\l.length=u.length/\Qk qs/\val (l.drop k)<val v/\val u=val l+val v*(65536^k*val qs)/\J 7= .mp 7 0 0/\
  hp 7=some ⟨1,3,[.int .i64 ((k:Int)-1)],false⟩/\hp 1000000=some ⟨1,152,bI (l++ex),false⟩/\hp 18=some ⟨1,152,bI (List.replicate k 0++qs),false⟩/\
  hp 3=some ⟨1,28,[PV.nat v],false⟩/\hp 5=some ⟨1,3,[.int .i64 v.length],false⟩) (u.length-v.length) ?_ ?_
 ·refine⟨u,[],rfl,hu,rfl,kA,acs,by simp[val],?_⟩;refine Sz2 @true_and @and_true ?_;simp
 intro F hF;have iI:F 2= .rb 1000000 0 u.length:=by rw[hF];simp+decide (disch:=try exact D0) only[go_sem]
 have fV:F 3= .mp 3 0 0:=by rw[hF];simp+decide (disch:=try exact D0) only[go_sem]
 have fW:F 5= .mp 5 0 0:=by rw[hF];simp+decide (disch:=try exact D0) only[go_sem]
 have iJ:F 6= .ms 18 (u.length-v.length):=by rw[hF];simp+decide (disch:=try exact D0) only[go_sem]
 have zk:∀β,[7,9,10].contains β=true->bB β F=F:=fun β h=>by rw[hF];exact xd h
 have hk9:=zk 9 rfl;have aeR:=zk 10 rfl;have zj:=zk 7 rfl;have hkk:bY [9,10] F=F:=by rw[hF];exact ZY rfl
 clear zk hF;rintro k J h ⟨l,qs,mM,hl,tl,lS,zx,er,eP,j2,iK,mE,bq,fQ⟩;refine vm @eP j2 @iK mE bq fQ @iI @fV @fW @iJ ?_;refine Qb (fun hg=>?_) (fun hg=>?_)
 ·obtain _|j:=k
  ·omega
  have e2:((j+1:Nat):Int)-1=j:=by omega
  have e3:((n+2:Nat):Int)-1=((n+1:Nat):Int):=by omega
  have e4:((j+(n+2):Nat):Int)-1=((j+(n+1):Nat):Int):=by omega
  obtain⟨pre,w,post,FJ,cJ,iO,tu,hw,fj,FT,hdj,Mz,w0,zA,zC⟩:=VM (n:=n) hl (by omega) (by omega) zx;have mI:=dn hl (show j+(n+2)<l.length by omega);have ot:=dn hl (show j+(n+1)<l.length by omega);have mH:=dn hl (show j+n<l.length by omega);have aeU:(l++ex).length=u.length+ex.length:=by rw[KaJ,tl]
  have LV:(l++ex)[j+(n+2)]'(by omega)=l.getD (j+(n+2)) 0:=by rw[Kco (by omega)];exact(eL _).symm
  have LU:(l++ex)[j+(n+1)]'(by omega)=l.getD (j+(n+1)) 0:=by rw[Kco (by omega)];exact(eL _).symm
  rw[<-eL (by omega)]at mI ot;have ac7:(bI (l++ex)).take u.length=bI l:=by rw[<-List.map_take,<-tl,List.take_left]
  have L8:l++ex=pre++(w++(post++ex)):=by rw[FJ];simp
  generalize l.getD (j+(n+2)) 0=w2 at *
  generalize l.getD (j+(n+1)) 0=w1 at *
  simp+decide (disch:=first|omega|rfl|(simp+decide only[go_sem,eP,j2,iK,mE,bq,fQ,iI,fV,fW,iJ,fi,e2,e3,e4,LV,LU,tf,BL,Ch,uF,mX]<;>rfl)|fail) only[go_sem,eP,j2,iK,mE,bq,fQ,iI,fV,fW,iJ,fi,e2,e3,e4,LV,LU,tf,BL,Ch,uF,mX];have afc:w.length=n+3:=iO;have aca:=NL pR zC zA (by rw[<-eL (show j+n<l.length by omega)]at mH;omega) (by omega:0<v.getD (n+1) 0);have pK:=QN pR zC wj Mz (KbI (by omega));have pF:=Kbb (w2*65536+w1) (v.getD (n+1) 0);have aeL:(w2*65536+w1)/v.getD (n+1) 0<131072:=by rw[Ka6 (by omega)];omega
  have ae5:=Kbn (w2*65536+w1) (by omega:0<v.getD (n+1) 0);rw[KaS]at pF;generalize hd0:(w2*65536+w1)/v.getD (n+1) 0=d0 at *
  generalize wb:(w2*65536+w1)%v.getD (n+1) 0=r0 at *
  have Fs:∀(h:HP) v w,Qi (Qi h 10 v) 9 w=Qi (Qi h 9 w) 10 v:=fun h v w=>Pc 10 9 (by decide) h v w;refine Tn (fun J=>J 7= .mp 7 0 0/\J 52= .int .u64 d0/\J 53= .int .u64 (w2*65536+w1:Nat)) (Tz3 @eP @true_and @and_true) ?_;clear eP;rintro J ⟨eP,EZ,Fa⟩;refine QO (by repeat (first|exact Qx|exact Qq|exact Qr|exact Qt|exact Qu|apply Qp|apply Qw|apply Q2|apply Q7|apply Q8|apply Qn)) [9,10] (fun J2 bu=>J2 7= .mp 7 0 0/\J2 9= .mp 9 0 0/\J2 10= .mp 10 0 0/\bu=Qi (Qi h 9 ⟨1,115,[.int .u64 d0],false⟩) 10 ⟨1,115,[.int .u64 r0],false⟩) ?_ ?_
  ·intro F' vB;have Lp:F' 3= .mp 3 0 0:=by rw[vB];simp+decide (disch:=try exact D1 fV) only[go_sem,fV]
   have Lq:F' 5= .mp 5 0 0:=by rw[vB];simp+decide (disch:=try exact D1 fW) only[go_sem,fW]
   have L4:bB 9 F'=F':=by rw[vB];exact xd rfl
   have L3:bB 10 F'=F':=by rw[vB];exact xd rfl
   clear vB
   repeat' (first|refine eV ?_ ?_|simp+decide (disch:=first|omega|rfl|(simp+decide only[go_sem,eP,EZ,Fa,bq,fQ,Lp,Lq,L4,L3,fi,e3,tf,mX]<;>rfl)|fail) only[go_sem,eP,EZ,Fa,bq,fQ,Lp,Lq,L4,L3,fi,e3,tf,mX])
   all_goals refine Cz (J:=_) ?_
   all_goals simp+decide (disch:=try exact D5 eP wb Fs true_and and_true) only[go_sem,eP,wb,Fs,true_and,and_true]
  clear eP EZ Fa J;rintro J _ ⟨eP,kN,kM,rfl⟩;simp+decide (disch:=first|omega|rfl|(simp+decide only[go_sem,eP,kN,kM,iI,fV,fW,iJ,Le,List.all_cons,List.all_nil,KaH,KaE,true_and]<;>rfl)|fail) only[go_sem,eP,kN,kM,iI,fV,fW,iJ,Le,List.all_cons,List.all_nil,KaH,KaE,true_and];refine J1 (by repeat (first|exact Qx|exact Qq|exact Qr|exact Qt|exact Qu|apply Qp|apply Qw|apply Q2|apply Q7|apply Q8|apply Qn)) [(62,77)] [] (fun m J hp=>∃d r,m=d/\d*v.getD (n+1) 0+r=w2*65536+w1/\val w<(d+1)*val v/\hp=Qi (Qi h 9 ⟨1,115,[.int .u64 d],false⟩) 10 ⟨1,115,[.int .u64 r],false⟩) d0 ?_ ?_
  ·exact⟨d0,r0,rfl,pF,aca,rfl⟩
  intro F1 s6;have y6:F1 9= .mp 9 0 0:=by rw[s6,ln];simp+decide (disch:=try exact D1 kN) only[go_sem,kN]
  have y5:F1 10= .mp 10 0 0:=by rw[s6,ln];simp+decide (disch:=try exact D1 kM) only[go_sem,kM]
  have EX:F1 11= .fn 178 [] [.mp 9 0 0,.mp 3 0 0,.mp 5 0 0,.mp 10 0 0,.rb 1000000 0 u.length,.mp 7 0 0]:=by rw[s6,ln];simp+decide (disch:=try exact D0) only[go_sem]
  have hE3:F1 3= .mp 3 0 0:=by rw[s6,ln];simp+decide (disch:=try exact D1 fV) only[go_sem,fV]
  have hE5:F1 5= .mp 5 0 0:=by rw[s6,ln];simp+decide (disch:=try exact D1 fW) only[go_sem,fW]
  rintro d J2 _ ⟨_,r,rfl,pG,Ft,rfl⟩;have aeJ:d<131072:=by have:d*32768<=d*v.getD (n+1) 0:=Kbm _ ac8;omega
  refine Sz3 @y6 @y5 @EX ?_;refine Qyv (by repeat (first|exact Qx|exact Qq|exact Qr|exact Qt|exact Qu|apply Qp|apply Qw|apply Q2|apply Q7|apply Q8|apply Qn)) [(62,67)] [] (fun J hp=>J 67= .bool (decide (r<65536/\(65536<=d∨r*65536+l.getD (j+n) 0<d*v.getD n 0)))/\hp=Qi (Qi h 9 ⟨1,115,[.int .u64 d],false⟩) 10 ⟨1,115,[.int .u64 r],false⟩) ?_ ?_
  ·refine eK (fun hr=>?_) (fun hr=>?_)
   ·refine Sz3 @y6 @y5 @EX ?_;refine O4 hP (Z' (dg:=d) (r:=r) (j:=j) hv hl hn rfl (by omega) (by omega) (by omega) (by omega)) (by simp+decide (disch:=first|omega|rfl|(simp+decide only[go_sem,dV,iK,bq,fQ,j2,e2,Kao,KaE,List.getElem?_cons_zero,Kbq,Kaj]<;>rfl)|fail) only[go_sem,dV,iK,bq,fQ,j2,e2,Kao,KaE,List.getElem?_cons_zero,Kbq,Kaj];simp only[Kbq,ac7]) rfl rfl ?_;refine Sz1 fi ?_;refine Cz ⟨?_,rfl⟩;refine Sz0 ?_;rw[show j+(n+2)-2=j+n by omega,show n+2-2=n by omega];exact congrArg PV.bool (decide_eq_decide.2 ⟨fun h=>⟨by omega,h⟩,fun h=>h.2⟩)
   ·refine Sz3 @y6 @y5 @EX ?_;refine Cz ⟨?_,rfl⟩;refine Sz0 ?_;simp;omega
  rintro J3 _ ⟨vz,rfl⟩;simp (disch:=decide) only[ln,yd];refine Sz1 vz ?_;refine Qb (fun ht=>?_) (fun ht=>?_)
  ·obtain⟨hr,ht⟩:=ht;have rf:val w<d*val v:=by
    rcases ht with ht|ht
    ·exact Ka8 Mz (Kam _ ht)
    ·exact QL pR zC zA pG ht
   obtain _|d:=d
   ·omega
   have e5:((d+1:Nat):Int)-1=(d:Nat):=by omega
   refine wT @y6 @y5 @hE3 @hE5 bq fQ fi e3 e5 tf Fs ?_;refine Qm d (by omega) ⟨d,r+v.getD (n+1) 0,rfl,?_,rf,rfl⟩;rw[Kaz]at pG;omega
  have qV:d<65536:=by apply Decidable.byContradiction;intro fD;apply ht;refine⟨?_,.inl (by omega)⟩;have:65536*v.getD (n+1) 0<=d*v.getD (n+1) 0:=Kam _ (by omega);omega
  have ac6:¬r*65536+l.getD (j+n) 0<d*v.getD n 0:=by
   intro acG;by_cases hr:r<65536
   ·exact ht ⟨hr,.inr acG⟩
   ·have:=oN qV oy;omega
  have e5:j+(n+2)+1-j=n+3:=by omega
  subst s6;simp (disch:=decide) only[ln,hkk,yd];refine Sz14 @eP @kN @kM @iI @fV @fW @iJ bq fQ j2 @iK e2 fi e5 ?_;have wh:=Kp w v d 0 0 hw (by omega) (by omega);have zd:=Iz w v d 0 0 (by omega) (by omega) qV hv;have a9:=Iw w v d 0 0;have Mq:=Il w v d 0 0;have zB:=lv hw;rw[iO]at wh zB;refine yv hP (ZZ (pre:=pre) (w:=w) (post:=post++ex) (j:=j) (m:=n+3) (q:=d) hw hv qV cJ iO (by omega) (by rw[<-L8];omega)) (β:=1000000) (Tz2 @iK L8) (na _) (by simp;omega) (by simp[gf,B0]) rfl ?_;rintro _ _ _ _ ⟨rfl,rfl⟩;generalize dP w v d 0 0=sq at *
  obtain⟨⟨wh,ba⟩,zd⟩:=And.intro wh zd;have Lt:=lv a9;rw[Mq,iO]at Lt;have ae3:pre.length+(w.length+post.length)=u.length:=by rw[<-tl,FJ];simp
  have ae7:j<(List.replicate (j+1) 0++qs).length:=by simp;omega
  have My:val l=val pre+65536^j*val w:=by rw[FJ,jK,jK,FT,cJ,KbK,KaM]
  simp+decide (disch:=first|omega|rfl|(simp+decide only[go_sem,kD,eP,kN,kM,iI,fV,fW,iJ]<;>rfl)|fail) only[go_sem,kD,eP,kN,kM,iI,fV,fW,iJ];refine Qb (fun hb=>?_) (fun hb=>?_)
  ·have cq:sq.2.2=1:=by omega
   rw[zd,cq]at wh;obtain _|d:=d
   ·omega
   have LP:=QM pR zC wj (by omega) qV pG ac6;obtain⟨k,hk⟩:=Ko sq.1 v 0 (by omega);have rq:=Iv sq.1 v 0;have Mh:=Ik sq.1 v 0;rw[Mq,iO]at hk Mh;have Mf:=lv rq;rw[Mh]at Mf;obtain⟨Fb,Fc⟩:=To (B:=65536^(n+3)) (S:=val sq.1) (e:=d) (by omega) Lt LP (by omega) Mf zB;have e6:((d+1:Nat):Int)-1=(d:Nat):=by omega
   simp+decide (disch:=first|omega|rfl|(simp+decide only[go_sem,eP,kN,kM,iI,fV,fW,iJ,bq,fQ,j2,iK,e2,e6,fi,e5]<;>rfl)|fail) only[go_sem,eP,kN,kM,iI,fV,fW,iJ,bq,fQ,j2,iK,e2,e6,fi,e5];refine yv hP (Qxf (pre:=pre) (w:=sq.1) (post:=post++ex) (j:=j) (m:=n+3) a9 hv cJ (by omega) (by omega) (by simp;omega)) (β:=1000000) Tz0 (na _) (by simp;omega) (by simp[gf,B0]) rfl ?_;rintro _ _ _ _ ⟨rfl,rfl⟩;have vI:=JB (q:=d) (R:=g9 sq.1 v 0) cJ FT er My Fc;simp+decide (disch:=first|omega|rfl|(simp+decide only[go_sem,kD,eP,kN,kM,iI,fV,fW,iJ,bq,fQ,j2,iK,mE,e2,e6,fi,e5,ye,KaC (by omega:d<65536),zj]<;>rfl)|fail) only[go_sem,kD,eP,kN,kM,iI,fV,fW,iJ,bq,fQ,j2,iK,mE,e2,e6,fi,e5,ye,KaC (by omega:d<65536),zj];refine Qm j (by omega) ⟨pre++(g9 sq.1 v 0++post),d::qs,by simp;omega,?_,?_,?_,?_,vI.2,?_⟩
   ·rw[ky,ky];exact⟨tu,rq,fj⟩
   ·simp;omega
   ·rw[e7];exact⟨by omega,lS⟩
   ·rw[vI.1];exact Fb
   ·simp+decide (disch:=first|omega|rfl|(simp+decide only[go_sem,bq,fQ,true_and,and_true,fi,Kbv]<;>rfl)|fail) only[go_sem,bq,fQ,true_and,and_true,fi,Kbv]
  ·have cq:sq.2.2=0:=by omega
   rw[zd,cq]at wh;obtain⟨Fb,Fc⟩:=VN (S:=val sq.1) (d:=d) (by omega) Ft;have vI:=JB (q:=d) (R:=sq.1) cJ FT er My Fc;simp+decide (disch:=first|omega|rfl|(simp+decide only[go_sem,kD,eP,kN,kM,iI,fV,fW,iJ,bq,fQ,j2,iK,mE,e2,fi,e5,ye,KaC qV,zj]<;>rfl)|fail) only[go_sem,kD,eP,kN,kM,iI,fV,fW,iJ,bq,fQ,j2,iK,mE,e2,fi,e5,ye,KaC qV,zj];refine Qm j (by omega) ⟨pre++(sq.1++post),d::qs,by simp;omega,?_,?_,?_,?_,vI.2,?_⟩
   ·rw[ky,ky];exact⟨tu,a9,fj⟩
   ·simp;omega
   ·rw[e7];exact⟨qV,lS⟩
   ·rw[vI.1];exact Fb
   ·simp+decide (disch:=first|omega|rfl|(simp+decide only[go_sem,bq,fQ,true_and,and_true,fi,Kbv]<;>rfl)|fail) only[go_sem,bq,fQ,true_and,and_true,fi,Kbv]
 ·obtain rfl:k=0:=by omega
  rw[Kbq]at zx;rw[Nat.pow_zero,Nat.one_mul]at er;have hdiv:val u/val v=val qs:=by rw[er,Kb6 _ _ hvp,Kcd zx,Ka2]
  have v3:val u%val v=val l:=by rw[er,Kb5,KaC zx]
  simp+decide (disch:=first|omega|rfl|(simp+decide only[go_sem,eP,j2,iK,mE,bq,fQ,iI,fV,fW,iJ,KaW,KaE]<;>rfl)|fail) only[go_sem,eP,j2,iK,mE,bq,fQ,iI,fV,fW,iJ,KaW,KaE];refine ix hP (fo lS (by omega)) (uA (ty:=152) (fz:=false) (by simp+decide (disch:=first|omega|rfl|(simp+decide only[go_sem,mE,KaW,KaE]<;>rfl)|fail) only[go_sem,mE,KaW,KaE]) (by omega)) rfl ?_;refine Sz0 ?_;refine G1 (xs':=bI (l++ex)) (p:=PV.num (val qs)) ?_ (na _) (by simp;omega) Tz0 rfl ⟨by rw[hdiv],l,rfl,hl,tl,v3.symm⟩;show FW.bw h [18] 1000000=_;simp only[FW.bw];rw[if_neg (by decide),iK]
theorem Nx{a:List Nat}{s:Nat}(ha:Qk a)(bz:a.length<2^40)(hs:s<=15):Qd Tryz.prog 166 [PV.nat a,.int .i64 (-(s:Int))] (· =PV.num (val a/2^s)):=by
 have eQ:=bS ha;unfold nl at eQ;by_cases h0:val a=0
 ·refine Qf Qh Tryz.func166 rfl CG (by simp[qJ]) fun C hP=>?_;simp only[qJ,Zo,Zg,Zm,Zc,Zf,Zl,Zh,Zs,Zi,Zb,Zk,Zn,Zu,Zq,Zr,Zz];refine Sz0 ?_;refine Qa hP (fo ha (by omega)) rfl rfl rfl ?_;refine Sz0 ?_;refine dA (fun hz=>by omega) (fun hz=>?_);refine Sz0 ?_;refine dA (fun hz=>by omega) (fun hz=>?_);refine Sz0 ?_;refine Qb (fun hz=>?_) (fun hz=>absurd (by rw[h0,eh];rfl) hz);refine Sz0 ?_;exact mc (uP (by simp[h0])) rfl
 by_cases ru:s=0
 ·subst ru;have:=(Bh (s:=0) ha bz (by omega) h0).M4;rw[Nat.pow_zero,Kb4]at this;rw[Nat.pow_zero,Nat.div_one];exact this
 have kU:(ak (val a)).length≠0:=fun h=>h0 (iU.1 (l0 h));refine Qf Qh Tryz.func166 rfl CG (by simp[qJ]) fun C hP=>?_;simp only[qJ,Zo,Zg,Zm,Zc,Zf,Zl,Zh,Zs,Zi,Zb,Zk,Zn,Zu,Zq,Zr,Zz];refine Sz0 ?_;refine Qa hP (fo ha (by omega)) rfl rfl rfl ?_;refine Sz0 ?_;refine dA (fun hz=>by omega) (fun hz=>?_);refine Sz0 ?_;refine dA (fun hz=>by omega) (fun hz=>?_);refine Sz0 ?_;refine Qb (fun hz=>by omega) (fun hz=>?_);refine Sz0 ?_;refine Qb (fun hz=>?_) (fun hz=>by omega);have e:(0:Int)- -(s:Int)=(s:Nat):=by omega
 refine Sz1 e ?_;refine Qa hP (Nv (Ql (val a)) (by omega) hs) rfl rfl rfl ?_;refine Sz1 @Qz ?_;exact Qc rfl rfl
theorem Ny{x d:Nat}(hx:(ak x).length<2^42)(hd:0<d)(lM:d<65536):Qd Tryz.prog 164 [PV.num x,.int .u16 d] (· = .aO [PV.num (x/d),.int .u16 (x%d:Nat)]):=by
 have:=Qy0 (Ql x) hx hd lM
 rwa[Qz]at this
theorem Bj{a b:List Nat}(ha:Qk a)(hb:Qk b)(bz:a.length<2^38)(dG:b.length<2^38):Qd Tryz.prog 151 [PV.nat a,PV.nat b]
  (· =if val b=0 then .aO [PV.num 0,PV.num 0,.int .i64 3]else .aO [PV.num (val a/val b),PV.num (val a%val b),.int .i64 0]):=by
 have eQ:=bS ha;have fP:=bS hb;unfold nl at eQ fP;refine Qf Qh Tryz.func151 rfl TX (by simp[Aq]) fun C hP=>?_;simp only[Aq,Zo,Zg,Zm,Zc,Zf,Zl,Zh,Zs,Zi,Zb,Zk,Zn,Zu,Zq,Zr,Zz];refine Sz0 ?_;refine Qa hP (fo ha (by omega)) rfl rfl rfl ?_;refine Sz0 ?_;refine Qa hP (fo hb (by omega)) rfl rfl rfl ?_;refine Sz0 ?_;have dS:=Ql (val a);have iP:=Ql (val b);have mP:=Qz (val a);have rz:=Qz (val b);have adB:=Ce (val b);generalize val a=x at *
 generalize val b=y at *
 refine Qb (fun hz=>?_) (fun hz=>?_)
 ·have cF:y=0:=iU.1 (l0 (by omega));refine Sz0 ?_;rw[if_pos cF];exact o9 rfl rfl rfl rfl sh sh (bT _)
 have cF:y≠0:=fun h=>by rw[h,eh]at hz;simp at hz
 rw[if_neg cF];refine Sz0 ?_;refine Qa hP (BX dS iP (by omega) (by omega)) rfl rfl rfl ?_;refine Sz2 mP rz ?_;refine Qb (fun hc=>?_) (fun hc=>?_)
 ·have an:x<y:=by
   unfold gk at hc;split at hc
   ·assumption
   ·split at hc<;>omega
  refine Sz0 ?_;refine Qa hP (ur dS (by omega)) rfl rfl rfl ?_;refine Sz1 mP ?_;exact o9 rfl rfl rfl rfl (uP (Kcd an)) (oO (by rw[KaC an])) (bT _)
 have fD:y<=x:=by unfold gk at hc;split at hc<;>omega
 refine Sz0 ?_;refine Qb (fun h1=>?_) (fun h1=>?_)
 ·obtain⟨d,hd⟩:∃d,ak y=[d]:=by
   match h:ak y,h1 with
   | [d],_=>exact⟨d,rfl⟩
   | [],h1=>simp at h1
   |_::_::_,h1=>simp at h1;omega
  have hyd:y=d:=by rw[<-rz,hd];simp[val]
  have vM:d<65536:=by rw[hd]at iP;exact iP d (by simp)
  simp+decide (disch:=first|omega|rfl|(simp+decide only[go_sem,hd,Kbs,Kby,KaU,Kbg]<;>rfl)|fail) only[go_sem,hd,Kbs,Kby,KaU,Kbg];refine Qa hP (Ny (x:=x) (d:=d) (by omega) (by omega) vM) (by rw[PV.num];rfl) rfl rfl ?_;have hm:x%d<18446744073709551616:=by have:=Kbn x (show 0<d by omega);omega
  refine Sz0 ?_;refine Qa hP (yh hm) rfl rfl rfl ?_;refine Sz0 ?_;rw[hyd];exact o9 rfl rfl rfl rfl (bT _) (bT _) (bT _)
 obtain⟨n,hn⟩:∃n,(ak y).length=n+2:=⟨(ak y).length-2,by omega⟩
 obtain⟨m,hm⟩:∃m,(ak x).length=m+2:=by have:=fm fD;unfold nl at this;exact⟨(ak x).length-2,by omega⟩
 have e1:((n+2:Nat):Int)-1=((n+1:Nat):Int):=by omega
 have tj:(ak y)[n+1]'(by omega)≠0:=by
  intro h;apply adB;have:(ak y).getLast? =some ((ak y)[n+1]'(by omega)):=by rw[Ka7,show(ak y).length-1=n+1 by omega];exact Kaf _
  rw[this,h]
 have zE:=dn iP (show n+1<(ak y).length by omega);have aeM:val (ak y)=y:=Qz y;generalize pS:(ak y)[n+1]'(by omega)=yi at *
 have td:=Bi zE;have hbp:=BD zE tj;obtain⟨dN,ac9⟩:=Nw _ yi rfl tj zE;obtain⟨s,hs,pQ⟩:∃s,16-Lib.bitLen yi=s/\s<=15:=⟨_,rfl,by omega⟩
 refine Sz3 hn e1 pS ?_;refine Qa hP (ZK zE) rfl rfl rfl ?_;refine Sz1 hs ?_;have hso:=Bh (a:=ak x) (s:=s) dS (by omega) pQ (by rw[mP];omega);refine Wo hP hso rfl rfl rfl (by decide) ?_;rintro _ _ rfl;rw[mP];have hDl:(ak (x*2^s)).length<=m+3:=by have h1:=mh x (2^s);have h2:nl (2^s)<=1:=jO.2 (by have:2^s<=2^15:=KaX (by omega) pQ;omega);unfold nl at h1 h2;omega
 have aeA:m+2<=(ak (x*2^s)).length:=by have:=fm (show x<=x*2^s from Nat.le_mul_of_pos_right _ (KbI (by omega)));unfold nl at this;omega
 refine Sz1 hm ?_;rw[BA (ys:=bI [0,0]) (xs:=bI (ak (x*2^s))) (by simp+decide (disch:=first|omega|rfl|(simp+decide only[go_sem,gh]<;>rfl)|fail) only[go_sem,gh];rfl) Tz0 (by omega) (by simp) (by simp;omega) (by simp;omega)];rw[Kaj (by simp),<-List.map_append];simp+decide (disch:=first|omega|rfl|(simp+decide only[go_sem,hm,KaU,Kbg]<;>rfl)|fail) only[go_sem,hm,KaU,Kbg];have Ms:=(Bh (a:=ak y) (s:=s) iP (by omega) pQ (by rw[rz];omega)).M4;rw[rz]at Ms;refine Qa hP Ms rfl rfl rfl ?_;obtain⟨g1,g2⟩:=Pf pQ (by rw[show 16-s=Lib.bitLen yi by omega];exact dN) (by rw[show 16-s=Lib.bitLen yi by omega];exact ac9);obtain⟨Lu,hYt,abO⟩:=Qyw hn pS g1 g2;have eS:n<=m:=by have:=fm fD;unfold nl at this;omega
 obtain⟨u,ex,Mw,F2,hu3,hu4,hu5,hu6⟩:=Qyx (s:=s) hm pQ eS abO;have acb:x*2^s/(y*2^s)=x/y:=Nat.mul_div_mul_right _ _ (KbI (by omega));have acd:x*2^s%(y*2^s)=x%y*2^s:=Nat.mul_mod_mul_right _ _ _;rw[Mw];refine Sz0 ?_;have L6:=Px (u:=u) (v:=ak (y*2^s)) (ex:=ex) hu3 (Ql _) (by omega) (by omega) (by rw[Lu];exact hYt) (by rw[Lu,F2,Qz];exact hu6) (by omega);rw[F2,hu4,Qz,acb,acd]at L6;refine yv hP L6 (β:=52) Tz0 (na _) (by simp;omega) (by simp[gf]) rfl ?_;rintro _ _ _ _ ⟨rfl,l,rfl,ot,mI,hl3⟩;have e5:IntKind.i64.wrap (0-(s:Int))= -(s:Int):=by rw[qh (by omega) (by omega)];omega
 have cE:(bI (l++ex)).take (m+2+1)=bI l:=by rw[<-List.map_take,show m+2+1=l.length by omega,List.take_left]
 simp+decide (disch:=first|omega|rfl|(simp+decide only[go_sem,kD]<;>rfl)|fail) only[go_sem,kD];refine ix hP (fo ot (by omega)) (by simp[Qy,bR,aI,Qi,<-List.map_append,cE]) rfl ?_;refine Sz1 e5 ?_;rw[hl3];have Mm:=Nx (a:=ak (x%y*2^s)) (s:=s) (Ql _) (by have:=fm (show x%y*2^s<=x*2^s from Kam _ (Nat.mod_le _ _));unfold nl at this;omega) pQ;rw[Qz,Nat.mul_div_cancel _ (KbI (by omega))]at Mm;refine Qa hP Mm rfl rfl rfl ?_;refine Sz0 ?_;exact o9 rfl rfl rfl rfl (bT _) (bT _) (bT _)
theorem KA{a b:List Nat}(ha:Qk a)(hb:Qk b)(bz:a.length<2^38)(dG:b.length<2^38):Qd Tryz.prog 113 [PV.nat a,PV.nat b] (· =PV.num (Nat.gcd (val a) (val b))):=by
 have eQ:=bS ha;have fP:=bS hb;unfold nl at eQ fP;refine Qf Qh Tryz.func113 rfl Ub (by simp[Au]) fun C hP=>?_;simp only[Au,Zo,Zg,Zm,Zc,Zf,Zl,Zh,Zs,Zi,Zb,Zk,Zn,Zu,Zq,Zr,Zz];refine Sz0 ?_;refine Qa hP (ur ha (by omega)) rfl rfl rfl ?_;refine Sz0 ?_;refine Qa hP (ur hb (by omega)) rfl rfl rfl ?_;refine Sz0 ?_;refine Q3 (by repeat (first|exact Qx|exact Qq|exact Qr|exact Qt|exact Qu|apply Qp|apply Qw|apply Q2|apply Q7|apply Q8|apply Qn)) [(0,1),(4,11),(16,49)] [] (fun m J hp=>∃x y,m=y/\Nat.gcd x y=Nat.gcd (val a) (val b)/\(ak x).length<2^38/\(ak y).length<2^38/\J 0=PV.num x/\J 1=PV.num y/\hp=au) (val b) ?_ ?_
 ·refine⟨val a,val b,rfl,rfl,by omega,by omega,?_⟩;exact Tz2 @true_and @and_true
 rintro y J _ ⟨x,_,rfl,hg,hx,hy,h0,h1,rfl⟩;generalize Nat.gcd (val a) (val b)=g at *
 refine Sz2 h0 h1 ?_;refine Qb (fun hc=>?_) (fun hc=>?_)
 ·have cF:y≠0:=fun h=>by rw[h,eh]at hc;simp at hc
  have v3:(ak (x%y)).length<2^38:=by have:=fm (Nat.le_of_lt (Kbn x (Ka9 cF)));unfold nl at this;omega
  refine Sz2 h0 h1 ?_;refine Qa hP (BV (Ql x) (by omega)) rfl rfl rfl ?_;refine Sz2 h0 h1 ?_;rw[Qz];by_cases ee:nl x<=4
  ·have tz:=xJ.1 ee;rw[if_pos ee];refine Sz2 h0 h1 ?_;refine Qa hP (BV (Ql y) (by omega)) rfl rfl rfl ?_;rw[Qz];by_cases dH:nl y<=4
   ·have mQ:=xJ.1 dH;rw[if_pos dH];refine Sz2 h0 h1 ?_;refine Q3 (by repeat (first|exact Qx|exact Qq|exact Qr|exact Qt|exact Qu|apply Qp|apply Qw|apply Q2|apply Q7|apply Q8|apply Qn)) [(5,5),(7,7),(33,38)] [] (fun m J hp=>∃p q,m=q/\Nat.gcd p q=g/\p<18446744073709551616/\q<18446744073709551616/\J 5= .int .u64 p/\J 7= .int .u64 q/\hp=au) y ?_ ?_
    ·refine⟨x,y,rfl,hg,tz,mQ,?_⟩;exact Tz2 @true_and @and_true
    rintro q J2 _ ⟨p,_,rfl,gI,ew,bu,h5,h7,rfl⟩;refine Sz2 h5 h7 ?_;refine Qb (fun hq=>?_) (fun hq=>?_)
    ·have ib:0<q:=by omega
     refine Sz3 h5 h7 @mX ?_;refine Qm (p%q) (Kbn _ ib) ⟨q,p%q,rfl,?_,bu,?_,?_⟩
     ·rw[<-gI,Kcj p q,Nat.gcd_rec q p,Kcj]
     ·have:=Kbn p ib;omega
     ·exact Tz2 @true_and @and_true
    ·obtain rfl:q=0:=by omega
     refine Sz2 h5 h7 ?_;refine Qa hP (yh ew) rfl rfl rfl ?_;refine Sz0 ?_;exact Qc (by rw[<-gI,Kcp]) rfl
   ·rw[if_neg dH];refine Sz2 h0 h1 ?_;refine Qa hP (Bj (Ql x) (Ql y) (by omega) (by omega)) rfl rfl rfl ?_;rw[Qz,Qz,if_neg cF];refine Sz2 h0 h1 ?_;refine Qm (x%y) (Kbn _ (Ka9 cF)) ⟨y,x%y,rfl,?_,hy,v3,?_⟩
    ·rw[<-hg,Kcj x y,Nat.gcd_rec y x,Kcj]
    ·exact Tz2 @true_and @and_true
  ·rw[if_neg ee];refine Sz2 h0 h1 ?_;refine Qa hP (BV (Ql y) (by omega)) rfl rfl rfl ?_;obtain⟨r1,r2,hr⟩:∃r1 r2,(if nl (val (ak y))<=4 then PV.aO [.int .u64 (val (ak y)),.bool true]else .aO [.int .u64 0,.bool false])= .aO [.int .u64 r1,.bool r2]:=by split<;>exact⟨_,_,rfl⟩
   rw[hr];refine Sz2 h0 h1 ?_;refine Qa hP (Bj (Ql x) (Ql y) (by omega) (by omega)) rfl rfl rfl ?_;rw[Qz,Qz,if_neg cF];refine Sz2 h0 h1 ?_;refine Qm (x%y) (Kbn _ (Ka9 cF)) ⟨y,x%y,rfl,?_,hy,v3,?_⟩
   ·rw[<-hg,Kcj x y,Nat.gcd_rec y x,Kcj]
   ·exact Tz2 @true_and @and_true
 ·have cF:y=0:=iU.1 (l0 (by omega));subst cF;refine Sz1 h0 ?_;exact Qc (by rw[<-hg,Kcp]) rfl
theorem rS(n:Bool)(x:Nat):Qd Tryz.prog 155 [.bool n,PV.num x] (· =PV.zz (if n then -(x:Int)else x)):=by
 refine Qf Qh Tryz.func155 rfl Uf (by simp[Ay]) fun C hP=>?_;simp only[Ay,Zo,Zg,Zm,Zc,Zf,Zl,Zh,Zs,Zi,Zb,Zk,Zn,Zu,Zq,Zr,Zz];refine Sz0 ?_;refine rQ (fun hn=>?_) (fun hn=>?_)
 all_goals
  refine Sz0 ?_;refine cI ?_;refine Sz0 ?_;exact Qc (by rw[<-CC,hn];simp) rfl
theorem Py{n:Bool}{a:List Nat}(ha:Qk a)(bz:a.length<2^42):Qd Tryz.prog 196 [.bool n,PV.nat a] (· =PV.zz (zv n a)):=by
 refine Qf Qh Tryz.func196 rfl Ue (by simp[Ax]) fun C hP=>?_;simp only[Ax,Zo,Zg,Zm,Zc,Zf,Zl,Zh,Zs,Zi,Zb,Zk,Zn,Zu,Zq,Zr,Zz];refine Sz0 ?_;refine Qa hP (ur ha bz) rfl rfl rfl ?_;refine Sz0 ?_;refine rQ (fun hn=>?_) (fun hn=>?_)
 all_goals
  refine Sz0 ?_;refine cI ?_;refine Sz0 ?_;exact Qc (by have:=CC n (val a);rw[hn]at this;subst hn;simpa[zv]using this) rfl
theorem Qy3{n:Bool}{a:List Nat}(ha:Qk a)(bz:a.length<2^42):Qd Tryz.prog 194 [PV.zi n a] (· =PV.zz (zv n a)):=by refine Qf Qh Tryz.func194 rfl Uh (by simp[AA]) fun C hP=>?_;simp only[AA,Zo,Zg,Zm,Zc,Zf,Zl,Zh,Zs,Zi,Zb,Zk,Zn,Zu,Zq,Zr,Zz];refine Sz0 ?_;refine Qa hP (Py ha bz) rfl rfl rfl ?_;refine Sz0 ?_;refine cI ?_;refine Sz0 ?_;exact Qc rfl rfl
theorem Qy4{n:Bool}{a:List Nat}(ha:Qk a)(bz:a.length<2^40):Qd Tryz.prog 171 [PV.zi n a] (· = .int .i64 (gR (zv n a))):=by
 refine Qf Qh Tryz.func171 rfl Uj (by simp[AD]) fun C hP=>?_;simp only[AD,Zo,Zg,Zm,Zc,Zf,Zl,Zh,Zs,Zi,Zb,Zk,Zn,Zu,Zq,Zr,Zz];refine Sz0 ?_;refine gz hP (JO ha bz) rfl rfl rfl ?_;rintro _ ⟨k,rfl,hk⟩;refine Sz0 ?_;rw[VP];refine Qb (fun hz=>?_) (fun hz=>?_)
 ·refine Sz0 ?_;rw[if_pos (hk.1 (by omega))];exact Qc rfl rfl
 ·rw[if_neg (fun h=>hz (by rw[hk.2 h];rfl))];refine Sz0 ?_;refine uf (fun hn=>?_) (fun hn=>?_)
  ·refine Sz0 ?_;exact Qc (by simp[hn]) rfl
  ·refine Sz0 ?_;exact Qc (by simp[hn]) rfl
theorem I0{n m:Bool}{a b:List Nat}(ha:Qk a)(hb:Qk b)(bz:a.length<2^40)(dG:b.length<2^40):Qd Tryz.prog 195 [PV.zi n a,PV.zi m b] (· =PV.zz (zv n a+zv m b)):=by
 refine Qf Qh Tryz.func195 rfl Uk (by simp[AE]) fun C hP=>?_;simp only[AE,Zo,Zg,Zm,Zc,Zf,Zl,Zh,Zs,Zi,Zb,Zk,Zn,Zu,Zq,Zr,Zz];refine Sz0 ?_;refine uf (fun eS=>?_) (fun eS=>?_)
 ·have eS:n=m:=by simpa using eS
  subst eS;refine Sz0 ?_;refine Qa hP (RR ha hb bz dG) rfl rfl rfl ?_;refine Sz0 ?_;refine Qa hP (rS n (val a+val b)) rfl rfl rfl ?_;refine Sz0 ?_;refine cI ?_;refine Sz0 ?_;exact Qc (congrArg PV.zz (by unfold zv;split<;>simp<;>omega)) rfl
 have eS:n= !m:=by cases n<;>cases m<;>simp_all
 subst eS;refine Sz0 ?_;refine Qa hP (BX ha hb bz dG) rfl rfl rfl ?_;refine Sz0 ?_;refine Qb (fun hc=>?_) (fun hc=>?_)
 ·rw[xR]at hc;refine Sz0 ?_;refine Qa hP (Kz hb ha dG bz (by omega)) rfl rfl rfl ?_;refine Sz0 ?_;refine Qa hP (rS m (val b-val a)) rfl rfl rfl ?_;refine Sz0 ?_;refine cI ?_;refine Sz0 ?_;exact Qc (congrArg PV.zz (by unfold zv;cases m<;>simp<;>omega)) rfl
 ·rw[xR]at hc;refine Sz0 ?_;refine Qa hP (Kz ha hb bz dG (by omega)) rfl rfl rfl ?_;refine Sz0 ?_;refine Qa hP (rS (!m) (val a-val b)) rfl rfl rfl ?_;refine Sz0 ?_;refine cI ?_;refine Sz0 ?_;exact Qc (congrArg PV.zz (by unfold zv;cases m<;>simp<;>omega)) rfl
theorem tY{n m:Bool}{a b:List Nat}(ha:Qk a)(hb:Qk b)(bz:a.length<2^40)(dG:b.length<2^40):Qd Tryz.prog 182 [PV.zi n a,PV.zi m b] (· =PV.zz (zv n a*zv m b)):=by refine Qf Qh Tryz.func182 rfl Ul (by simp[AF]) fun C hP=>?_;simp only[AF,Zo,Zg,Zm,Zc,Zf,Zl,Zh,Zs,Zi,Zb,Zk,Zn,Zu,Zq,Zr,Zz];refine Sz0 ?_;refine Qa hP (xT ha hb bz dG) rfl rfl rfl ?_;refine Sz0 ?_;refine Qa hP (rS (!(n==m)) (val a*val b)) rfl rfl rfl ?_;refine Sz0 ?_;refine cI ?_;refine Sz0 ?_;exact Qc (congrArg PV.zz (by unfold zv;cases n<;>cases m<;>simp[Int.neg_mul,Int.mul_neg])) rfl
theorem xU{a:List Nat}(hl:a.length<2^43):Qd Tryz.prog 112 [PV.nat a] (· = .bool (decide (a=[1]))):=by
 refine Qf Qh Tryz.func112 rfl Um (by simp[AG]) fun C hP=>?_;simp only[AG,Zo,Zg,Zm,Zc,Zf,Zl,Zh,Zs,Zi,Zb,Zk,Zn,Zu,Zq,Zr,Zz];refine Sz0 ?_;refine Qb (fun hz=>?_) (fun hz=>?_)
 ·obtain⟨x,xs,rfl⟩:∃x xs,a=x::xs:=by
   match a,hz with
   |x::xs,_=>exact⟨x,xs,rfl⟩
  simp+decide (disch:=first|omega|rfl|(simp+decide only[go_sem,Kbs,List.getElem_cons_zero]<;>rfl)|fail) only[go_sem,Kbs,List.getElem_cons_zero];refine Qc (congrArg PV.bool ?_) rfl;rw[<-Bool.decide_and];exact decide_eq_decide.2 ⟨fun⟨h1,h2⟩=>by
   have:xs=[]:=Kat.1 (by omega);subst this;congr 1;omega,fun h=>by
   injection h with h1 h2;subst h1 h2;simp⟩
 ·have:a=[]:=Kat.1 (by omega);subst this;refine Sz0 ?_;exact Qc rfl rfl
theorem Ib(x:Nat):(ak x=[1])↔x=1:=⟨fun h=>by have:=Qz x;rw[h]at this;simpa[val]using this.symm,fun h=>by rw[h,nQ]⟩
theorem CH{x:Nat}(hl:(ak x).length<2^43):Qd Tryz.prog 112 [PV.num x] (· = .bool (decide (x=1))):=by
 have:=xU hl
 rwa[decide_eq_decide.2 (Ib x)]at this
theorem xD:Qd Tryz.prog 119 [] (· =PV.nat [1]):=by refine Qf Qh Tryz.func119 rfl Un (by simp[AH]) fun C hP=>?_;simp only[AH,Zo,Zg,Zm,Zc,Zf,Zl,Zh,Zs,Zi,Zb,Zk,Zn,Zu,Zq,Zr,Zz];refine Sz0 ?_;exact Qc rfl rfl
theorem I1{x y:Nat}(hx:(ak x).length<2^38)(hy:(ak y).length<2^38)(h0:y≠0):Qd Tryz.prog 151 [PV.num x,PV.num y] (· = .aO [PV.num (x/y),PV.num (x%y),.int .i64 0]):=by
 have:=Bj (Ql x) (Ql y) hx hy
 rwa[Qz,Qz,if_neg h0]at this
theorem TM{x y:Nat}(hx:(ak x).length<2^38)(hy:(ak y).length<2^38):Qd Tryz.prog 113 [PV.num x,PV.num y] (· =PV.num (Nat.gcd x y)):=by
 have:=KA (Ql x) (Ql y) hx hy
 rwa[Qz,Qz]at this
theorem Qxh{n:Bool}{a d:List Nat}(ha:Qk a)(hd:Qk d)(bz:a.length<2^38)(re:d.length<2^38):Qd Tryz.prog 181 [PV.zi n a,PV.nat d] (· =PV.rat (rv n a d)):=by
 have kS:=bS ha;have FO:=bS hd;rw[<-iX n a]at kS;unfold rv;unfold nl at kS FO;refine Qf Qh Tryz.func181 rfl Uo (by simp[AI]) fun C hP=>?_;simp only[AI,Zo,Zg,Zm,Zc,Zf,Zl,Zh,Zs,Zi,Zb,Zk,Zn,Zu,Zq,Zr,Zz];refine Sz0 ?_;refine Qa hP (ur hd (by omega)) rfl rfl rfl ?_;refine Sz0 ?_;refine Qa hP (Qy3 ha (by omega)) rfl rfl rfl ?_;refine Sz0 ?_;generalize zv n a=z at *
 generalize val d=D at *
 have hlen:∀x:Nat,((ak x).length:Int)=0↔x=0:=fun x=>by rw[<-iU,<-List.length_eq_zero_iff];omega
 have Ll:∀ {fr:Fr} {hp:HP},(D=0∨z=0)->qE (· =PV.rat (mkRat z D)) (.agg [.bool false,.aa,PV.nat [1]]):=fun h=>by rw[H4 h];exact mc KS rfl
 refine dA (fun hz=>?_) (fun hz=>?_)
 ·refine Sz0 ?_;refine Qa hP xD rfl rfl rfl ?_;refine Sz0 ?_;refine cI ?_;refine Sz0 ?_;exact Ll (fr:=aG) (hp:=au) (.inl ((hlen _).1 hz))
 refine Sz0 ?_;refine Qb (fun zF=>?_) (fun zF=>?_)
 ·refine Sz0 ?_;refine Qa hP xD rfl rfl rfl ?_;refine Sz0 ?_;refine cI ?_;refine Sz0 ?_;exact Ll (fr:=aG) (hp:=au) (.inr (Int.natAbs_eq_zero.1 ((hlen _).1 zF)))
 have hD:D≠0:=fun h=>hz ((hlen _).2 h);refine Sz0 ?_;refine Qa hP (CH (by omega)) rfl rfl rfl ?_;refine Sz0 ?_;refine Qb (fun h1=>?_) (fun h1=>?_)
 ·subst h1;refine Sz0 ?_;refine cI ?_;refine Sz0 ?_;exact Qc (by rw[<-YM];simp only[nQ]) rfl
 refine Sz0 ?_;refine Qa hP (TM (by omega) (by omega)) rfl rfl rfl ?_;have lO:Nat.gcd z.natAbs D≠0:=fun h=>hD (Nat.eq_zero_of_gcd_eq_zero_right h);have qY:(ak (Nat.gcd z.natAbs D)).length<2^38:=by have:=fm (Kcw z.natAbs (Ka9 hD));unfold nl at this;omega
 have cU:=G5 (z:=z) hD;generalize Nat.gcd z.natAbs D=g at *
 refine Sz0 ?_;refine Qa hP (CH (by omega)) rfl rfl rfl ?_;refine Sz0 ?_;refine uf (fun h2=>?_) (fun h2=>?_)
 ·refine Sz0 ?_;refine Qa hP (I1 (by omega) qY lO) rfl rfl rfl ?_;refine Sz0 ?_;refine Qa hP (I1 (by omega) qY lO) rfl rfl rfl ?_;refine Sz0 ?_;refine cI ?_;refine Sz0 ?_;exact Qc cU rfl
 ·have:g=1:=by simpa using h2
  subst this;rw[Nat.div_one,Nat.div_one]at cU;refine Sz0 ?_;refine cI ?_;refine Sz0 ?_;exact Qc cU rfl
theorem xt(a:List Nat):Qd Tryz.prog 191 [PV.nat a] (· =PV.zi false a):=by refine Qf Qh Tryz.func191 rfl TG (by simp[AK]) fun C hP=>?_;simp only[AK,Zo,Zg,Zm,Zc,Zf,Zl,Zh,Zs,Zi,Zb,Zk,Zn,Zu,Zq,Zr,Zz];refine Sz0 ?_;refine cI ?_;refine Sz0 ?_;exact Qc rfl rfl
def WX(k:Nat)(q:Rat)(r:PV):Prop:=∃n a d,r= .aO [PV.zi n a,PV.nat d]/\Qk a/\Qk d/\a.length<=k/\d.length<=k/\val d≠0/\rv n a d=q
theorem tZ{n:Bool}{a d:List Nat}{k:Nat}(ha:Qk a)(hd:Qk d)(hk:1<=k)(bz:a.length<=k)(re:d.length<=k)(pL:k<2^38):Qd Tryz.prog 170 [PV.rr n a d] (WX k (rv n a d)):=by
 refine Qf Qh Tryz.func170 rfl TF (by simp[AJ]) fun C hP=>?_;simp only[AJ,Zo,Zg,Zm,Zc,Zf,Zl,Zh,Zs,Zi,Zb,Zk,Zn,Zu,Zq,Zr,Zz];refine Sz0 ?_;refine gz hP (JO hd (by omega)) rfl rfl rfl ?_;rintro _ ⟨b,rfl,hb⟩;refine Sz0 ?_;refine Qb (fun hz=>?_) (fun hz=>?_)
 ·have h0:val d=0:=hb.1 (by omega);refine Sz0 ?_;refine Qa hP xD rfl rfl rfl ?_;refine Sz0 ?_;refine va ?_;refine Sz0 ?_;refine⟨⟨rfl,rfl⟩,.aO [PV.zi false [],PV.nat [1]],⟨⟨rfl,trivial,trivial⟩,bT _,trivial⟩,false,[],[1],rfl,kA,by intro x hx;simp at hx;omega,by simp,by simpa using hk,by simp[val],?_⟩;unfold rv;rw[h0,Rat.mkRat_zero];rfl
 ·have h0:val d≠0:=fun h=>hz (by rw[hb.2 h];rfl);refine Sz0 ?_;refine eV ?_ ?_
  all_goals
   refine Sz0 ?_;refine va ?_;refine Sz0 ?_;exact⟨⟨rfl,rfl⟩,.aO [PV.zi n a,PV.nat d],⟨bT _,bT _,trivial⟩,n,a,d,rfl,ha,hd,bz,re,h0,rfl⟩
theorem RS{z:Int}{m:Bool}{b:List Nat}(hb:Qk b)(bz:nl z.natAbs<2^40)(dG:b.length<2^40):Qd Tryz.prog 195 [PV.zz z,PV.zi m b] (· =PV.zz (z+zv m b)):=by
 have:=I0 (n:=decide (z<0)) (a:=ak z.natAbs) (m:=m) (Ql _) hb bz dG
 rwa[lC]at this
theorem KB{n m:Bool}{a b:List Nat}(ha:Qk a)(hb:Qk b)(bz:a.length<2^39)(dG:b.length<2^39):Qd Tryz.prog 190 [.sl 2 [PV.zi n a,PV.zi m b]] (· =PV.zz (zv n a+zv m b)):=by
 have kS:=bS ha;rw[<-iX n a]at kS;refine Qf Qh Tryz.func190 rfl TI (by simp[AM]) fun C hP=>?_;simp only[AM,Zo,Zg,Zm,Zc,Zf,Zl,Zh,Zs,Zi,Zb,Zk,Zn,Zu,Zq,Zr,Zz];refine Sz0 ?_;refine Q3 (by repeat (first|exact Qx|exact Qq|exact Qr|exact Qt|exact Qu|apply Qp|apply Qw|apply Q2|apply Q7|apply Q8|apply Qn)) [(5,5),(8,15)] [5] (fun k J hp=>∃i,k=2-i/\i<=2/\J 8= .int .i64 (i:Nat)/\hp 2=some ⟨2,30,[.agg [.bool false,.aa]],false⟩/\hp 3=some ⟨2,30,[if i=0 then .agg [.bool false,.aa]else if i=1 then PV.zz (zv n a)else PV.zz (zv n a+zv m b)],false⟩) 2 ?_ ?_
 ·refine⟨0,rfl,by omega,?_⟩;refine Sz0 ?_;simp
 rintro _ J h ⟨i,rfl,hi,h8,pJ,bq⟩;refine Sz1 h8 ?_;refine Qb (fun hg=>?_) (fun hg=>?_)
 ·have kQ:i=0∨i=1:=by have:i<2:=(by omega);omega
  rcases kQ with rfl|rfl
  ·have vA:J 8= .int .i64 0:=h8;refine Sz3 vA pJ bq ?_;refine Qa hP ((I0 (n:=false) (a:=[]) (m:=n) (b:=a) kA ha (by simp) (by omega)).le (args':=[.agg [.bool false,.aa],PV.zi n a]) ⟨⟨rfl,trivial,trivial⟩,bT _,trivial⟩) rfl rfl rfl ?_;refine Sz3 vA pJ bq ?_;refine Qm 1 (by omega) ⟨1,rfl,by omega,?_⟩;refine Sz2 pJ bq ?_;simp[zv,val]
  ·rw[if_neg (by omega),if_pos rfl]at bq;have vA:J 8= .int .i64 1:=h8;refine Sz3 vA pJ bq ?_;refine Qa hP (RS (z:=zv n a) hb (by omega) (by omega)) rfl rfl rfl ?_;refine Sz3 vA pJ bq ?_;refine Qm 0 (by omega) ⟨2,rfl,by omega,?_⟩;refine Sz2 pJ bq ?_;simp
 ·obtain rfl:i=2:=by simp at hg;omega
  rw[if_neg (by omega),if_neg (by omega)]at bq;refine Sz3 h8 pJ bq ?_;refine cI ?_;refine Sz2 pJ bq ?_;exact Qc rfl rfl
theorem xu{z:Int}{d:List Nat}(hd:Qk d)(hz:nl z.natAbs<2^38)(re:d.length<2^38):Qd Tryz.prog 181 [PV.zz z,PV.nat d] (· =PV.rat (mkRat z (val d))):=by
 have:=Qxh (n:=decide (z<0)) (Ql z.natAbs) hd hz re
 rwa[rv,lC]at this
theorem Hc{x y:Int}(hx:nl x.natAbs<2^39)(hy:nl y.natAbs<2^39):Qd Tryz.prog 190 [.sl 2 [PV.zz x,PV.zz y]] (· =PV.zz (x+y)):=by
 have:=KB (n:=decide (x<0)) (m:=decide (y<0)) (Ql x.natAbs) (Ql y.natAbs) hx hy
 rwa[lC,lC]at this
structure Raw(k:Nat)(n:Bool)(a d:List Nat):Prop where
 la:Qk a
 ld:Qk d
 sa:a.length<=k
 sd:d.length<=k
 k1:1<=k
theorem jN{q:Rat}{k:Nat}(h:rs q<=k):Raw k (decide (q.num<0)) (ak q.num.natAbs) (ak q.den):=by
 have:=G7 q;unfold rs nl at *
 exact⟨Ql _,Ql _,by omega,by omega,by omega⟩
theorem Raw.rs{n:Bool}{a d:List Nat}{k:Nat}(h:Raw k n a d):FW.rs (rv n a d)<=k:=VU (k:=k) (n:=k) h.la h.ld h.sa h.sd h.k1
theorem Pz{n m:Bool}{a d b c:List Nat}{k:Nat}(hp:Raw k n a d)(hq:Raw k m b c)(hk:k<2^36):Qd Tryz.prog 173 [PV.rr n a d,PV.rr m b c] (· =PV.rat (rv n a d+rv m b c)):=by
 refine Qf Qh Tryz.func173 rfl TJ (by simp[AN]) fun C hP=>?_;simp only[AN,Zo,Zg,Zm,Zc,Zf,Zl,Zh,Zs,Zi,Zb,Zk,Zn,Zu,Zq,Zr,Zz];refine Sz0 ?_;refine gz hP (tZ hp.la hp.ld hp.k1 hp.sa hp.sd (by omega)) rfl rfl rfl ?_;rintro _ ⟨n',a',d',rfl,g1,g2,g3,g4,g5,g6⟩;refine Sz0 ?_;refine gz hP (tZ hq.la hq.ld hq.k1 hq.sa hq.sd (by omega)) rfl rfl rfl ?_;rintro _ ⟨m',b',c',rfl,e1,e2,e3,e4,e5,e6⟩;refine Sz0 ?_;refine Qa hP (xU (by omega)) rfl rfl rfl ?_;have key:=Rat.mkRat_add_mkRat (zv n' a') (zv m' b') g5 e5;have hza:nl (zv n' a').natAbs<=k:=by rw[iX];exact KaZ (bS g1) g3
 have hzb:nl (zv m' b').natAbs<=k:=by rw[iX];exact KaZ (bS e1) e3
 have hvd:nl (val d')<=k:=KaZ (bS g2) g4;have wo:nl (val c')<=k:=KaZ (bS e2) e4;rw[<-g6,<-e6];unfold rv;rw[key];refine Sz0 ?_;refine eK (fun h1=>?_) (fun h1=>?_)
 ·refine Sz0 ?_;refine Qa hP (xU (by omega)) rfl rfl rfl ?_;refine Sz0 ?_;refine Qb (fun h2=>?_) (fun h2=>?_)
  ·subst h1 h2;refine Sz0 ?_;refine ix hP (KB (n:=n') (m:=m') g1 e1 (by omega) (by omega)) ob rfl ?_;refine dL ?_;have hs:=tN (zv n' a') (zv m' b');refine Qa hP (xu g2 (by omega) (by omega)) rfl rfl rfl ?_;refine dL ?_;refine cI ?_;refine dL ?_;exact Qc (congrArg PV.rat (by simp[val])) rfl
  ·refine Sz0 ?_;refine Qa hP (xt _) rfl rfl rfl ?_;refine Sz0 ?_;refine Qa hP (tY (n:=n') (m:=false) g1 e2 (by omega) (by omega)) rfl rfl rfl ?_;refine Sz0 ?_;refine Qa hP (xt _) rfl rfl rfl ?_;refine Sz0 ?_;refine Qa hP (tY (n:=m') (m:=false) e1 g2 (by omega) (by omega)) rfl rfl rfl ?_;rw[uB,uB];have h3:=kx (zv n' a') (val c');have h4:=kx (zv m' b') (val d');have h5:=tN (zv n' a'*(val c':Int)) (zv m' b'*(val d':Int));have h6:=mh (val d') (val c');rw[KbP]at h3 h4;refine Sz0 ?_;refine ix hP (Hc (x:=zv n' a'*(val c':Int)) (y:=zv m' b'*(val d':Int)) (by omega) (by omega)) ob rfl ?_;refine dL ?_;refine Qa hP (xT g2 e2 (by omega) (by omega)) rfl rfl rfl ?_;refine dL ?_;refine Qa hP (xu (z:=zv n' a'*(val c':Int)+zv m' b'*(val d':Int)) (Ql _) (by omega) (by show nl _<_;omega)) rfl rfl rfl ?_;refine dL ?_;refine cI ?_;refine dL ?_;exact Qc (by rw[Qz]) rfl
 · simp+decide (disch:=try exact D0) only[go_sem]
   refine Qa hP (xt _) rfl rfl rfl ?_;refine Sz0 ?_;refine Qa hP (tY (n:=n') (m:=false) g1 e2 (by omega) (by omega)) rfl rfl rfl ?_;refine Sz0 ?_;refine Qa hP (xt _) rfl rfl rfl ?_;refine Sz0 ?_;refine Qa hP (tY (n:=m') (m:=false) e1 g2 (by omega) (by omega)) rfl rfl rfl ?_;rw[uB,uB];have h3:=kx (zv n' a') (val c');have h4:=kx (zv m' b') (val d');have h5:=tN (zv n' a'*(val c':Int)) (zv m' b'*(val d':Int));have h6:=mh (val d') (val c');rw[KbP]at h3 h4;refine Sz0 ?_;refine ix hP (Hc (x:=zv n' a'*(val c':Int)) (y:=zv m' b'*(val d':Int)) (by omega) (by omega)) ob rfl ?_;refine dL ?_;refine Qa hP (xT g2 e2 (by omega) (by omega)) rfl rfl rfl ?_;refine dL ?_;refine Qa hP (xu (z:=zv n' a'*(val c':Int)+zv m' b'*(val d':Int)) (Ql _) (by omega) (by show nl _<_;omega)) rfl rfl rfl ?_;refine dL ?_;refine cI ?_;refine dL ?_;exact Qc (by rw[Qz]) rfl
end Go.Proofs.YtonjiljafkiikaaGreat
namespace Go.FW
open Go
variable {C : Ctx} {ρ : Nat -> Option Nat} {fr aw : Fr} {hp hp' : HP} {w w' : World} {K R : Qg}
theorem WY{P:Program}{pr:Bool}(hP:C.P=P){g:FuncId}{args aM:List PV}{d:Option Nat}{G:Fr}{au:HP}{aT:PV->Fr->HP->Prop}(h:sr P g aM G au aT)(gv:Nat->Option Nat)(τ:Nat->Nat)(hh:n9 C hp au gv)
  (wy:∀β γ,gv β=some γ->τ γ=β) (cl:args.map (cc τ)=aM) (kS:∀x∈args,∀γ∈x.refs++x.aJ,∃β,gv β=some γ)
  (hG:∀s,1000000<=s->G s= .undef∨∃s',1000000<=s'/\G s=cc τ (fr s')/\∀γ∈(fr s').refs++(fr s').aJ,∃β,gv β=some γ) (cJ:aM.length<=1000000) (FU:pr=true->∀β,gn gv β=none)
  (hK:∀(ρ:Nat->Option Nat) (tmps:Array Value) (w:World),Qv C ρ fr hp tmps w->∀r F H,aT r F H->(∀jE C2 v w',Qv C2 jE (n5 r F) H #[v] w'->(∀β,C2.fx β≠none->H β≠none->True)->True)->∃(eo:Nat->Option Nat) (σ:Nat->Nat) (dX:Fr) (bu:HP),
   (∀γ β,eo γ=some β->H β≠none/\σ β=γ/\bm γ=true/\((aI β=true/\gn gv β=some γ)∨(aI β=false/\aI γ=false/\(hp γ=none∨∃bo,gn gv bo=some γ))))/\
   (∀β γ,gn gv β=some γ->aI β=true->eo γ=some β)/\
   (∀γ β,eo γ=some β->bu γ=H β)/\(∀γ,eo γ=none->(∃β,gn gv β=some γ)->bu γ=none)/\(∀γ,eo γ=none->(¬∃β,gn gv β=some γ)->bu γ=hp γ)/\
   (∀s,dX s= .undef∨
    (d≠some s/\dX s=fr s/\(∀γ∈(fr s).refs++(fr s).aJ,(¬∃β,gn gv β=some γ)∨∃β hb ao,gn gv β=some γ/\aI β=true/\hp γ=some hb/\H β=some ao/\ao.e=hb.e/\hb.xs.length<=ao.xs.length)/\∀γ e ty xs,fr s= .aC γ e ty xs->¬∃β,gn gv β=some γ)∨
    (d=some s/\dX s=cc σ r/\∀β∈r.refs++r.aJ,eo (σ β)=some β)∨
    (∃s',1000000<=s'/\(∃γ e ty xs,F s'= .aC γ e ty xs)/\dX s=cc σ (F s')/\∀β∈(F s').refs++(F s').aJ,eo (σ β)=some β))/\
   K dX bu):eD C pr (.fn g [] []) args d fr hp K:=by
 subst hP;refine⟨h.1,fun ρ tmps w fv cv av mB hs h1 h2 h3 _ _ mL=>?_⟩;have e1:fv= #[]:=KbE (by simpa using h1);have e2:cv= #[]:=KbE (by simpa using h2);subst e1;subst e2;simp only[Array.empty_append,Array.append_empty];refine(h.2 (pe C ρ fr hp au tmps w gv hs hh aM.length cJ) _ av w rfl rfl rfl (Nt hs hh wy h3 cl mL kS hG cJ)).mono ?_;rintro e w' ⟨v,ρ',r,F,H,rfl,dH,fj⟩;obtain⟨eo,σ,dX,bu,a1,a2,a3,a4,a5,a6,a7⟩:=hK ρ tmps w hs r F H fj (fun _ _ _ _ _ _=>trivial);exact⟨v,dX,bu,rfl,Pv hs hh dH mB a1 a2 a3 a4 a5 a6,fun hq=>Pw hs hh dH (FU hq),a7⟩
def qA(r:PV):Prop:=(r.refs=[]/\r.aJ=[])/\∀σ,cc σ r=r
theorem Hd{gv:Nat->Option Nat}(h:∀β γ,gv β=some γ->dJ β=false):gn gv=gv:=by
 funext β;cases hr:dJ β with
 |false=>exact sK hr
 |true=>
  unfold gn;rw[if_pos hr];cases hq:gv β with
  |none=>rfl
  |some γ=>have:=h β γ hq;rw[hr]at this;cases this
def lJ(nm:Nat->Bool)(p:PV):PV:=if(p.refs++p.aJ).any nm then .undef else p
def ft(nm:Nat->Bool)(fr:Fr):Fr:=fun s=>lJ nm (fr s)
def pz(nm ex:Nat->Bool)(H hp:HP):HP:=fun x=>if ex x then H x else if nm x then none else hp x
def s0(S:List Nat)(F fr:Fr):Fr:=fun s=>if S.contains s then F s else fr s
theorem Hv(p:PV):cB id p=p:=Hb fun _ _=>rfl
theorem Hw{p:PV}(h:∀γ e ty xs,p≠ .aC γ e ty xs):cc id p=p:=by
 have hm:∀l:List PV,l.map (cB id)=l:=fun l=>by
  conv=>rhs;rw[<-List.map_id l]
  exact KaV fun x _=>Hv x
 cases p with
 |aC γ e ty xs=>exact absurd rfl (h _ _ _ _)
 |fn f a b=>simp only[cc,hm]
 |aH cs=>simp only[cc,hm]
 |dk cs=>simp only[cc,hm]
 |cm cs q=>simp only[cc,hm]
 |_=>rfl
def An(xs:List PV):Prop:=∀x∈xs,ep x.aQ=x
theorem Gx{γ e ty:Nat}{xs:List PV}(h:An xs):cc id (.aC γ e ty xs)= .aC γ e ty xs:=by
 simp only[cc,id];congr 1;conv=>rhs;rw[<-List.map_id xs]
 refine KaV fun x hx=>?_;have:x.aQ.map (cB id)=x.aQ:=by
  conv=>rhs;rw[<-List.map_id x.aQ]
  exact KaV fun y _=>Hv y
 rw[this];exact h x hx
theorem WZ{P:Program}{pr:Bool}(hP:C.P=P){g:FuncId}{args aM:List PV}{d:Option Nat}{G:Fr}{ew:HP}{aT:PV->Fr->HP->Prop}(h:sr P g aM G ew aT)(nm ex:Nat->Bool)(S:List Nat)
  (eS:∀x,nm x=true->∃hb,hp x=some hb/\hb.fz=false/\2000000<=x) (Mc:∀x,ew x=if nm x then hp x else none) (cl:args=aM) (cJ:aM.length<=1000000)
  (aW:∀x∈args,∀γ e ty xs,x≠ .aC γ e ty xs) (kS:∀γ∈args.flatMap (fun x=>x.refs++x.aJ),nm γ=true)
  (hG:∀s,1000000<=s->G s= .undef∨∃γ e ty xs,G s=fr s/\fr s= .aC γ e ty xs/\An xs/\∀γ∈(fr s).refs++(fr s).aJ,nm γ=true)
  (hex:∀x,ex x=true->(hp x=none∨nm x=true)/\2000000<=x) (FU:pr=true->∀x,nm x=false)
  (hK:∀r F H,aT r F H->(∀x,ex x=true->H x≠none)/\(∀γ e ty xs,r≠ .aC γ e ty xs)/\(∀β∈r.refs++r.aJ,ex β=true)/\(∀s∈S,1000000<=s/\(∃γ e ty xs,F s= .aC γ e ty xs/\An xs)/\∀β∈(F s).refs++(F s).aJ,ex β=true)/\K (s0 S F (eO (ft nm fr) d r)) (pz nm ex H hp)):
  eD C pr (.fn g [] []) args d fr hp K:=by
 obtain⟨gv,FB⟩:∃f:Nat->Option Nat,f=fun x=>if nm x then some x else none:=⟨_,rfl⟩
 have ga:∀β γ,gv β=some γ->β=γ/\nm γ=true:=fun β γ hq=>by
  rw[FB]at hq;simp only at hq;split at hq
  ·cases hq;rename_i e;exact⟨rfl,e⟩
  ·cases hq
 have gb:∀γ,nm γ=true->gv γ=some γ:=fun γ ah=>by rw[FB];simp[ah]
 have gN:∀γ,(∃β,gv β=some γ)->nm γ=true:=fun γ ⟨β,aj⟩=>(ga β γ aj).2;have gr:∀β γ,gv β=some γ->dJ β=false:=fun β γ hq=>by obtain⟨rfl,hn⟩:=ga β γ hq;obtain⟨_,_,_,k3⟩:=eS β hn;simp[dJ];omega
 refine WY hP h gv id ⟨fun β γ hq=>?_,fun β hq=>?_,fun β bo γ q1 q2=>?_⟩ (fun β γ hq=>(ga β γ hq).1.symm) ?_ (fun x hx γ ah=>⟨γ,gb γ (kS γ (Kan.2 ⟨x,hx,ah⟩))⟩) (fun s hs=>?_) cJ (fun hq β=>by rw[Hd gr,FB];simp only;rw[FU hq β];rfl) (fun ρ tmps w hs r F H fj _=>?_)
 ·obtain⟨rfl,hn⟩:=ga β γ hq;obtain⟨hb,k1,k2,k3⟩:=eS β hn;exact⟨hb,k1,by simp[bm];omega,(fun h=>by simp[dJ]at h;omega),fun _=>⟨by rw[Mc,if_pos hn];exact k1,k2,by simp[bm];omega,fun _=>by simp[aI];omega⟩⟩
 ·refine⟨β,gb β ?_⟩;cases hn:nm β with
  |true=>rfl
  |false=>rw[Mc,hn]at hq;simp at hq
 ·rw[(ga β γ q1).1,(ga bo γ q2).1]
 ·rw[<-cl];conv=>rhs;rw[<-List.map_id args]
  exact KaV fun x hx=>Hw (aW x hx)
 ·rcases hG s hs with e|⟨γ,e,ty,xs,e1,e2,e3,e4⟩
  ·exact .inl e
  ·refine .inr ⟨s,hs,?_,fun γ ah=>⟨γ,gb γ (e4 γ ah)⟩⟩;rw[e1,e2,Gx e3]
 ·rw [Hd gr];obtain⟨a1,a2,a3,a4,a5⟩:=hK r F H fj;obtain⟨eo,pH⟩:∃f:Nat->Option Nat,f=fun x=>if ex x then some x else none:=⟨_,rfl⟩
  have ea:∀γ β,eo γ=some β->γ=β/\ex γ=true:=fun γ β hq=>by
   rw[pH]at hq;simp only at hq;split at hq
   ·cases hq;rename_i e;exact⟨rfl,e⟩
   ·cases hq
  have eb:∀γ,ex γ=true->eo γ=some γ:=fun γ ah=>by rw[pH];simp[ah]
  have en:∀γ,eo γ=none->ex γ=false:=fun γ ah=>by
   cases hq:ex γ with
   |false=>rfl
   |true=>rw[eb γ hq]at ah;cases ah
  refine⟨eo,id,s0 S F (eO (ft nm fr) d r),pz nm ex H hp,fun γ β hq=>?_,fun β γ hq hy=>?_,fun γ β hq=>?_,fun γ hq hg=>?_,fun γ hq hg=>?_,fun s=>?_,a5⟩
  ·obtain⟨rfl,he⟩:=ea γ β hq;obtain⟨k1,k2⟩:=hex γ he;exact⟨a1 γ he,rfl,by simp[bm];omega,.inr ⟨by simp[aI];omega,by simp[aI];omega,k1.imp id fun hn=>⟨γ,gb γ hn⟩⟩⟩
  ·obtain⟨rfl,hn⟩:=ga β γ hq;obtain⟨_,_,_,k3⟩:=eS β hn;simp[aI]at hy;omega
  ·obtain⟨rfl,he⟩:=ea γ β hq;simp[pz,he]
  ·simp[pz,en γ hq,gN γ hg]
  ·have:nm γ=false:=by
    cases hn:nm γ with
    |false=>rfl
    |true=>exact absurd ⟨γ,gb γ hn⟩ hg
   simp[pz,en γ hq,this]
  ·unfold s0;by_cases hS:S.contains s=true
   ·rw[if_pos hS];obtain⟨b1,⟨γ,e,ty,xs,b2,b3⟩,b4⟩:=a4 s (by simpa using hS);refine .inr (.inr (.inr ⟨s,b1,⟨γ,e,ty,xs,b2⟩,?_,fun β aj=>eb β (b4 β aj)⟩));rw[b2,Gx b3]
   ·rw[if_neg hS];have tD:d≠some s->ft nm fr s= .undef∨(d≠some s/\ft nm fr s=fr s/\(∀γ∈(fr s).refs++(fr s).aJ,(¬∃β,gv β=some γ)∨∃β hb ao,gv β=some γ/\aI β=true/\hp γ=some hb/\H β=some ao/\ao.e=hb.e/\hb.xs.length<=ao.xs.length)/\∀γ e ty xs,fr s= .aC γ e ty xs->¬∃β,gv β=some γ):=fun hds=>by
     unfold ft lJ;split
     ·exact .inl rfl
     ·rename_i mK;have Ma:∀γ∈(fr s).refs++(fr s).aJ,¬∃β,gv β=some γ:=fun γ ah hg=>mK (KaP.2 ⟨γ,ah,gN γ hg⟩);exact .inr ⟨hds,rfl,fun γ ah=>.inl (Ma γ ah),fun γ e ty xs e0=>Ma γ (by rw[e0];simp[PV.aJ])⟩
    cases d with
    |none=>
     simp only[eO];rcases tD (by simp)with h|h
     ·exact .inl h
     ·exact .inr (.inl h)
    | some d=>
     by_cases e:s=d
     ·subst e;refine .inr (.inr (.inl ⟨rfl,?_,fun β aj=>eb β (a3 β aj)⟩));rw[Hw a2];simp[eO,ae]
     ·have e1:eO (ft nm fr) (some d) r s=ft nm fr s:=by simp[eO,ae,e]
      rw[e1];rcases tD (by simp;exact fun h=>e h.symm)with h|h
      ·exact .inl h
      ·exact .inr (.inl h)
end Go.FW
namespace Go.FW
open Go
variable {C : Ctx} {ρ : Nat -> Option Nat} {fr aw : Fr} {hp : HP} {w : World} {K R : Qg}
theorem RU{B:List Nat}{F:Fr}{β δ:Nat}(aj:B.contains β=true)(h2:β<1000000):mR β δ (dM B F)=dM B F:=SZ (.inl aj) (.inl h2)
theorem ad4:
  (∀(σ:Nat->Nat)(k:IntKind)(n:Int),cc σ (.int k n)= .int k n)/\
  (∀(σ:Nat->Nat)(b:Bool),cc σ (.bool b)= .bool b)/\
  (∀(σ:Nat->Nat)(e:Nat)(xs:List PV),cc σ (.sl e xs)= .sl e xs)/\
  (∀(σ:Nat->Nat)(cs:List PV),cc σ (.agg cs)= .agg cs)/\
  (∀(σ:Nat->Nat)(cs:List PV),cc σ (.aO cs)= .aO cs)/\
  (∀(σ:Nat->Nat)(cs:List PV),cc σ (.pt cs)= .pt cs)/\
  (∀(σ:Nat->Nat),cc σ .aa= .aa)/\
  (∀(σ:Nat->Nat),cc σ .undef= .undef)/\
  (∀(σ:Nat->Nat)(β o n:Nat),cc σ (.aq β o n)= .aq (σ β) o n)/\
  (∀(σ:Nat->Nat)(β o n:Nat),cc σ (.mp β o n)= .mp (σ β) o n)/\
  (∀(σ:Nat->Nat)(β o n:Nat),cc σ (.aE β o n)= .aE (σ β) o n)/\
  (∀(σ:Nat->Nat)(β o n:Nat),cc σ (.np β o n)= .np (σ β) o n)/\
  (∀(σ:Nat->Nat)(cs:List PV),cc σ (.aH cs)= .aH (cs.map (cB σ))):=by
 refine⟨?_,?_,?_,?_,?_,?_,?_,?_,?_,?_,?_,?_,?_⟩<;>intros<;>rfl
theorem ad3:
  (∀(σ:Nat->Nat)(k:IntKind)(n:Int),cB σ (.int k n)= .int k n)/\
  (∀(σ:Nat->Nat)(b:Bool),cB σ (.bool b)= .bool b)/\
  (∀(σ:Nat->Nat)(e:Nat)(xs:List PV),cB σ (.sl e xs)= .sl e xs)/\
  (∀(σ:Nat->Nat),cB σ .aa= .aa)/\
  (∀(σ:Nat->Nat),cB σ .undef= .undef)/\
  (∀(σ:Nat->Nat)(β o n:Nat),cB σ (.aq β o n)= .aq (σ β) o n)/\
  (∀(σ:Nat->Nat)(β o n:Nat),cB σ (.aE β o n)= .aE (σ β) o n):=by
 refine⟨?_,?_,?_,?_,?_,?_,?_⟩<;>intros<;>rfl
theorem Yj:
  (∀(γ:Nat)(k:IntKind)(n:Int),cL γ (.int k n)= .int k n)/\
  (∀(γ:Nat)(b:Bool),cL γ (.bool b)= .bool b)/\
  (∀(γ e:Nat)(xs:List PV),cL γ (.sl e xs)= .sl e xs)/\
  (∀(γ:Nat)(cs:List PV),cL γ (.agg cs)= .agg cs)/\
  (∀(γ:Nat)(cs:List PV),cL γ (.aO cs)= .aO cs)/\
  (∀(γ:Nat)(cs:List PV),cL γ (.pt cs)= .pt cs)/\
  (∀(γ:Nat),cL γ .aa= .aa)/\
  (∀(γ:Nat),cL γ .undef= .undef)/\
  (∀(γ β o n:Nat),cL γ (.aq β o n)=if β=γ then .aE γ o n else .aq β o n)/\
  (∀(γ β o n:Nat),cL γ (.mp β o n)=if β=γ then .np γ o n else .mp β o n)/\
  (∀(γ β o n:Nat),cL γ (.aE β o n)= .aE β o n)/\
  (∀(γ β o n:Nat),cL γ (.np β o n)= .np β o n):=by
 refine⟨?_,?_,?_,?_,?_,?_,?_,?_,?_,?_,?_,?_⟩<;>intros<;>rfl
theorem TN{γ s:Nat}{x:PV}:sW γ x fr s=if s=γ then x else cL γ (fr s):=rfl
theorem TO{args:List PV}{G:Fr}{s:Nat}:pd args G s=if s<1000000 then(args[s]?).getD .undef else G s:=rfl
theorem UA{nm:Nat->Bool}{s:Nat}:ft nm fr s=lJ nm (fr s):=rfl
theorem UB{nm:Nat->Bool}{p:PV}:lJ nm p=if(p.refs++p.aJ).any nm then .undef else p:=rfl
theorem Wt{nm ex:Nat->Bool}{H:HP}{x:Nat}:pz nm ex H hp x=if ex x then H x else if nm x then none else hp x:=rfl
theorem Wu{S:List Nat}{F:Fr}{s:Nat}:s0 S F fr s=if S.contains s then F s else fr s:=rfl
attribute [go_sem] SW SX WR WS WO RU ad4 ad3 Yj TN TO UA UB Wt Wu
end Go.FW
namespace Go.FW
open Go
variable {C : Ctx} {ρ : Nat -> Option Nat} {fr aw : Fr} {hp : HP} {w : World} {K R : Qg}
theorem UC{σ:Nat->Nat}{p:PV}(h:p= .aa∨∃β n,p= .ms β n)(oC:∀β n,p= .ms β n->σ β=β):ep (p.aQ.map (cB σ))=p:=by
 rcases h with rfl|⟨β,n,rfl⟩
 ·rfl
 ·have:=oC β n rfl;simp[PV.aQ,PV.cells,cB,ep,this]
def ff(B n w:Nat)(π:Nat->Nat):List (Nat×Nat):=(List.range n).map fun r=>(B+π r,w)
theorem KC{B n w r:Nat}{π:Nat->Nat}(h:r<(ff B n w π).length):(ff B n w π)[r]=(B+π r,w):=by simp[ff]
def jW{α:Type}(p:α->PV)(f:Nat->α)(w:Nat):List PV:=(List.range w).map fun c=>p (f c)
theorem Bk{α:Type}(p:α->PV)(f:Nat->α)(w:Nat):(jW p f w).length=w:=by simp[jW]
theorem BY{α:Type}{p:α->PV}{f:Nat->α}{w c:Nat}(h:c<(jW p f w).length):(jW p f w)[c]=p (f c):=by simp[jW]
theorem Yk{by_ ty d:Nat}{k k':IntKind}{n c:Nat}(h2:n<=c)(h3:by_*c<=281474976710656)(h4:c<=9223372036854775807):
  ks 3 by_ ty (.agg [.bool false,.aa,.aa]) (.int k (n:Int)) (.int k' (c:Int)) d fr hp K=K (ae (bB d fr) d (.ms d n)) (Qi hp d ⟨3,ty,List.replicate n (.agg [.bool false,.aa,.aa]),false⟩):=by
 rw[yF (e:=3) (by omega) rfl (by omega) (by omega) (by omega) (by omega)];rfl
attribute [go_sem] Yk
end Go.FW
namespace Go.FW
open Go
def cA(φ:List Int->Rat):List Tm->Rat
 | []=>0
 |t::p=>t.1*φ t.2+cA φ p
theorem lA(φ:List Int->Rat):cA φ []=0:=rfl
theorem e9(φ:List Int->Rat)(t:Tm)(p:List Tm):cA φ (t::p)=t.1*φ t.2+cA φ p:=rfl
theorem ua{φ ψ:List Int->Rat}:∀ {p:List Tm},(∀t∈p,φ t.2=ψ t.2)->cA φ p=cA ψ p
 | [],_=>rfl
 |t::p,h=>by rw[e9,e9,h t (by simp),ua (p:=p) (fun x hx=>h x (by simp[hx]))]
theorem Gy(φ ψ:List Int->Rat):∀(p:List Tm),cA (fun m=>φ m+ψ m) p=cA φ p+cA ψ p
 | []=>by simp only[lA];grind
 |t::p=>by simp only[e9];rw[Gy φ ψ p];grind
theorem KD(c:Rat)(φ:List Int->Rat):∀(p:List Tm),cA (fun m=>c*φ m) p=c*cA φ p
 | []=>by simp only[lA];grind
 |t::p=>by simp only[e9];rw[KD c φ p];grind
theorem KE:∀(p:List Tm),cA (fun _=>0) p=0
 | []=>rfl
 |t::p=>by simp only[e9];rw[KE p];grind
theorem BZ(ψ:List Int->List Int->Rat)(q:List Tm):∀(p:List Tm),cA (fun m=>cA (fun n=>ψ m n) q) p=cA (fun n=>cA (fun m=>ψ m n) p) q
 | []=>by simp only[lA];rw[KE]
 |t::p=>by simp only[e9];rw[BZ ψ q p,Gy (fun n=>t.1*ψ t.2 n),KD]
def Can(p:List Tm):Prop:=∀t∈p,t.2.getLast? ≠some 0
def NZ(p:List Tm):Prop:=∀t∈p,t.1≠0
structure cK(p:List Tm):Prop where
 c:Can p
 z:NZ p
 s:gX p
theorem Can.cons{t:Tm}{p:List Tm}:Can (t::p)↔t.2.getLast? ≠some 0/\Can p:=by simp[Can]
theorem NZ.cons{t:Tm}{p:List Tm}:NZ (t::p)↔t.1≠0/\NZ p:=by simp[NZ]
theorem cK.nil:cK []:=⟨by simp[Can],by simp[NZ],trivial⟩
theorem cK.tail{t:Tm}{p:List Tm}(h:cK (t::p)):cK p:=⟨(Can.cons.1 h.c).2,(NZ.cons.1 h.z).2,h.s.2⟩
theorem cK.one{t:Tm}(h:t.1≠0)(hm:t.2.getLast? ≠some 0):cK [t]:=⟨by simpa[Can]using hm,by simpa[NZ]using h,⟨by simp,trivial⟩⟩
theorem B1{φ:List Int->Rat}:∀ {p q:List Tm},Can p->Can q->cA φ (Q4 p q)=cA φ p+cA φ q:=by
 intro p q;induction p,q using Q4.induct with
 |case1 q=>rw[Q4,lA];intros;grind
 |case2 p h=>rw[jJ,lA];intros;grind
 |case3 c m p d l q h ih=>intro hp hq;rw[Q4,if_pos h,e9,e9,ih (Can.cons.1 hp).2 hq];grind
 |case4 c m p d l q h1 h2 ih=>intro hp hq;rw[Q4,if_neg h1,if_pos h2,e9,ih hp (Can.cons.1 hq).2,e9 φ (d,l)];grind
 |case5 c m p d l q h1 h2 h3 ih=>
  intro hp hq;have e:=Br h1 h2 (Can.cons.1 hp).1 (Can.cons.1 hq).1;rw[Q4,if_neg h1,if_neg h2,if_pos h3,ih (Can.cons.1 hp).2 (Can.cons.1 hq).2,e9,e9];subst e;have:c*φ m+d*φ m=0:=by rw[<-Rat.add_mul,h3];grind
  grind
 |case6 c m p d l q h1 h2 h3 ih=>intro hp hq;have e:=Br h1 h2 (Can.cons.1 hp).1 (Can.cons.1 hq).1;rw[Q4,if_neg h1,if_neg h2,if_neg h3,e9,ih (Can.cons.1 hp).2 (Can.cons.1 hq).2,e9,e9];subst e;grind
theorem r8:∀ {p q:List Tm} {t:Tm},t∈Q4 p q->(∃s∈p,s.2=t.2)∨(∃s∈q,s.2=t.2):=by
 intro p q;induction p,q using Q4.induct with
 |case1 q=>rw[Q4];intro t ht;exact Or.inr ⟨t,ht,rfl⟩
 |case2 p h=>rw[jJ];intro t ht;exact Or.inl ⟨t,ht,rfl⟩
 | case3 c m p d l q h ih=>
  intro t ht;rw[Q4,if_pos h]at ht;rcases KaF.1 ht with rfl|ht
  ·exact Or.inl ⟨_,by simp,rfl⟩
  ·rcases ih ht with⟨s,h1,h2⟩|h1
   ·exact Or.inl ⟨s,by simp[h1],h2⟩
   ·exact Or.inr h1
 | case4 c m p d l q h1 h2 ih=>
  intro t ht;rw[Q4,if_neg h1,if_pos h2]at ht;rcases KaF.1 ht with rfl|ht
  ·exact Or.inr ⟨_,by simp,rfl⟩
  ·rcases ih ht with h3|⟨s,h3,h4⟩
   ·exact Or.inl h3
   ·exact Or.inr ⟨s,by simp[h3],h4⟩
 |case5 c m p d l q h1 h2 h3 ih=>
  intro t ht;rw[Q4,if_neg h1,if_neg h2,if_pos h3]at ht;rcases ih ht with⟨s,h4,h5⟩|⟨s,h4,h5⟩
  ·exact Or.inl ⟨s,by simp[h4],h5⟩
  ·exact Or.inr ⟨s,by simp[h4],h5⟩
 | case6 c m p d l q h1 h2 h3 ih=>
  intro t ht;rw[Q4,if_neg h1,if_neg h2,if_neg h3]at ht;rcases KaF.1 ht with rfl|ht
  ·exact Or.inl ⟨(c,m),by simp,rfl⟩
  ·rcases ih ht with⟨s,h4,h5⟩|⟨s,h4,h5⟩
   ·exact Or.inl ⟨s,by simp[h4],h5⟩
   ·exact Or.inr ⟨s,by simp[h4],h5⟩
theorem KF{p q:List Tm}(hp:Can p)(hq:Can q):Can (Q4 p q):=fun t ht=>by
 rcases r8 ht with⟨s,h1,h2⟩|⟨s,h1,h2⟩
 ·rw[<-h2];exact hp s h1
 ·rw[<-h2];exact hq s h1
theorem UD:∀ {p q:List Tm},NZ p->NZ q->NZ (Q4 p q):=by
 intro p q;induction p,q using Q4.induct with
 |case1 q=>rw[Q4];exact fun _ h=>h
 |case2 p h=>rw[jJ];exact fun h _=>h
 |case3 c m p d l q h ih=>intro hp hq;rw[Q4,if_pos h,NZ.cons];exact⟨(NZ.cons.1 hp).1,ih (NZ.cons.1 hp).2 hq⟩
 |case4 c m p d l q h1 h2 ih=>intro hp hq;rw[Q4,if_neg h1,if_pos h2,NZ.cons];exact⟨(NZ.cons.1 hq).1,ih hp (NZ.cons.1 hq).2⟩
 |case5 c m p d l q h1 h2 h3 ih=>intro hp hq;rw[Q4,if_neg h1,if_neg h2,if_pos h3];exact ih (NZ.cons.1 hp).2 (NZ.cons.1 hq).2
 |case6 c m p d l q h1 h2 h3 ih=>intro hp hq;rw[Q4,if_neg h1,if_neg h2,if_neg h3,NZ.cons];exact⟨h3,ih (NZ.cons.1 hp).2 (NZ.cons.1 hq).2⟩
theorem NA{a b c:List Int}(h:bp a b=0)(h2:0<bp b c):0<bp a c:=by
 have e:∀i,eN a i=eN b i:=by
  intro i;have:=(xB a b _).1 h;by_cases hi:i<max a.length b.length
  ·exact this i hi
  ·rw[iA (by omega),iA (by omega)]
 rw[NS e (fun _=>rfl)];exact h2
theorem Qy5:∀ {p q:List Tm},gX p->gX q->gX (Q4 p q):=by
 intro p q;induction p,q using Q4.induct with
 |case1 q=>rw[Q4];exact fun _ h=>h
 |case2 p h=>rw[jJ];exact fun h _=>h
 | case3 c m p d l q h ih=>
  intro hp hq;rw[Q4,if_pos h];refine⟨fun t ht=>?_,ih hp.2 hq⟩;rcases r8 ht with⟨s,h1,h2⟩|⟨s,h1,h2⟩
  ·rw[<-h2];exact hp.1 s h1
  ·rw[<-h2];rcases KaF.1 h1 with rfl|h1
   ·exact h
   ·exact tO h (hq.1 s h1)
 | case4 c m p d l q h1 h2 ih=>
  intro hp hq;rw[Q4,if_neg h1,if_pos h2];have jl:0<bp l m:=by have:=uD m l;omega
  refine⟨fun t ht=>?_,ih hp hq.2⟩;rcases r8 ht with⟨s,h3,h4⟩|⟨s,h3,h4⟩
  ·rw[<-h4];rcases KaF.1 h3 with rfl|h3
   ·exact jl
   ·exact tO jl (hp.1 s h3)
  ·rw[<-h4];exact hq.1 s h3
 |case5 c m p d l q h1 h2 h3 ih=>intro hp hq;rw[Q4,if_neg h1,if_neg h2,if_pos h3];exact ih hp.2 hq.2
 |case6 c m p d l q h1 h2 h3 ih=>
  intro hp hq;rw[Q4,if_neg h1,if_neg h2,if_neg h3];refine⟨fun t ht=>?_,ih hp.2 hq.2⟩;rcases r8 ht with⟨s,h4,h5⟩|⟨s,h4,h5⟩
  ·rw[<-h5];exact hp.1 s h4
  ·rw[<-h5];exact NA (b:=l) (by show bp m l=0;omega) (hq.1 s h4)
theorem B2{p q:List Tm}(hp:cK p)(hq:cK q):cK (Q4 p q):=⟨KF hp.c hq.c,UD hp.z hq.z,Qy5 hp.s hq.s⟩
def ind(m:List Int):List Int->Rat:=fun n=>if n=m then 1 else 0
theorem xo{m:List Int}:∀ {p:List Tm},(∀t∈p,t.2≠m)->cA (ind m) p=0
 | [],_=>rfl
 |t::p,h=>by rw[e9,xo (p:=p) (fun x hx=>h x (by simp[hx])),ind,if_neg (h t (by simp))];grind
theorem vg{a b:List Int}(h:0<bp a b):b≠a:=by rintro rfl;rw[BP]at h;omega
theorem rT{t:Tm}{p:List Tm}(h:gX (t::p)):cA (ind t.2) (t::p)=t.1:=by rw[e9,xo (fun s hs=>vg (h.1 s hs)),ind,if_pos rfl];grind
theorem yj:∀ {p q:List Tm},cK p->cK q->(∀φ,cA φ p=cA φ q)->p=q
 | [],[],_,_,_=>rfl
 | [],t::q,_,hq,h=>by have:=h (ind t.2);rw[rT hq.s,lA]at this;exact absurd this.symm (hq.z t (by simp))
 |t::p,[],hp,_,h=>by have:=h (ind t.2);rw[rT hp.s,lA]at this;exact absurd this (hp.z t (by simp))
 | s ::p,t::q,hp,hq,h=>by
  by_cases h1:0<bp s.2 t.2
  ·have:=h (ind s.2);rw[rT hp.s,xo (fun x hx=>?_)]at this
   ·exact absurd this (hp.z s (by simp))
   ·rcases KaF.1 hx with rfl|hx
    ·exact vg h1
    ·exact vg (tO h1 (hq.s.1 x hx))
  ·by_cases h2:bp s.2 t.2<0
   ·have jl:0<bp t.2 s.2:=by have:=uD s.2 t.2;omega
    have:=h (ind t.2);rw[rT hq.s,xo (fun x hx=>?_)]at this
    ·exact absurd this.symm (hq.z t (by simp))
    ·rcases KaF.1 hx with rfl|hx
     ·exact vg jl
     ·exact vg (tO jl (hp.s.1 x hx))
   ·have e:=Br h1 h2 (hp.c s (by simp)) (hq.c t (by simp));have e2:=h (ind s.2);rw[rT hp.s,e,rT hq.s]at e2;have e3:s=t:=Prod.ext e2 e;subst e3;rw[yj hp.tail hq.tail (fun φ=>by have:=h φ;rw[e9,e9]at this;grind)]
theorem PA{φ:List Int->Rat}:∀(n:Nat)(l:List (List Tm)),l.length<=n->(∀p∈l,Can p)->Can (dD l)/\cA φ (dD l)=(l.map (cA φ)).sum:=by
 intro n;induction n with
 |zero=>intro l hl _;have:l=[]:=Kat.1 (by omega);subst this;rw[dD];exact⟨cK.nil.c,rfl⟩
 | succ n ih=>
  intro l hl h
  match l,h with
  | [],_=>rw[dD];exact⟨cK.nil.c,rfl⟩
  | [p],h=>rw[dD];exact⟨h p (by simp),by simp;grind⟩
  |p::q::r,h=>
   rw[uo (by simp)];generalize hL:p::q::r=L at *
   have hlen:2<=L.length:=by rw[<-hL];simp
   obtain⟨a1,a2⟩:=ih (L.take (L.length/2)) (by rw[Kav];omega) (fun x hx=>h x (Ka4 hx));obtain⟨b1,b2⟩:=ih (L.drop (L.length/2)) (by rw[KaY];omega) (fun x hx=>h x (KbB hx));refine⟨KF a1 b1,?_⟩;rw[B1 a1 b1,a2,b2,<-List.sum_append,<-List.map_append,Kbj]
theorem RW:∀(n:Nat)(l:List (List Tm)),l.length<=n->(∀p∈l,cK p)->cK (dD l):=by
 intro n;induction n with
 |zero=>intro l hl _;have:l=[]:=Kat.1 (by omega);subst this;rw[dD];exact cK.nil
 | succ n ih=>
  intro l hl h
  match l,h with
  | [],_=>rw[dD];exact cK.nil
  | [p],h=>rw[dD];exact h p (by simp)
  | p::q::r,h=>
   rw[uo (by simp)];generalize hL:p::q::r=L at *
   have hlen:2<=L.length:=by rw[<-hL];simp
   exact B2 (ih (L.take (L.length/2)) (by rw[Kav];omega) (fun x hx=>h x (Ka4 hx)))
    (ih (L.drop (L.length/2)) (by rw[KaY];omega) (fun x hx=>h x (KbB hx)))
theorem xv(φ:List Int->Rat)(t:Tm):∀(p:List Tm),cA φ (Q9 p t)=t.1*cA (fun m=>φ (cY m t.2)) p
 | []=>by rw[Q9,List.filterMap_nil,lA,lA];grind
 | s::p=>by
  have ih:=xv φ t p;rw[Q9]at ih⊢;rw[List.filterMap_cons];by_cases h:s.1*t.1=0
  ·simp only[h,if_true,e9];rw[ih];have:t.1*(s.1*φ (cY s.2 t.2))=(s.1*t.1)*φ (cY s.2 t.2):=by grind
   rw[Rat.mul_add,this,h];grind
  ·simp only[h,if_false,e9];rw[ih];grind
theorem BE(p:List Tm)(t:Tm):Can (Q9 p t):=by
 intro x hx;simp only[Q9,Kb2]at hx;obtain⟨y,hy,h⟩:=hx;split at h
 ·cases h
 ·cases h;exact um _ _
theorem PC(p:List Tm)(t:Tm):NZ (Q9 p t):=by
 intro x hx;simp only[Q9,Kb2]at hx;obtain⟨y,hy,h⟩:=hx;split at h
 ·cases h
 ·rename_i h0;cases h;exact h0
theorem HS(t:Tm):∀(p:List Tm),gX p->gX (Q9 p t)
 | [],_=>trivial
 | s ::p,hp=>by
  have ih:=HS t p hp.2;rw[Q9]at ih⊢;rw[List.filterMap_cons];split
  ·exact ih
  ·rename_i b hb;split at hb
   ·cases hb
   ·cases hb;refine⟨fun x hx=>?_,ih⟩;simp only[Kb2]at hx;obtain⟨y,hy,h⟩:=hx;split at h
    ·cases h
    ·cases h;simp only[RG];exact hp.1 y hy
theorem BF{p:List Tm}(t:Tm)(hp:gX p):cK (Q9 p t):=⟨BE _ _,PC _ _,HS t p hp⟩
theorem I2(φ:List Int->Rat)(q:List Tm):∀(p:List Tm),((p.map (Q9 q)).map (cA φ)).sum=cA (fun m=>cA (fun n=>φ (cY m n)) q) p
 | []=>rfl
 |t::p=>by rw[Kbs,Kbs,Kcy,I2 φ q p,xv,e9];congr 2;exact ua fun s _=>by rw[xC]
theorem Jf(φ:List Int->Rat)(p q:List Tm):cA φ (nh p q)=cA (fun m=>cA (fun n=>φ (cY m n)) q) p:=by rw[nh,(PA (φ:=φ) _ _ (Kag _) ?_).2,I2];intro x hx;obtain⟨t,_,rfl⟩:=KaL.1 hx;exact BE _ _
theorem RX(φ:List Int->Rat)(p q:List Tm):cA φ (cz p q)=cA (fun m=>cA (fun n=>φ (cY m n)) q) p:=by
 unfold cz;split
 ·rw[Jf,BZ (fun m n=>φ (cY m n))];exact ua fun s _=>ua fun t _=>by rw[xC]
 ·exact Jf φ p q
theorem Jg{p q:List Tm}(hq:gX q):cK (nh p q):=RW _ _ (Kag _) fun x hx=>by obtain⟨t,_,rfl⟩:=KaL.1 hx;exact BF t hq
theorem KG{p q:List Tm}(hp:gX p)(hq:gX q):cK (cz p q):=by
 unfold cz;split
 ·exact Jg hp
 ·exact Jg hq
theorem I3(φ:List Int->Rat){p:List Tm}(hp:Can p)(a:Rat):cA φ (eC p a)=a*cA φ p:=by
 unfold eC;split
 ·rename_i h;rw[h,lA];grind
 ·rw[xv];congr 1;exact ua fun s hs=>by rw[J7 (hp s hs)]
theorem NB{p:List Tm}(hp:gX p)(a:Rat):cK (eC p a):=by
 unfold eC;split
 ·exact cK.nil
 ·exact BF _ hp
theorem NC(a:Rat):cK (lz a):=by
 unfold lz;split
 ·exact cK.nil
 ·rename_i h;exact cK.one h (by simp)
def lE(p q:List Tm):List Tm:=q.foldl (fun out t=>Q4 out (Q9 p t)) []
theorem Jh(p:List Tm)(hp:cK p):∀(q out:List Tm),cK out->cK (q.foldl (fun out t=>Q4 out (Q9 p t)) out)/\
  ∀φ,cA φ (q.foldl (fun out t=>Q4 out (Q9 p t)) out)=cA φ out+cA (fun m=>cA (fun n=>φ (cY n m)) p) q
 | [],out,h=>⟨h,fun φ=>by rw[List.foldl_nil,lA];grind⟩
 |t::q,out,h=>by obtain⟨h1,h2⟩:=Jh p hp q (Q4 out (Q9 p t)) (B2 h (BF t hp.s));refine⟨h1,fun φ=>?_⟩;rw[List.foldl_cons,h2,B1 h.c (BE _ _),xv,e9];grind
theorem RY{p q:List Tm}(hp:cK p)(hq:cK q):lE p q=cz p q:=by obtain⟨h1,h2⟩:=Jh p hp q [] cK.nil;refine yj h1 (KG hp.s hq.s) fun φ=>?_;rw[lE,h2,RX,lA,BZ (fun m n=>φ (cY m n))];grind
variable {C : Ctx} {fr : Fr} {hp : HP} {w : World} {K R : Qg}
theorem Qy6{e by_ ty d:Nat}(h0:0<e):fM e by_ ty .aa (.sl e []) d fr hp K=K (ae (bB d fr) d (.ms d 0)) (Qi hp d ⟨e,ty,[],false⟩):=by have:=Bz (fr:=fr) (hp:=hp) (K:=K) (e:=e) (by_:=by_) (ty:=ty) (d:=d) (x:=.sl e []) (ys:=[]) rfl h0 (by simp) (by simp);simpa using this
end Go.FW
namespace Go.FW
open Go
theorem CI{m:List Int}{c:Rat}:∀ {u v:List Tm},(∀t∈u,0<bp t.2 m)->(∀t∈v,bp t.2 m<0)->Q4 (u++v) [(c,m)]=u++(c,m)::v
 | [],[],_,_=>by rw[KaE,qi];rfl
 | [],t::v,_,hv=>by have h1:=hv t (by simp);rw[KaE,uq,if_neg (by show ¬0<bp t.2 m;omega),if_pos (by exact h1),jJ];rfl
 |t::u,v,hu,hv=>by rw[KaH,uq,if_pos (by exact hu t (by simp)),CI (fun s hs=>hu s (by simp[hs])) hv];rfl
theorem Gz{m:List Int}{c d:Rat}:∀ {u v:List Tm},(∀t∈u,0<bp t.2 m)->Q4 (u++(d,m)::v) [(c,m)]=u++(if d+c=0 then []else [(d+c,m)])++v
 | [],v,_=>by have h0:=BP m;rw[KaE,uq,if_neg (by show ¬0<bp m m;omega),if_neg (by show ¬bp m m<0;omega)];show(if d+c=0 then Q4 v []else(d+c,m)::Q4 v [])=_;rw[jJ];split<;>rfl
 |t::u,v,hu=>by rw[KaH,uq,if_pos (by exact hu t (by simp)),Gz (fun s hs=>hu s (by simp[hs]))];simp
def ml(p:List Tm)(c:Rat)(m:List Int):List Tm:=Q4 p (if c=0 then []else [(c,m)])
theorem Qxo{p:List Tm}(hs:gX p):∀ {i:Nat} (h:i<p.length),∀t∈p.take i,0<bp t.2 p[i].2:=by
 induction p with
 |nil=>intro i h;simp at h
 | cons s p ih=>
  intro i h t ht;cases i with
  |zero=>simp at ht
  |succ i=>
   simp only[List.take_succ_cons,KaF]at ht;have hi:i<p.length:=by simpa using h
   show 0<bp t.2 p[i].2;rcases ht with rfl|ht
   ·exact hs.1 _ (Kaq hi)
   ·exact ih hs.2 hi t ht
def Ao(a:Rat):Nat->Rat
 |0=>1
 |n+1=>Ao a n*a
def MM(vs:List Rat)(m:List Int):Nat->Rat
 |0=>1
 |n+1=>MM vs m n*Ao (vs.getD n 0) (eN m n).toNat
def mev(vs:List Rat)(m:List Int):Rat:=MM vs m m.length
section
variable {C : Ctx} {fr : Fr} {hp : HP} {w : World} {K R : Qg}
end
def z3(m:List Int)(v:Nat):List Int:=nY (m.set v 0)
def vh(p:List Tm)(v:Nat)(n:Int):List Tm:=p.filterMap fun t=>if eN t.2 v=n then some (t.1,z3 t.2 v)else none
theorem PD{p:List Tm}{v:Nat}{n:Int}{t:Tm}(h:t∈vh p v n):∃s∈p,eN s.2 v=n/\t=(s.1,z3 s.2 v):=by
 simp only[vh,Kb2]at h;obtain⟨s,h1,h2⟩:=h;split at h2
 ·rename_i h3;cases h2;exact⟨s,h1,h3,rfl⟩
 ·cases h2
end Go.FW
namespace Go.FW
open Go
def tr(p:List Tm)(v:Nat)(q:List Tm)(top:Nat):Nat->List Tm
 |0=>vh p v top
 |k+1=>Q4 (cz (tr p v q top k) q) (vh p v ((top:Int)-(k+1)))
def er(vs:List Rat)(v:Nat)(b:Rat)(n:Int):List Tm->Rat
 | []=>0
 |t::p=>(if n<=eN t.2 v then t.1*mev vs (z3 t.2 v)*Ao b (eN t.2 v-n).toNat else 0)+er vs v b n p
def ML(n:Nat)(p:List Tm):Prop:=∀t∈p,t.2.length<=n
theorem ML.adY{n:Nat}{p q:List Tm}(hp:ML n p)(hq:ML n q):ML n (Q4 p q):=fun t ht=>by
 rcases r8 ht with⟨s,h1,h2⟩|⟨s,h1,h2⟩
 ·rw[<-h2];exact hp s h1
 ·rw[<-h2];exact hq s h1
theorem RZ(a b:List Int):(cY a b).length<=max a.length b.length:=by
 have:=AZ (hZ (· + ·) a b)
 rwa[l8]at this
theorem N6{p:List Tm}{t x:Tm}(h:x∈Q9 p t):∃s∈p,x.2=cY s.2 t.2:=by
 simp only[Q9,Kb2]at h;obtain⟨y,hy,h⟩:=h;split at h
 ·cases h
 ·cases h;exact⟨y,hy,rfl⟩
theorem R0:∀(n:Nat)(l:List (List Tm)),l.length<=n->∀ {t:Tm},t∈dD l->∃p∈l,∃s∈p,s.2=t.2:=by
 intro n;induction n with
 |zero=>intro l hl t ht;have:l=[]:=Kat.1 (by omega);subst this;rw[dD]at ht;cases ht
 | succ n ih=>
  intro l hl t ht
  match l,ht with
  | [],ht=>rw[dD]at ht;cases ht
  | [p],ht=>rw[dD]at ht;exact⟨p,by simp,t,ht,rfl⟩
  | p::q::r,ht=>
   rw[uo (by simp)]at ht;generalize hL:p::q::r=L at *
   have hlen:2<=L.length:=by rw[<-hL];simp
   rcases r8 ht with⟨s,h1,h2⟩|⟨s,h1,h2⟩
   ·obtain⟨p',hp',s',dt,e⟩:=ih _ (by rw[Kav];omega) h1;exact⟨p',Ka4 hp',s',dt,e.trans h2⟩
   ·obtain⟨p',hp',s',dt,e⟩:=ih _ (by rw[KaY];omega) h1;exact⟨p',KbB hp',s',dt,e.trans h2⟩
theorem R3{p q:List Tm}{t:Tm}(h:t∈cz p q):∃a∈p,∃b∈q,t.2=cY a.2 b.2:=by
 have main:∀ {p q:List Tm},t∈nh p q->∃a∈p,∃b∈q,t.2=cY a.2 b.2:=fun {p q} h=>by obtain⟨x,hx,s,hs,e⟩:=R0 _ _ (Kag _) h;obtain⟨a,ha,rfl⟩:=KaL.1 hx;obtain⟨b,hb,e2⟩:=N6 hs;exact⟨a,ha,b,hb,by rw[<-e,e2,xC]⟩
 unfold cz at h;split at h
 ·obtain⟨a,ha,b,hb,e⟩:=main h;exact⟨b,hb,a,ha,by rw[e,xC]⟩
 ·exact main h
theorem ML.adZ{n:Nat}{p q:List Tm}(hp:ML n p)(hq:ML n q):ML n (cz p q):=fun t ht=>by obtain⟨a,ha,b,hb,e⟩:=R3 ht;have:=RZ a.2 b.2;have:=hp a ha;have:=hq b hb;rw[e];omega
theorem ML.Li{n:Nat}{p:List Tm}(hp:ML n p)(v:Nat)(k:Int):ML n (vh p v k):=fun t ht=>by obtain⟨s,h1,_,rfl⟩:=PD ht;have:=AZ (s.2.set v 0);rw[List.length_set]at this;exact KaZ this (hp s h1)
theorem ML.tr{n:Nat}{p q:List Tm}(hp:ML n p)(hq:ML n q)(v top:Nat):∀k,ML n (tr p v q top k)
 |0=>hp.Li v _
 |k+1=>((ML.tr hp hq v top k).adZ hq).adY (hp.Li v _)
def iE(v n:Nat):List Int:=List.replicate v 0++[(n:Int)]
theorem PE{v n:Nat}(h:0<n):(iE v n).getLast? ≠some 0:=by unfold iE;rw[List.getLast?_append];simp;omega
theorem UE{v n:Nat}(hv:v<64):MB n (iE v n):=by
 refine⟨by simp[iE];omega,fun x hx=>?_,fun x hx=>?_⟩
 all_goals
  simp only[iE,KaT,List.mem_replicate,KaB]at hx;omega
variable {C : Ctx} {fr : Fr} {hp : HP} {w : World} {K R : Qg}
end Go.FW
namespace Go.FW
open Go
variable {C : Ctx} {fr : Fr} {hp : HP} {K : Qg}
theorem Yl{z:List PV}{o n o2 n2 d β m e ty:Nat}{p:PV}{xs:List PV}{fz:Bool}(h:p.flat=true)(hb:hp β=some ⟨e,ty,xs,fz⟩)(hm:m=xs.length)(hB:bm β=false:=by decide):
  gZ z [(o,n,p),(o2,n2,.ms β m)] d fr hp K=((p.cells.length=n/\o+n<=z.length)/\(1=n2/\o2+n2<=z.length)/\K (ae fr d (.agg (fa z [(o,p.cells),(o2,[.sl e xs])]))) (bw hp [β])):=by
 obtain⟨s1,s2,s3⟩:=mW (hp:=hp) h;have s4:Qy hp (.ms β m)= .sl e xs:=by simp[Qy,bR,qm hB,hb,hm]
 have r4:(PV.ms β m).refs=[β]:=rfl;have c4:(PV.sl e xs).cells=[.sl e xs]:=rfl;have d4:(PV.sl e xs).aA=true:=rfl;have i1:p.iR=false:=IA h;have i2:(PV.ms β m).iR=false:=by simp[bm]at hB;simp[PV.iR];omega
 unfold gZ vb CK;rw[if_neg (by simp[i1,i2])];apply propext;simp only[KaF,Kba,or_false,forall_eq_or_imp,forall_eq,s1,s3,s4,d4,c4,KaU,Kbg,true_and,Kbs,Kby,KaA,KaK,s2,r4,KaE,Kao,and_assoc,Ka2]
end Go.FW
namespace Go.FW
open Go
theorem I4:∀ {p:List Tm},gX p->∀n,gX (p.take n)
 |_,_,0=>trivial
 | [],_,n+1=>trivial
 |t::p,h,n+1=>⟨fun s hs=>h.1 s (Ka4 hs),I4 h.2 n⟩
theorem cK.take{p:List Tm}(h:cK p)(n:Nat):cK (p.take n):=⟨fun t ht=>h.c t (Ka4 ht),fun t ht=>h.z t (Ka4 ht),I4 h.s n⟩
abbrev MF:=Nat->Nat->Rat
end Go.FW
