/- Part 5 of the proof of DiscoverHolds: C1, CM, CP, CS2, CS3, CU, FwNG, FwNS, FwNT, FwNH, FwQA, FwSD, FwSE, FwSF, FwSG, FwSH, FwSI, FwNI, FwNJ, FwSJ, FwSK, FwSL, FwUA, FwSM, FwUC, FwVA, FwVB, FwVC, FwYA. Own lemmas; no conditions. -/
import Derived.Test.YtmkijkjaeljieaaGreatDiscoverHoldsPart4
import Derived.Test.YtmkijkjaeljieaaGreatProg
set_option maxHeartbeats 1000000
set_option linter.unusedSimpArgs false
set_option linter.unusedVariables false
set_option linter.unnecessarySimpa false
set_option maxRecDepth 100000
namespace Go.Proofs.YtmkijkjaeljieaaGreat
open Tryz
open Go Go.FW
theorem Qf:Tryz.prog.follows .mixedOrders=true:=by kernel_rfl
def WU:az:=⟨21,[.t 2],Zr (YK 2)<|Zr (YB 4 0<|Zm 3 5 .nil)<| .seq (.block 0<| .loop<| .seq (Zr (YJ 6 3 1<|Zg 8 true (.ld 13 1 false (.t 12))<|Zg 8 true (.bin 14 .eql false (.t 13) (.c (.int .u16 0)))<|Yp 15 8 14 .nil)<| .cond (.t 15) .skip (.exit 0))<| .block 1<| .rg (Zm 16 3<|Zk 17 .sub 16 1<|Ye 3 17))<|Zr (Ym 18 0 3<|Zo (.sl 20 1 (.t 18) none (some (.t 19)) none)<|Ye 2 20) .ret⟩
theorem Rv:Qd Tryz.prog f180=some WU:=by kernel_rfl
def arM:az:=⟨16,[.t 2],Zr (YK 2)<|Zr (YQ 4 0 180<|Zm 0 5 .nil)<| .seq (Zr (YB 6 0<|kN 8 7 0)<| .cond (.t 8) (Zr (YK 2) .ret) .skip)<|Zr (YB 9 0<|rW 11 10 10<|Zm 3 11 .nil)<|Zr (Ym 12 3 0<|Zo (.xa 14 1 (.t 12) (.t 13)) .nil)<|Zr (gU 15 3 2) .ret⟩
theorem ajI:Qd Tryz.prog f176=some arM:=by kernel_rfl
def arL:az:=⟨14,[.t 2],Zr (YK 2)<|Zr (YK 3)<| .seq (.block 0<| .loop<| .seq (Zr (Zm 4 0<|Zo (.bin 5 .gtr false (.t 4) (.c (.int .u64 0))) .nil)<| .cond (.t 5) .skip (.exit 0))<| .seq (.block 1<| .rg (Ym 8 3 0<|Zo (.conv 10 .u16 (.t 9))<|Yy 11 1 177 10 2 8<|Zm 3 12 .nil))<| .rg (wU 6 0<|Zm 0 7 .nil))<|Zr (Zm 13 3<|Zm 2 13 .nil) .ret⟩
theorem ajJ:Qd Tryz.prog f175=some arL:=by kernel_rfl
def ar5:az:=⟨28,[.t 2,.t 3],Zr (Zo (.mv 2 (.c (.int .u64 0)))<|bP 3)<|Zr (YQ 7 0 180<|Zm 0 8 .nil)<| .seq (Zr (YB 9 0<|Zk 11 .gtr 10 4 .nil)<| .cond (.t 11) (Zr (Zo (.mv 2 (.c (.int .u64 0)))<|bP 3) .ret) .skip)<|Zr (Zo (.mv 4 (.c (.int .u64 0))) .nil)<| .seq (Zr (ke 12 0)<| .block 0<| .loop<|Zr (Yw 15 14 13)<| .seq (.cond (.t 15) .skip (.exit 0))<| .seq (.block 1<|Zr (Zm 16 14<|Yz 17 12 14<|Zm 5 16<|Zm 6 18 .nil)<| .rg (Ym 19 4 6<|mG 21 20<|Zm 22 5<|Zo (.bin 23 .mul false (.c (Zz 16)) (.t 22))<|Zb 24 .shl 21 23<|Zb 25 .or 19 24<|Ye 4 25))<| .rg (YE 26 14 14))<|Zr (Zm 27 4<|Zm 2 27<|YX 3) .ret⟩
theorem ajK:Qd Tryz.prog f195=some ar5:=by kernel_rfl
def ark:az:=⟨20,[.t 2],Zr (Yj 2 0)<|Zr (YQ 3 0 180<|Zm 0 4 .nil)<| .seq (Zr (YB 5 0<|kN 7 6 0)<| .cond (.t 7) (Zr (Yj 2 0) .ret) .skip)<|Zr (YB 8 0<|Zk 10 .sub 9 1<|Zo (.bin 11 .mul false (.c (Zz 16)) (.t 10))<|Ym 12 0 0<|Zn 14 13<|Zk 15 .sub 14 1<|Yz 16 12 15<|Yv 18 182 17<|dM 19 11 18<|Ye 2 19) .ret⟩
theorem ajL:Qd Tryz.prog f152=some ark:=by kernel_rfl
def arT:az:=⟨45,[.t 4],Zr (Yj 4 0)<|Zr (YQ 6 0 180<|YQ 8 1 180<|Zm 0 7<|Zm 1 9 .nil)<| .seq (Zr (YB 10 0<|YB 12 1<|Zb 14 .neq 11 13 .nil)<| .cond (.t 14) (.seq (Zr (YB 15 0<|YB 17 1<|Yw 19 16 18)<| .cond (.t 19) (Zr (Zc 4 (-1) .nil) .ret) .skip)<|Zr (Yj 4 1) .ret) .skip)<| .seq (Zr (YB 20 0<|Zk 22 .sub 21 1<|Ye 5 22)<| .block 0<| .loop<| .seq (Zr (Zm 23 5<|Zk 24 .geq 23 0 .nil)<| .cond (.t 24) .skip (.exit 0))<| .seq (.block 1<| .seq (Zr (j1 27 0 5<|j1 31 1 5<|Yw 35 30 34)<| .cond (.t 35) (Zr (Zc 4 (-1) .nil) .ret) .skip)<|Zr (j1 36 0 5<|j1 40 1 5<|Zb 44 .gtr 39 43 .nil)<| .cond (.t 44) (Zr (Yj 4 1) .ret) .skip)<| .rg (Zm 25 5<|Zk 26 .sub 25 1<|Ye 5 26))<|Zr (Yj 4 0) .ret⟩
theorem ajM:Qd Tryz.prog f184=some arT:=by kernel_rfl
def asa:az:=⟨64,[.t 4],Zr (YK 4)<|Zr (YQ 9 0 180<|YQ 11 1 180<|Zm 0 10<|Zm 1 12 .nil)<| .seq (Zr (YB 13 0<|YB 15 1<|Yw 17 14 16)<| .cond (.t 17) (.rg (Ym 18 1 0<|et 0 18 19)) .skip)<|Zr (YB 20 0<|YB 22 0<|Zk 24 .add 23 1<|rW 25 21 24<|Ye 5 25)<|Zr (Zo (.mv 6 (.c (.int .u32 0))) .nil)<| .seq (Zr (ke 26 0)<| .block 0<| .loop<|Zr (Yw 29 28 27)<| .seq (.cond (.t 29) .skip (.exit 0))<| .seq (.block 1<|Zr (Zm 30 28<|Yz 31 26 28<|et 7 30 32)<|Zr (Ym 33 6 8<|lY 35 34<|dM 36 33 35<|Ye 6 36)<| .seq (Zr (YN 37 7 1)<| .cond (.t 40) (.rg (eG 41 6 1 7<|Yz 44 42 43<|lY 46 45<|dM 47 41 46<|Ye 6 47)) .skip)<|Zr (eG 48 5 7 6<|pQ 51 50 48 49)<| .rg (wU 53 6<|Ye 6 54))<| .rg (jZ 55 28))<| .seq (Zr (Zm 56 6<|Zo (.bin 57 .gtr false (.t 56) (.c (.int .u32 0))) .nil)<| .cond (.t 57) (.rg (Ym 58 5 6<|Zo (.conv 60 .u16 (.t 59))<|Yy 61 1 177 60 2 58<|Ye 5 62)) .skip)<|Zr (gU 63 5 4) .ret⟩
theorem ajN:Qd Tryz.prog f200=some asa:=by kernel_rfl
def asb:az:=⟨56,[.t 4,.t 5],Zr (fJ 4 0)<| .seq (Zr (fU 11 0 1 184<|Zk 14 .lss 13 0 .nil)<| .cond (.t 14) (Zr (fJ 4 2) .ret) .skip)<|Zr (YQ 15 0 180<|YQ 17 1 180<|et 0 16 18)<|Zr (YB 19 0<|rW 21 20 20<|Ye 6 21)<|Zr (Zo (.mv 7 (.c (.int .i32 0))) .nil)<| .seq (Zr (ke 22 0)<| .block 0<| .loop<|Zr (Yw 25 24 23)<| .seq (.cond (.t 25) .skip (.exit 0))<| .seq (.block 1<|Zr (Zm 26 24<|Yz 27 22 24<|et 8 26 28)<|Zr (Zm 29 9<|Zo (.conv 30 .i32 (.t 29))<|Zm 31 7<|Zb 32 .sub 30 31<|Ye 10 32)<| .seq (Zr (YN 33 8 1)<| .cond (.t 36) (.rg (eG 37 10 1 8<|Yz 40 38 39<|Zo (.conv 42 .i32 (.t 41))<|Zb 43 .sub 37 42<|Ye 10 43)) .skip)<|Zr (Zo (.mv 7 (.c (.int .i32 0))) .nil)<| .seq (Zr (Zm 44 10<|Zo (.bin 45 .lss false (.t 44) (.c (.int .i32 0))) .nil)<| .cond (.t 45) (Zr (Zm 46 10<|Zo (.bin 47 .add false (.t 46) (.c (.int .i32 65536)))<|Ye 10 47)<| .rg (Zo (.mv 7 (.c (.int .i32 1))) .nil)) .skip)<| .rg (eG 48 6 8 10<|pQ 51 50 48 49))<| .rg (jZ 53 24))<|Zr (YQ 54 6 180<|jd 4 55) .ret⟩
theorem ajO:Qd Tryz.prog f201=some asb:=by kernel_rfl
def are:az:=⟨79,[.t 4],Zr (YK 4)<|Zr (YQ 11 0 180<|YQ 13 1 180<|Zm 0 12<|Ye 1 14)<| .seq (Zr (YB 15 0<|Zk 17 .eql 16 0<|YP 18 17 1<|Zg 18 false (.len 20 (.t 19))<|Zg 18 false (.bin 21 .eql false (.t 20) (.c (Zz 0)))<|Yo 22 18 21 .nil)<| .cond (.t 22) (Zr (YK 4) .ret) .skip)<|Zr (YB 23 0<|YB 25 1<|dM 27 24 26<|rW 28 27 27<|Ye 5 28)<| .seq (Zr (ke 29 0)<| .block 0<| .loop<|Zr (Yw 32 31 30)<| .seq (.cond (.t 32) .skip (.exit 0))<| .seq (.block 1<|Zr (Zm 33 31<|Yz 34 29 31<|et 6 33 35)<|Zr (Zo (.mv 8 (.c (.int .u32 0))) .nil)<| .seq (Zr (ke 36 1)<| .block 2<| .loop<|Zr (Yw 39 38 37)<| .seq (.cond (.t 39) .skip (.exit 2))<| .seq (.block 3<|Zr (Zm 40 38<|Yz 41 36 38<|et 9 40 42)<|Zr (Ym 43 8 5<|Ym 45 6 9<|dM 47 45 46<|Yz 48 44 47<|lY 50 49<|Zm 51 7<|lY 52 51<|Zm 53 10<|lY 54 53<|Zb 55 .mul 52 54<|dM 56 50 55<|dM 57 43 56<|Ye 8 57)<|Zr (eG 58 5 6 9<|dM 61 59 60<|Zm 62 8<|pQ 63 62 58 61)<| .rg (wU 65 8<|Ye 8 66))<| .rg (jZ 67 38))<| .rg (Ym 68 5 6<|YB 70 1<|dM 72 69 71<|Zm 73 8<|pQ 74 73 68 72))<| .rg (jZ 76 31))<|Zr (YQ 77 5 180<|Ye 4 78) .ret⟩
theorem ajP:Qd Tryz.prog f148=some are:=by kernel_rfl
def ar6:az:=⟨43,[.t 4,.t 5],Zr (Yk 4<|Zo (.mv 5 (.c (.int .u16 0))) .nil)<|Zr (YB 9 0<|rW 11 10 10<|Zm 6 11 .nil)<|Zr (Zo (.mv 7 (.c (.int .u32 0))) .nil)<| .seq (Zr (YB 12 0<|Zk 14 .sub 13 1<|Zm 8 14 .nil)<| .block 0<| .loop<| .seq (Zr (Zm 15 8<|Zk 16 .geq 15 0 .nil)<| .cond (.t 16) .skip (.exit 0))<| .seq (.block 1<|Zr (Zm 19 7<|Zo (.bin 20 .shl false (.t 19) (.c (.int .u64 16)))<|j1 21 0 8<|lY 25 24<|Zb 26 .or 20 25<|Ye 7 26)<|Zr (Ym 27 6 8<|Ym 29 7 1<|lY 31 30<|Zb 32 .quo 29 31<|pQ 33 32 27 28)<| .rg (Ym 35 7 1<|lY 37 36<|Zb 38 .rem 35 37<|Ye 7 38))<| .rg (Zm 17 8<|Zk 18 .sub 17 1<|Zm 8 18 .nil))<|Zr (YQ 39 6 180<|Zm 41 7<|Zo (.conv 42 .u16 (.t 41))<|et 4 40 42) .ret⟩
theorem ajQ:Qd Tryz.prog f196=some ar6:=by kernel_rfl
def arP:az:=⟨71,[.t 4,.t 5,.t 6],Zr (Yk 4<|fJ 5 0)<|Zr (YQ 12 0 180<|YQ 14 1 180<|et 0 13 15)<| .seq (.block 0<|Zr (YB 17 1<|Yn 19 18 0 16)<| .cond (.t 16) (Zr (Yk 4<|fJ 5 3) .ret) (Zr (fU 21 0 1 184<|Zk 24 .lss 23 0<|Zm 20 24 .nil)<| .cond (.t 20) (Zr (YQ 25 0 176<|Yk 4<|jd 5 26) .ret) (Zr (YB 28 1<|Yn 30 29 1 27)<| .cond (.t 27) (Zr (Zm 32 0<|ir 33 1 0<|YZ 36 196 32 35 31<|et 7 37 38)<|Zr (Ym 39 7 8<|mG 41 40<|Yv 42 175 41<|Ym 4 39 42<|Yj 6 0) .ret) .skip)))<|Zr (Ym 43 1 1<|Zn 45 44<|Zk 46 .sub 45 1<|Yz 47 43 46<|Yv 49 197 48<|Ye 9 49)<|Zr (fU 50 0 9 198<|Zo (.bs 53 1 177 [.c (.int .u16 0),.c (.int .u16 0)])<|Zo (.app 54 1 2 177 (.t 52) (.t 53))<|YB 55 0<|Zk 57 .add 56 1<|Zo (.sl 58 1 (.t 54) none (some (.t 57)) none)<|Ye 10 58)<|Zr (fU 59 1 9 198<|Ye 11 61)<|Zr (fU 62 10 11 199<|Ye 4 64)<|Zr (Ym 65 4 10<|Yv 67 180 66<|Zm 68 9<|Zo (.un 69 .neg (.t 68))<|Yr 70 198 67 69<|Ym 4 65 70<|Yj 6 0) .ret⟩
theorem ajR:Qd Tryz.prog f179=some arP:=by kernel_rfl
def ase:az:=⟨31,[.t 6],Zr (bP 6)<|Zr (Zl 7 1 0<|Zo (.bin 8 .geq false (.t 7) (.c (.int .u64 65536)))<|Zm 9 8<|Zg 9 false (.ld 10 1 false (.t 0))<|Zg 9 false (.ld 11 1 false (.t 1))<|Zg 9 false (.ld 12 1 false (.t 2))<|Zg 9 false (.bin 13 .sub false (.t 12) (.c (Zz 2)))<|Zg 9 false (.idx 14 1 (.t 11) (.t 13))<|Zg 9 false (.ld 15 1 false (.t 14))<|Zg 9 false (.conv 16 .u64 (.t 15))<|Zg 9 false (.bin 17 .mul false (.t 10) (.t 16))<|Zg 9 false (.ld 18 1 false (.t 3))<|Zg 9 false (.bin 19 .shl false (.t 18) (.c (.int .u64 16)))<|Zg 9 false (.ld 20 1 false (.t 4))<|Zg 9 false (.ld 21 1 false (.t 5))<|Zg 9 false (.ld 22 1 false (.t 2))<|Zg 9 false (.bin 23 .add false (.t 21) (.t 22))<|Zg 9 false (.bin 24 .sub false (.t 23) (.c (Zz 2)))<|Zg 9 false (.idx 25 1 (.t 20) (.t 24))<|Zg 9 false (.ld 26 1 false (.t 25))<|Zg 9 false (.conv 27 .u64 (.t 26))<|Zg 9 false (.bin 28 .or false (.t 19) (.t 27))<|Zg 9 false (.bin 29 .gtr false (.t 17) (.t 28))<|Yo 30 9 29<|Ye 6 30) .ret⟩
theorem ajS:Qd Tryz.prog f204=some ase:=by kernel_rfl
def WX:az:=⟨54,[.t 6],Zr (bP 6)<|Zr (Zo (.mv 7 (.c (.int .u32 0))) .nil)<|Zr (Zo (.mv 8 (.c (.int .i32 0))) .nil)<| .seq (Zr (ke 11 0)<| .block 0<| .loop<|Zr (Yw 14 13 12)<| .seq (.cond (.t 14) .skip (.exit 0))<| .seq (.block 1<|Zr (Zm 15 13<|Zm 9 15 .nil)<| .seq (Zr (YN 16 9 1)<| .cond (.t 19) (.rg (Ym 20 7 2<|j1 22 1 9<|lY 26 25<|Zb 27 .mul 21 26<|dM 28 20 27<|Ye 7 28)) .skip)<|Zr (j1 29 0 9<|Zo (.conv 33 .i32 (.t 32))<|Zm 34 7<|Zo (.conv 35 .u16 (.t 34))<|Zo (.conv 36 .i32 (.t 35))<|Zb 37 .sub 33 36<|Zm 38 8<|Zb 39 .sub 37 38<|Ye 10 39)<|Zr (wU 40 7<|Ye 7 41)<|Zr (Zo (.mv 8 (.c (.int .i32 0))) .nil)<| .seq (Zr (Zm 42 10<|Zo (.bin 43 .lss false (.t 42) (.c (.int .i32 0))) .nil)<| .cond (.t 43) (Zr (Zm 44 10<|Zo (.bin 45 .add false (.t 44) (.c (.int .i32 65536)))<|Ye 10 45)<| .rg (Zo (.mv 8 (.c (.int .i32 1))) .nil)) .skip)<| .rg (eG 46 0 9 10<|pQ 49 48 46 47))<| .rg (jZ 51 13))<|Zr (Zm 52 8<|Zo (.bin 53 .gtr false (.t 52) (.c (.int .i32 0)))<|Ye 6 53) .ret⟩
theorem ajT:Qd Tryz.prog f205=some WX:=by kernel_rfl
def WY:az:=⟨37,[],Zr (Zo (.mv 4 (.c (.int .u32 0))) .nil)<|Zr (ke 6 0)<| .block 0<| .loop<|Zr (Yw 9 8 7)<| .seq (.cond (.t 9) .skip (.exit 0))<| .seq (.block 1<|Zr (Zm 10 8<|Zm 5 10 .nil)<|Zr (eG 11 4 0 5<|Yz 14 12 13<|lY 16 15<|dM 17 11 16<|Ye 4 17)<| .seq (Zr (YN 18 5 1)<| .cond (.t 21) (.rg (eG 22 4 1 5<|Yz 25 23 24<|lY 27 26<|dM 28 22 27<|Ye 4 28)) .skip)<|Zr (eG 29 0 5 4<|pQ 32 31 29 30)<| .rg (wU 34 4<|Ye 4 35))<| .rg (jZ 36 8)⟩
theorem ajU:Qd Tryz.prog f206=some WY:=by kernel_rfl
def arO:az:=⟨51,[.t 4],Zr (YK 4)<|Zr (YQ 12 0 176<|YQ 14 1 176<|et 0 13 15)<| .seq (.block 0<| .loop<| .seq (Zr (YB 16 1<|Zk 18 .gtr 17 0 .nil)<| .cond (.t 18) .skip (.exit 0))<| .block 1<|Zr (YQ 20 0 195<|Zm 19 21<|Yh 22 19<|et 5 22 23)<|Zr (YQ 25 1 195<|Zm 24 26<|Yh 27 24<|et 7 27 28)<| .seq (Zr (Zm 29 6<|j' 30 29 8<|Yp 32 30 31 .nil)<| .cond (.t 32) (.seq (.block 2<| .loop<| .seq (Zr (Zm 33 7<|Zo (.bin 34 .gtr false (.t 33) (.c (.int .u64 0))) .nil)<| .cond (.t 34) .skip (.exit 2))<| .block 3<| .rg (eG 35 7 5 7<|Zb 38 .rem 36 37<|Zm 5 35<|Ye 7 38))<|Zr (YQ 39 5 175<|Ye 4 40) .ret) .skip)<|Zr (Ym 42 0 1<|YZ 44 179 42 43 41<|Zo (.ext 47 (.t 41) 2)<|Ym 9 45 46<|Ye 11 47)<| .rg (Ym 48 1 10<|et 0 48 49))<|Zr (gU 50 0 4) .ret⟩
theorem ajV:Qd Tryz.prog f178=some arO:=by kernel_rfl
def WV:az:=⟨78,[.t 4],Zr (YK 4)<|Zr (YQ 11 0 180<|Zm 0 12 .nil)<| .seq (Zr (Zm 13 1<|Zk 14 .lss 13 (-1048576)<|YP 15 14 1<|Zg 15 false (.bin 17 .gtr false (.t 16) (.c (Zz 1048576)))<|Yo 18 15 17<|YP 19 18 0<|Zg 19 false (.len 21 (.t 20))<|Zg 19 false (.bin 22 .eql false (.t 21) (.c (Zz 0)))<|Yo 23 19 22 .nil)<| .cond (.t 23) (Zr (YK 4) .ret) .skip)<| .seq (Zr (Zm 24 1<|Zk 25 .lss 24 0 .nil)<| .cond (.t 25) (Zr (Ym 26 0 1<|Zo (.un 28 .neg (.t 27))<|Yr 29 203 26 28<|Ye 4 29) .ret) .skip)<|Zr (Zm 30 1<|Zk 31 .quo 30 16<|Zm 32 1<|Zk 33 .rem 32 16<|et 5 31 33)<|Zr (YB 34 0<|Zm 36 5<|dM 37 35 36<|Zk 38 .add 37 1<|YB 39 0<|Zm 41 5<|dM 42 40 41<|Zk 43 .add 42 3<|rW 44 38 43<|Ye 7 44)<| .seq (Zr (ke 45 0)<| .block 0<| .loop<|Zr (Yw 48 47 46)<| .seq (.cond (.t 48) .skip (.exit 0))<| .seq (.block 1<|Zr (Zm 49 47<|Yz 50 45 47<|et 8 49 51)<|Zr (Zm 52 9<|lY 53 52<|Zm 54 6<|Zb 55 .shl 53 54<|Ye 10 55)<|Zr (eG 56 7 8 5<|dM 59 57 58<|Yz 60 56 59<|Zm 62 10<|Zo (.conv 63 .u16 (.t 62))<|Zb 64 .or 61 63<|Zi 65 1 56 59<|Zs 1 65 64 .nil)<| .rg (eG 66 7 8 5<|dM 69 67 68<|Zk 70 .add 69 1<|wU 71 10<|pQ 73 72 66 70))<| .rg (jZ 75 47))<|Zr (YQ 76 7 180<|Ye 4 77) .ret⟩
theorem Mi:Qd Tryz.prog f198=some WV:=by kernel_rfl
def asd:az:=⟨63,[.t 4],Zr (YK 4)<|Zr (Zm 10 1<|Zk 11 .quo 10 16<|Zm 12 1<|Zk 13 .rem 12 16<|Zm 5 11<|Zm 6 13 .nil)<| .seq (Zr (Ym 14 5 0<|Zn 16 15<|Zb 17 .geq 14 16 .nil)<| .cond (.t 17) (Zr (YK 4) .ret) .skip)<|Zr (YB 18 0<|Zm 20 5<|Zb 21 .sub 19 20<|rW 22 21 21<|Ye 7 22)<| .seq (Zr (ke 23 7)<| .block 0<| .loop<|Zr (Yw 26 25 24)<| .seq (.cond (.t 26) .skip (.exit 0))<| .seq (.block 1<|Zr (gU 27 25 8)<|Zr (eG 28 0 8 5<|dM 31 29 30<|Yz 32 28 31<|lY 34 33<|Ye 9 34)<| .seq (Zr (Ym 35 8 5<|dM 37 35 36<|Zk 38 .add 37 1<|YB 39 0<|Yw 41 38 40)<| .cond (.t 41) (.rg (Ym 42 9 0<|Ym 44 8 5<|dM 46 44 45<|Zk 47 .add 46 1<|Yz 48 43 47<|lY 50 49<|Zo (.bin 51 .shl false (.t 50) (.c (.int .u64 16)))<|Zb 52 .or 42 51<|Ye 9 52)) .skip)<| .rg (Ym 53 7 8<|Ym 55 9 6<|Zb 57 .shr 55 56<|pQ 58 57 53 54))<| .rg (jZ 60 25))<|Zr (YQ 61 7 180<|Ye 4 62) .ret⟩
theorem ajW:Qd Tryz.prog f203=some asd:=by kernel_rfl
def ar7:az:=⟨6,[.t 2],Zr (Yj 2 0)<|Zr (YQ 3 0 182<|Zo (.bin 5 .sub false (.c (Zz 16)) (.t 4))<|Zm 2 5 .nil) .ret⟩
theorem ajX:Qd Tryz.prog f197=some ar7:=by kernel_rfl
def arb:az:=⟨24,[.t 2],Zr (YK 2)<|Zr (YB 4 0<|Zm 3 5 .nil)<| .seq (.block 0<| .loop<| .seq (Zr (YJ 6 3 1<|Zg 8 true (.ld 13 1 false (.t 12))<|Zg 8 true (.bin 14 .eql false (.t 13) (.c (Zz 0)))<|Yp 15 8 14 .nil)<| .cond (.t 15) .skip (.exit 0))<| .block 1<| .rg (Zm 16 3<|Zk 17 .sub 16 1<|Ye 3 17))<| .seq (Zr (Zm 18 3<|kN 19 18 0)<| .cond (.t 19) (Zr (YK 2) .ret) .skip)<|Zr (eG 20 0 3 3<|Zo (.sl 23 1 (.t 20) none (some (.t 21)) (some (.t 22)))<|Ye 2 23) .ret⟩
theorem ajo:Qd Tryz.prog f143=some arb:=by kernel_rfl
def aqK:az:=⟨7,[.t 2],Zr (Yj 2 0)<|Zr (YQ 3 0 143<|Zn 5 4<|Zk 6 .sub 5 1<|Zm 2 6 .nil) .ret⟩
theorem ajp:Qd Tryz.prog f116=some aqK:=by kernel_rfl
def aqM:az:=⟨23,[.cell 4 3 true],Zr (dP 2 57 0<|Yd 4 .nil)<|Zr (Zq 6 false 117 [.c (Zz 1)]<|Yd 5<|Zs 3 5 6 .nil)<| .seq (.block 0<| .loop<| .seq (Zr (Zm 7 1<|Zk 8 .gtr 7 0 .nil)<| .cond (.t 8) .skip (.exit 0))<| .seq (.block 1<| .seq (Zr (Zm 11 1<|Zk 12 .rem 11 2<|kN 13 12 1)<| .cond (.t 13) (.rg (YO 14 3 5 3 2<|ja 16 118 14 15 3 5)) .skip)<|Zr (Zm 17 1<|Zk 18 .gtr 17 1 .nil)<| .cond (.t 18) (.rg (YO 19 3 2 3 2<|ja 21 118 19 20 3 2)) .skip)<| .rg (Zm 9 1<|Zk 10 .quo 9 2<|Zm 1 10 .nil))<|Zr (Zh 22 3 5<|Zs 3 4 22 .nil) .ret⟩
theorem ajq:Qd Tryz.prog f119=some aqM:=by kernel_rfl
def c84:az:=⟨61,[.cell 4 3 true,.t 5],Zr (Yd 4<|Yj 5 0)<| .seq (Zr (ke 14 0)<| .block 0<| .loop<|Zr (Yw 17 16 15)<| .seq (.cond (.t 17) .skip (.exit 0))<| .seq (.block 1<|Zr (dW 18 4 14 16<|Zo (.alloc 7 4 171 (.agg [.bool false,.ab,.ab,.ab]))<|Zs 4 7 19 .nil)<|Zr (Yb 20 3 7<|Yv 22 116 21<|YB 23 1<|Zb 25 .geq 22 24 .nil)<| .cond (.t 25) (Zr (Zo (.dY 26 [.bool false,.ab,.ab] [])<|Zs 3 4 26<|Yj 5 2) .ret) .skip)<| .rg (YE 27 16 16))<|Zr (Zq 28 false 117 [.c (Zz 0)]<|Yd 8<|Zs 3 8 28 .nil)<| .seq (Zr (ke 29 0)<| .block 2<| .loop<|Zr (Yw 32 31 30)<| .seq (.cond (.t 32) .skip (.exit 2))<| .seq (.block 3<|Zr (dW 33 4 29 31<|Zo (.alloc 10 4 171 (.agg [.bool false,.ab,.ab,.ab]))<|Zs 4 10 34 .nil)<|Zr (YC 35 0 10 3<|Yd 11<|Zs 3 11 36 .nil)<| .seq (Zr (YI 37 3 10<|Yj 40 0)<| .block 4<| .loop<|Zr (Yw 41 40 39)<| .seq (.cond (.t 41) .skip (.exit 4))<| .seq (.block 5<|Zr (Zm 42 40<|Yz 43 38 40<|et 12 42 44)<|Zr (Zm 45 13<|Zk 46 .gtr 45 0 .nil)<| .cond (.t 46) (.rg (Zh 47 3 11<|Ym 48 1 12<|dW 50 3 48 49<|Zm 52 13<|jH 53 119 51 52 118 47 3 11)) .skip)<| .rg (jZ 55 40))<| .rg (YO 56 3 8 3 11<|ja 58 120 56 57 3 8))<| .rg (jZ 59 31))<|Zr (Zh 60 3 8<|Zs 3 4 60<|Yj 5 0) .ret⟩
theorem am0:Qd Tryz.prog f84=some c84:=by kernel_rfl
def aq5:az:=⟨18,[.t 2],Zr (Yj 2 0)<|Zr (Yj 3 0)<| .seq (Zr (Yj 4 0)<| .block 0<| .loop<| .seq (Zr (YN 5 4 0)<| .cond (.t 8) .skip (.exit 0))<| .seq (.block 1<| .rg (eG 11 3 0 4<|Yz 14 12 13<|dM 16 11 15<|Ye 3 16))<| .rg (kO 9 4 4))<|Zr (gU 17 3 2) .ret⟩
theorem ajr:Qd Tryz.prog f138=some aq5:=by kernel_rfl
def aq8:az:=⟨17,[.t 4],Zr (Yj 4 0)<| .seq (Zr (Zm 5 1<|Zk 6 .lss 5 0<|YP 7 6 1<|Zg 7 false (.mv 9 (.t 0))<|Zg 7 false (.len 10 (.t 9))<|Zg 7 false (.bin 11 .geq false (.t 8) (.t 10))<|Yo 12 7 11 .nil)<| .cond (.t 12) (Zr (Yj 4 0) .ret) .skip)<|Zr (j1 13 0 1<|Zm 4 16 .nil) .ret⟩
theorem ajs:Qd Tryz.prog f140=some aq8:=by kernel_rfl
def aq4:az:=⟨30,[.t 4],Zr (YK 4)<|Zr (YK 5)<| .seq (Zr (Yj 6 0)<| .block 0<| .loop<| .seq (Zr (DN 7 6 6<|Yo 16 11 15 .nil)<| .cond (.t 16) .skip (.exit 0))<| .seq (.block 1<| .rg (eG 19 5 0 6<|Yr 22 140 20 21<|fU 23 1 6 140<|dM 26 22 25<|Yy 27 1 3 26 8 19<|Ye 5 28))<| .rg (kO 17 6 6))<|Zr (gU 29 5 4) .ret⟩
theorem ajt:Qd Tryz.prog f137=some aq4:=by kernel_rfl
def aqG:az:=⟨48,[.t 6],Zr (Yj 6 0)<| .seq (Zr (Zm 8 2<|Zk 9 .eql 8 1<|j' 10 9 0<|yH 10 138<|Zg 10 true (.mv 13 (.t 1))<|Zg 10 true (.call (some 14) false (.c (.fn 138 [] [])) [.t 13])<|Zg 10 true (.bin 15 .neq false (.t 12) (.t 14))<|Yp 16 10 15 .nil)<| .cond (.t 16) (Zr (YQ 17 0 138<|YQ 19 1 138<|Zb 21 .sub 18 20<|Yv 22 139 21<|Ye 6 22) .ret) .skip)<| .seq (Zr (YB 23 0<|YB 25 1<|Zo (.mx 27 (.t 24) (.t 26))<|Zk 28 .sub 27 1<|Ye 7 28)<| .block 0<| .loop<| .seq (Zr (Zm 29 7<|Zk 30 .geq 29 0 .nil)<| .cond (.t 30) .skip (.exit 0))<| .seq (.block 1<|Zr (fU 33 0 7 140<|fU 36 1 7 140<|Zb 39 .neq 35 38 .nil)<| .cond (.t 39) (Zr (fU 40 0 7 140<|fU 43 1 7 140<|Zb 46 .sub 42 45<|Yv 47 139 46<|Ye 6 47) .ret) .skip)<| .rg (Zm 31 7<|Zk 32 .sub 31 1<|Ye 7 32))<|Zr (Yj 6 0) .ret⟩
theorem aju:Qd Tryz.prog f110=some aqG:=by kernel_rfl
def aq6:az:=⟨7,[.t 2],Zr (Yj 2 0)<| .seq (Zr (Zm 3 0<|Zk 4 .lss 3 0 .nil)<| .cond (.t 4) (Zr (Zc 2 (-1) .nil) .ret) .skip)<| .seq (Zr (Zm 5 0<|Zk 6 .gtr 5 0 .nil)<| .cond (.t 6) (Zr (Yj 2 1) .ret) .skip)<|Zr (Yj 2 0) .ret⟩
theorem ajv:Qd Tryz.prog f139=some aq6:=by kernel_rfl
def c78:az:=⟨92,[.t 4],Zr (YK 4)<|Zr (YK 5)<|Zr (Zc 6 0<|Yj 7 0)<| .seq (.block 0<| .loop<| .seq (Zr (DN 10 6 7<|Yo 19 14 18 .nil)<| .cond (.t 19) .skip (.exit 0))<| .block 1<|Zr (Yj 8 1)<| .seq (Zr (Ym 20 6 0<|Zn 22 21<|Zb 23 .eql 20 22 .nil)<| .cond (.t 23) (.rg (Zc 8 (-1) .nil)) (Zr (YN 24 7 1)<| .cond (.t 27) (.rg (l0 28 0 6 4<|Yb 31 3 30<|l0 33 1 7 4<|Yb 36 3 35<|Zq 38 false 110 [.t 32,.t 37,.c (Zz 0)]<|Ye 8 38)) .skip))<| .block 2<|Zr (Zm 68 8<|Zk 69 .gtr 68 0<|Zm 67 69 .nil)<| .cond (.t 67) (Zr (eG 70 5 0 6<|dW 73 4 71 72<|Zo (.bs 75 4 171 [.t 74])<|Zo (.app 76 4 80 171 (.t 70) (.t 75))<|Ye 5 76)<| .rg (YA 77 6)) (Zr (Zm 80 8<|Zk 81 .lss 80 0<|Zm 79 81 .nil)<| .cond (.t 79) (Zr (eG 82 5 1 7<|dW 85 4 83 84<|Yy 87 4 171 86 80 82<|Ye 5 88)<| .rg (YA 89 7)) (.seq (Zr (l0 39 0 6 4<|YC 42 0 41 3<|l0 44 1 7 4<|YC 47 0 46 3<| .br (Yf 49 111 43 48<|Yd 9<|Zs 3 9 49 .nil) (Yd 9<|YV 49 111 43 48 3 9))<|Zr (Zh 50 3 9<|Yv 51 90 50<|Zk 52 .neq 51 0 .nil)<| .cond (.t 52) (.rg (Zm 53 5<|Zh 54 3 9<|l0 55 0 6 4<|Yb 58 3 57<|Be 60 54 59 53 5)) .skip)<|Zr (YA 63 6)<| .rg (YA 65 7))))<|Zr (gU 91 5 4) .ret⟩
theorem am1:Qd Tryz.prog f78=some c78:=by kernel_rfl
def c51:az:=⟨5,[.t 2],Zr (j0 1 57<|YK 2)<|Zr (Zh 3 3 1<|Zq 4 false 92 [.c .ab,.t 3,.c .ab]<|Zm 2 4 .nil) .ret⟩
theorem am2:Qd Tryz.prog f51=some c51:=by kernel_rfl
def c89:az:=⟨68,[.cell 4 3 true,.t 5],Zr (Yd 4<|Yj 5 0)<|Zr (Zq 11 false 79 [.c (Zz 0)]<|Yd 6<|Zs 3 6 11 .nil)<| .seq (Zr (Yj 7 0)<| .block 0<| .loop<| .seq (Zr (YN 12 7 0)<| .cond (.t 15) .skip (.exit 0))<| .seq (.block 1<|Zr (l0 18 0 7 4<|YI 21 3 20<|YB 24 1<|Zb 26 .gtr 23 25 .nil)<| .cond (.t 26) (Zr (Zo (.dY 27 [.bool false,.ab,.ab] [])<|Zs 3 4 27<|Yj 5 2) .ret) .skip)<| .rg (kO 16 7 7))<| .seq (Zr (Yj 8 0)<| .block 2<| .loop<| .seq (Zr (YN 28 8 0)<| .cond (.t 31) .skip (.exit 2))<| .seq (.block 3<|Zr (l0 34 0 8 4<|YC 37 0 36 3<|Yd 9<|Zs 3 9 38 .nil)<| .seq (Zr (Yj 10 0)<| .block 4<| .loop<| .seq (Zr (eG 39 10 0 8<|Zi 42 4 40 41<|YI 43 3 42<|Yw 46 39 45)<| .cond (.t 46) .skip (.exit 4))<| .seq (.block 5<| .rg (Zh 49 3 9<|Ym 50 1 10<|dW 52 3 50 51<|l0 54 0 8 4<|eu 57 3 56 10<|Yz 60 58 59<|jH 62 127 53 61 114 49 3 9))<| .rg (YA 47 10))<| .rg (YO 64 3 6 3 9<|ja 66 111 64 65 3 6))<| .rg (YA 32 8))<|Zr (Zh 67 3 6<|Zs 3 4 67<|Yj 5 0) .ret⟩
theorem am3:Qd Tryz.prog f89=some c89:=by kernel_rfl
def c75:az:=⟨22,[.t 4],Zr (YK 4)<|Zr (YK 5)<| .seq (Zr (Yj 6 0)<| .block 0<| .loop<| .seq (Zr (YN 7 6 1)<| .cond (.t 10) .skip (.exit 0))<| .seq (.block 1<| .rg (Ym 13 5 0<|Ym 15 1 6<|dW 17 4 15 16<|Yr 19 109 14 18<|Yr 20 78 13 19<|Ye 5 20))<| .rg (kO 11 6 6))<|Zr (gU 21 5 4) .ret⟩
theorem am4:Qd Tryz.prog f75=some c75:=by kernel_rfl
def c91:az:=⟨6,[.t 2],Zr (YK 2)<|Zr (Zm 3 0<|Zq 4 false 79 [.c (Zz (-1))]<|Yr 5 81 3 4<|Zm 2 5 .nil) .ret⟩
theorem am5:Qd Tryz.prog f91=some c91:=by kernel_rfl
def c81:az:=⟨35,[.t 4],Zr (dX 3 57 1<|YK 4)<|Zr (YK 5)<| .seq (Zr (Yj 6 0)<| .block 0<| .loop<| .seq (Zr (Ym 7 6 0<|Zn 9 8<|Zb 10 .lss 7 9<|Zm 11 10<|Zg 11 true (.ld 12 3 true (.t 3))<|yH 11 90<|Zg 11 true (.bin 14 .neq false (.t 13) (.c (Zz 0)))<|Yp 15 11 14 .nil)<| .cond (.t 15) .skip (.exit 0))<| .seq (.block 1<| .rg (eG 18 5 0 6<|Zi 21 4 19 20<|YC 22 0 21 3<|Zh 24 3 3<|l0 26 0 6 4<|Yb 29 3 28<|Yf 25 114 23 24<|Be 31 25 30 18 5))<| .rg (kO 16 6 6))<|Zr (gU 34 5 4) .ret⟩
theorem am6:Qd Tryz.prog f81=some c81:=by kernel_rfl
def c50:az:=⟨9,[.t 4],Zr (YK 4)<|Zr (Ym 5 0 1<|Yv 7 91 6<|Yr 8 78 5 7<|Zm 4 8 .nil) .ret⟩
theorem am7:Qd Tryz.prog f50=some c50:=by kernel_rfl
def c92:az:=⟨88,[.t 6],Zr (YM 4 3 57 1<|YK 6)<|Zr (YB 10 0<|Zm 7 11 .nil)<| .seq (.block 0<| .loop<| .seq (Zr (YJ 12 7 4<|Zg 14 true (.bG 19 3 (.t 18))<|Zg 14 true (.ld 20 1 false (.t 19))<|Zg 14 true (.mv 21 (.t 2))<|Zg 14 true (.call (some 22) false (.c (.fn 110 [] [])) [.t 20,.t 21,.c (Zz 0)])<|Zg 14 true (.bin 23 .lss false (.t 22) (.c (Zz 0)))<|Yp 24 14 23 .nil)<| .cond (.t 24) .skip (.exit 0))<| .block 1<| .rg (Zm 25 7<|Zk 26 .sub 25 1<|Ye 7 26))<|Zr (YK 8)<| .seq (Zr (YJ 27 7 4<|Zg 29 true (.bG 34 3 (.t 33))<|Zg 29 true (.ld 35 1 false (.t 34))<|Zg 29 true (.mv 36 (.t 2))<|Zg 29 true (.call (some 37) false (.c (.fn 110 [] [])) [.t 35,.t 36,.c (Zz 0)])<|Zg 29 true (.bin 38 .eql false (.t 37) (.c (Zz 0)))<|Yp 39 29 38 .nil)<| .cond (.t 39) (Zr (eG 40 8 0 7<|Zk 43 .sub 42 1<|Zo (.sl 44 4 (.t 41) none (some (.t 43)) none)<|Zo (.app 45 4 80 171 (.t 40) (.t 44))<|Ye 8 45)<| .seq (Zr (Ym 46 0 7<|Zk 48 .sub 47 1<|Zi 49 4 46 48<|YC 50 0 49 3<|Zh 52 3 4<| .br (Yf 53 111 51 52<|Yd 9<|Zs 3 9 53 .nil) (Yd 9<|YV 53 111 51 52 3 9))<|Zr (Zh 54 3 9<|Yv 55 90 54<|Zk 56 .neq 55 0 .nil)<| .cond (.t 56) (.rg (Zm 57 8<|Zh 58 3 9<|Zm 59 2<|Be 60 58 59 57 8)) .skip)<|Zr (eG 63 8 0 7<|Zo (.sl 66 4 (.t 64) (some (.t 65)) none none)<|Zo (.app 67 4 80 171 (.t 63) (.t 66))<|Ye 6 67) .ret) .skip)<|Zr (eG 68 8 0 7<|Zo (.sl 71 4 (.t 69) none (some (.t 70)) none)<|Zo (.app 72 4 80 171 (.t 68) (.t 71))<|Ye 8 72)<| .seq (Zr (Zh 73 3 4<|Yv 74 90 73<|Zk 75 .neq 74 0 .nil)<| .cond (.t 75) (.rg (Zm 76 8<|Zh 77 3 4<|Yv 78 100 77<|Zm 79 2<|Zo (.dY 80 [.bool false,.ab,.ab,.ab] [(0,3,.t 78),(3,1,.t 79)])<|Yy 81 4 171 80 80 76<|Ye 8 82)) .skip)<|Zr (eG 83 8 0 7<|Zo (.sl 86 4 (.t 84) (some (.t 85)) none none)<|Zo (.app 87 4 80 171 (.t 83) (.t 86))<|Ye 6 87) .ret⟩
theorem am8:Qd Tryz.prog f92=some c92:=by kernel_rfl
def aqT:az:=⟨22,[.cell 4 3 true],Zr (dP 2 57 0<|Yd 4 .nil)<| .seq (Zr (Zm 6 1<|kN 7 6 0)<| .cond (.t 7) (Zr (Zq 8 false 79 [.c (Zz 1)]<|Zs 3 4 8 .nil) .ret) .skip)<|Zr (YO 9 3 2 3 2<|Yr 11 114 9 10<|Zm 12 1<|Zk 13 .quo 12 2<|Yr 14 127 11 13<|Yd 5<|Zs 3 5 14 .nil)<| .seq (Zr (Zm 15 1<|Zk 16 .rem 15 2<|kN 17 16 1)<| .cond (.t 17) (.rg (YO 18 3 5 3 2<|ja 20 114 18 19 3 5)) .skip)<|Zr (Zh 21 3 5<|Zs 3 4 21 .nil) .ret⟩
theorem ajw:Qd Tryz.prog f127=some aqT:=by kernel_rfl
def aqF:az:=⟨34,[.t 4],Zr (dP 3 171 1<|YK 4)<|Zr (YK 5)<| .seq (Zr (Yj 6 0)<| .block 0<| .loop<| .seq (Zr (YN 7 6 0)<| .cond (.t 10) .skip (.exit 0))<| .seq (.block 1<| .rg (eG 13 5 0 6<|Zi 16 4 14 15<|YC 17 0 16 3<|YC 19 0 3 3<|l0 22 0 6 4<|cV 25 3 24 3 3<|Yf 21 114 18 20<|Yf 29 137 26 28<|Be 30 21 29 13 5))<| .rg (kO 11 6 6))<|Zr (gU 33 5 4) .ret⟩
theorem ajx:Qd Tryz.prog f109=some aqF:=by kernel_rfl
def c76:az:=⟨19,[.t 2],Zr (YK 2)<| .seq (Zr (Zm 4 0<|Zk 5 .lss 4 0<|YP 6 5 0<|Zg 6 false (.bin 8 .geq false (.t 7) (.c (Zz 64)))<|Yo 9 6 8 .nil)<| .cond (.t 9) (Zr (YK 2) .ret) .skip)<|Zr (Zm 10 0<|Zk 11 .add 10 1<|Zo (.mk 12 1 8 3 (Zz 0) (.t 11) (.t 11))<|Zm 3 12 .nil)<|Zr (l0 13 3 0 1<|Zo (.st 1 (.t 15) (.c (Zz 1))) .nil)<|Zr (Zq 16 false 79 [.c (Zz 1)]<|Zm 17 3<|Zq 18 false 92 [.c .ab,.t 16,.t 17]<|Ye 2 18) .ret⟩
theorem am9:Qd Tryz.prog f76=some c76:=by kernel_rfl
end Go.Proofs.YtmkijkjaeljieaaGreat
namespace Go.FW
open Go
variable {C : Ctx} {ρ : Nat -> Option Nat} {fr aC : Fr} {hp hp' : HP} {w w' : World} {K R : Qg}
theorem ana{P:Program}{pr:Bool}(hP:C.P=P){g:FuncId}{args aU:List PV}{d:Option Nat}{G:Fr}{aA:HP}{bm:PV->Fr->HP->Prop}(h:Ax P g aU G aA bm)(gv:Nat->Option Nat)(τ:Nat->Nat)(hh:vf C hp aA gv)
  (FV:∀O γ,gv O=some γ->τ γ=O) (dk:args.map (dh τ)=aU) (qd:∀x∈args,∀γ∈x.refs++x.aV,∃O,gv O=some γ)
  (hG:∀s,1000000<=s->G s= .undef∨∃s',1000000<=s'/\G s=dh τ (fr s')/\∀γ∈(fr s').refs++(fr s').aV,∃O,gv O=some γ) (ej:aU.length<=1000000) (aB:pr=true->∀O,gn gv O=none)
  (hK:∀(ρ:Nat->Option Nat) (tmps:Array Value) (w:World),Qt C ρ fr hp tmps w->∀r F H,bm r F H->(∀n4 C2 v w',Qt C2 n4 (vd r F) H #[v] w'->(∀O,C2.fx O≠none->H O≠none->True)->True)->∃(eo:Nat->Option Nat) (σ:Nat->Nat) (gk:Fr) (cg:HP),
   (∀γ O,eo γ=some O->H O≠none/\σ O=γ/\bW γ=true/\((aQ O=true/\gn gv O=some γ)∨(aQ O=false/\aQ γ=false/\(hp γ=none∨∃bY,gn gv bY=some γ))))/\
   (∀O γ,gn gv O=some γ->aQ O=true->eo γ=some O)/\
   (∀γ O,eo γ=some O->cg γ=H O)/\(∀γ,eo γ=none->(∃O,gn gv O=some γ)->cg γ=none)/\(∀γ,eo γ=none->(¬∃O,gn gv O=some γ)->cg γ=hp γ)/\
   (∀s,gk s= .undef∨
    (d≠some s/\gk s=fr s/\(∀γ∈(fr s).refs++(fr s).aV,(¬∃O,gn gv O=some γ)∨∃O hb au,gn gv O=some γ/\aQ O=true/\hp γ=some hb/\H O=some au/\au.e=hb.e/\hb.xs.length<=au.xs.length)/\∀γ e ty xs,fr s= .aJ γ e ty xs->¬∃O,gn gv O=some γ)∨
    (d=some s/\gk s=dh σ r/\∀O∈r.refs++r.aV,eo (σ O)=some O)∨
    (∃s',1000000<=s'/\(∃γ e ty xs,F s'= .aJ γ e ty xs)/\gk s=dh σ (F s')/\∀O∈(F s').refs++(F s').aV,eo (σ O)=some O))/\
   K gk cg):gF C pr (.fn g [] []) args d fr hp K:=by
 subst hP;refine⟨h.1,fun ρ tmps w fv cv av sj hs h1 h2 h3 _ _ sE=>?_⟩;have e1:fv= #[]:=KbR (by simpa using h1);have e2:cv= #[]:=KbR (by simpa using h2);subst e1;subst e2;simp only[Array.empty_append,Array.append_empty];refine(h.2 (wR C ρ fr hp aA tmps w gv hs hh aU.length ej) _ av w rfl rfl rfl (Q73 hs hh FV h3 dk sE qd hG ej)).mono ?_;rintro e w' ⟨v,ρ',r,F,H,rfl,dF,iL⟩;obtain⟨eo,σ,gk,cg,a1,a2,a3,a4,a5,a6,a7⟩:=hK ρ tmps w hs r F H iL (fun _ _ _ _ _ _=>trivial);exact⟨v,gk,cg,rfl,ae7 hs hh dF sj a1 a2 a3 a4 a5 a6,fun hq=>ae8 hs hh dF (aB hq),a7⟩
def yq(r:PV):Prop:=(r.refs=[]/\r.aV=[])/\∀σ,dh σ r=r
theorem Sj{gv:Nat->Option Nat}(h:∀O γ,gv O=some γ->fH O=false):gn gv=gv:=by
 funext O;cases hr:fH O with
 |false=>exact AN hr
 |true=>
  unfold gn;rw[if_pos hr];cases hq:gv O with
  |none=>rfl
  |some γ=>have:=h O γ hq;rw[hr]at this;cases this
def qI(nm:Nat->Bool)(p:PV):PV:=if(p.refs++p.aV).any nm then .undef else p
def iZ(nm:Nat->Bool)(fr:Fr):Fr:=fun s=>qI nm (fr s)
def xc(nm ex:Nat->Bool)(H hp:HP):HP:=fun x=>if ex x then H x else if nm x then none else hp x
def Bp(S:List Nat)(F fr:Fr):Fr:=fun s=>if S.contains s then F s else fr s
theorem Tg(p:PV):dI id p=p:=Si fun _ _=>rfl
theorem Th{p:PV}(h:∀γ e ty xs,p≠ .aJ γ e ty xs):dh id p=p:=by
 have hm:∀l:List PV,l.map (dI id)=l:=fun l=>by
  conv=>rhs;rw[<-List.map_id l]
  exact KaX fun x _=>Tg x
 cases p with
 |aJ γ e ty xs=>exact absurd rfl (h _ _ _ _)
 |fn f a b=>simp only[dh,hm]
 |aP cs=>simp only[dh,hm]
 |fb cs=>simp only[dh,hm]
 |dx cs q=>simp only[dh,hm]
 |_=>rfl
def OJ(xs:List PV):Prop:=∀x∈xs,gw x.bg=x
theorem Rw{γ e ty:Nat}{xs:List PV}(h:OJ xs):dh id (.aJ γ e ty xs)= .aJ γ e ty xs:=by
 simp only[dh,id];congr 1;conv=>rhs;rw[<-List.map_id xs]
 refine KaX fun x hx=>?_;have:x.bg.map (dI id)=x.bg:=by
  conv=>rhs;rw[<-List.map_id x.bg]
  exact KaX fun y _=>Tg y
 rw[this];exact h x hx
theorem anb{P:Program}{pr:Bool}(hP:C.P=P){g:FuncId}{args aU:List PV}{d:Option Nat}{G:Fr}{cK:HP}{bm:PV->Fr->HP->Prop}(h:Ax P g aU G cK bm)(nm ex:Nat->Bool)(S:List Nat)
  (ia:∀x,nm x=true->∃hb,hp x=some hb/\hb.fz=false/\2000000<=x) (ZR:∀x,cK x=if nm x then hp x else none) (dk:args=aU) (ej:aU.length<=1000000)
  (bq:∀x∈args,∀γ e ty xs,x≠ .aJ γ e ty xs) (qd:∀γ∈args.flatMap (fun x=>x.refs++x.aV),nm γ=true)
  (hG:∀s,1000000<=s->G s= .undef∨∃γ e ty xs,G s=fr s/\fr s= .aJ γ e ty xs/\OJ xs/\∀γ∈(fr s).refs++(fr s).aV,nm γ=true)
  (hex:∀x,ex x=true->(hp x=none∨nm x=true)/\2000000<=x) (aB:pr=true->∀x,nm x=false)
  (hK:∀r F H,bm r F H->(∀x,ex x=true->H x≠none)/\(∀γ e ty xs,r≠ .aJ γ e ty xs)/\(∀O∈r.refs++r.aV,ex O=true)/\(∀s∈S,1000000<=s/\(∃γ e ty xs,F s= .aJ γ e ty xs/\OJ xs)/\∀O∈(F s).refs++(F s).aV,ex O=true)/\K (Bp S F (gS (iZ nm fr) d r)) (xc nm ex H hp)):
  gF C pr (.fn g [] []) args d fr hp K:=by
 obtain⟨gv,NC⟩:∃f:Nat->Option Nat,f=fun x=>if nm x then some x else none:=⟨_,rfl⟩
 have ga:∀O γ,gv O=some γ->O=γ/\nm γ=true:=fun O γ hq=>by
  rw[NC]at hq;simp only at hq;split at hq
  ·cases hq;rename_i e;exact⟨rfl,e⟩
  ·cases hq
 have gb:∀γ,nm γ=true->gv γ=some γ:=fun γ ah=>by rw[NC];simp[ah]
 have gN:∀γ,(∃O,gv O=some γ)->nm γ=true:=fun γ ⟨O,aj⟩=>(ga O γ aj).2;have gr:∀O γ,gv O=some γ->fH O=false:=fun O γ hq=>by obtain⟨rfl,hn⟩:=ga O γ hq;obtain⟨_,_,_,k3⟩:=ia O hn;simp[fH];omega
 refine ana hP h gv id ⟨fun O γ hq=>?_,fun O hq=>?_,fun O bY γ q1 q2=>?_⟩ (fun O γ hq=>(ga O γ hq).1.symm) ?_ (fun x hx γ ah=>⟨γ,gb γ (qd γ (Kaq.2 ⟨x,hx,ah⟩))⟩) (fun s hs=>?_) ej (fun hq O=>by rw[Sj gr,NC];simp only;rw[aB hq O];rfl) (fun ρ tmps w hs r F H iL _=>?_)
 ·obtain⟨rfl,hn⟩:=ga O γ hq;obtain⟨hb,k1,k2,k3⟩:=ia O hn;exact⟨hb,k1,by simp[bW];omega,(fun h=>by simp[fH]at h;omega),fun _=>⟨by rw[ZR,if_pos hn];exact k1,k2,by simp[bW];omega,fun _=>by simp[aQ];omega⟩⟩
 ·refine⟨O,gb O ?_⟩;cases hn:nm O with
  |true=>rfl
  |false=>rw[ZR,hn]at hq;simp at hq
 ·rw[(ga O γ q1).1,(ga bY γ q2).1]
 ·rw[<-dk];conv=>rhs;rw[<-List.map_id args]
  exact KaX fun x hx=>Th (bq x hx)
 ·rcases hG s hs with e|⟨γ,e,ty,xs,e1,e2,e3,e4⟩
  ·exact .inl e
  ·refine .inr ⟨s,hs,?_,fun γ ah=>⟨γ,gb γ (e4 γ ah)⟩⟩;rw[e1,e2,Rw e3]
 ·rw [Sj gr];obtain⟨a1,a2,a3,a4,a5⟩:=hK r F H iL;obtain⟨eo,xu⟩:∃f:Nat->Option Nat,f=fun x=>if ex x then some x else none:=⟨_,rfl⟩
  have ea:∀γ O,eo γ=some O->γ=O/\ex γ=true:=fun γ O hq=>by
   rw[xu]at hq;simp only at hq;split at hq
   ·cases hq;rename_i e;exact⟨rfl,e⟩
   ·cases hq
  have eb:∀γ,ex γ=true->eo γ=some γ:=fun γ ah=>by rw[xu];simp[ah]
  have en:∀γ,eo γ=none->ex γ=false:=fun γ ah=>by
   cases hq:ex γ with
   |false=>rfl
   |true=>rw[eb γ hq]at ah;cases ah
  refine⟨eo,id,Bp S F (gS (iZ nm fr) d r),xc nm ex H hp,fun γ O hq=>?_,fun O γ hq hy=>?_,fun γ O hq=>?_,fun γ hq hg=>?_,fun γ hq hg=>?_,fun s=>?_,a5⟩
  ·obtain⟨rfl,he⟩:=ea γ O hq;obtain⟨k1,k2⟩:=hex γ he;exact⟨a1 γ he,rfl,by simp[bW];omega,.inr ⟨by simp[aQ];omega,by simp[aQ];omega,k1.imp id fun hn=>⟨γ,gb γ hn⟩⟩⟩
  ·obtain⟨rfl,hn⟩:=ga O γ hq;obtain⟨_,_,_,k3⟩:=ia O hn;simp[aQ]at hy;omega
  ·obtain⟨rfl,he⟩:=ea γ O hq;simp[xc,he]
  ·simp[xc,en γ hq,gN γ hg]
  ·have:nm γ=false:=by
    cases hn:nm γ with
    |false=>rfl
    |true=>exact absurd ⟨γ,gb γ hn⟩ hg
   simp[xc,en γ hq,this]
  ·unfold Bp;by_cases hS:S.contains s=true
   ·rw[if_pos hS];obtain⟨b1,⟨γ,e,ty,xs,b2,b3⟩,b4⟩:=a4 s (by simpa using hS);refine .inr (.inr (.inr ⟨s,b1,⟨γ,e,ty,xs,b2⟩,?_,fun O aj=>eb O (b4 O aj)⟩));rw[b2,Rw b3]
   ·rw[if_neg hS];have old:d≠some s->iZ nm fr s= .undef∨(d≠some s/\iZ nm fr s=fr s/\(∀γ∈(fr s).refs++(fr s).aV,(¬∃O,gv O=some γ)∨∃O hb au,gv O=some γ/\aQ O=true/\hp γ=some hb/\H O=some au/\au.e=hb.e/\hb.xs.length<=au.xs.length)/\∀γ e ty xs,fr s= .aJ γ e ty xs->¬∃O,gv O=some γ):=fun hds=>by
     unfold iZ qI;split
     ·exact .inl rfl
     ·rename_i nR;have ZP:∀γ∈(fr s).refs++(fr s).aV,¬∃O,gv O=some γ:=fun γ ah hg=>nR (KaU.2 ⟨γ,ah,gN γ hg⟩);exact .inr ⟨hds,rfl,fun γ ah=>.inl (ZP γ ah),fun γ e ty xs e0=>ZP γ (by rw[e0];simp[PV.aV])⟩
    cases d with
    |none=>
     simp only[gS];rcases old (by simp)with h|h
     ·exact .inl h
     ·exact .inr (.inl h)
    | some d=>
     by_cases e:s=d
     ·subst e;refine .inr (.inr (.inl ⟨rfl,?_,fun O aj=>eb O (a3 O aj)⟩));rw[Th a2];simp[gS,ae]
     ·have e1:gS (iZ nm fr) (some d) r s=iZ nm fr s:=by simp[gS,ae,e]
      rw[e1];rcases old (by simp;exact fun h=>e h.symm)with h|h
      ·exact .inl h
      ·exact .inr (.inl h)
end Go.FW
namespace Go.FW
open Go
variable {C : Ctx} {ρ : Nat -> Option Nat} {fr aC : Fr} {hp : HP} {w : World} {K R : Qg}
theorem ahr{B:List Nat}{F:Fr}{O δ:Nat}(aj:B.contains O=true)(h2:O<1000000):sL O δ (eH B F)=eH B F:=ajF (.inl aj) (.inl h2)
theorem awK:
  (∀(σ:Nat->Nat)(k:IntKind)(n:Int),dh σ (.int k n)= .int k n)/\
  (∀(σ:Nat->Nat)(b:Bool),dh σ (.bool b)= .bool b)/\
  (∀(σ:Nat->Nat)(e:Nat)(xs:List PV),dh σ (.sl e xs)= .sl e xs)/\
  (∀(σ:Nat->Nat)(cs:List PV),dh σ (.agg cs)= .agg cs)/\
  (∀(σ:Nat->Nat)(cs:List PV),dh σ (.aK cs)= .aK cs)/\
  (∀(σ:Nat->Nat)(cs:List PV),dh σ (.pt cs)= .pt cs)/\
  (∀(σ:Nat->Nat),dh σ .ab= .ab)/\
  (∀(σ:Nat->Nat),dh σ .undef= .undef)/\
  (∀(σ:Nat->Nat)(O o n:Nat),dh σ (.ax O o n)= .ax (σ O) o n)/\
  (∀(σ:Nat->Nat)(O o n:Nat),dh σ (.mp O o n)= .mp (σ O) o n)/\
  (∀(σ:Nat->Nat)(O o n:Nat),dh σ (.aL O o n)= .aL (σ O) o n)/\
  (∀(σ:Nat->Nat)(O o n:Nat),dh σ (.np O o n)= .np (σ O) o n)/\
  (∀(σ:Nat->Nat)(cs:List PV),dh σ (.aP cs)= .aP (cs.map (dI σ))):=by
 refine⟨?_,?_,?_,?_,?_,?_,?_,?_,?_,?_,?_,?_,?_⟩<;>intros<;>rfl
theorem awJ:
  (∀(σ:Nat->Nat)(k:IntKind)(n:Int),dI σ (.int k n)= .int k n)/\
  (∀(σ:Nat->Nat)(b:Bool),dI σ (.bool b)= .bool b)/\
  (∀(σ:Nat->Nat)(e:Nat)(xs:List PV),dI σ (.sl e xs)= .sl e xs)/\
  (∀(σ:Nat->Nat),dI σ .ab= .ab)/\
  (∀(σ:Nat->Nat),dI σ .undef= .undef)/\
  (∀(σ:Nat->Nat)(O o n:Nat),dI σ (.ax O o n)= .ax (σ O) o n)/\
  (∀(σ:Nat->Nat)(O o n:Nat),dI σ (.aL O o n)= .aL (σ O) o n):=by
 refine⟨?_,?_,?_,?_,?_,?_,?_⟩<;>intros<;>rfl
theorem aph:
  (∀(γ:Nat)(k:IntKind)(n:Int),dV γ (.int k n)= .int k n)/\
  (∀(γ:Nat)(b:Bool),dV γ (.bool b)= .bool b)/\
  (∀(γ e:Nat)(xs:List PV),dV γ (.sl e xs)= .sl e xs)/\
  (∀(γ:Nat)(cs:List PV),dV γ (.agg cs)= .agg cs)/\
  (∀(γ:Nat)(cs:List PV),dV γ (.aK cs)= .aK cs)/\
  (∀(γ:Nat)(cs:List PV),dV γ (.pt cs)= .pt cs)/\
  (∀(γ:Nat),dV γ .ab= .ab)/\
  (∀(γ:Nat),dV γ .undef= .undef)/\
  (∀(γ O o n:Nat),dV γ (.ax O o n)=if O=γ then .aL γ o n else .ax O o n)/\
  (∀(γ O o n:Nat),dV γ (.mp O o n)=if O=γ then .np γ o n else .mp O o n)/\
  (∀(γ O o n:Nat),dV γ (.aL O o n)= .aL O o n)/\
  (∀(γ O o n:Nat),dV γ (.np O o n)= .np O o n):=by
 refine⟨?_,?_,?_,?_,?_,?_,?_,?_,?_,?_,?_,?_⟩<;>intros<;>rfl
theorem aj8{γ s:Nat}{x:PV}:Ba γ x fr s=if s=γ then x else dV γ (fr s):=rfl
theorem aj9{args:List PV}{G:Fr}{s:Nat}:wQ args G s=if s<1000000 then(args[s]?).getD .undef else G s:=rfl
theorem aka{nm:Nat->Bool}{s:Nat}:iZ nm fr s=qI nm (fr s):=rfl
theorem akb{nm:Nat->Bool}{p:PV}:qI nm p=if(p.refs++p.aV).any nm then .undef else p:=rfl
theorem anc{nm ex:Nat->Bool}{H:HP}{x:Nat}:xc nm ex H hp x=if ex x then H x else if nm x then none else hp x:=rfl
theorem amI{S:List Nat}{F:Fr}{s:Nat}:Bp S F fr s=if S.contains s then F s else fr s:=rfl
attribute [go_sem] ajC ajD amX amY amW ahr awK awJ aph aj8 aj9 aka akb anc amI
end Go.FW
namespace Go.FW
open Go
variable {C : Ctx} {ρ : Nat -> Option Nat} {fr aC : Fr} {hp : HP} {w : World} {K R : Qg}
theorem akc{σ:Nat->Nat}{p:PV}(h:p= .ab∨∃O n,p= .ms O n)(vS:∀O n,p= .ms O n->σ O=O):gw (p.bg.map (dI σ))=p:=by
 rcases h with rfl|⟨O,n,rfl⟩
 ·rfl
 ·have:=vS O n rfl;simp[PV.bg,PV.cells,dI,gw,this]
def iH(B n w:Nat)(π:Nat->Nat):List (Nat×Nat):=(List.range n).map fun r=>(B+π r,w)
theorem Pr{B n w r:Nat}{π:Nat->Nat}(h:r<(iH B n w π).length):(iH B n w π)[r]=(B+π r,w):=by simp[iH]
def ox{α:Type}(p:α->PV)(f:Nat->α)(w:Nat):List PV:=(List.range w).map fun c=>p (f c)
theorem KV{α:Type}(p:α->PV)(f:Nat->α)(w:Nat):(ox p f w).length=w:=by simp[ox]
theorem LR{α:Type}{p:α->PV}{f:Nat->α}{w c:Nat}(h:c<(ox p f w).length):(ox p f w)[c]=p (f c):=by simp[ox]
theorem api{by_ ty d:Nat}{k k':IntKind}{n c:Nat}(h2:n<=c)(h3:by_*c<=281474976710656)(h4:c<=9223372036854775807):
  o6 3 by_ ty (.agg [.bool false,.ab,.ab]) (.int k (n:Int)) (.int k' (c:Int)) d fr hp K=K (ae (bZ d fr) d (.ms d n)) (Qj hp d ⟨3,ty,List.replicate n (.agg [.bool false,.ab,.ab]),false⟩):=by
 rw[Iu (e:=3) (by omega) rfl (by omega) (by omega) (by omega) (by omega)];rfl
attribute [go_sem] api
end Go.FW
namespace Go.FW
open Go
variable {C : Ctx} {ρ : Nat -> Option Nat} {fr aC : Fr} {hp : HP} {w : World} {K R : Qg}
theorem G' {P : Program} {f : FuncId} {fn : Func} {sf : az} {args : List PV} {Rr : PV -> Prop} (hm : P.follows .mixedOrders = true) (hf : P.funcs[f]? = some fn) (qe : (fn.name != "runtime.NumGoroutine") = true) (hc : Qd P fn = some sf.strip) (hn : args.length <= sf.n /\ sf.n <= 1000000)
  (hv:∀C:Ctx,C.P=P->C.N=sf.n->vc C (vj (gG sf.rs Rr)) [.c sf.body] (iG args) aA):Qb P f args Rr:=by
 simp only[Qd,Kab,Kaa]at hc;obtain⟨c,hb,sb,jK,rs,dw,Fm⟩:=hc;obtain⟨n,OH,body⟩:=sf;simp only[az.strip,az.mk.injEq]at Fm;obtain⟨rfl,rfl,rfl⟩:=Fm;refine⟨by simp[lT,hf,hb];simpa using qe,fun w X aR hX fh gA=>?_⟩
 let C:Ctx:=Ctx.plain P fn.ntmps w X hX hn.2
 refine calls_of_wp hf hb ?_;have qW:(aR++Array.replicate (fn.ntmps-aR.size) undef).size=fn.ntmps:=by simp at hn ⊢;omega
 have qh:eE C (iG args) aA (aR++Array.replicate (fn.ntmps-aR.size) undef) w:=by
  refine⟨fun _=>none,qW,Ext.refl _ _,(fun _ _ h=>by cases h),by simp[aA],by simp[aA],fun i=>?_⟩;unfold iG;cases hi:args[i]? with
  |none=>trivial
  | some p=>
   simp only[Ka9];have fp:i<aR.size:=by rw[fh];exact(Kaf.1 hi).1
   have hr:=gA i p hi;have e:(aR++Array.replicate (fn.ntmps-aR.size) undef).getD i undef=aR.getD i undef:=by rw[lP,if_pos fp]
   rw[e];refine Qk.mZ (hr.mono (fun _ _ _=>rfl) (fun b _ hn hx=>?_) (Kae _));rcases hx with hx|⟨_,_,h1,_⟩
   ·exact hn hx
   ·simp[aA]at h1
 have fin:∀(fr:Fr)(hp:HP)(a:Act)(w':World),a.defers=[]->eE C fr hp a.tmps w'->vj (gG rs Rr) fr hp->
   a.defers=[]/\∃v,(results fn a.tmps).run P w'= .ok v w'/\∃v' r,Ending.returned v= .returned v'/\Ext Q5 w w'/\eX w' X r v'/\Rr r:=by
  rintro fr hp a w' hd ub ⟨nF,cK,hw,hr⟩;obtain⟨ρ,hs⟩:=hw C _ _ ub;obtain⟨v,r,h1,h2,h3⟩:=VU (C:=C) rfl dw hs hr;exact⟨hd,v,h1,v,r,rfl,Ctx.OE hs.ext,h2,h3⟩
 exact KS (C:=C) (R:=vj (gG rs Rr)) hm c body [] _ (iG args) aA _ w jK ⟨fun fr hp a w' hd hs hv=>(by rw[wB]at hv;exact fin fr hp a w' hd hs hv),fun id fc he=>(by simp[FW.cD]at he),fin⟩ rfl qh (hv C rfl rfl)
theorem pk {P : Program} {f : FuncId} {fn : Func} {sf : az} {args : List PV} {Rr : PV -> Prop} (hm : P.follows .mixedOrders = true) (hf : P.funcs[f]? = some fn) (qe : (fn.name != "runtime.NumGoroutine") = true) (hc : Qd P fn = some sf.strip) (hn : args.length <= sf.n /\ sf.n <= 1000000)
  (hv:∀C:Ctx,C.P=P->vc C (vj (gG sf.rs Rr)) [.c sf.body] (iG args) aA):Qb P f args Rr:=
 G' hm hf qe hc hn fun C h _=>hv C h
theorem akd{ty w i d:Nat}{fz:Bool}{f:Nat->Rat}(h:i<w):jm (some ⟨3,ty,ox PV.rat f w,fz⟩) 3 true i 0 d fr hp K=K (ae fr d (PV.rat (f i))) hp:=by rw[od (by rw[KV];exact h) (by omega) (by simp),LR];rfl
theorem amJ:(yq (.aK [])=True)/\(∀(k:IntKind)(n:Int),yq (.int k n)=True)/\(∀b:Bool,yq (.bool b)=True)/\(∀(e:Nat)(xs:List PV),yq (.sl e xs)=True)/\(∀cs:List PV,yq (.agg cs)=True)/\(∀cs:List PV,yq (.aK cs)=True):=by refine⟨?_,?_,?_,?_,?_,?_⟩<;>intros<;>simp[yq,PV.refs,PV.aV,dh,dI]
attribute [go_sem] amJ akd
end Go.FW
namespace Go.FW
open Go
def cy(φ:List Int->Rat):List Tm->Rat
 | []=>0
 |t::p=>t.1*φ t.2+cy φ p
theorem lR(φ:List Int->Rat):cy φ []=0:=rfl
theorem fP(φ:List Int->Rat)(t:Tm)(p:List Tm):cy φ (t::p)=t.1*φ t.2+cy φ p:=rfl
theorem Vm(φ:List Int->Rat):∀(p q:List Tm),cy φ (p++q)=cy φ p+cy φ q
 | [],q=>by rw[Kau,lR];grind
 |t::p,q=>by rw[Kaw,fP,fP,Vm φ p q];grind
theorem wg{φ ψ:List Int->Rat}:∀ {p:List Tm},(∀t∈p,φ t.2=ψ t.2)->cy φ p=cy ψ p
 | [],_=>rfl
 |t::p,h=>by rw[fP,fP,h t (by simp),wg (p:=p) (fun x hx=>h x (by simp[hx]))]
theorem Rx(φ ψ:List Int->Rat):∀(p:List Tm),cy (fun m=>φ m+ψ m) p=cy φ p+cy ψ p
 | []=>by simp only[lR];grind
 |t::p=>by simp only[fP];rw[Rx φ ψ p];grind
theorem LS(c:Rat)(φ:List Int->Rat):∀(p:List Tm),cy (fun m=>c*φ m) p=c*cy φ p
 | []=>by simp only[lR];grind
 |t::p=>by simp only[fP];rw[LS c φ p];grind
theorem PX:∀(p:List Tm),cy (fun _=>0) p=0
 | []=>rfl
 |t::p=>by simp only[fP];rw[PX p];grind
theorem Ho(ψ:List Int->List Int->Rat)(q:List Tm):∀(p:List Tm),cy (fun m=>cy (fun n=>ψ m n) q) p=cy (fun n=>cy (fun m=>ψ m n) p) q
 | []=>by simp only[lR];rw[PX]
 |t::p=>by simp only[fP];rw[Ho ψ q p,Rx (fun n=>t.1*ψ t.2 n),LS]
def Can(p:List Tm):Prop:=∀t∈p,t.2.getLast? ≠some 0
def NZ(p:List Tm):Prop:=∀t∈p,t.1≠0
structure bN(p:List Tm):Prop where
 c:Can p
 z:NZ p
 s:jQ p
theorem Can.cons{t:Tm}{p:List Tm}:Can (t::p)↔t.2.getLast? ≠some 0/\Can p:=by simp[Can]
theorem NZ.cons{t:Tm}{p:List Tm}:NZ (t::p)↔t.1≠0/\NZ p:=by simp[NZ]
theorem bN.nil:bN []:=⟨by simp[Can],by simp[NZ],trivial⟩
theorem bN.tail{t:Tm}{p:List Tm}(h:bN (t::p)):bN p:=⟨(Can.cons.1 h.c).2,(NZ.cons.1 h.z).2,h.s.2⟩
theorem bN.one{t:Tm}(h:t.1≠0)(hm:t.2.getLast? ≠some 0):bN [t]:=⟨by simpa[Can]using hm,by simpa[NZ]using h,⟨by simp,trivial⟩⟩
theorem O7.vT{p:List Tm}(h:O7 p):bN p:=⟨fun t ht=>Q38 (h.t t ht).m,fun t ht=>(h.t t ht).c,h.s⟩
theorem CY{φ:List Int->Rat}:∀ {p q:List Tm},Can p->Can q->cy φ (Qu p q)=cy φ p+cy φ q:=by
 intro p q;induction p,q using Qu.induct with
 |case1 q=>rw[Qu,lR];intros;grind
 |case2 p h=>rw[nf,lR];intros;grind
 |case3 c m p d l q h ih=>intro hp hq;rw[Qu,if_pos h,fP,fP,ih (Can.cons.1 hp).2 hq];grind
 |case4 c m p d l q h1 h2 ih=>intro hp hq;rw[Qu,if_neg h1,if_pos h2,fP,ih hp (Can.cons.1 hq).2,fP φ (d,l)];grind
 |case5 c m p d l q h1 h2 h3 ih=>
  intro hp hq;have e:=Lf h1 h2 (Can.cons.1 hp).1 (Can.cons.1 hq).1;rw[Qu,if_neg h1,if_neg h2,if_pos h3,ih (Can.cons.1 hp).2 (Can.cons.1 hq).2,fP,fP];subst e;have:c*φ m+d*φ m=0:=by rw[<-Rat.add_mul,h3];grind
  grind
 |case6 c m p d l q h1 h2 h3 ih=>intro hp hq;have e:=Lf h1 h2 (Can.cons.1 hp).1 (Can.cons.1 hq).1;rw[Qu,if_neg h1,if_neg h2,if_neg h3,fP,ih (Can.cons.1 hp).2 (Can.cons.1 hq).2,fP,fP];subst e;grind
theorem Am:∀ {p q:List Tm} {t:Tm},t∈Qu p q->(∃s∈p,s.2=t.2)∨(∃s∈q,s.2=t.2):=by
 intro p q;induction p,q using Qu.induct with
 |case1 q=>rw[Qu];intro t ht;exact Or.inr ⟨t,ht,rfl⟩
 |case2 p h=>rw[nf];intro t ht;exact Or.inl ⟨t,ht,rfl⟩
 | case3 c m p d l q h ih=>
  intro t ht;rw[Qu,if_pos h]at ht;rcases KaH.1 ht with rfl|ht
  ·exact Or.inl ⟨_,by simp,rfl⟩
  ·rcases ih ht with⟨s,h1,h2⟩|h1
   ·exact Or.inl ⟨s,by simp[h1],h2⟩
   ·exact Or.inr h1
 | case4 c m p d l q h1 h2 ih=>
  intro t ht;rw[Qu,if_neg h1,if_pos h2]at ht;rcases KaH.1 ht with rfl|ht
  ·exact Or.inr ⟨_,by simp,rfl⟩
  ·rcases ih ht with h3|⟨s,h3,h4⟩
   ·exact Or.inl h3
   ·exact Or.inr ⟨s,by simp[h3],h4⟩
 |case5 c m p d l q h1 h2 h3 ih=>
  intro t ht;rw[Qu,if_neg h1,if_neg h2,if_pos h3]at ht;rcases ih ht with⟨s,h4,h5⟩|⟨s,h4,h5⟩
  ·exact Or.inl ⟨s,by simp[h4],h5⟩
  ·exact Or.inr ⟨s,by simp[h4],h5⟩
 | case6 c m p d l q h1 h2 h3 ih=>
  intro t ht;rw[Qu,if_neg h1,if_neg h2,if_neg h3]at ht;rcases KaH.1 ht with rfl|ht
  ·exact Or.inl ⟨(c,m),by simp,rfl⟩
  ·rcases ih ht with⟨s,h4,h5⟩|⟨s,h4,h5⟩
   ·exact Or.inl ⟨s,by simp[h4],h5⟩
   ·exact Or.inr ⟨s,by simp[h4],h5⟩
theorem PY{p q:List Tm}(hp:Can p)(hq:Can q):Can (Qu p q):=fun t ht=>by
 rcases Am ht with⟨s,h1,h2⟩|⟨s,h1,h2⟩
 ·rw[<-h2];exact hp s h1
 ·rw[<-h2];exact hq s h1
theorem ake:∀ {p q:List Tm},NZ p->NZ q->NZ (Qu p q):=by
 intro p q;induction p,q using Qu.induct with
 |case1 q=>rw[Qu];exact fun _ h=>h
 |case2 p h=>rw[nf];exact fun h _=>h
 |case3 c m p d l q h ih=>intro hp hq;rw[Qu,if_pos h,NZ.cons];exact⟨(NZ.cons.1 hp).1,ih (NZ.cons.1 hp).2 hq⟩
 |case4 c m p d l q h1 h2 ih=>intro hp hq;rw[Qu,if_neg h1,if_pos h2,NZ.cons];exact⟨(NZ.cons.1 hq).1,ih hp (NZ.cons.1 hq).2⟩
 |case5 c m p d l q h1 h2 h3 ih=>intro hp hq;rw[Qu,if_neg h1,if_neg h2,if_pos h3];exact ih (NZ.cons.1 hp).2 (NZ.cons.1 hq).2
 |case6 c m p d l q h1 h2 h3 ih=>intro hp hq;rw[Qu,if_neg h1,if_neg h2,if_neg h3,NZ.cons];exact⟨h3,ih (NZ.cons.1 hp).2 (NZ.cons.1 hq).2⟩
theorem Q74{a b c:List Int}(h:cz a b=0)(h2:0<cz b c):0<cz a c:=by
 have e:∀i,eN a i=eN b i:=by
  intro i;have:=(Hh a b _).1 h;by_cases hi:i<max a.length b.length
  ·exact this i hi
  ·rw[pB (by omega),pB (by omega)]
 rw[Q7u e (fun _=>rfl)];exact h2
theorem Q39:∀ {p q:List Tm},jQ p->jQ q->jQ (Qu p q):=by
 intro p q;induction p,q using Qu.induct with
 |case1 q=>rw[Qu];exact fun _ h=>h
 |case2 p h=>rw[nf];exact fun h _=>h
 | case3 c m p d l q h ih=>
  intro hp hq;rw[Qu,if_pos h];refine⟨fun t ht=>?_,ih hp.2 hq⟩;rcases Am ht with⟨s,h1,h2⟩|⟨s,h1,h2⟩
  ·rw[<-h2];exact hp.1 s h1
  ·rw[<-h2];rcases KaH.1 h1 with rfl|h1
   ·exact h
   ·exact Cm h (hq.1 s h1)
 | case4 c m p d l q h1 h2 ih=>
  intro hp hq;rw[Qu,if_neg h1,if_pos h2];have gK:0<cz l m:=by have:=Al m l;omega
  refine⟨fun t ht=>?_,ih hp hq.2⟩;rcases Am ht with⟨s,h3,h4⟩|⟨s,h3,h4⟩
  ·rw[<-h4];rcases KaH.1 h3 with rfl|h3
   ·exact gK
   ·exact Cm gK (hp.1 s h3)
  ·rw[<-h4];exact hq.1 s h3
 |case5 c m p d l q h1 h2 h3 ih=>intro hp hq;rw[Qu,if_neg h1,if_neg h2,if_pos h3];exact ih hp.2 hq.2
 |case6 c m p d l q h1 h2 h3 ih=>
  intro hp hq;rw[Qu,if_neg h1,if_neg h2,if_neg h3];refine⟨fun t ht=>?_,ih hp.2 hq.2⟩;rcases Am ht with⟨s,h4,h5⟩|⟨s,h4,h5⟩
  ·rw[<-h5];exact hp.1 s h4
  ·rw[<-h5];exact Q74 (b:=l) (by show cz m l=0;omega) (hq.1 s h4)
theorem An{p q:List Tm}(hp:bN p)(hq:bN q):bN (Qu p q):=⟨PY hp.c hq.c,ake hp.z hq.z,Q39 hp.s hq.s⟩
def ind(m:List Int):List Int->Rat:=fun n=>if n=m then 1 else 0
theorem Cs{m:List Int}:∀ {p:List Tm},(∀t∈p,t.2≠m)->cy (ind m) p=0
 | [],_=>rfl
 |t::p,h=>by rw[fP,Cs (p:=p) (fun x hx=>h x (by simp[hx])),ind,if_neg (h t (by simp))];grind
theorem AO{a b:List Int}(h:0<cz a b):b≠a:=by rintro rfl;rw[Wm]at h;omega
theorem xW{t:Tm}{p:List Tm}(h:jQ (t::p)):cy (ind t.2) (t::p)=t.1:=by rw[fP,Cs (fun s hs=>AO (h.1 s hs)),ind,if_pos rfl];grind
theorem Dg:∀ {p q:List Tm},bN p->bN q->(∀φ,cy φ p=cy φ q)->p=q
 | [],[],_,_,_=>rfl
 | [],t::q,_,hq,h=>by have:=h (ind t.2);rw[xW hq.s,lR]at this;exact absurd this.symm (hq.z t (by simp))
 |t::p,[],hp,_,h=>by have:=h (ind t.2);rw[xW hp.s,lR]at this;exact absurd this (hp.z t (by simp))
 | s ::p,t::q,hp,hq,h=>by
  by_cases h1:0<cz s.2 t.2
  ·have:=h (ind s.2);rw[xW hp.s,Cs (fun x hx=>?_)]at this
   ·exact absurd this (hp.z s (by simp))
   ·rcases KaH.1 hx with rfl|hx
    ·exact AO h1
    ·exact AO (Cm h1 (hq.s.1 x hx))
  ·by_cases h2:cz s.2 t.2<0
   ·have gK:0<cz t.2 s.2:=by have:=Al s.2 t.2;omega
    have:=h (ind t.2);rw[xW hq.s,Cs (fun x hx=>?_)]at this
    ·exact absurd this.symm (hq.z t (by simp))
    ·rcases KaH.1 hx with rfl|hx
     ·exact AO gK
     ·exact AO (Cm gK (hp.s.1 x hx))
   ·have e:=Lf h1 h2 (hp.c s (by simp)) (hq.c t (by simp));have e2:=h (ind s.2);rw[xW hp.s,e,xW hq.s]at e2;have e3:s=t:=Prod.ext e2 e;subst e3;rw[Dg hp.tail hq.tail (fun φ=>by have:=h φ;rw[fP,fP]at this;grind)]
theorem ae9{φ:List Int->Rat}:∀(n:Nat)(l:List (List Tm)),l.length<=n->(∀p∈l,Can p)->Can (dA l)/\cy φ (dA l)=(l.map (cy φ)).sum:=by
 intro n;induction n with
 |zero=>intro l hl _;have:l=[]:=Kas.1 (by omega);subst this;rw[dA];exact⟨bN.nil.c,rfl⟩
 | succ n ih=>
  intro l hl h
  match l,h with
  | [],_=>rw[dA];exact⟨bN.nil.c,rfl⟩
  | [p],h=>rw[dA];exact⟨h p (by simp),by simp;grind⟩
  |p::q::r,h=>
   rw[Hi (by simp)];generalize hL:p::q::r=L at *
   have hlen:2<=L.length:=by rw[<-hL];simp
   obtain⟨a1,a2⟩:=ih (L.take (L.length/2)) (by rw[KaB];omega) (fun x hx=>h x (Kbi hx));obtain⟨b1,b2⟩:=ih (L.drop (L.length/2)) (by rw[KbK];omega) (fun x hx=>h x (KbP hx));refine⟨PY a1 b1,?_⟩;rw[CY a1 b1,a2,b2,<-List.sum_append,<-List.map_append,Kbk]
theorem ahs:∀(n:Nat)(l:List (List Tm)),l.length<=n->(∀p∈l,bN p)->bN (dA l):=by
 intro n;induction n with
 |zero=>intro l hl _;have:l=[]:=Kas.1 (by omega);subst this;rw[dA];exact bN.nil
 | succ n ih=>
  intro l hl h
  match l,h with
  | [],_=>rw[dA];exact bN.nil
  | [p],h=>rw[dA];exact h p (by simp)
  | p::q::r,h=>
   rw[Hi (by simp)];generalize hL:p::q::r=L at *
   have hlen:2<=L.length:=by rw[<-hL];simp
   exact An (ih (L.take (L.length/2)) (by rw[KaB];omega) (fun x hx=>h x (Kbi hx)))
    (ih (L.drop (L.length/2)) (by rw[KbK];omega) (fun x hx=>h x (KbP hx)))
theorem Ha(φ:List Int->Rat)(t:Tm):∀(p:List Tm),cy φ (cH p t)=t.1*cy (fun m=>φ (ek m t.2)) p
 | []=>by rw[cH,KcB,lR,lR];grind
 | s::p=>by
  have ih:=Ha φ t p;rw[cH]at ih⊢;rw[Kck];by_cases h:s.1*t.1=0
  ·simp only[h,if_true,fP];rw[ih];have:t.1*(s.1*φ (ek s.2 t.2))=(s.1*t.1)*φ (ek s.2 t.2):=by grind
   rw[Rat.mul_add,this,h];grind
  ·simp only[h,if_false,fP];rw[ih];grind
theorem K6(p:List Tm)(t:Tm):Can (cH p t):=by
 intro x hx;simp only[cH,Kca]at hx;obtain⟨y,hy,h⟩:=hx;split at h
 ·cases h
 ·cases h;exact CK _ _
theorem afa(p:List Tm)(t:Tm):NZ (cH p t):=by
 intro x hx;simp only[cH,Kca]at hx;obtain⟨y,hy,h⟩:=hx;split at h
 ·cases h
 ·rename_i h0;cases h;exact h0
theorem TN(t:Tm):∀(p:List Tm),jQ p->jQ (cH p t)
 | [],_=>trivial
 | s ::p,hp=>by
  have ih:=TN t p hp.2;rw[cH]at ih⊢;rw[Kck];split
  ·exact ih
  ·rename_i b hb;split at hb
   ·cases hb
   ·cases hb;refine⟨fun x hx=>?_,ih⟩;simp only[Kca]at hx;obtain⟨y,hy,h⟩:=hx;split at h
    ·cases h
    ·cases h;simp only[ahf];exact hp.1 y hy
theorem K7{p:List Tm}(t:Tm)(hp:jQ p):bN (cH p t):=⟨K6 _ _,afa _ _,TN t p hp⟩
theorem UM(φ:List Int->Rat)(q:List Tm):∀(p:List Tm),((p.map (cH q)).map (cy φ)).sum=cy (fun m=>cy (fun n=>φ (ek m n)) q) p
 | []=>rfl
 |t::p=>by rw[Kbn,Kbn,List.sum_cons,UM φ q p,Ha,fP];congr 2;exact wg fun s _=>by rw[CL]
theorem VN(φ:List Int->Rat)(p q:List Tm):cy φ (tt p q)=cy (fun m=>cy (fun n=>φ (ek m n)) q) p:=by rw[tt,(ae9 (φ:=φ) _ _ (Kae _) ?_).2,UM];intro x hx;obtain⟨t,_,rfl⟩:=KaA.1 hx;exact K6 _ _
theorem Hp(φ:List Int->Rat)(p q:List Tm):cy φ (cB p q)=cy (fun m=>cy (fun n=>φ (ek m n)) q) p:=by
 unfold cB;split
 ·rw[VN,Ho (fun m n=>φ (ek m n))];exact wg fun s _=>wg fun t _=>by rw[CL]
 ·exact VN φ p q
theorem VO{p q:List Tm}(hq:jQ q):bN (tt p q):=ahs _ _ (Kae _) fun x hx=>by obtain⟨t,_,rfl⟩:=KaA.1 hx;exact K7 t hq
theorem CZ{p q:List Tm}(hp:jQ p)(hq:jQ q):bN (cB p q):=by
 unfold cB;split
 ·exact VO hp
 ·exact VO hq
theorem Cz(φ:List Int->Rat){p:List Tm}(hp:Can p)(a:Rat):cy φ (kB p a)=a*cy φ p:=by
 unfold kB;split
 ·rename_i h;rw[h,lR];grind
 ·rw[Ha];congr 1;exact wg fun s hs=>by rw[LQ (hp s hs)]
theorem s5{p:List Tm}(hp:jQ p)(a:Rat):bN (kB p a):=by
 unfold kB;split
 ·exact bN.nil
 ·exact K7 _ hp
theorem aht(φ:List Int->Rat){p:List Tm}(hp:Can p):cy φ (wP p)= -cy φ p:=by rw[wP,Cz φ hp];grind
theorem LU(φ:List Int->Rat){p q:List Tm}(hp:Can p)(hq:bN q):cy φ (bF p q)=cy φ p-cy φ q:=by rw[bF,CY hp (show Can (wP q)from(s5 hq.s _).c),aht φ hq.c];grind
theorem PZ{p q:List Tm}(hp:bN p)(hq:bN q):bN (bF p q):=An hp (s5 hq.s _)
theorem afb{p q:List Tm}(hp:bN p)(hq:bN q):cB p q=cB q p:=
 Dg (CZ hp.s hq.s) (CZ hq.s hp.s) fun φ=>by rw[Hp,Hp,Ho (fun m n=>φ (ek m n))];exact wg fun s _=>wg fun t _=>by rw[CL]
theorem xT(a:Rat):bN (dz a):=by
 unfold dz;split
 ·exact bN.nil
 ·rename_i h;exact bN.one h (by simp)
theorem K8(φ:List Int->Rat)(a:Rat):cy φ (dz a)=a*φ []:=by
 unfold dz;split
 ·rename_i h;rw[h,lR];grind
 ·rw[fP,lR];grind
def qC(p q:List Tm):List Tm:=q.foldl (fun out t=>Qu out (cH p t)) []
theorem VP(p:List Tm)(hp:bN p):∀(q out:List Tm),bN out->bN (q.foldl (fun out t=>Qu out (cH p t)) out)/\
  ∀φ,cy φ (q.foldl (fun out t=>Qu out (cH p t)) out)=cy φ out+cy (fun m=>cy (fun n=>φ (ek n m)) p) q
 | [],out,h=>⟨h,fun φ=>by rw[List.foldl_nil,lR];grind⟩
 |t::q,out,h=>by obtain⟨h1,h2⟩:=VP p hp q (Qu out (cH p t)) (An h (K7 t hp.s));refine⟨h1,fun φ=>?_⟩;rw[List.foldl_cons,h2,CY h.c (K6 _ _),Ha,fP];grind
theorem ahu{p q:List Tm}(hp:bN p)(hq:bN q):qC p q=cB p q:=by obtain⟨h1,h2⟩:=VP p hp q [] bN.nil;refine Dg h1 (CZ hp.s hq.s) fun φ=>?_;rw[qC,h2,Hp,lR,Ho (fun m n=>φ (ek m n))];grind
variable {C : Ctx} {fr : Fr} {hp : HP} {w : World} {K R : Qg}
theorem wA{len e O j o d i:Nat}{k:IntKind}(h:i<len):mD len e (.mp O j o) (.int k (i:Int)) d fr hp K=K (ae fr d (.mp O j (o+i*e))) hp:=by simp only[mD,Kbs];exact propext ⟨fun h=>h.2.2,fun h'=>⟨by omega,by omega,h'⟩⟩
theorem Q4a{e by_ ty d:Nat}(h0:0<e):jz e by_ ty .ab (.sl e []) d fr hp K=K (ae (bZ d fr) d (.ms d 0)) (Qj hp d ⟨e,ty,[],false⟩):=by have:=Lc (fr:=fr) (hp:=hp) (K:=K) (e:=e) (by_:=by_) (ty:=ty) (d:=d) (x:=.sl e []) (ys:=[]) rfl h0 (by simp) (by simp);simpa using this
end Go.FW
namespace Go.FW
open Go
theorem Mj{m:List Int}{c:Rat}:∀ {u v:List Tm},(∀t∈u,0<cz t.2 m)->(∀t∈v,cz t.2 m<0)->Qu (u++v) [(c,m)]=u++(c,m)::v
 | [],[],_,_=>by rw[Kau,wu];rfl
 | [],t::v,_,hv=>by have h1:=hv t (by simp);rw[Kau,CM,if_neg (by show ¬0<cz t.2 m;omega),if_pos (by exact h1),nf];rfl
 |t::u,v,hu,hv=>by rw[Kaw,CM,if_pos (by exact hu t (by simp)),Mj (fun s hs=>hu s (by simp[hs])) hv];rfl
theorem Ry{m:List Int}{c d:Rat}:∀ {u v:List Tm},(∀t∈u,0<cz t.2 m)->Qu (u++(d,m)::v) [(c,m)]=u++(if d+c=0 then []else [(d+c,m)])++v
 | [],v,_=>by have h0:=Wm m;rw[Kau,CM,if_neg (by show ¬0<cz m m;omega),if_neg (by show ¬cz m m<0;omega)];show(if d+c=0 then Qu v []else(d+c,m)::Qu v [])=_;rw[nf];split<;>rfl
 |t::u,v,hu=>by rw[Kaw,CM,if_pos (by exact hu t (by simp)),Ry (fun s hs=>hu s (by simp[hs]))];simp
def rL(p:List Tm)(c:Rat)(m:List Int):List Tm:=Qu p (if c=0 then []else [(c,m)])
theorem Q2d{p:List Tm}(hs:jQ p):∀ {i:Nat} (h:i<p.length),∀t∈p.take i,0<cz t.2 p[i].2:=by
 induction p with
 |nil=>intro i h;simp at h
 | cons s p ih=>
  intro i h t ht;cases i with
  |zero=>simp at ht
  |succ i=>
   simp only[List.take_succ_cons,KaH]at ht;have hi:i<p.length:=by simpa using h
   show 0<cz t.2 p[i].2;rcases ht with rfl|ht
   ·exact hs.1 _ (Kag hi)
   ·exact ih hs.2 hi t ht
def cQ(a:Rat):Nat->Rat
 |0=>1
 |n+1=>cQ a n*a
theorem Lu(a:Rat):cQ a 0=1:=rfl
theorem ahv(a:Rat):cQ a 1=a:=by show 1*a=a;grind
theorem ahw(a:Rat)(m:Nat):∀n,cQ a (m+n)=cQ a m*cQ a n
 |0=>by rw[KaP,Lu];grind
 |n+1=>by
  rw[<-Nat.add_assoc];show cQ a (m+n)*a=cQ a m*(cQ a n*a)
  rw[ahw a m n];grind
theorem Mk(a:Rat):∀k,cQ (a*a) k=cQ a (2*k)
 |0=>rfl
 |k+1=>by show cQ (a*a) k*(a*a)=_;rw[Mk a k,show 2*(k+1)=2*k+1+1 by omega];show _=cQ a (2*k)*a*a;grind
theorem TD{a:Rat}{n:Nat}(h:n%2=0):cQ (a*a) (n/2)=cQ a n:=by rw[Mk];congr 1;omega
theorem TO{a:Rat}{n:Nat}(h:n%2=1):cQ (a*a) (n/2)*a=cQ a n:=by rw[Mk,show n=2*(n/2)+1 by omega,show 2*((2*(n/2)+1)/2)=2*(n/2)by omega];rfl
theorem Dh(a:Rat):∀n,rs (cQ a n)<=1+rs a*n
 |0=>by have:=vh;show rs 1<=_;omega
 |n+1=>by have:=Dh a n;have:=fw (cQ a n) a;rw[Ka0];show rs (cQ a n*a)<=_;omega
def fS(vs:List Rat)(m:List Int):Nat->Rat
 |0=>1
 |n+1=>fS vs m n*cQ (vs.getD n 0) (eN m n).toNat
def qn(vs:List Rat)(m:List Int):Rat:=fS vs m m.length
def eC(vs:List Rat)(p:List Tm):Rat:=cy (qn vs) p
def iI(vs:List Rat)(p:List Tm):Bool:=p.any fun t=>decide (vs.length<t.2.length)
abbrev PV.cX(vs:List Rat):PV:=.sl 3 (vs.map PV.rat)
def vn(vs:List Rat)(p:List Tm):PV:=if iI vs p=true then .aK [PV.rr false [] [],.int .i64 2]else .aK [PV.rat (eC vs p),.int .i64 0]
theorem K9{vs:List Rat}{p:List Tm}{i:Nat}(h:i<p.length):eC vs (p.take (i+1))=eC vs (p.take i)+p[i].1*qn vs p[i].2:=by rw[Kar h,eC,Vm,fP,lR,eC];grind
theorem H2{vs:List Rat}{m:List Int}{E W:Nat}(hm:MB E m)(hv:∀v∈vs,rs v<=W)(hW:1<=W)(c:Rat):∀n,rs (c*fS vs m n)<=rs c+n*(1+W*E)
 |0=>by
  have:c*fS vs m 0=c:=by show c*1=c;grind
  rw[this];omega
 | n+1=>by
  have h1:=H2 hm hv hW c n;have h2:=Dh (vs.getD n 0) (eN m n).toNat;have h3:rs (vs.getD n 0)<=W:=by
   by_cases h:n<vs.length
   ·rw[Kac,Kad h];exact hv _ (Kag h)
   ·rw[Kac,Kb8 (by omega)];have:=aa4;show rs 0<=W;omega
  have h4:(eN m n).toNat<=E:=by have:=(hm.eN n).2;omega
  have h5:rs (vs.getD n 0)*(eN m n).toNat<=W*E:=KbU h3 h4;have h6:=fw (c*fS vs m n) (cQ (vs.getD n 0) (eN m n).toNat);have e:c*fS vs m (n+1)=(c*fS vs m n)*cQ (vs.getD n 0) (eN m n).toNat:=by show c*(fS vs m n*_)=_;grind
  rw[e,KaM];omega
theorem HD{vs:List Rat}{p:List Tm}{K E W:Nat}(hp:PB K E p)(hv:∀v∈vs,rs v<=W)(hW:1<=W):∀i,i<=p.length->rs (eC vs (p.take i))<=1+i*(K+64*(1+W*E))
 |0,_=>by have:=aa4;show rs 0<=_;omega
 |i+1,h=>by have h1:=HD hp hv hW i (by omega);have ht:=hp.get (i:=i) (by omega);have h2:=H2 (vs:=vs) ht.m hv hW p[i].1 p[i].2.length;have h3:=pw (eC vs (p.take i)) (p[i].1*qn vs p[i].2);have h4:p[i].2.length*(1+W*E)<=64*(1+W*E):=Kam _ ht.m.len;have h5:=ht.c;rw[K9 (by omega),KaM];have h6:rs (p[i].1*qn vs p[i].2)<=rs p[i].1+p[i].2.length*(1+W*E):=h2;omega
theorem Q75{B B':List Nat}{F:Fr}(h:(B'.all B.contains)=true):Q7 B' (Q7 B F)=Q7 B F:=by
 funext s;rw[Lq B'];split
 ·rename_i h1;rw[Lq B]at h1⊢;split
  ·rfl
  ·rename_i h2;rw[if_neg h2]at h1;exfalso;apply h2;rw[KaU]at h1⊢;obtain⟨x,hx,hb⟩:=h1;rw[Kav]at h;exact⟨x,hx,h x (List.contains_iff_mem.1 hb)⟩
 ·rfl
theorem Q76{W:List (Nat×Nat)}{B:List Nat}{J F:Fr}:Q7 B (bu W J F)=bu W (Q7 B J) (Q7 B F):=by funext s;unfold Q7 bu;split<;>rfl
theorem Ul{V W:List (Nat×Nat)}{B B':List Nat}{X Z F:Fr}(h:Gy V W=true)(hB:(B'.all B.contains)=true):bu V X (Q7 B' (bu W Z (Q7 B F)))=bu W (bu V X (Q7 B' Z)) (Q7 B F):=by rw[Q76,Q75 hB,uJ h]
section
variable {C : Ctx} {fr : Fr} {hp : HP} {w : World} {K R : Qg}
end
def Kv(m:List Int)(v:Nat):List Int:=tr (m.set v 0)
def DI(p:List Tm)(v:Nat)(n:Int):List Tm:=p.filterMap fun t=>if eN t.2 v=n then some (t.1,Kv t.2 v)else none
theorem afc{p:List Tm}{v:Nat}{n:Int}{t:Tm}(h:t∈DI p v n):∃s∈p,eN s.2 v=n/\t=(s.1,Kv s.2 v):=by
 simp only[DI,Kca]at h;obtain⟨s,h1,h2⟩:=h;split at h2
 ·rename_i h3;cases h2;exact⟨s,h1,h3,rfl⟩
 ·cases h2
end Go.FW
namespace Go.FW
open Go
variable {C : Ctx} {ρ : Nat -> Option Nat} {fr aC : Fr} {hp : HP} {w : World} {K R : Qg}
def BX(p:PV)(γ n:Nat)(ag:Bool)(i o d:Nat)(fr:Fr)(hp:HP)(K:Qg):Prop:=match p with
 |.aJ bj e _ xs=>bj=γ/\∃h:i<xs.length,o+n<=e/\(ag=false->n=1)/\K (ae fr d (ue ag n o (xs[i]'h))) hp
 |_=>False
theorem amK{γ n i o d:Nat}{ag:Bool}:iQ n ag (.np γ i o) d fr hp K=BX (fr γ) γ n ag i o d fr hp K:=by simp only[iQ,BX];cases fr γ<;>rfl
def B5(p:PV)(h:Option HB)(v:Option (List PV))(γ n i o:Nat)(fr:Fr)(hp:HP)(K:Qg):Prop:=match p with
 |.aJ bj e ty xs=>bj=γ/\(∃hb,h=some hb/\hb.fz=false)/\∃h:i<xs.length,o+n<=e/\match v with
   |some cs=>cs.length=n/\K (ae (jv γ fr) γ (.aJ γ e ty (xs.set i (gw (rS (xs[i]'h).bg o cs))))) hp
   |none=>False
 |_=>False
theorem amL{γ n i o:Nat}{v:PV}:o8 n (.np γ i o) v fr hp K=B5 (fr γ) (hp γ) (fO v) γ n i o fr hp K:=by simp only[o8,B5];cases fr γ<;>rfl
theorem apj{γ e ty n o d:Nat}{ag:Bool}{x:PV}(h1:o+n<=e)(h2:ag=true∨n=1):BX (.aJ γ e ty [x]) γ n ag 0 o d fr hp K=K (ae fr d (ue ag n o x)) hp:=by have:(ag=false->n=1):=fun h=>h2.resolve_left (by simp[h]);simp[BX,h1];exact fun _=>this
theorem apk{γ e ty n o e0 OL:Nat}{x:PV}{OZ cs:List PV}(h1:o+n<=e)(h2:cs.length=n):B5 (.aJ γ e ty [x]) (some ⟨e0,OL,OZ,false⟩) (some cs) γ n 0 o fr hp K=K (ae (jv γ fr) γ (.aJ γ e ty [gw (rS x.bg o cs)])) hp:=by simp[B5,h1,h2]
theorem apl{γ ty B n w r d:Nat}{π:Nat->Nat}(h:r<n):BX (.aJ γ 1 ty (lj (iH B n w π))) γ 1 false r 0 d fr hp K=K (ae fr d (.ms (B+π r) w)) hp:=by
 have hl:r<(lj (iH B n w π)).length:=by simpa[lj,iH]using h
 simp only[BX,hl,exists_true_left,true_and,Kae,Ka1,implies_true];simp[ue,lj,iH,PV.bg,PV.cells]
theorem apm{γ ty B n w r m e0 OL:Nat}{π:Nat->Nat}{OZ:List PV}(h:r<n):B5 (.aJ γ 1 ty (lj (iH B n w π))) (some ⟨e0,OL,OZ,false⟩) (some [.ms (B+m) w]) γ 1 r 0 fr hp K=K (ae (jv γ fr) γ (.aJ γ 1 ty (lj (iH B n w fun x=>if x=r then m else π x)))) hp:=by
 have hl:r<(lj (iH B n w π)).length:=by simpa[lj,iH]using h
 have e:(iH B n w π).set r (B+m,w)=iH B n w fun x=>if x=r then m else π x:=by
  refine List.ext_getElem (by simp[iH]) fun j h1 h2=>?_;rw[List.getElem_set,Pr,Pr];split
  ·rename_i e;subst e;simp
  ·rename_i e;rw[if_neg fun e2=>e e2.symm]
 rw[<-e];simp only[B5,hl,exists_true_left,true_and,Kae,Ka1,KaD,exists_eq_left',Kaz,KaR];simp[gw,rS,lj,PV.bg,PV.cells,List.map_set]
theorem awQ:
  (∀(γ o n:Nat),fO (.aL γ o n)=some [.aL γ o n])/\
  (∀(k:IntKind)(n:Int),fO (.int k n)=some [.int k n])/\
  (∀(b:Bool),fO (.bool b)=some [.bool b])/\
  (fO .ab=some [.ab])/\
  (∀(e:Nat)(xs:List PV),fO (.sl e xs)=some [.sl e xs])/\
  (∀(cs:List PV),fO (.pt cs)=some [.pt cs])/\
  (∀(cs:List PV),fO (.agg cs)=some cs):=by
 refine⟨?_,?_,?_,?_,?_,?_,?_⟩<;>intros<;>rfl
theorem amM{O o n:Nat}(h:1000000<=O):fO (.ax O o n)=some [.ax O o n]:=by simp[fO,bW,h]
theorem akf{cs:List PV}:fO (.aP cs)=if cs.all PV.iz then some cs else none:=rfl
theorem apn:(∀(k:IntKind)(n:Int),(PV.int k n).iz=true)/\(∀b:Bool,(PV.bool b).iz=true)/\(PV.ab.iz=true)/\(∀(e:Nat)(xs:List PV),(PV.sl e xs).iz=true)/\(∀(O o n:Nat),(PV.ax O o n).iz=true)/\(∀(O o n:Nat),(PV.aL O o n).iz=true)/\(∀cs:List PV,(PV.pt cs).iz=true)/\(PV.undef.iz=false):=by refine⟨?_,?_,?_,?_,?_,?_,?_,?_⟩<;>intros<;>rfl
theorem apo:(∀(k:IntKind)(n:Int),(PV.int k n).ql=false)/\(∀b:Bool,(PV.bool b).ql=false)/\(PV.ab.ql=false)/\(∀(e:Nat)(xs:List PV),(PV.sl e xs).ql=false)/\(∀(O o n:Nat),(PV.ax O o n).ql=true)/\(∀(O o n:Nat),(PV.aL O o n).ql=true)/\(∀cs:List PV,(PV.pt cs).ql=false)/\(PV.undef.ql=true):=by refine⟨?_,?_,?_,?_,?_,?_,?_,?_⟩<;>intros<;>rfl
theorem afd{cs:List PV}(h:cs.any PV.ql=true):pz cs= .aP cs:=by simp[pz,h]
theorem afe{cs:List PV}(h:cs.any PV.ql=false):pz cs= .agg cs:=by simp[pz,h]
theorem amN{a b:PV}{cs:List PV}:gw (a::b::cs)=pz (a::b::cs):=rfl
theorem amO{a:PV}:gw [a]=a:=rfl
theorem apq{n o:Nat}{x:PV}:ue true n o x=pz ((x.bg.drop o).take n):=rfl
theorem apr{n o:Nat}{x:PV}:ue false n o x=(x.bg.drop o).headD .undef:=rfl
theorem akg{l cs:List PV}{o:Nat}:rS l o cs=l.take o++cs++l.drop (o+cs.length):=rfl
theorem Q78{cs:List PV}:(PV.aP cs).bg=cs:=rfl
theorem Q79{cs:List PV}:(PV.agg cs).bg=cs:=rfl
theorem aps{z:List PV}{ps:List (Nat×Nat×PV)}{d:Nat}(h:ps.any (fun p=>p.2.2.mh)=true):lW z ps d fr hp K=(wv z.length ps/\K (ae fr d (.aP (iD z (ps.map fun p=>(p.1,(fO p.2.2).getD []))))) hp):=by simp only[lW,if_pos h]
theorem Q4b{len:Nat}:wv len []=True:=by simp[wv]
theorem Q2e{len o n:Nat}{v:PV}{ps:List (Nat×Nat×PV)}:wv len ((o,n,v)::ps)=((∃cs,fO v=some cs/\cs.length=n/\o+n<=len)/\wv len ps):=by simp[wv]
theorem amP:(∀(γ o n:Nat),(PV.aL γ o n).mh=true)/\(∀(cs:List PV),(PV.aP cs).mh=true)/\(∀(O o n:Nat),(PV.ax O o n).mh=decide (2000000<=O))/\(∀(cs:List PV),(PV.agg cs).mh=false)/\(∀(k:IntKind)(n:Int),(PV.int k n).mh=false)/\(∀b:Bool,(PV.bool b).mh=false)/\(PV.ab.mh=false)/\(∀(e:Nat)(xs:List PV),(PV.sl e xs).mh=false):=by refine⟨?_,?_,?_,?_,?_,?_,?_,?_⟩<;>intros<;>rfl
theorem akh:(∀(O:Nat)(k:IntKind)(n:Int),iV O (.int k n)= .int k n)/\(∀(O:Nat)(b:Bool),iV O (.bool b)= .bool b)/\(∀O:Nat,iV O .ab= .ab)/\(∀(O e:Nat)(xs:List PV),iV O (.sl e xs)= .sl e xs)/\(∀(O γ o n:Nat),iV O (.ax γ o n)=if γ=O then .undef else .ax γ o n)/\(∀(O γ o n:Nat),iV O (.aL γ o n)=if γ=O then .undef else .aL γ o n):=by refine⟨?_,?_,?_,?_,?_,?_⟩<;>intros<;>rfl
theorem aki{O γ e ty:Nat}{x:PV}(h:γ≠O):dC O (.aJ γ e ty [x])= .aJ γ e ty [gw (x.bg.map (iV O))]:=by simp[dC,h]
theorem akj{O γ ty B n w:Nat}{π:Nat->Nat}(h:γ≠O)(h2:O<B):dC O (.aJ γ 1 ty (lj (iH B n w π)))= .aJ γ 1 ty (lj (iH B n w π)):=by
 simp only[dC,if_neg h];congr 1;conv=>rhs;rw[<-List.map_id (lj (iH B n w π))]
 refine KaX fun x hx=>?_;obtain⟨y,hy,rfl⟩:=KaA.1 hx;obtain⟨r,hr,rfl⟩:=KaA.1 hy;simp only[PV.bg,PV.cells,Kbn,KbG,iV,gw];rw[if_neg (by omega)];rfl
theorem aww{O δ γ ty B n w:Nat}{π:Nat->Nat}(aj:O<1000000)(hB:2000000<=B)(ah:2000000<=γ):dh (qo O δ) (.aJ γ 1 ty (lj (iH B n w π)))= .aJ γ 1 ty (lj (iH B n w π)):=by
 have e1:qo O δ γ=γ:=by unfold qo;rw[if_neg (by omega)]
 simp only[dh,e1];congr 1;conv=>rhs;rw[<-List.map_id (lj (iH B n w π))]
 refine KaX fun x hx=>?_;obtain⟨y,hy,rfl⟩:=KaA.1 hx;obtain⟨r,hr,rfl⟩:=KaA.1 hy;refine akc (.inr ⟨_,_,rfl⟩) fun bY n' h=>?_;cases h;unfold qo;rw[if_neg (by omega)]
theorem aoS{δ γ ty B n w:Nat}{π:Nat->Nat}(h:γ≠δ)(oX:δ<B):dV δ (.aJ γ 1 ty (lj (iH B n w π)))= .aJ γ 1 ty (lj (iH B n w π)):=by
 simp only[dV,if_neg h];congr 1;conv=>rhs;rw[<-List.map_id (lj (iH B n w π))]
 refine KaX fun x hx=>?_;obtain⟨y,hy,rfl⟩:=KaA.1 hx;obtain⟨r,hr,rfl⟩:=KaA.1 hy;simp only[PV.bg,PV.cells,Kbn,KbG,fF,gw];rw[if_neg (by omega)];rfl
theorem aeO{O:Nat}{cs:List PV}:bU O (.aP cs)= .aP cs:=rfl
theorem ahx{γ:Nat}{cs:List PV}:dV γ (.aP cs)= .aP (cs.map (fF γ)):=rfl
theorem aeP{O:Nat}{cs:List PV}:dC O (.aP cs)= .aP (cs.map (iV O)):=rfl
theorem aoT:(∀(γ:Nat)(k:IntKind)(n:Int),fF γ (.int k n)= .int k n)/\(∀(γ:Nat)(b:Bool),fF γ (.bool b)= .bool b)/\(∀γ:Nat,fF γ .ab= .ab)/\(∀(γ e:Nat)(xs:List PV),fF γ (.sl e xs)= .sl e xs)/\(∀(γ O o n:Nat),fF γ (.ax O o n)=if O=γ then .aL γ o n else .ax O o n)/\(∀(γ O o n:Nat),fF γ (.aL O o n)= .aL O o n):=by refine⟨?_,?_,?_,?_,?_,?_⟩<;>intros<;>rfl
theorem amQ{γ i o off d:Nat}:tD off (.np γ i o) d fr hp K=K (ae fr d (.np γ i (o+off))) hp:=rfl
theorem aeQ{γ bj e ty:Nat}{xs:List PV}:jT γ (.aJ bj e ty xs)=if bj=γ then .undef else .aJ bj e ty xs:=rfl
theorem aeR{γ:Nat}{cs:List PV}:jT γ (.aP cs)= .aP cs:=rfl
attribute [go_sem] amQ aeQ aeR false_and List.all_cons List.all_nil aeO ahx aeP aoT exists_eq_left' amK amL apj apk apl apm awQ amM akf apn apo afd afe amN amO apq apr akg Q78 Q79 aps Q4b Q2e amP akh aki akj aww aoS
theorem Rz{γ e ty:Nat}{cs cs':List PV}(δ e' ty':Nat)(xw:fr γ= .aJ γ e ty [.aP cs])(h1:hp δ=none)(h2:2000000<=δ)(h3:0<e')(hl:cs'.length=cs.length)(hc:∀p∈cs.zip cs',p.2=p.1∨(p.1= .ab/\p.2= .ax δ 0 0)):
  Wk fr hp (ae fr γ (.aJ γ e ty [.aP cs'])) (Qj hp δ ⟨e',ty',[],false⟩):=by
 have h:=Pp (fr:=fr) (hp:=hp) (γ:=γ) (e:=e) (ty:=ty) (xs:=[.aP cs]) (xs':=[.aP cs']) (fun x=>if x=δ then some (e',ty')else none) xw (fun x y h=>?_) rfl (fun i x x' k1 k2=>?_)
 ·refine cast (congrArg (Wk fr hp (ae fr γ (.aJ γ e ty [.aP cs']))) (funext fun x=>?_)) h;unfold Qj;by_cases hx:x=δ
  ·subst hx;simp
  ·simp[hx]
 ·split at h
  ·rename_i hx;subst hx;cases h;exact⟨h1,h2,h3⟩
  ·cases h
 ·cases i with
  |succ i=>cases k1
  | zero=>
   cases k1;cases k2;refine⟨hl,fun j y y' q1 q2=>?_⟩;have hz:(y,y')∈cs.zip cs':=by refine Kai (i:=j) ?_;rw[List.getElem?_zip_eq_some];exact⟨q1,q2⟩
   rcases hc _ hz with h|⟨h,h'⟩
   ·exact .inl h
   ·exact .inr ⟨h,δ,(e',ty'),by simp,h'⟩
theorem UN{l:List Nat}{x:Nat}(hl:∀y∈l,2000000<=y)(hx:x<2000000):Q6 hp l x=hp x:=by
 have:x ∉ l:=fun h=>by have:=hl x h;omega
 unfold Q6;cases hp x<;>simp[this]
theorem Sb{sk:List It}{r:RT}(s k:Nat){p D:PV}(h0:fr s=p)(ho:aaU fr k p/\Gx fr hp k p=D/\∀x∈Ce fr k p,2000000<=x)(hv:∀l,(∀x∈l,2000000<=x)->vc C R (.o r::sk) (ae fr s D) (Q6 hp l)):vc C R (.o (.wk r)::sk) fr hp:=by subst h0;obtain⟨h1,h2,h3⟩:=ho;refine dn (amZ s k h1) ?_;rw[h2];exact hv _ h3
theorem aeS{γ:Nat}{F:Fr}:jv γ (yC F)=yC F:=by have:=VK (γ:=γ) (B:=[]) (F:=F);simpa only[eH,mu]using this
theorem aeT{O:Nat}{F:Fr}(h:2000000<=O):gi O (yC F)=yC F:=by have:=VJ (B:=[]) (F:=F) h;simpa only[eH,mu]using this
attribute [go_sem] aeS aeT
theorem aoU:(∀(k:IntKind)(n:Int),(PV.int k n).aV=[])/\(∀b:Bool,(PV.bool b).aV=[])/\(PV.ab.aV=[])/\(PV.undef.aV=[])/\(∀(e:Nat)(xs:List PV),(PV.sl e xs).aV=[])/\(∀cs:List PV,(PV.agg cs).aV=[])/\(∀cs:List PV,(PV.aK cs).aV=[])/\(∀cs:List PV,(PV.pt cs).aV=[])/\
  (∀(O o n:Nat),(PV.ax O o n).aV=[])/\(∀(O o n:Nat),(PV.mp O o n).aV=[])/\(∀(O o n:Nat),(PV.aL O o n).aV=[O])/\(∀(O o n:Nat),(PV.np O o n).aV=[O]):=by
 refine⟨?_,?_,?_,?_,?_,?_,?_,?_,?_,?_,?_,?_⟩<;>intros<;>rfl
attribute [go_sem] aoU
theorem ahy{d w i:Nat}{k:IntKind}{f:Nat->Rat}(h:i<w):dt 3 (.sl 3 (ox PV.rat f w)) (.int k (i:Nat)) d fr hp K=K (ae fr d (.pt (PV.rat (f i)).cells)) hp:=by unfold ox;rw[yf (by omega) (by simp;omega)];simp
theorem ahz{α:Type}{p:α->PV}{f:Nat->α}{w d e:Nat}:qG (.sl e (ox p f w)) d fr hp K=K (ae fr d (.int .i64 (w:Nat))) hp:=by simp[qG,ox]
attribute [go_sem] ahy ahz
theorem akk{i c:Nat}(h:c<1600000):(1600000+i=c)=False:=by simp;omega
attribute [go_sem] akk
end Go.FW
namespace Go.FW
open Go
variable {C C' : Ctx} {ρ ρ' : Nat -> Option Nat} {fr aC : Fr} {hp hp' : HP} {w : World} {K R : Qg}
theorem P0{γ e ty:Nat}{cs cs':List PV}(δ e' ty':Nat)(xw:fr γ= .aJ γ e ty [.agg cs])(h1:hp δ=none)(h2:2000000<=δ)(h3:0<e')(hl:cs'.length=cs.length)(hc:∀p∈cs.zip cs',p.2=p.1∨(p.1= .ab/\p.2= .ax δ 0 0)):
  Wk fr hp (ae fr γ (.aJ γ e ty [.aP cs'])) (Qj hp δ ⟨e',ty',[],false⟩):=by
 have h:=Pp (fr:=fr) (hp:=hp) (γ:=γ) (e:=e) (ty:=ty) (xs:=[.agg cs]) (xs':=[.aP cs']) (fun x=>if x=δ then some (e',ty')else none) xw (fun x y h=>?_) rfl (fun i x x' k1 k2=>?_)
 ·refine cast (congrArg (Wk fr hp (ae fr γ (.aJ γ e ty [.aP cs']))) (funext fun x=>?_)) h;unfold Qj;by_cases hx:x=δ
  ·subst hx;simp
  ·simp[hx]
 ·split at h
  ·rename_i hx;subst hx;cases h;exact⟨h1,h2,h3⟩
  ·cases h
 ·cases i with
  |succ i=>cases k1
  | zero=>
   cases k1;cases k2;refine⟨hl,fun j y y' q1 q2=>?_⟩;have hz:(y,y')∈cs.zip cs':=by refine Kai (i:=j) ?_;rw[List.getElem?_zip_eq_some];exact⟨q1,q2⟩
   rcases hc _ hz with h|⟨h,h'⟩
   ·exact .inl h
   ·exact .inr ⟨h,δ,(e',ty'),by simp,h'⟩
end Go.FW
namespace Go.FW
open Go
def BN(p:List Tm)(v:Nat)(q:List Tm)(top:Nat):Nat->List Tm
 |0=>DI p v top
 |k+1=>Qu (cB (BN p v q top k) q) (DI p v ((top:Int)-(k+1)))
def dT(vs:List Rat)(v:Nat)(b:Rat)(n:Int):List Tm->Rat
 | []=>0
 |t::p=>(if n<=eN t.2 v then t.1*qn vs (Kv t.2 v)*cQ b (eN t.2 v-n).toNat else 0)+dT vs v b n p
def ML(n:Nat)(p:List Tm):Prop:=∀t∈p,t.2.length<=n
theorem ML.zM{n:Nat}{p q:List Tm}(hp:ML n p)(hq:ML n q):ML n (Qu p q):=fun t ht=>by
 rcases Am ht with⟨s,h1,h2⟩|⟨s,h1,h2⟩
 ·rw[<-h2];exact hp s h1
 ·rw[<-h2];exact hq s h1
theorem ag3(a b:List Int):(ek a b).length<=max a.length b.length:=by
 have:=GR (pI (· + ·) a b)
 rwa[v5]at this
theorem Q8a{p:List Tm}{t x:Tm}(h:x∈cH p t):∃s∈p,x.2=ek s.2 t.2:=by
 simp only[cH,Kca]at h;obtain⟨y,hy,h⟩:=h;split at h
 ·cases h
 ·cases h;exact⟨y,hy,rfl⟩
theorem ag4:∀(n:Nat)(l:List (List Tm)),l.length<=n->∀ {t:Tm},t∈dA l->∃p∈l,∃s∈p,s.2=t.2:=by
 intro n;induction n with
 |zero=>intro l hl t ht;have:l=[]:=Kas.1 (by omega);subst this;rw[dA]at ht;cases ht
 | succ n ih=>
  intro l hl t ht
  match l,ht with
  | [],ht=>rw[dA]at ht;cases ht
  | [p],ht=>rw[dA]at ht;exact⟨p,by simp,t,ht,rfl⟩
  | p::q::r,ht=>
   rw[Hi (by simp)]at ht;generalize hL:p::q::r=L at *
   have hlen:2<=L.length:=by rw[<-hL];simp
   rcases Am ht with⟨s,h1,h2⟩|⟨s,h1,h2⟩
   ·obtain⟨p',hp',s',fg,e⟩:=ih _ (by rw[KaB];omega) h1;exact⟨p',Kbi hp',s',fg,e.trans h2⟩
   ·obtain⟨p',hp',s',fg,e⟩:=ih _ (by rw[KbK];omega) h1;exact⟨p',KbP hp',s',fg,e.trans h2⟩
theorem ag5{p q:List Tm}{t:Tm}(h:t∈cB p q):∃a∈p,∃b∈q,t.2=ek a.2 b.2:=by
 have main:∀ {p q:List Tm},t∈tt p q->∃a∈p,∃b∈q,t.2=ek a.2 b.2:=fun {p q} h=>by obtain⟨x,hx,s,hs,e⟩:=ag4 _ _ (Kae _) h;obtain⟨a,ha,rfl⟩:=KaA.1 hx;obtain⟨b,hb,e2⟩:=Q8a hs;exact⟨a,ha,b,hb,by rw[<-e,e2,CL]⟩
 unfold cB at h;split at h
 ·obtain⟨a,ha,b,hb,e⟩:=main h;exact⟨b,hb,a,ha,by rw[e,CL]⟩
 ·exact main h
theorem ML.B2{n:Nat}{p q:List Tm}(hp:ML n p)(hq:ML n q):ML n (cB p q):=fun t ht=>by obtain⟨a,ha,b,hb,e⟩:=ag5 ht;have:=ag3 a.2 b.2;have:=hp a ha;have:=hq b hb;rw[e];omega
theorem ML.Xd{n:Nat}{p:List Tm}(hp:ML n p)(v:Nat)(k:Int):ML n (DI p v k):=fun t ht=>by obtain⟨s,h1,_,rfl⟩:=afc ht;have:=GR (s.2.set v 0);rw[List.length_set]at this;exact KaQ this (hp s h1)
theorem ML.BN{n:Nat}{p q:List Tm}(hp:ML n p)(hq:ML n q)(v top:Nat):∀k,ML n (BN p v q top k)
 |0=>hp.Xd v _
 |k+1=>((ML.BN hp hq v top k).B2 hq).zM (hp.Xd v _)
def oy(v n:Nat):List Int:=List.replicate v 0++[(n:Int)]
theorem aeU{v n:Nat}(h:0<n):(oy v n).getLast? ≠some 0:=by unfold oy;rw[List.getLast?_append];simp;omega
theorem akl{v n:Nat}(hv:v<64):MB n (oy v n):=by
 refine⟨by simp[oy];omega,fun x hx=>?_,fun x hx=>?_⟩
 all_goals
  simp only[oy,KaS,List.mem_replicate,Kay]at hx;omega
variable {C : Ctx} {fr : Fr} {hp : HP} {w : World} {K R : Qg}
end Go.FW
namespace Go.FW
open Go
variable {C : Ctx} {fr : Fr} {hp : HP} {K : Qg}
theorem aoV{z:List PV}{o n o2 n2 d O m e ty:Nat}{p:PV}{xs:List PV}{fz:Bool}(h:p.flat=true)(hb:hp O=some ⟨e,ty,xs,fz⟩)(hm:m=xs.length)(hB:bW O=false:=by decide):
  lW z [(o,n,p),(o2,n2,.ms O m)] d fr hp K=((p.cells.length=n/\o+n<=z.length)/\(1=n2/\o2+n2<=z.length)/\K (ae fr d (.agg (iD z [(o,p.cells),(o2,[.sl e xs])]))) (Q6 hp [O])):=by
 obtain⟨s1,s2,s3⟩:=ru (hp:=hp) h;have s4:Qr hp (.ms O m)= .sl e xs:=by simp[Qr,cx,yh hB,hb,hm]
 have r4:(PV.ms O m).refs=[O]:=rfl;have c4:(PV.sl e xs).cells=[.sl e xs]:=rfl;have d4:(PV.sl e xs).aG=true:=rfl;have i1:p.mh=false:=Le h;have i2:(PV.ms O m).mh=false:=by simp[bW]at hB;simp[PV.mh];omega
 unfold lW DH J9;rw[if_neg (by simp[i1,i2])];apply propext;simp only[KaH,Kbh,or_false,forall_eq_or_imp,forall_eq,s1,s3,s4,d4,c4,Kaz,KaR,true_and,Kbn,KbG,KaC,KaN,s2,r4,Kau,Kak,and_assoc,Ka1]
end Go.FW
namespace Go.FW
open Go
theorem UO:∀ {p:List Tm},jQ p->∀n,jQ (p.take n)
 |_,_,0=>trivial
 | [],_,n+1=>trivial
 |t::p,h,n+1=>⟨fun s hs=>h.1 s (Kbi hs),UO h.2 n⟩
theorem bN.take{p:List Tm}(h:bN p)(n:Nat):bN (p.take n):=⟨fun t ht=>h.c t (Kbi ht),fun t ht=>h.z t (Kbi ht),UO h.s n⟩
abbrev MF:=Nat->Nat->Rat
structure RQ where
 n:Bool
 a:List Nat
 d:List Nat
 deriving Inhabited
abbrev PV.rq(q:RQ):PV:=PV.rr q.n q.a q.d
abbrev PV.JX(l:List RQ):PV:=.sl 3 (l.map PV.rq)
abbrev LF:=Rat×(Nat->Rat)
variable {C : Ctx} {fr : Fr} {hp : HP} {w : World} {K R : Qg}
abbrev PV.zO(w:Nat)(f:Nat->Rat):PV:=.sl 3 (ox PV.rat f w)
theorem akm{ty w n i d:Nat}{fz:Bool}{M:MF}(h:i<n):jm (some ⟨1,ty,ox (PV.zO w) M n,fz⟩) 1 false i 0 d fr hp K=K (ae fr d (PV.zO w (M i))) hp:=by rw[od (by rw[KV];exact h) (by omega) (by simp),LR];rfl
theorem ag6{d w n i:Nat}{k:IntKind}{M:MF}(h:i<n):dt 1 (.sl 1 (ox (PV.zO w) M n)) (.int k (i:Nat)) d fr hp K=K (ae fr d (.pt [PV.zO w (M i)])) hp:=by
 have hl:i<(ox (PV.zO w) M n).length:=by rw[KV];exact h
 simp only[dt];simp[hl,LR];rfl
attribute [go_sem] akm ag6
theorem ag7{ty i d:Nat}{fz:Bool}{α:Type}{p:α->PV}{L:List α}(h:i<L.length):jm (some ⟨1,ty,L.map p,fz⟩) 1 false i 0 d fr hp K=K (ae fr d (eZ false 1 0 (p (L[i]'h)))) hp:=by rw[od (by rw[KaJ];exact h) (by omega) (by simp),KbJ]
theorem ag8{ty i d:Nat}{fz:Bool}{L:List LF}(h:i<L.length):jm (some ⟨3,ty,L.map (fun f=>PV.rat f.1),fz⟩) 3 true i 0 d fr hp K=K (ae fr d (PV.rat (L[i]'h).1)) hp:=by rw[od (by rw[KaJ];exact h) (by omega) (by simp),KbJ];rfl
theorem ag9{ty i d w:Nat}{fz:Bool}{L:List LF}(h:i<L.length):jm (some ⟨1,ty,L.map (fun f=>PV.zO w f.2),fz⟩) 1 false i 0 d fr hp K=K (ae fr d (PV.zO w (L[i]'h).2)) hp:=by rw[ag7 h];rfl
attribute [go_sem] ag8 ag9
def nm1(x:Nat):Bool:=decide (x=2000000)
theorem amR:nm1 2000000=true:=decide_eq_true rfl
attribute [go_sem] amR
theorem ann{p:PV}{ps:List PV}{d:Nat}{fr:Fr}{hp:HP}{K:Qg}:ns (.fb (p::ps)) 0 d fr hp K=K (ae fr d p) hp:=rfl
theorem ano{p q:PV}{ps:List PV}{d:Nat}{fr:Fr}{hp:HP}{K:Qg}:ns (.fb (p::q::ps)) 1 d fr hp K=K (ae fr d q) hp:=rfl
attribute [go_sem] ann ano
end Go.FW
namespace Go.FW
open Go
variable {C : Ctx} {fr : Fr} {hp : HP} {w : World} {K R : Qg}
theorem Ao{γ e ty:Nat}{cs:List PV}(h:fr γ= .aJ γ e ty [.aP cs]):Wk fr hp (ae fr γ (.aJ γ e ty [.aP (cs.map fun _=>.undef)])) hp:=by
 rintro C tmps w ⟨ρ,hs⟩;refine⟨ρ,hs.sz,hs.ext,hs.fI,hs.own,hs.inj,fun i=>?_⟩;unfold ae;split
 ·rename_i hi;subst hi;have bo:=hs.dm i;rw[h]at bo;obtain⟨h0,he,b,hb,cur,cap,h1,h2,h3,h4,h5,h6,h7,h8,h9,du,nG⟩:=bo;refine⟨h0,he,b,hb,cur,cap,h1,h2,h3,h4,h5,h6,h7,h8,h9,fun k x hx=>?_,fun k x hx j y hy=>?_⟩
  ·match k,hx with
   |0,hx=>simp at hx;subst hx;have:=du 0 _ rfl;simpa[PV.bg]using this
   |k+1,hx=>simp at hx
  ·match k,hx with
   |0,hx=>simp at hx;subst hx;simp only[PV.bg,Kao,Kaa]at hy;obtain⟨_,_,rfl⟩:=hy;trivial
   |k+1,hx=>simp at hx
 ·exact hs.dm i
def mm(x:Nat):Bool:=decide (x=2000000)||decide (x=2000001)
theorem Ay{x:Nat}:mm x=true↔x=2000000∨x=2000001:=by simp[mm]
abbrev avk(A B:HB):HP:=Qj (Qj aA 2000000 A) 2000001 B
abbrev GA(n m:Nat):PV:=.aP [.ms 2000000 n,.ms 2000001 m]
theorem anp{P:Program}(hP:C.P=P){g:FuncId}{args:List PV}{d n m:Nat}{A B A' B':HB}{q:PV}(h:Ax P g args (fun _=>.undef) (avk A B) fun r _ H=>r= .dx [.ms 2000000 n,.ms 2000001 m] q/\H 2000000=some A'/\H 2000001=some B')
  (hA:hp 2000000=some A) (hB:hp 2000001=some B) (fA:A.fz=false) (fB:B.fz=false)
  (bq:∀x∈args,∀γ e ty xs,x≠ .aJ γ e ty xs) (qd:∀γ∈args.flatMap (fun x=>x.refs++x.aV),mm γ=true) (ej:args.length<=1000000)
  (hK:K (ae (iZ mm fr) d (.dx [.ms 2000000 n,.ms 2000001 m] q)) (Qj (Qj hp 2000000 A') 2000001 B')):gF C false (.fn g [] []) args (some d) fr hp K:=by
 refine anb hP h mm mm [] (fun x hx=>?_) (fun x=>?_) rfl ej bq qd (fun s _=>.inl rfl) (fun x hx=>⟨.inr hx,?_⟩) (fun h=>by cases h) (fun r F H iL=>?_)
 ·rcases Ay.1 hx with rfl|rfl
  ·exact⟨A,hA,fA,by omega⟩
  ·exact⟨B,hB,fB,by omega⟩
 ·by_cases e1:x=2000001
  ·subst e1;simp[mm,Qj,hB]
  ·by_cases e0:x=2000000
   ·subst e0;simp[mm,Qj,hA]
   ·simp[mm,Qj,e0,e1,aA]
 ·rcases Ay.1 hx with rfl|rfl<;>omega
 ·obtain⟨rfl,h1,h2⟩:=iL;refine⟨fun x hx=>?_,(fun γ e ty xs h=>by cases h),fun O aj=>?_,(fun s hs=>by cases hs),?_⟩
  ·rcases Ay.1 hx with rfl|rfl
   ·rw[h1];simp
   ·rw[h2];simp
  ·simp[PV.refs,PV.aV,PV.dO]at aj;exact Ay.2 aj
  ·have e1:Bp [] F (gS (iZ mm fr) (some d) (.dx [.ms 2000000 n,.ms 2000001 m] q))=ae (iZ mm fr) d (.dx [.ms 2000000 n,.ms 2000001 m] q):=by funext s;simp[Bp,gS]
   have e2:xc mm mm H hp=Qj (Qj hp 2000000 A') 2000001 B':=by
    funext x;unfold xc Qj;by_cases e1:x=2000001
    ·subst e1;simp[mm,h2]
    ·by_cases e0:x=2000000
     ·subst e0;simp[mm,h1]
     ·simp[mm,e0,e1]
   rw[e1,e2];exact hK
theorem anq{cs:List PV}{q:PV}{d:Nat}:ns (.dx cs q) 0 d fr hp K=K (ae fr d (.aP cs)) hp:=rfl
theorem anr{cs:List PV}{q:PV}{d:Nat}:ns (.dx cs q) 1 d fr hp K=K (ae fr d q) hp:=rfl
theorem aoW{n ty d:Nat}{cs:List PV}(h:cs.length=n)(h0:0<n)(hU:cs.all PV.iz=true)(nR:cs.all (fun x=> !(x.dO.contains (4000000+d)))=true):
  fQ n ty (.aP cs) d fr hp K=K (ae (ae (gi (4000000+d) fr) (4000000+d) (.aJ (4000000+d) n ty [.aP cs])) d (.np (4000000+d) 0 0)) (Qj hp (4000000+d) ⟨n,ty,[],false⟩):=by
 show wI n ty cs d fr hp K=_;unfold wI dB;simp only[eq_iff_iff,and_iff_right_iff_imp];exact fun _=>⟨h,h0,hU,nR⟩
theorem awL{σ:Nat->Nat}{γ e ty:Nat}{cs:List PV}:dh σ (.aJ γ e ty [.aP cs])= .aJ (σ γ) e ty [gw (cs.map (dI σ))]:=rfl
theorem aoX{γ bj e ty:Nat}{cs:List PV}(h:bj≠γ):dV γ (.aJ bj e ty [.aP cs])= .aJ bj e ty [gw (cs.map (fF γ))]:=by simp[dV,h,PV.bg]
theorem aoY{γ e ty:Nat}{cs:List PV}{nm:Nat->Bool}:qI nm (.aJ γ e ty [.aP cs])=if(γ::cs.flatMap PV.dO).any nm then .undef else .aJ γ e ty [.aP cs]:=by simp[qI,PV.refs,PV.aV,PV.bg]
attribute [go_sem] anq anr aoW awL aoX aoY
end Go.FW
