/- Part 4 of the proof of SquaresProofs: C1, CI, C1b, N1, N2, N3, N4, N5, N6, N7, N8, N9, N10, N11, N12, N13, N14, N15, I1, R1, R2, FwNG, FwNS, FwNT, FwQA, FwSD, FwSE, FwSF, FwSG, FwSH, FwSI, FwSJ, FwSK, FwSL, FwUA, FwSM, FwUC, FwVA. Own lemmas; no conditions. -/
import Derived.Test.YtkoclfmjlolkhaaGreatSquaresProofsPart3
import Derived.Test.YtkoclfmjlolkhaaGreatProg
set_option maxHeartbeats 1000000
set_option linter.unusedSimpArgs false
set_option linter.unusedVariables false
set_option linter.unnecessarySimpa false
set_option maxRecDepth 100000
namespace Go.Proofs.YtkoclfmjlolkhaaGreat
open Go Go.FW
theorem Qg:Tryz.prog.follows .mixedOrders=true:=by kernel_rfl
def Ty:ay:=⟨21,[.t 2],Zr (YE 2)<|Zr (Yo 4 0<|
 Zm 3 5 .nil)<| .seq (.block 0<| .loop<| .seq (Zr (YB 6 3 1<|
 Zg 8 true (.ld 13 1 false (.t 12))<|
 Zg 8 true (.bin 14 .eql false (.t 13) (.c (.int .u16 0)))<|
 Yp 15 8 14 .nil)<| .cond (.t 15) .skip (.exit 0))<| .block 1<| .rg (qX 16 3))<|Zr (Ye 18 0 3<|
 tV 20 1 18 19<|
 Yc 2 20) .ret⟩
theorem OZ:Qe Tryz.prog Tryz.f212=some Ty:=by kernel_rfl
def ans:ay:=⟨16,[.t 2],Zr (YE 2)<|Zr (Yz 4 0 212<|
 Zm 0 5 .nil)<| .seq (Zr (Yo 6 0<|
 jG 8 7 0)<| .cond (.t 8) (Zr (YE 2) .ret) .skip)<|Zr (Yo 9 0<|
 qZ 11 10 10<|
 Zm 3 11 .nil)<|Zr (Ye 12 3 0<|
 Zo (.tZ 14 1 (.t 12) (.t 13)) .nil)<|Zr (YW 15 3 2) .ret⟩
theorem afo:Qe Tryz.prog Tryz.f190=some ans:=by kernel_rfl
def anq:ay:=⟨14,[.t 2],Zr (YE 2)<|Zr (YE 3)<| .seq (.block 0<| .loop<| .seq (Zr (Zm 4 0<|
 Zo (.bin 5 .gtr false (.t 4) (.c (.int .u64 0))) .nil)<| .cond (.t 5) .skip (.exit 0))<| .seq (.block 1<| .rg (Ye 8 3 0<|
 Zo (.conv 10 .u16 (.t 9))<|
 Zo (.bs 11 1 155 [.t 10])<|
 mZ 12 1 2 155 8 11<|
 Zm 3 12 .nil))<| .rg (vK 6 0<|
 Zm 0 7 .nil))<|Zr (jH 13 3 2) .ret⟩
theorem afp:Qe Tryz.prog Tryz.f189=some anq:=by kernel_rfl
def anR:ay:=⟨28,[.t 2,.t 3],Zr (re 2 0<|
 Yh 3)<|Zr (Yz 7 0 212<|
 Zm 0 8 .nil)<| .seq (Zr (Yo 9 0<|
 Zk 11 .gtr 10 4 .nil)<| .cond (.t 11) (Zr (re 2 0<|
 Yh 3) .ret) .skip)<|Zr (re 4 0 .nil)<| .seq (Zr (YP 12 0)<| .block 0<| .loop<|Zr (Ys 15 14 13)<| .seq (.cond (.t 15) .skip (.exit 0))<| .seq (.block 1<|Zr (Zm 16 14<|
 YM 17 12 14<|
 Zm 5 16<|
 Zm 6 18 .nil)<| .rg (Ye 19 4 6<|
 lS 21 20<|
 Zm 22 5<|
 Zo (.bin 23 .mul false (.c (Zz 16)) (.t 22))<|
 Zb 24 .shl 21 23<|
 Zb 25 .or 19 24<|
 Yc 4 25))<| .rg (YD 26 14 14))<|Zr (Zm 27 4<|
 Zm 2 27<|
 YZ 3) .ret⟩
theorem afq:Qe Tryz.prog Tryz.f216=some anR:=by kernel_rfl
def anf:ay:=⟨20,[.t 2],Zr (Yl 2 0)<|Zr (Yz 3 0 212<|
 Zm 0 4 .nil)<| .seq (Zr (Yo 5 0<|
 jG 7 6 0)<| .cond (.t 7) (Zr (Yl 2 0) .ret) .skip)<|Zr (Yo 8 0<|
 Zk 10 .sub 9 1<|
 Zo (.bin 11 .mul false (.c (Zz 16)) (.t 10))<|
 Ye 12 0 0<|
 Zn 14 13<|
 Zk 15 .sub 14 1<|
 YM 16 12 15<|
 Yk 18 214 17<|
 cX 19 11 18<|
 Yc 2 19) .ret⟩
theorem afr:Qe Tryz.prog Tryz.f178=some anf:=by kernel_rfl
def anT:ay:=⟨45,[.t 4],Zr (Yl 4 0)<|Zr (lT 6 212<|
 Zm 0 7<|
 Zm 1 9 .nil)<| .seq (Zr (kZ 10<|
 Zb 14 .neq 11 13 .nil)<| .cond (.t 14) (.seq (Zr (kZ 15<|
 Ys 19 16 18)<| .cond (.t 19) (Zr (jX 4) .ret) .skip)<|Zr (Yl 4 1) .ret) .skip)<| .seq (Zr (Yo 20 0<|
 Zk 22 .sub 21 1<|
 Yc 5 22)<| .block 0<| .loop<| .seq (Zr (Zm 23 5<|
 Zk 24 .geq 23 0 .nil)<| .cond (.t 24) .skip (.exit 0))<| .seq (.block 1<| .seq (Zr (Yn 27 0 5<|
 Yn 31 1 5<|
 Ys 35 30 34)<| .cond (.t 35) (Zr (jX 4) .ret) .skip)<|Zr (Yn 36 0 5<|
 Yn 40 1 5<|
 Zb 44 .gtr 39 43 .nil)<| .cond (.t 44) (Zr (Yl 4 1) .ret) .skip)<| .rg (qX 25 5))<|Zr (Yl 4 0) .ret⟩
theorem afs:Qe Tryz.prog Tryz.f218=some anT:=by kernel_rfl
def an1:ay:=⟨64,[.t 4],Zr (YE 4)<|Zr (lT 9 212<|
 Zm 0 10<|
 Zm 1 12 .nil)<| .seq (Zr (kZ 13<|
 Ys 17 14 16)<| .cond (.t 17) (.rg (Ye 18 1 0<|
 mX 0 18 19)) .skip)<|Zr (Yo 20 0<|
 Yo 22 0<|
 Zk 24 .add 23 1<|
 qZ 25 21 24<|
 Yc 5 25)<|Zr (Zo (.mv 6 (.c (.int .u32 0))) .nil)<| .seq (Zr (YP 26 0)<| .block 0<| .loop<|Zr (Ys 29 28 27)<| .seq (.cond (.t 29) .skip (.exit 0))<| .seq (.block 1<|Zr (ra 30 28 26 7)<|Zr (Ye 33 6 8<|
 kX 35 34<|
 cX 36 33 35<|
 Yc 6 36)<| .seq (Zr (YH 37 7 1)<| .cond (.t 40) (.rg (YX 41 6 1 7<|
 YM 44 42 43<|
 kX 46 45<|
 cX 47 41 46<|
 Yc 6 47)) .skip)<|Zr (YX 48 5 7 6<|
 YV 51 50 48 49)<| .rg (vK 53 6<|
 Yc 6 54))<| .rg (Yw 55 28 28))<| .seq (Zr (Zm 56 6<|
 Zo (.bin 57 .gtr false (.t 56) (.c (.int .u32 0))) .nil)<| .cond (.t 57) (.rg (Ye 58 5 6<|
 Zo (.conv 60 .u16 (.t 59))<|
 Yv 61 1 155 60 2 58 5)) .skip)<|Zr (YW 63 5 4) .ret⟩
theorem aft:Qe Tryz.prog Tryz.f227=some an1:=by kernel_rfl
def an2:ay:=⟨56,[.t 4,.t 5],Zr (ia 4 0)<| .seq (Zr (YL 11 0 1 218<|
 Zk 14 .lss 13 0 .nil)<| .cond (.t 14) (Zr (ia 4 2) .ret) .skip)<|Zr (lT 15 212<|
 mX 0 16 18)<|Zr (Yo 19 0<|
 qZ 21 20 20<|
 Yc 6 21)<|Zr (Zo (.mv 7 (.c (.int .i32 0))) .nil)<| .seq (Zr (YP 22 0)<| .block 0<| .loop<|Zr (Ys 25 24 23)<| .seq (.cond (.t 25) .skip (.exit 0))<| .seq (.block 1<|Zr (ra 26 24 22 8)<|Zr (Zm 29 9<|
 Zo (.conv 30 .i32 (.t 29))<|
 Zm 31 7<|
 Zb 32 .sub 30 31<|
 Yc 10 32)<| .seq (Zr (YH 33 8 1)<| .cond (.t 36) (.rg (YX 37 10 1 8<|
 YM 40 38 39<|
 Zo (.conv 42 .i32 (.t 41))<|
 Zb 43 .sub 37 42<|
 Yc 10 43)) .skip)<|Zr (Zo (.mv 7 (.c (.int .i32 0))) .nil)<| .seq (Zr (Zm 44 10<|
 Zo (.bin 45 .lss false (.t 44) (.c (.int .i32 0))) .nil)<| .cond (.t 45) (Zr (Zm 46 10<|
 Zo (.bin 47 .add false (.t 46) (.c (.int .i32 65536)))<|
 Yc 10 47)<| .rg (Zo (.mv 7 (.c (.int .i32 1))) .nil)) .skip)<| .rg (YX 48 6 8 10<|
 YV 51 50 48 49))<| .rg (Yw 53 24 24))<|Zr (Yz 54 6 212<|
 Zm 4 55<|
 Yl 5 0) .ret⟩
theorem afu:Qe Tryz.prog Tryz.f228=some an2:=by kernel_rfl
def ana:ay:=⟨79,[.t 4],Zr (YE 4)<|Zr (lT 11 212<|
 Zm 0 12<|
 Yc 1 14)<| .seq (Zr (Yo 15 0<|
 Zk 17 .eql 16 0<|
 qW 18 17 1<|
 Zg 18 false (.bin 21 .eql false (.t 20) (.c (Zz 0)))<|
 ew 22 18 21)<| .cond (.t 22) (Zr (YE 4) .ret) .skip)<|Zr (kZ 23<|
 cX 27 24 26<|
 qZ 28 27 27<|
 Yc 5 28)<| .seq (Zr (YP 29 0)<| .block 0<| .loop<|Zr (Ys 32 31 30)<| .seq (.cond (.t 32) .skip (.exit 0))<| .seq (.block 1<|Zr (ra 33 31 29 6)<|Zr (Zo (.mv 8 (.c (.int .u32 0))) .nil)<| .seq (Zr (YP 36 1)<| .block 2<| .loop<|Zr (Ys 39 38 37)<| .seq (.cond (.t 39) .skip (.exit 2))<| .seq (.block 3<|Zr (ra 40 38 36 9)<|Zr (Ye 43 8 5<|
 Ye 45 6 9<|
 cX 47 45 46<|
 YM 48 44 47<|
 kX 50 49<|
 Zm 51 7<|
 kX 52 51<|
 Zm 53 10<|
 kX 54 53<|
 Zb 55 .mul 52 54<|
 cX 56 50 55<|
 cX 57 43 56<|
 Yc 8 57)<|Zr (YX 58 5 6 9<|
 cX 61 59 60<|
 Zm 62 8<|
 YV 63 62 58 61)<| .rg (vK 65 8<|
 Yc 8 66))<| .rg (Yw 67 38 38))<| .rg (Ye 68 5 6<|
 Yo 70 1<|
 cX 72 69 71<|
 Zm 73 8<|
 YV 74 73 68 72))<| .rg (Yw 76 31 31))<|Zr (Yz 77 5 212<|
 Yc 4 78) .ret⟩
theorem afv:Qe Tryz.prog Tryz.f174=some ana:=by kernel_rfl
def anU:ay:=⟨43,[.t 4,.t 5],Zr (Yi 4<|
 Zo (.mv 5 (.c (.int .u16 0))) .nil)<|Zr (Yo 9 0<|
 qZ 11 10 10<|
 Zm 6 11 .nil)<|Zr (Zo (.mv 7 (.c (.int .u32 0))) .nil)<| .seq (Zr (Yo 12 0<|
 Zk 14 .sub 13 1<|
 Zm 8 14 .nil)<| .block 0<| .loop<| .seq (Zr (Zm 15 8<|
 Zk 16 .geq 15 0 .nil)<| .cond (.t 16) .skip (.exit 0))<| .seq (.block 1<|Zr (Zm 19 7<|
 Zo (.bin 20 .shl false (.t 19) (.c (.int .u64 16)))<|
 Yn 21 0 8<|
 kX 25 24<|
 Zb 26 .or 20 25<|
 Yc 7 26)<|Zr (Ye 27 6 8<|
 Ye 29 7 1<|
 kX 31 30<|
 Zb 32 .quo 29 31<|
 YV 33 32 27 28)<| .rg (Ye 35 7 1<|
 kX 37 36<|
 Zb 38 .rem 35 37<|
 Yc 7 38))<| .rg (Zm 17 8<|
 Zk 18 .sub 17 1<|
 Zm 8 18 .nil))<|Zr (Yz 39 6 212<|
 Zm 41 7<|
 Zo (.conv 42 .u16 (.t 41))<|
 mX 4 40 42) .ret⟩
theorem afw:Qe Tryz.prog Tryz.f219=some anU:=by kernel_rfl
def anu:ay:=⟨71,[.t 4,.t 5,.t 6],Zr (Yi 4<|
 ia 5 0)<|Zr (lT 12 212<|
 mX 0 13 15)<| .seq (.block 0<|Zr (Yo 17 1<|
 oX 19 18 0 16)<| .cond (.t 16) (Zr (Yi 4<|
 ia 5 3) .ret) (Zr (YL 21 0 1 218<|
 Zk 24 .lss 23 0<|
 Zm 20 24 .nil)<| .cond (.t 20) (Zr (Yz 25 0 190<|
 Yi 4<|
 Zm 5 26<|
 Yl 6 0) .ret) (Zr (Yo 28 1<|
 oX 30 29 1 27)<| .cond (.t 27) (Zr (Ye 32 0 1<|
 Zo (.idx 34 1 (.t 33) (.c (Zz 0)))<|
 Zl 35 1 34<|
 Ym 36 219 32 35<|
 Zm 31 36<|
 jF 37 31 7)<|Zr (Ye 39 7 8<|
 lS 41 40<|
 Yk 42 189 41<|
 Ye 4 39 42<|
 Yl 6 0) .ret) .skip)))<|Zr (Ye 43 1 1<|
 Zn 45 44<|
 Zk 46 .sub 45 1<|
 YM 47 43 46<|
 Yk 49 220 48<|
 Yc 9 49)<|Zr (YL 50 0 9 221<|
 Zo (.bs 53 1 155 [.c (.int .u16 0),.c (.int .u16 0)])<|
 mZ 54 1 2 155 52 53<|
 Yo 55 0<|
 Zk 57 .add 56 1<|
 tV 58 1 54 57<|
 Yc 10 58)<|Zr (YL 59 1 9 221<|
 Yc 11 61)<|Zr (YL 62 10 11 222<|
 Yc 4 64)<|Zr (Ye 65 4 10<|
 Yk 67 212 66<|
 Zm 68 9<|
 Zo (.un 69 .neg (.t 68))<|
 Ym 70 221 67 69<|
 Ye 4 65 70<|
 Yl 6 0) .ret⟩
theorem afx:Qe Tryz.prog Tryz.f192=some anu:=by kernel_rfl
def an4:ay:=⟨31,[.t 6],Zr (Yh 6)<|Zr (Zl 7 1 0<|
 Zo (.bin 8 .geq false (.t 7) (.c (.int .u64 65536)))<|
 Zm 9 8<|
 Zg 9 false (.ld 10 1 false (.t 0))<|
 Zg 9 false (.ld 11 1 false (.t 1))<|
 Zg 9 false (.ld 12 1 false (.t 2))<|
 Zg 9 false (.bin 13 .sub false (.t 12) (.c (Zz 2)))<|
 Zg 9 false (.idx 14 1 (.t 11) (.t 13))<|
 Zg 9 false (.ld 15 1 false (.t 14))<|
 Zg 9 false (.conv 16 .u64 (.t 15))<|
 Zg 9 false (.bin 17 .mul false (.t 10) (.t 16))<|
 Zg 9 false (.ld 18 1 false (.t 3))<|
 Zg 9 false (.bin 19 .shl false (.t 18) (.c (.int .u64 16)))<|
 Zg 9 false (.ld 20 1 false (.t 4))<|
 Zg 9 false (.ld 21 1 false (.t 5))<|
 Zg 9 false (.ld 22 1 false (.t 2))<|
 Zg 9 false (.bin 23 .add false (.t 21) (.t 22))<|
 Zg 9 false (.bin 24 .sub false (.t 23) (.c (Zz 2)))<|
 Zg 9 false (.idx 25 1 (.t 20) (.t 24))<|
 Zg 9 false (.ld 26 1 false (.t 25))<|
 Zg 9 false (.conv 27 .u64 (.t 26))<|
 Zg 9 false (.bin 28 .or false (.t 19) (.t 27))<|
 Zg 9 false (.bin 29 .gtr false (.t 17) (.t 28))<|
 Yj 30 9 29<|
 Yc 6 30) .ret⟩
theorem afy:Qe Tryz.prog Tryz.f230=some an4:=by kernel_rfl
def TD:ay:=⟨54,[.t 6],Zr (Yh 6)<|Zr (Zo (.mv 7 (.c (.int .u32 0))) .nil)<|Zr (Zo (.mv 8 (.c (.int .i32 0))) .nil)<| .seq (Zr (YP 11 0)<| .block 0<| .loop<|Zr (Ys 14 13 12)<| .seq (.cond (.t 14) .skip (.exit 0))<| .seq (.block 1<|Zr (jH 15 13 9)<| .seq (Zr (YH 16 9 1)<| .cond (.t 19) (.rg (Ye 20 7 2<|
 Yn 22 1 9<|
 kX 26 25<|
 Zb 27 .mul 21 26<|
 cX 28 20 27<|
 Yc 7 28)) .skip)<|Zr (Yn 29 0 9<|
 Zo (.conv 33 .i32 (.t 32))<|
 Zm 34 7<|
 Zo (.conv 35 .u16 (.t 34))<|
 Zo (.conv 36 .i32 (.t 35))<|
 Zb 37 .sub 33 36<|
 Zm 38 8<|
 Zb 39 .sub 37 38<|
 Yc 10 39)<|Zr (vK 40 7<|
 Yc 7 41)<|Zr (Zo (.mv 8 (.c (.int .i32 0))) .nil)<| .seq (Zr (Zm 42 10<|
 Zo (.bin 43 .lss false (.t 42) (.c (.int .i32 0))) .nil)<| .cond (.t 43) (Zr (Zm 44 10<|
 Zo (.bin 45 .add false (.t 44) (.c (.int .i32 65536)))<|
 Yc 10 45)<| .rg (Zo (.mv 8 (.c (.int .i32 1))) .nil)) .skip)<| .rg (YX 46 0 9 10<|
 YV 49 48 46 47))<| .rg (Yw 51 13 13))<|Zr (Zm 52 8<|
 Zo (.bin 53 .gtr false (.t 52) (.c (.int .i32 0)))<|
 Yc 6 53) .ret⟩
theorem afz:Qe Tryz.prog Tryz.f231=some TD:=by kernel_rfl
def TE:ay:=⟨37,[],Zr (Zo (.mv 4 (.c (.int .u32 0))) .nil)<|Zr (YP 6 0)<| .block 0<| .loop<|Zr (Ys 9 8 7)<| .seq (.cond (.t 9) .skip (.exit 0))<| .seq (.block 1<|Zr (jH 10 8 5)<|Zr (YX 11 4 0 5<|
 YM 14 12 13<|
 kX 16 15<|
 cX 17 11 16<|
 Yc 4 17)<| .seq (Zr (YH 18 5 1)<| .cond (.t 21) (.rg (YX 22 4 1 5<|
 YM 25 23 24<|
 kX 27 26<|
 cX 28 22 27<|
 Yc 4 28)) .skip)<|Zr (YX 29 0 5 4<|
 YV 32 31 29 30)<| .rg (vK 34 4<|
 Yc 4 35))<| .rg (Yw 36 8 8)⟩
theorem afA:Qe Tryz.prog Tryz.f232=some TE:=by kernel_rfl
def ann:ay:=⟨51,[.t 4],Zr (YE 4)<|Zr (lT 12 190<|
 mX 0 13 15)<| .seq (.block 0<| .loop<| .seq (Zr (Yo 16 1<|
 Zk 18 .gtr 17 0 .nil)<| .cond (.t 18) .skip (.exit 0))<| .block 1<|Zr (Yz 20 0 216<|
 Zm 19 21<|
 jF 22 19 5)<|Zr (Yz 25 1 216<|
 Zm 24 26<|
 jF 27 24 7)<| .seq (Zr (Zm 29 6<|
 YS 30 29 8<|
 Yp 32 30 31 .nil)<| .cond (.t 32) (.seq (.block 2<| .loop<| .seq (Zr (Zm 33 7<|
 Zo (.bin 34 .gtr false (.t 33) (.c (.int .u64 0))) .nil)<| .cond (.t 34) .skip (.exit 2))<| .block 3<| .rg (YX 35 7 5 7<|
 Zb 38 .rem 36 37<|
 Zm 5 35<|
 Yc 7 38))<|Zr (Yz 39 5 189<|
 Yc 4 40) .ret) .skip)<|Zr (YL 42 0 1 192<|
 Zm 41 44<|
 lU 45 41<|
 Ye 9 45 46<|
 Yc 11 47)<| .rg (Ye 48 1 10<|
 mX 0 48 49))<|Zr (YW 50 0 4) .ret⟩
theorem afB:Qe Tryz.prog Tryz.f186=some ann:=by kernel_rfl
def TA:ay:=⟨78,[.t 4],Zr (YE 4)<|Zr (Yz 11 0 212<|
 Zm 0 12 .nil)<| .seq (Zr (Zm 13 1<|
 Zk 14 .lss 13 (-1048576)<|
 xx 15 14 1 1048576<|
 Yj 18 15 17<|
 qW 19 18 0<|
 Zg 19 false (.bin 22 .eql false (.t 21) (.c (Zz 0)))<|
 ew 23 19 22)<| .cond (.t 23) (Zr (YE 4) .ret) .skip)<| .seq (Zr (nX 24 1 .nil)<| .cond (.t 25) (Zr (Ye 26 0 1<|
 Zo (.un 28 .neg (.t 27))<|
 Ym 29 229 26 28<|
 Yc 4 29) .ret) .skip)<|Zr (Zm 30 1<|
 Zk 31 .quo 30 16<|
 Zm 32 1<|
 Zk 33 .rem 32 16<|
 mX 5 31 33)<|Zr (Yo 34 0<|
 Zm 36 5<|
 cX 37 35 36<|
 Zk 38 .add 37 1<|
 Yo 39 0<|
 Zm 41 5<|
 cX 42 40 41<|
 Zk 43 .add 42 3<|
 qZ 44 38 43<|
 Yc 7 44)<| .seq (Zr (YP 45 0)<| .block 0<| .loop<|Zr (Ys 48 47 46)<| .seq (.cond (.t 48) .skip (.exit 0))<| .seq (.block 1<|Zr (ra 49 47 45 8)<|Zr (Zm 52 9<|
 kX 53 52<|
 Zm 54 6<|
 Zb 55 .shl 53 54<|
 Yc 10 55)<|Zr (YX 56 7 8 5<|
 cX 59 57 58<|
 YM 60 56 59<|
 Zm 62 10<|
 Zo (.conv 63 .u16 (.t 62))<|
 Zb 64 .or 61 63<|
 Zi 65 1 56 59<|
 gK 1 65 64)<| .rg (YX 66 7 8 5<|
 cX 69 67 68<|
 Zk 70 .add 69 1<|
 vK 71 10<|
 YV 73 72 66 70))<| .rg (Yw 75 47 47))<|Zr (Yz 76 7 212<|
 Yc 4 77) .ret⟩
theorem JU:Qe Tryz.prog Tryz.f221=some TA:=by kernel_rfl
def an3:ay:=⟨63,[.t 4],Zr (YE 4)<|Zr (Zm 10 1<|
 Zk 11 .quo 10 16<|
 Zm 12 1<|
 Zk 13 .rem 12 16<|
 Zm 5 11<|
 Zm 6 13 .nil)<| .seq (Zr (Ye 14 5 0<|
 Zn 16 15<|
 Zb 17 .geq 14 16 .nil)<| .cond (.t 17) (Zr (YE 4) .ret) .skip)<|Zr (Yo 18 0<|
 Zm 20 5<|
 Zb 21 .sub 19 20<|
 qZ 22 21 21<|
 Yc 7 22)<| .seq (Zr (YP 23 7)<| .block 0<| .loop<|Zr (Ys 26 25 24)<| .seq (.cond (.t 26) .skip (.exit 0))<| .seq (.block 1<|Zr (YW 27 25 8)<|Zr (YX 28 0 8 5<|
 cX 31 29 30<|
 YM 32 28 31<|
 kX 34 33<|
 Yc 9 34)<| .seq (Zr (Ye 35 8 5<|
 cX 37 35 36<|
 Zk 38 .add 37 1<|
 Yo 39 0<|
 Ys 41 38 40)<| .cond (.t 41) (.rg (Ye 42 9 0<|
 Ye 44 8 5<|
 cX 46 44 45<|
 Zk 47 .add 46 1<|
 YM 48 43 47<|
 kX 50 49<|
 Zo (.bin 51 .shl false (.t 50) (.c (.int .u64 16)))<|
 Zb 52 .or 42 51<|
 Yc 9 52)) .skip)<| .rg (Ye 53 7 8<|
 Ye 55 9 6<|
 Zb 57 .shr 55 56<|
 YV 58 57 53 54))<| .rg (Yw 60 25 25))<|Zr (Yz 61 7 212<|
 Yc 4 62) .ret⟩
theorem afC:Qe Tryz.prog Tryz.f229=some an3:=by kernel_rfl
def anW:ay:=⟨6,[.t 2],Zr (Yl 2 0)<|Zr (Yz 3 0 214<|
 Zo (.bin 5 .sub false (.c (Zz 16)) (.t 4))<|
 Zm 2 5 .nil) .ret⟩
theorem afD:Qe Tryz.prog Tryz.f220=some anW:=by kernel_rfl
def anS:ay:=⟨15,[.cell 4 2 true],Zr (sA 4)<|Zr (Yz 5 1 190<|
 Zm 1 6 .nil)<|Zr (BY 7<|
 Zs 2 4 14 .nil) .ret⟩
theorem afE:Qe Tryz.prog Tryz.f217=some anS:=by kernel_rfl
def anp:ay:=⟨13,[.cell 4 2 true],Zr (sA 4)<|Zr (BY 5<|
 Zs 2 4 12 .nil) .ret⟩
theorem afF:Qe Tryz.prog Tryz.f188=some anp:=by kernel_rfl
def anm:ay:=⟨27,[.t 2],Zr (jE 1 49 0<|
 Yh 2)<|Zr (Yf 4 1 1<|
 Zn 6 5<|
 Zm 3 6 .nil)<|Zr (Zm 7 3<|
 Zk 8 .eql 7 0<|
 Zm 9 8<|
 YO 9 0 1<|
 Zg 9 true (.un 12 .not (.t 11))<|
 Yp 13 9 12<|
 xx 14 13 3 0<|
 Zg 14 false (.mv 17 (.t 16))<|
 YO 17 1 1<|
 Zg 17 true (.mv 20 (.t 3))<|
 Zg 17 true (.bin 21 .sub false (.t 20) (.c (Zz 1)))<|
 Zg 17 true (.idx 22 1 (.t 19) (.t 21))<|
 Zg 17 true (.ld 23 1 false (.t 22))<|
 Zg 17 true (.bin 24 .neq false (.t 23) (.c (.int .u16 0)))<|
 Zg 14 false (.pick 25 (.t 17) (.t 24) (.c (.bool false)))<|
 Yj 26 14 25<|
 Yc 2 26) .ret⟩
theorem ae6:Qe Tryz.prog Tryz.f185=some anm:=by kernel_rfl
def ant:ay:=⟨8,[.cell 2 2 true],Zr (jE 1 49 0<|
 sB 2)<|Zr (eS 3 0 1 1 1<|
 Ym 7 217 4 6<|
 Zs 2 2 7 .nil) .ret⟩
theorem ae7:Qe Tryz.prog Tryz.f191=some ant:=by kernel_rfl
def amx:ay:=⟨16,[.cell 2 2 true],Zr (sB 2)<| .seq (Zr (nX 3 0 .nil)<| .cond (.t 4) (Zr (Zm 5 0<|
 Zk 6 .add 5 1<|
 Zo (.un 7 .neg (.t 6))<|
 lS 8 7<|
 Zo (.bin 9 .add false (.t 8) (.c (.int .u64 1)))<|
 Yk 10 189 9<|
 Zq 11 false 188 [.c (.bool true),.t 10]<|
 Zs 2 2 11 .nil) .ret) .skip)<|Zr (Zm 12 0<|
 lS 13 12<|
 Yk 14 189 13<|
 Zq 15 false 188 [.c (.bool false),.t 14]<|
 Zs 2 2 15 .nil) .ret⟩
theorem ae8:Qe Tryz.prog Tryz.f127=some amx:=by kernel_rfl
def amj:ay:=⟨11,[.t 2],Zr (jE 1 49 0<|
 Yl 2 0)<| .seq (.block 0<|Zr (Yf 4 1 1<|
 Yk 6 178 5<|
 oX 7 6 0 3)<| .cond (.t 3) (Zr (Yl 2 0) .ret) (Zr (Yf 9 0 1<|
 Zm 8 10 .nil)<| .cond (.t 8) (Zr (jX 2) .ret) .skip))<|Zr (Yl 2 1) .ret⟩
theorem ae9:Qe Tryz.prog Tryz.f109=some amj:=by kernel_rfl
def anY:ay:=⟨35,[.t 4],Zr (sC 2<|
 Yl 4 0)<|Zr (Zh 8 2 2<|
 Zh 10 2 3<|
 YY 9 109 8<|
 YY 11 109 10<|
 Zm 5 9<|
 Zm 6 11 .nil)<|Zr (Zo (.mv 7 (.c (.fn 233 [] []))) .nil)<| .seq (.block 0<|Zr (Ye 13 5 6<|
 Zb 15 .lss 13 14<|
 Zm 12 15 .nil)<| .cond (.t 12) (Zr (jX 4) .ret) (Zr (Ye 17 5 6<|
 Zb 19 .gtr 17 18<|
 Zm 16 19 .nil)<| .cond (.t 16) (Zr (Yl 4 1) .ret) (Zr (nX 21 5<|
 Zm 20 22 .nil)<| .cond (.t 20) (Zr (Zm 23 7<|
 eS 24 1 3 1 2<|
 Zo (.call (some 28) false (.t 23) [.t 25,.t 27])<|
 Yc 4 28) .ret) .skip)))<|Zr (Zm 29 7<|
 eS 30 1 2 1 3<|
 Zo (.call (some 34) false (.t 29) [.t 31,.t 33])<|
 Yc 4 34) .ret⟩
theorem afa:Qe Tryz.prog Tryz.f224=some anY:=by kernel_rfl
def an5:ay:=⟨8,[.t 4],Zr (Yl 4 0)<|Zr (YL 5 0 1 218<|
 Zm 4 7 .nil) .ret⟩
theorem afb:Qe Tryz.prog Tryz.f233=some an5:=by kernel_rfl
def anP:ay:=⟨40,[.cell 4 2 true],Zr (sC 2<|
 sA 4)<| .seq (Zr (eS 7 0 2 0 3<|
 Zo (.bin 11 .eql true (.t 8) (.t 10)) .nil)<| .cond (.t 11) (Zr (eS 12 0 2 1 2<|
 Yf 16 1 3<|
 Yr 18 227 15 17<|
 ji 19 188 13 18 2 4) .ret) .skip)<| .seq (Zr (eS 20 1 2 1 3<|
 Ym 24 218 21 23<|
 Zk 25 .lss 24 0 .nil)<| .cond (.t 25) (.rg (Zh 26 2 3<|
 Zh 27 2 2<|
 Zs 2 2 26<|
 jk 2 27)) .skip)<|Zr (eS 29 1 2 1 3<|
 Ym 33 228 30 32<|
 Zm 28 33<|
 jF 34 28 5)<|Zr (Yf 36 0 2<|
 Zm 38 5<|
 Ym 39 188 37 38<|
 Zs 2 4 39 .nil) .ret⟩
theorem afc:Qe Tryz.prog Tryz.f213=some anP:=by kernel_rfl
def am9:ay:=⟨16,[.cell 4 2 true],Zr (sC 2<|
 sA 4)<|Zr (eS 5 0 2 0 3<|
 Zo (.bin 9 .neq true (.t 6) (.t 8))<|
 eS 10 1 2 1 3<|
 Yr 14 174 11 13<|
 ji 15 188 9 14 2 4) .ret⟩
theorem afd:Qe Tryz.prog Tryz.f173=some am9:=by kernel_rfl
def anb:ay:=⟨17,[.t 2],Zr (Yh 2)<|Zr (Yo 4 0<|
 Zo (.eA 6 [Zz 0,.int .u16 0] [(0,1,.t 5)])<|
 Zo (.alloc 3 2 194 (.agg [Zz 0,.int .u16 0]))<|
 Zs 2 3 6 .nil)<| .seq (Zr (Yo 7 0<|
 Zk 9 .gtr 8 0 .nil)<| .cond (.t 9) (.rg (Zm 10 0<|
 Zo (.idx 11 1 (.t 10) (.c (Zz 0)))<|
 Zl 12 1 11<|
 Zf 13 1 3<|
 Zs 1 13 12 .nil)) .skip)<|Zr (Zh 14 2 3<|
 Zo (.eA 15 [Zz 0,.int .u16 0] [(0,1,.c (Zz 1)),(1,1,.c (.int .u16 1))])<|
 Zo (.eqs 16 false (.t 14) (.t 15))<|
 Yc 2 16) .ret⟩
theorem afe:Qe Tryz.prog Tryz.f175=some anb:=by kernel_rfl
def amy:ay:=⟨2,[.t 0],Zr (YE 0)<|Zr (Zo (.bs 1 1 155 [.c (.int .u16 1)])<|
 Zm 0 1 .nil) .ret⟩
theorem aff:Qe Tryz.prog Tryz.f128=some amy:=by kernel_rfl
def amz:ay:=⟨52,[.cell 4 3 true],Zr (Zo (.box 2 2 49 (.t 0))<|
 Yb 4 .nil)<|Zr (Yz 6 1 190<|
 Zm 1 7 .nil)<|Zr (dG 8 2 2 191<|
 Zs 2 2 9 .nil)<| .seq (Zr (Yo 10 1<|
 Zk 12 .eql 11 0<|
 YA 13 12 1 2<|
 Zg 13 false (.len 16 (.t 15))<|
 Zg 13 false (.bin 17 .eql false (.t 16) (.c (Zz 0)))<|
 ew 18 13 17)<| .cond (.t 18) (Zr (Zq 19 false 128 []<|
 Zo (.eA 20 [.bool false,.al,.al] [(2,1,.t 19)])<|
 jk 3 20) .ret) .skip)<| .seq (Zr (Yz 21 1 175 .nil)<| .cond (.t 22) (Zr (Zh 23 2 2<|
 Zm 24 1<|
 xw 25 23 24<|
 jk 3 25) .ret) .skip)<|Zr (Yf 26 1 2<|
 Zm 28 1<|
 Ym 29 186 27 28<|
 Yc 5 29)<| .seq (Zr (Yz 30 5 175<|
 Zu 32 31 .nil)<| .cond (.t 32) (Zr (Yf 34 1 2<|
 Zm 36 5<|
 Ym 37 192 35 36<|
 Zm 33 37<|
 lU 38 33<|
 Zf 41 1 2<|
 gK 1 41 38)<| .rg (YL 43 1 5 192<|
 Zm 42 45<|
 lU 46 42<|
 Yc 1 46)) .skip)<|Zr (Zh 49 2 2<|
 Zm 50 1<|
 xw 51 49 50<|
 jk 3 51) .ret⟩
theorem afQ:Qe Tryz.prog Tryz.f129=some amz:=by kernel_rfl
def ami:ay:=⟨14,[.cell 2 2 true,.t 3],Zr (gZ 1 51<|
 Zo (.alloc 2 2 49 (.agg [.bool false,.al]))<|
 YE 3)<| .seq (Zr (Yf 4 2 1<|
 Yk 6 178 5<|
 jG 7 6 0)<| .cond (.t 7) (Zr (Zo (.eA 8 [.bool false,.al] [])<|
 Zq 9 false 128 []<|
 Zs 2 2 8<|
 Zm 3 9 .nil) .ret) .skip)<|Zr (YT 10 1 2<|
 Zf 12 2 1<|
 .br (Zl 13 1 12<|
 Zs 2 2 11<|
 Zm 3 13 .nil) (Zs 2 2 11<|
 Zl 13 1 12<|
 Zm 3 13 .nil)) .ret⟩
theorem afR:Qe Tryz.prog Tryz.f108=some ami:=by kernel_rfl
def ane:ay:=⟨5,[.cell 2 2 true],Zr (sB 2)<|Zr (Zm 3 0<|
 Zo (.eA 4 [.bool false,.al] [(1,1,.t 3)])<|
 Zs 2 2 4 .nil) .ret⟩
theorem afS:Qe Tryz.prog Tryz.f177=some ane:=by kernel_rfl
def ams:ay:=⟨36,[.t 2],Zr (gZ 1 51<|
 Yh 2)<|Zr (Yf 4 2 1<|
 Zn 6 5<|
 Zm 3 6 .nil)<| .seq (Zr (YT 7 1 2<|
 Yk 9 185 8<|
 Zu 10 9<|
 Yu 11 10 3<|
 Zg 11 false (.bin 13 .eql false (.t 12) (.c (Zz 0)))<|
 Yj 14 11 13<|
 YA 15 14 2 1<|
 Zg 15 false (.mv 18 (.t 3))<|
 Zg 15 false (.bin 19 .sub false (.t 18) (.c (Zz 1)))<|
 Zg 15 false (.idx 20 1 (.t 17) (.t 19))<|
 Zg 15 false (.ld 21 1 false (.t 20))<|
 Zg 15 false (.bin 22 .eql false (.t 21) (.c (.int .u16 0)))<|
 ew 23 15 22)<| .cond (.t 23) (Zr (Yh 2) .ret) .skip)<|Zr (Yf 24 2 1<|
 Yk 26 175 25<|
 Zm 27 26<|
 Zg 27 false (.fP 28 0 (.t 1))<|
 Zg 27 false (.fP 29 1 (.t 28))<|
 Zg 27 false (.ld 30 1 false (.t 29))<|
 Zg 27 false (.fP 31 2 (.t 1))<|
 Zg 27 false (.ld 32 1 false (.t 31))<|
 Zg 27 false (.call (some 33) false (.c (.fn 186 [] [])) [.t 30,.t 32])<|
 Zg 27 false (.call (some 34) false (.c (.fn 175 [] [])) [.t 33])<|
 Yj 35 27 34<|
 Yc 2 35) .ret⟩
theorem afT:Qe Tryz.prog Tryz.f122=some ams:=by kernel_rfl
def c61:ay:=⟨7,[.cell 2 3 true],Zr (vJ 2)<|Zr (Yz 3 0 127<|
 Zq 5 false 128 []<|
 xw 6 4 5<|
 Zs 3 2 6 .nil) .ret⟩
theorem ajj:Qe Tryz.prog Tryz.f61=some c61:=by kernel_rfl
def c38:ay:=⟨12,[.t 2],Zr (gZ 1 51<|
 Yl 2 0)<|Zr (YC 6 1 5 3<|
 Zm 4 9 .nil)<|Zr (dG 10 2 3 109<|
 Zm 2 11 .nil) .ret⟩
theorem ajk:Qe Tryz.prog Tryz.f38=some c38:=by kernel_rfl
def anG:ay:=⟨40,[.t 4],Zr (YU 2 51<|
 Yl 4 0)<|Zr (Zh 11 3 2<|
 Zh 13 3 3<|
 YY 12 38 11<|
 YY 14 38 13<|
 Zm 5 12<|
 Zm 6 14 .nil)<| .seq (Zr (Ye 15 5 6<|
 Zb 17 .neq 15 16 .nil)<| .cond (.t 17) (.seq (Zr (Ye 18 5 6<|
 Ys 20 18 19)<| .cond (.t 20) (Zr (jX 4) .ret) .skip)<|Zr (Yl 4 1) .ret) .skip)<|Zr (YC 22 2 21 7<|
 Yc 8 25)<|Zr (YC 27 3 26 9<|
 Yc 10 30)<|Zr (Zh 31 2 7<|
 Zm 32 10<|
 Zh 35 2 9<|
 Zm 36 8<|
 YY 33 177 32<|
 Yr 34 173 31 33<|
 YY 37 177 36<|
 Yr 38 173 35 37<|
 Yr 39 224 34 38<|
 Yc 4 39) .ret⟩
theorem afU:Qe Tryz.prog Tryz.f204=some anG:=by kernel_rfl
def ang:ay:=⟨9,[.t 4],Zr (YU 2 51<|
 Yh 4)<|Zr (nV 5 3 2 3 204<|
 oX 8 7 0 4) .ret⟩
theorem afV:Qe Tryz.prog Tryz.f179=some ang:=by kernel_rfl
def anc:ay:=⟨17,[.cell 2 2 true],Zr (sB 2)<|Zr (sA 3)<| .seq (Zr (YP 6 0)<| .block 0<| .loop<|Zr (Ys 9 8 7)<| .seq (.cond (.t 9) .skip (.exit 0))<| .seq (.block 1<|Zr (YI 10 2 6 8<|
 Zo (.alloc 5 2 49 (.agg [.bool false,.al]))<|
 Zs 2 5 11 .nil)<| .rg (nV 12 2 3 5 213<|
 Zs 2 3 14 .nil))<| .rg (YD 15 8 8))<|Zr (Zh 16 2 3<|
 Zs 2 2 16 .nil) .ret⟩
theorem afW:Qe Tryz.prog Tryz.f176=some anc:=by kernel_rfl
def amh:ay:=⟨45,[.cell 4 3 true],Zr (YU 2 51<|
 Yb 4 .nil)<|Zr (YC 10 2 9 5<|
 Zm 6 13 .nil)<|Zr (YC 15 3 14 7<|
 Zm 8 18 .nil)<| .seq (Zr (Yz 19 6 175<|
 YS 21 20 8<|
 Zg 21 true (.call (some 23) false (.c (.fn 175 [] [])) [.t 22])<|
 Yp 24 21 23 .nil)<| .cond (.t 24) (Zr (Zh 25 2 5<|
 Zh 26 2 7<|
 Zo (.bs 27 2 49 [.t 25,.t 26])<|
 Yk 28 176 27<|
 Zm 29 6<|
 Ym 30 129 28 29<|
 jk 3 30) .ret) .skip)<|Zr (Zh 31 2 5<|
 Zm 32 8<|
 Zh 35 2 7<|
 Zm 36 6<|
 Ye 41 6 8<|
 YY 33 177 32<|
 Yr 34 173 31 33<|
 YY 37 177 36<|
 Yr 38 173 35 37<|
 Zo (.bs 39 2 49 [.t 34,.t 38])<|
 YY 40 176 39<|
 Yr 43 174 41 42<|
 ji 44 129 40 43 3 4) .ret⟩
theorem afX:Qe Tryz.prog Tryz.f107=some amh:=by kernel_rfl
def ani:ay:=⟨18,[.cell 4 3 true],Zr (YU 2 51<|
 Yb 4 .nil)<|Zr (Zh 5 3 2<|
 Zf 6 0 3<|
 Yf 7 0 6<|
 Zu 9 8<|
 Zf 10 0 3<|
 Yf 11 1 10<|
 Zo (.eA 13 [.bool false,.al] [(0,1,.t 9),(1,1,.t 12)])<|
 Yf 14 2 3<|
 xw 16 13 15<|
 Ym 17 107 5 16<|
 jk 3 17) .ret⟩
theorem afY:Qe Tryz.prog Tryz.f181=some ani:=by kernel_rfl
def amf:ay:=⟨26,[.cell 4 3 true],Zr (YU 2 51<|
 Yb 4 .nil)<|Zr (YC 10 2 9 5<|
 Zm 6 13 .nil)<|Zr (YC 15 3 14 7<|
 Zm 8 18 .nil)<|Zr (nV 19 2 5 7 173<|
 YL 22 6 8 174<|
 Ym 25 129 21 24<|
 jk 3 25) .ret⟩
theorem afZ:Qe Tryz.prog Tryz.f105=some amf:=by kernel_rfl
def c62:ay:=⟨18,[.cell 2 3 true],Zr (gZ 1 51<|
 vJ 2)<|Zr (YC 6 1 5 3<|
 Zm 4 9 .nil)<|Zr (Yf 10 0 3<|
 Zu 12 11<|
 Yf 13 1 3<|
 Zo (.eA 15 [.bool false,.al] [(0,1,.t 12),(1,1,.t 14)])<|
 Zm 16 4<|
 Ym 17 129 15 16<|
 gK 3 2 17) .ret⟩
theorem ajl:Qe Tryz.prog Tryz.f62=some c62:=by kernel_rfl
def ano:ay:=⟨21,[.cell 4 3 true,.t 5],Zr (sC 2<|
 Yb 4<|
 Yl 5 0)<| .seq (Zr (dG 6 2 3 109<|
 jG 8 7 0)<| .cond (.t 8) (Zr (Zo (.eA 9 [.bool false,.al,.al] [])<|
 Zs 3 4 9<|
 Yl 5 3) .ret) .skip)<|Zr (eS 10 0 2 0 3<|
 Zo (.bin 14 .neq true (.t 11) (.t 13))<|
 Yf 15 1 2<|
 Zo (.eA 17 [.bool false,.al] [(0,1,.t 14),(1,1,.t 16)])<|
 Yf 18 1 3<|
 Ym 20 129 17 19<|
 Zs 3 4 20<|
 Yl 5 0) .ret⟩
theorem af0:Qe Tryz.prog Tryz.f187=some ano:=by kernel_rfl
def amt:ay:=⟨31,[.cell 4 3 true,.t 5],Zr (YU 2 51<|
 Yb 4<|
 Yl 5 0)<|Zr (YC 11 2 10 6<|
 Zm 7 14 .nil)<|Zr (YC 16 3 15 8<|
 Zm 9 19 .nil)<|Zr (Zh 20 2 6<|
 Zm 21 9<|
 Zh 24 2 8<|
 Zm 25 7<|
 YY 22 177 21<|
 Yr 23 173 20 22<|
 YY 26 177 25<|
 Yr 27 173 24 26<|
 Yr 28 187 23 27<|
 Yd 29 28<|
 Zs 3 4 29<|
 Yc 5 30) .ret⟩
theorem af1:Qe Tryz.prog Tryz.f123=some amt:=by kernel_rfl
def anw:ay:=⟨19,[.cell 4 3 true],Zr (Yb 4 .nil)<|Zr (lT 8 127<|
 Ym 12 187 9 11<|
 Zm 7 12<|
 Yd 13 7<|
 Yb 5<|
 Zs 3 5 13<|
 Zm 6 14 .nil)<| .seq (Zr (Zm 15 6<|
 hO 16 15)<| .cond (.t 16) (Zr (jW 17 61 0<|
 jk 3 17) .ret) .skip)<|Zr (Zh 18 3 5<|
 jk 3 18) .ret⟩
theorem af2:Qe Tryz.prog Tryz.f194=some anw:=by kernel_rfl
def TC:ay:=⟨108,[.t 4],Zr (Zo (.box 2 1 47 (.t 0))<|
 Zo (.box 3 1 47 (.t 1))<|
 YE 4)<|Zr (Zl 12 1 3<|
 Zn 13 12<|
 Zo (.alloc 5 1 3 (Zz 0))<|
 Zs 1 5 13 .nil)<|Zr (Zl 14 1 2<|
 Zn 15 14<|
 Zl 16 1 5<|
 Zb 17 .sub 15 16<|
 qZ 18 17 17<|
 Zm 6 18 .nil)<| .seq (Zr (Zl 19 1 2<|
 Zn 20 19<|
 Zl 21 1 5<|
 Zb 22 .sub 20 21<|
 Zk 23 .sub 22 1<|
 Zo (.alloc 7 1 3 (Zz 0))<|
 Zs 1 7 23 .nil)<| .block 0<| .loop<| .seq (Zr (Zl 24 1 7<|
 Zk 25 .geq 24 0 .nil)<| .cond (.t 25) .skip (.exit 0))<| .seq (.block 1<|Zr (Zl 28 1 2<|
 Zl 29 1 7<|
 Zl 30 1 5<|
 cX 31 29 30<|
 YM 32 28 31<|
 lS 34 33<|
 Zo (.bin 35 .shl false (.t 34) (.c (.int .u64 16)))<|
 Zl 36 1 2<|
 Zl 37 1 7<|
 Zl 38 1 5<|
 cX 39 37 38<|
 Zk 40 .sub 39 1<|
 YM 41 36 40<|
 lS 43 42<|
 Zb 44 .or 35 43<|
 Yc 8 44)<|Zr (Zm 45 8<|
 Zl 46 1 3<|
 YJ 47 46<|
 Zl 50 1 49<|
 lS 51 50<|
 Zb 52 .quo 45 51<|
 Zm 53 8<|
 .br (Zl 54 1 3<|
 .br (YJ 55 54<|
 .br (Ya 58<|
 .br (Yq 9<|
 Yq 10<|
 YN 1) (Yq 10<|
 Yq 9<|
 YN 1)) (.br (Yq 9<|
 .br (Ya 58<|
 Yq 10<|
 YN 1) (Yq 10<|
 .br (gg 58) (YQ 1))) (Yq 10<|
 .br (Ya 58<|
 Yq 9<|
 YN 1) (Yq 9<|
 .br (gg 58) (YQ 1))))) (.br (Yq 9<|
 .br (YJ 55 54<|
 .br (Ya 58<|
 Yq 10<|
 YN 1) (Yq 10<|
 .br (gg 58) (YQ 1))) (Yq 10<|
 .br (YJ 55 54<|
 .br (gg 58) (YQ 1)) (Zs 1 9 52<|
 YJ 55 54<|
 Ya 58<|
 Yx 1))) (Yq 10<|
 .br (YJ 55 54<|
 .br (Ya 58<|
 Yq 9<|
 YN 1) (Yq 9<|
 .br (gg 58) (YQ 1))) (Yq 9<|
 .br (YJ 55 54<|
 .br (gg 58) (YQ 1)) (Zs 1 9 52<|
 YJ 55 54<|
 Ya 58<|
 Yx 1))))) (.br (Zl 55 1 5<|
 Zk 56 .sub 55 1<|
 .br (jh 54<|
 .br (Ya 58<|
 .br (Yq 9<|
 Yq 10<|
 YN 1) (Yq 10<|
 Yq 9<|
 YN 1)) (.br (Yq 9<|
 .br (Ya 58<|
 Yq 10<|
 YN 1) (Yq 10<|
 .br (gg 58) (YQ 1))) (Yq 10<|
 .br (Ya 58<|
 Yq 9<|
 YN 1) (Yq 9<|
 .br (gg 58) (YQ 1))))) (.br (Yq 9<|
 .br (jh 54<|
 .br (Ya 58<|
 Yq 10<|
 YN 1) (Yq 10<|
 .br (gg 58) (YQ 1))) (Yq 10<|
 .br (jh 54<|
 .br (gg 58) (YQ 1)) (Zs 1 9 52<|
 jh 54<|
 Ya 58<|
 Yx 1))) (Yq 10<|
 .br (jh 54<|
 .br (Ya 58<|
 Yq 9<|
 YN 1) (Yq 9<|
 .br (gg 58) (YQ 1))) (Yq 9<|
 .br (jh 54<|
 .br (gg 58) (YQ 1)) (Zs 1 9 52<|
 jh 54<|
 Ya 58<|
 Yx 1))))) (.br (Yq 9<|
 .br (Zl 54 1 3<|
 .br (YJ 55 54<|
 .br (Ya 58<|
 Yq 10<|
 YN 1) (Yq 10<|
 .br (gg 58) (YQ 1))) (Yq 10<|
 .br (YJ 55 54<|
 .br (gg 58) (YQ 1)) (Zs 1 9 52<|
 YJ 55 54<|
 Ya 58<|
 Yx 1))) (.br (Zl 55 1 5<|
 Zk 56 .sub 55 1<|
 .br (jh 54<|
 .br (Ya 58<|
 Yq 10<|
 YN 1) (Yq 10<|
 .br (gg 58) (YQ 1))) (Yq 10<|
 .br (jh 54<|
 .br (gg 58) (YQ 1)) (Zs 1 9 52<|
 jh 54<|
 Ya 58<|
 Yx 1))) (Yq 10<|
 .br (Zl 54 1 3<|
 .br (YJ 55 54<|
 .br (gg 58) (YQ 1)) (Zs 1 9 52<|
 YJ 55 54<|
 Ya 58<|
 Yx 1)) (.br (Zl 55 1 5<|
 Zk 56 .sub 55 1<|
 .br (jh 54<|
 .br (gg 58) (YQ 1)) (Zs 1 9 52<|
 jh 54<|
 Ya 58<|
 Yx 1)) (Zs 1 9 52<|
 .br (Zl 54 1 3<|
 YJ 55 54<|
 Ya 58<|
 Yx 1) (Zl 55 1 5<|
 Zk 56 .sub 55 1<|
 jh 54<|
 Ya 58<|
 Yx 1)))))) (Yq 10<|
 .br (Zl 54 1 3<|
 .br (YJ 55 54<|
 .br (Ya 58<|
 Yq 9<|
 YN 1) (Yq 9<|
 .br (gg 58) (YQ 1))) (Yq 9<|
 .br (YJ 55 54<|
 .br (gg 58) (YQ 1)) (Zs 1 9 52<|
 YJ 55 54<|
 Ya 58<|
 Yx 1))) (.br (Zl 55 1 5<|
 Zk 56 .sub 55 1<|
 .br (jh 54<|
 .br (Ya 58<|
 Yq 9<|
 YN 1) (Yq 9<|
 .br (gg 58) (YQ 1))) (Yq 9<|
 .br (jh 54<|
 .br (gg 58) (YQ 1)) (Zs 1 9 52<|
 jh 54<|
 Ya 58<|
 Yx 1))) (Yq 9<|
 .br (Zl 54 1 3<|
 .br (YJ 55 54<|
 .br (gg 58) (YQ 1)) (Zs 1 9 52<|
 YJ 55 54<|
 Ya 58<|
 Yx 1)) (.br (Zl 55 1 5<|
 Zk 56 .sub 55 1<|
 .br (jh 54<|
 .br (gg 58) (YQ 1)) (Zs 1 9 52<|
 jh 54<|
 Ya 58<|
 Yx 1)) (Zs 1 9 52<|
 .br (Zl 54 1 3<|
 YJ 55 54<|
 Ya 58<|
 Yx 1) (Zl 55 1 5<|
 Zk 56 .sub 55 1<|
 jh 54<|
 Ya 58<|
 Yx 1)))))))))<|Zr (Zo (.fn 61 230 [] [.t 9,.t 3,.t 5,.t 10,.t 2,.t 7])<|
 Yc 11 61)<| .seq (.block 2<| .loop<| .seq (Zr (Zl 62 1 10<|
 Zo (.bin 63 .lss false (.t 62) (.c (.int .u64 65536)))<|
 YS 64 63 11<|
 Zg 64 true (.call (some 66) false (.t 65) [])<|
 Yp 67 64 66 .nil)<| .cond (.t 67) .skip (.exit 2))<| .block 3<|Zr (Zl 68 1 9<|
 Zo (.bin 69 .sub false (.t 68) (.c (.int .u64 1)))<|
 Zs 1 9 69 .nil)<| .rg (Zl 70 1 10<|
 Zl 71 1 3<|
 YJ 72 71<|
 Zl 75 1 74<|
 lS 76 75<|
 cX 77 70 76<|
 Zs 1 10 77 .nil))<| .seq (Zr (Zl 78 1 2<|
 Zl 79 1 7<|
 Zl 80 1 7<|
 Zl 81 1 5<|
 cX 82 80 81<|
 Zk 83 .add 82 1<|
 Zo (.sl 84 1 (.t 78) (some (.t 79)) (some (.t 83)) none)<|
 Zl 85 1 3<|
 Zl 86 1 9<|
 kX 87 86<|
 Zq 88 false 231 [.t 84,.t 85,.t 87] .nil)<| .cond (.t 88) (Zr (Zl 89 1 9<|
 Zo (.bin 90 .sub false (.t 89) (.c (.int .u64 1)))<|
 Zs 1 9 90 .nil)<| .rg (Zl 91 1 2<|
 Zl 92 1 7<|
 Zl 93 1 7<|
 Zl 94 1 5<|
 cX 95 93 94<|
 Zk 96 .add 95 1<|
 Zo (.sl 97 1 (.t 91) (some (.t 92)) (some (.t 96)) none)<|
 Zl 98 1 3<|
 Ym 99 232 97 98 .nil)) .skip)<| .rg (Zm 100 6<|
 Zl 101 1 7<|
 Zl 102 1 9<|
 YV 103 102 100 101))<| .seq (Zr (Zl 105 1 7 .nil)<| .rg (Zo (.alloc 7 1 3 (Zz 0))<|
 Zs 1 7 105 .nil))<| .rg (Zl 26 1 7<|
 Zk 27 .sub 26 1<|
 Zs 1 7 27 .nil))<|Zr (Yz 106 6 212<|
 Yc 4 107) .ret⟩
theorem af3:Qe Tryz.prog Tryz.f222=some TC:=by kernel_rfl
theorem iJ{l:List Nat}(hv:Qj l)(hl:l.length<2^42):Qd Tryz.prog 212 [PV.nat l] (· =PV.num (val l)):=by
 refine aE Qg Tryz.func212 OZ fun C hP=> ?_
 refine Sz0 ?_
 refine rV (fun m fr hp=>m<=l.length/\cut l m=ak (val l)/\fr 0=PV.nat l/\fr 3= .int .i64 m/\hp=aA) l.length ?_ ?_
 ·exact⟨Kaf _,By hv,rfl,rfl,rfl⟩
 rintro n fr _ ⟨hn,hc,h0,h3,rfl⟩
 refine Sz2 h0 h3 ?_
 refine fV (fun hg=> ?_) (fun hg=> ?_)
 ·simp+decide (disch:=first|omega|rfl|(simp+decide only[go_sem,h0,h3,zf,ve]<;>rfl)|fail) only[go_sem,h0,h3,zf,ve]
  obtain _|n:=n
  ·omega
  have e:((n+1:Nat):Int)-1=n:=by omega
  simp only[cut]at hc
  refine Qa (fun hz=> ?_) (fun hz=> ?_)
  ·rw[if_pos (by grind)]at hc
   simp+decide (disch:=try exact D3 h0 h3 e) only[go_sem,h0,h3,e]
   refine oB (m:=n) Oz ⟨by omega,hc,?_⟩
   exact Tz3 h0 @true_and @and_true
  ·refine Sz3 h0 h3 @IT ?_
   rw[if_neg (by grind)]at hc
   exact Qc (by simp[hc]) rfl
 ·obtain rfl:n=0:=by omega
  refine Sz3 h0 h3 @IT ?_
  exact Qc (by simp[<-hc,cut]) rfl
theorem AZ{l:List Nat}(hv:Qj l)(hl:l.length<2^42):Qd Tryz.prog 190 [PV.nat l] (· =PV.num (val l)):=by
 have hd:=bZ hv
 unfold nl at hd
 refine aE Qg Tryz.func190 afo fun C hP=> ?_
 refine Sz0 ?_
 refine Qb hP (iJ hv hl) ?_
 refine Sz0 ?_
 refine Qa (fun hz=> ?_) (fun hz=> ?_)
 ·refine Sz0 ?_
  have:ak (val l)=[]:=KaE.1 Oz
  exact oI (by rw[PV.num,this];exact ah7) rfl
 ·refine Sz0 ?_
  rw[aeK rfl (by simp)]
  refine Sz0 ?_
  exact Fe rfl (by simp[Kac])
theorem Fm{n:Nat}(hn:n<18446744073709551616):Qd Tryz.prog 189 [.int .u64 n] (· =PV.num n):=by
 have hlen:=oH hn
 unfold nl at hlen
 refine aE Qg Tryz.func189 afp fun C hP=> ?_
 refine Sz0 ?_
 refine AU (fun m fr hp=>∃done:List Nat,ak n=done++ak m/\m<=n/\fr 0= .int .u64 m/\fr 3= .ms 12 done.length/\hp 12=some ⟨1,155,done.map fun(x:Nat)=> .int .u16 x,false⟩) n (PA 3 12 1 155 Oz ?_) ?_ ?_
 ·exact Tz0
 ·refine⟨[],?_⟩
  simp+decide (disch:=first|omega|rfl|(simp+decide only[go_sem,KaQ,Kbw,Kbn,true_and,and_true,Kaf]<;>rfl)|fail) only[go_sem,KaQ,Kbw,Kbn,true_and,and_true,Kaf]
 rintro m fr hp ⟨done,hd,hm,h0,h3,hh⟩
 rw[hd,Kax]at hlen
 refine Sz1 h0 ?_
 refine Qa (fun hz=> ?_) (fun hz=> ?_)
 ·have aH:m≠0:=by omega
  have m9:ak n=(done++[m%65536])++ak (m/65536):=by rw[hd,u7 aH];simp
  refine Sz2 h0 h3 ?_
  rw[EF (xs:=done.map fun(x:Nat)=> .int .u16 x) (Tz1 hh) rfl Oz (by simp) Oz Oz]
  refine Sz4 h0 h3 @Rm @L8 ?_
  refine oB (m:=m/65536) Oz ⟨done++[m%65536],m9,by omega,?_⟩
  refine Sz3 h0 h3 hh ?_
  simp
 ·obtain rfl:m=0:=by omega
  refine Sz1 h3 ?_
  exact Fe hh (by simp[PV.num,PV.nat,hd,fI,Kac])
theorem Ey{a b:List Nat}(ha:Qj a)(hb:Qj b)(bG:a.length<2^40)(dx:b.length<2^40):Qd Tryz.prog 218 [PV.nat a,PV.nat b] (· = .int .i64 (gY (val a) (val b))):=by
 have gM:=bZ ha
 have jq:=bZ hb
 have Vc:= @Nn (val a) (val b)
 have Vd:= @Nn (val b) (val a)
 have aqm:=Qk (val a)
 have aqn:=Qk (val b)
 have hva:=Qw (val a)
 have hvb:=Qw (val b)
 unfold nl at gM jq Vc Vd
 refine aE Qg Tryz.func218 afs fun C hP=> ?_
 refine Sz0 ?_
 refine Qb hP (iJ ha Oz) ?_
 refine Sz0 ?_
 refine Qb hP (iJ hb Oz) ?_
 refine Sz0 ?_
 generalize val a=x at *
 generalize val b=y at *
 refine Qa (fun hz=> ?_) (fun hz=> ?_)
 ·refine Sz0 ?_
  refine Qa (fun hz=> ?_) (fun hz=> ?_)
  ·refine Sz0 ?_
   exact Qc (by rw[JK (Vc Oz)]) rfl
  ·refine Sz0 ?_
   exact Qc (by rw[JL (Vd Oz)]) rfl
 refine Sz0 ?_
 refine rV (fun m fr hp=>m<=(ak x).length/\val ((ak x).drop m)=val ((ak y).drop m)/\fr 0=PV.num x/\fr 1=PV.num y/\fr 5= .int .i64 ((m:Int)-1)/\hp=aA) (ak x).length ?_ ?_
 ·refine⟨Kaf _,?_,?_⟩
  ·rw[Kan (Kaf _),Kan Oz]
  ·exact Tz2 @true_and @and_true
 rintro m fr _ ⟨hm,hd,h0,h1,h5,rfl⟩
 refine Sz3 h0 h1 h5 ?_
 refine Qa (fun hg=> ?_) (fun hg=> ?_)
 ·obtain _|m:=m
  ·omega
  have e:((m+1:Nat):Int)-1=m:=by omega
  have ob:m<(ak x).length:=by omega
  have nh:m<(ak y).length:=by omega
  simp+decide (disch:=try exact D4 h0 h1 h5 e) only[go_sem,h0,h1,h5,e]
  refine Qa (fun hq=> ?_) (fun hq=> ?_)
  ·refine Sz0 ?_
   exact Qc (by rw[JK];have:=Ma aqm ob nh Oz hd;omega) rfl
  simp+decide (disch:=try exact D4 h0 h1 h5 e) only[go_sem,h0,h1,h5,e]
  refine Qa (fun wj=> ?_) (fun wj=> ?_)
  ·refine Sz0 ?_
   exact Qc (by rw[JL];have:=Ma aqn nh ob Oz hd.symm;omega) rfl
  refine Sz4 h0 h1 h5 e ?_
  refine oB (m:=m) Oz ⟨by omega,?_,?_⟩
  ·rw[mD ob,mD nh,hd];omega
  ·exact Tz4 h0 h1 @true_and @and_true
 ·obtain rfl:m=0:=by omega
  refine Sz0 ?_
  refine Qc ?_ rfl
  rw[OI]
  simp at hd;omega
theorem ada{a b:List Nat}(ha:Qj a)(hb:Qj b)(bG:a.length<2^40)(dx:b.length<2^40):Qd Tryz.prog 227 [PV.nat a,PV.nat b] (· =PV.num (val a+val b)):=by
 have gM:=bZ ha
 have jq:=bZ hb
 unfold nl at gM jq
 refine aE Qg Tryz.func227 aft fun C hP=> ?_
 refine Sz0 ?_
 refine Qb hP (iJ ha Oz) ?_
 refine Sz0 ?_
 refine Qb hP (iJ hb Oz) ?_
 refine Sz0 ?_
 generalize val a=x0 at *
 generalize val b=y0 at *
 refine wS (fun fr hp=>∃x y,x+y=x0+y0/\(ak x).length<2^40/\(ak y).length<=(ak x).length/\fr 0=PV.num x/\fr 1=PV.num y/\hp=aA) ?_ ?_
 ·refine Qa (fun hz=> ?_) (fun hz=> ?_)
  ·refine Sz0 ?_
   refine⟨y0,x0,by omega,by omega,by omega,?_⟩
   exact Tz2 @true_and @and_true
  ·refine Sz0 ?_
   refine⟨x0,y0,by omega,by omega,by omega,?_⟩
   exact Tz2 @true_and @and_true
 rintro fr _ ⟨x,y,pw,hx,hy,h0,h1,rfl⟩
 rw[<-pw]
 clear pw gM jq
 have dN:=Qk x
 have mi:=Qk y
 refine Sz2 h0 h1 ?_
 refine rV (fun m fr hp=>∃i c done,m=(ak x).length-i/\i<=(ak x).length/\c<=1/\done.length=i/\done++jD ((ak x).drop i) ((ak y).drop i) c=ak (x+y)/\
  fr 1=PV.num y/\fr 5= .ms 25 (ak x).length/\fr 6= .int .u32 c/\fr 26=PV.num x/\fr 27= .int .i64 (ak x).length/\fr 28= .int .i64 i/\hp=Qi aA 25 ⟨1,155,cj (done++List.replicate ((ak x).length-i) 0),false⟩) (ak x).length ?_ ?_
 ·refine⟨0,0,[],rfl,by omega,by omega,rfl,by simpa using ac5 hy,?_⟩
  simp+decide (disch:=first|omega|rfl|(simp+decide only[go_sem,h0,h1,true_and,and_true,Kcm,KaQ]<;>rfl)|fail) only[go_sem,h0,h1,true_and,and_true,Kcm,KaQ]
  simp
 rintro _ fr _ ⟨i,c,done,rfl,hi,hc,fl,hd,h1,h5,h6,vQ,vR,vS,rfl⟩
 refine Sz3 vQ vR vS ?_
 refine Qa (fun hg=> ?_) (fun hg=> ?_)
 ·have ao:i<(ak x).length:=by omega
  have fE:=ek dN ao
  rw[abb ao]at hd
  have hlen:=Jj (n:=(ak x).length-i) fl (by omega:_=(ak x).length)
  simp+decide (disch:=try exact D6 h1 h5 h6 vQ vR vS) only[go_sem,h1,h5,h6,vQ,vR,vS]
  refine Qa (fun hq=> ?_) (fun hq=> ?_)
  ·have js:i<(ak y).length:=by omega
   have wy:=ek mi js
   rw[gD js]at hd
   simp+decide (disch:=try exact D6 h1 h5 h6 vQ vR vS) only[go_sem,h1,h5,h6,vQ,vR,vS]
   refine oB (m:=(ak x).length-(i+1)) Oz ⟨i+1,_,_,rfl,by omega,?_,?_,(KbP ..).symm.trans hd,?_⟩
   ·omega
   ·simp[fl]
   ·exact Tz10 h1 h5 h6 vQ vR vS @true_and @and_true @Bi @Nat.sub_sub
  ·rw[gE Oz]at hd
   refine Sz6 h1 h5 h6 vQ vR vS ?_
   refine oB (m:=(ak x).length-(i+1)) Oz ⟨i+1,_,_,rfl,by omega,?_,?_,(KbP ..).symm.trans hd,?_⟩
   ·omega
   ·simp[fl]
   ·exact Tz11 h1 h5 h6 vQ vR vS @true_and @and_true @Bi @Nat.sub_sub @Nat.add_zero
 ·obtain rfl:i=(ak x).length:=by omega
  rw[Kan (Kaf _),Kan hy]at hd
  simp+decide (disch:=first|omega|rfl|(simp+decide only[go_sem,h5,h6,KbD,Ka8,Kam]<;>rfl)|fail) only[go_sem,h5,h6,KbD,Ka8,Kam]
  refine Qa (fun hq=> ?_) (fun hq=> ?_)
  ·refine Sz2 h5 h6 ?_
   rw[EF (xs:=cj done) Tz0 rfl Oz (by simp[fl]) Oz Oz]
   refine Sz1 h5 ?_
   refine Fe rfl ?_
   rw[jD,if_neg Oz]at hd
   rw[PV.num,<-hd]
   simp[cj,fl,Kac]
   omega
  ·refine Sz1 h5 ?_
   refine Fe rfl ?_
   rw[jD,if_pos Oz]at hd
   rw[PV.num,<-hd]
   simp[cj,fl,Kac]
theorem Nh{a b:List Nat}(ha:Qj a)(hb:Qj b)(bG:a.length<2^40)(dx:b.length<2^40)(hle:val b<=val a):Qd Tryz.prog 228 [PV.nat a,PV.nat b] (· = .aI [PV.num (val a-val b),.int .i64 0]):=by
 have gM:=bZ ha
 have jq:=bZ hb
 have gQ:=gC hle
 unfold nl at gM jq gQ
 refine aE Qg Tryz.func228 afu fun C hP=> ?_
 refine Sz0 ?_
 refine Qb hP (Ey ha hb bG dx) ?_
 have apG:¬gY (val a) (val b)<0:=by unfold gY;split<;>(try split)<;>omega
 refine Sz0 ?_
 refine Qa (fun hz=>absurd hz apG) (fun hz=> ?_)
 refine Sz0 ?_
 refine Qb hP (iJ ha Oz) ?_
 refine Sz0 ?_
 refine Qb hP (iJ hb Oz) ?_
 refine Sz0 ?_
 generalize val a=x at *
 generalize val b=y at *
 have dN:=Qk x
 have mi:=Qk y
 have eR:=Np (ak x) (ak y) 0 Oz dN mi gQ (by rw[Qw,Qw];exact hle)
 rw[Qw,Qw,KaX]at eR
 have nn:=R9 (ak x) (ak y) 0
 have CI:=RH (ak x) (ak y) 0
 refine rV (fun m fr hp=>∃i c done,m=(ak x).length-i/\i<=(ak x).length/\c<=1/\done.length=i/\done++mO ((ak x).drop i) ((ak y).drop i) c=mO (ak x) (ak y) 0/\
  fr 1=PV.num y/\fr 6= .ms 21 (ak x).length/\fr 7= .int .i32 (c:Nat)/\fr 22=PV.num x/\fr 23= .int .i64 (ak x).length/\fr 24= .int .i64 i/\hp=Qi aA 21 ⟨1,155,cj (done++List.replicate ((ak x).length-i) 0),false⟩) (ak x).length ?_ ?_
 ·refine⟨0,0,[],rfl,by omega,by omega,rfl,rfl,?_⟩
  simp+decide (disch:=first|omega|rfl|(simp+decide only[go_sem,true_and,and_true,Kcm,KaQ]<;>rfl)|fail) only[go_sem,true_and,and_true,Kcm,KaQ]
  simp
 rintro _ fr _ ⟨i,c,done,rfl,hi,hc,fl,hd,h1,h6,h7,m7,m8,iD,rfl⟩
 refine Sz3 m7 m8 iD ?_
 refine Qa (fun hg=> ?_) (fun hg=> ?_)
 ·have ao:i<(ak x).length:=by omega
  have fE:=ek dN ao
  rw[abc ao]at hd
  have hlen:=Jj (n:=(ak x).length-i) fl (by omega:_=(ak x).length)
  simp+decide (disch:=try exact D6 h1 h6 h7 m7 m8 iD) only[go_sem,h1,h6,h7,m7,m8,iD]
  refine wS (fun fr hp=>fr 1=PV.num y/\fr 6= .ms 21 (ak x).length/\fr 8= .int .i64 i/\fr 10= .int .i32 ((ak x)[i]-(c:Int)-((ak y).getD i 0:Nat))/\(ak y).getD i 0<65536/\fr 22=PV.num x/\fr 23= .int .i64 (ak x).length/\fr 24= .int .i64 i/\hp=Qi aA 21 ⟨1,155,cj (done++List.replicate ((ak x).length-i) 0),false⟩) ?_ ?_
  ·refine Qa (fun hq=> ?_) (fun hq=> ?_)
   ·have js:i<(ak y).length:=by omega
    have wy:=ek mi js
    simp+decide (disch:=first|omega|rfl|(simp+decide only[go_sem,h1,h6,h7,m7,m8,iD,gD js,true_and,and_true]<;>rfl)|fail) only[go_sem,h1,h6,h7,m7,m8,iD,gD js,true_and,and_true]
    exact wy
   ·simp+decide (disch:=first|omega|rfl|(simp+decide only[go_sem,h1,h6,h7,m7,m8,iD,true_and,and_true,gE (by omega:¬i<(ak y).length)]<;>rfl)|fail) only[go_sem,h1,h6,h7,m7,m8,iD,true_and,and_true,gE (by omega:¬i<(ak y).length)]
    simp
  clear h1 h6 m7 m8 iD
  rintro fr _ ⟨h1,h6,h8,bl,wy,m7,m8,iD,rfl⟩
  generalize hw:(ak y).getD i 0=yi at *
  refine Sz1 bl ?_
  refine wS (fun fr hp=>fr 1=PV.num y/\fr 6= .ms 21 (ak x).length/\fr 8= .int .i64 i/\fr 10= .int .i32 (((ak x)[i]+65536-c-yi)%65536:Nat)/\fr 7= .int .i32 ((if(ak x)[i]<c+yi then 1 else 0):Nat)/\fr 22=PV.num x/\fr 23= .int .i64 (ak x).length/\fr 24= .int .i64 i/\hp=Qi aA 21 ⟨1,155,cj (done++List.replicate ((ak x).length-i) 0),false⟩) ?_ ?_
  ·refine Qa (fun hq=> ?_) (fun hq=> ?_)
   ·rw[if_pos Oz]
    refine Sz9 h1 h6 h8 bl m7 m8 iD @true_and @and_true ?_
    simp;omega
   ·rw[if_neg Oz]
    refine Sz9 h1 h6 h8 bl m7 m8 iD @true_and @and_true ?_
    simp;omega
  clear h1 h6 h8 bl m7 m8 iD
  rintro fr _ ⟨h1,h6,h8,bl,h7,m7,m8,iD,rfl⟩
  refine Sz8 h1 h6 h7 h8 bl m7 m8 iD ?_
  refine oB (m:=(ak x).length-(i+1)) Oz ⟨i+1,_,_,rfl,by omega,?_,?_,(KbP ..).symm.trans hd,?_⟩
  ·split<;>omega
  ·simp[fl]
  ·exact Tz13 h1 h6 h7 h8 bl m7 m8 iD @true_and @and_true @Bi @Nat.sub_sub @Nat.mod_mod
 ·obtain rfl:i=(ak x).length:=by omega
  rw[Kan (Kaf _),mO,Kam]at hd
  simp+decide (disch:=first|omega|rfl|(simp+decide only[go_sem,h6,KbD,Ka8,Kam]<;>rfl)|fail) only[go_sem,h6,KbD,Ka8,Kam]
  rw[hd]
  refine wR hP (iJ nn Oz) (Bj rfl CI.symm) rfl fun hp'=> ?_
  refine Sz0 ?_
  exact gI rfl rfl rfl (uW (by rw[show val (mO (ak x) (ak y) 0)=x-y by omega])) (Qn _)
theorem EA{a b:List Nat}(ha:Qj a)(hb:Qj b)(bG:a.length<2^40)(dx:b.length<2^40):Qd Tryz.prog 174 [PV.nat a,PV.nat b] (· =PV.num (val a*val b)):=by
 have gM:=bZ ha
 have jq:=bZ hb
 unfold nl at gM jq
 refine aE Qg Tryz.func174 afv fun C hP=> ?_
 refine Sz0 ?_
 refine Qb hP (iJ ha Oz) ?_
 refine Sz0 ?_
 refine Qb hP (iJ hb Oz) ?_
 refine Sz0 ?_
 generalize val a=x at *
 generalize val b=y at *
 have dN:=Qk x
 have mi:=Qk y
 refine Qx (fun hz=> ?_) (fun hz=> ?_)
 ·refine Sz0 ?_
  have:=qz (by omega:(ak x).length=0)
  rw[kP]at this
  exact oI (BA (by simp[this])) rfl
 refine Sz0 ?_
 refine Qa (fun Ag=> ?_) (fun Ag=> ?_)
 ·refine Sz0 ?_
  have:=qz (by omega:(ak y).length=0)
  rw[kP]at this
  exact oI (BA (by simp[this])) rfl
 refine Sz0 ?_
 refine rV (fun m fr hp=>∃i lo,m=(ak x).length-i/\i<=(ak x).length/\Qj lo/\lo.length=i+(ak y).length/\val lo=val ((ak x).take i)*val (ak y)/\
  fr 1=PV.num y/\fr 5= .ms 28 ((ak x).length+(ak y).length)/\fr 29=PV.num x/\fr 30= .int .i64 (ak x).length/\fr 31= .int .i64 i/\hp=Qi aA 28 ⟨1,155,cj (lo++List.replicate ((ak x).length-i) 0),false⟩) (ak x).length ?_ ?_
 ·refine⟨0,List.replicate (ak y).length 0,rfl,by omega,?_,by simp,by simp[L9,val],?_⟩
  ·intro z hz;rw[Kcy hz];omega
  ·refine Sz3 @true_and @and_true @Nat.sub_zero ?_
   simp[KbO]
 rintro _ fr _ ⟨i,lo,rfl,hi,sM,K0,hv,h1,h5,ud,jm,nY,rfl⟩
 refine Sz3 ud jm nY ?_
 refine Qa (fun hg=> ?_) (fun hg=> ?_)
 ·have ao:i<(ak x).length:=by omega
  have fE:=ek dN ao
  have rF:=ac6 ao K0 hv
  have CG:Qj (lo.take i++ko (lo.drop i) (ak y) (ak x)[i] 0):=oz.2 ⟨yM sM i,Sb _ _ _ _ Oz fE (AH sM i) mi⟩
  have asz:(lo.take i++ko (lo.drop i) (ak y) (ak x)[i] 0).length=i+(ak y).length+1:=by
   rw[Kax,RI _ _ _ _ (by simp[K0])];simp;omega
  generalize dJ:(ak x)[i]=xi at *
  refine Sz6 h1 h5 ud jm nY dJ ?_
  refine rV (fun m fr hp=>∃k c p rs,m=(ak y).length-k/\k<=(ak y).length/\c<65536/\Qj rs/\p.length=i+k/\rs.length=(ak y).length-k/\p++ko rs ((ak y).drop k) xi c=lo.take i++ko (lo.drop i) (ak y) xi 0/\
   fr 1=PV.num y/\fr 5= .ms 28 ((ak x).length+(ak y).length)/\fr 6= .int .i64 i/\fr 7= .int .u16 xi/\fr 8= .int .u32 c/\fr 29=PV.num x/\fr 30= .int .i64 (ak x).length/\fr 31= .int .i64 i/\fr 36=PV.num y/\fr 37= .int .i64 (ak y).length/\fr 38= .int .i64 k/\
   hp=Qi aA 28 ⟨1,155,cj (p++(rs++List.replicate ((ak x).length-i) 0)),false⟩) (ak y).length ?_ ?_
  ·refine⟨0,0,lo.take i,lo.drop i,rfl,by omega,by omega,AH sM i,by simp;omega,by simp;omega,rfl,?_⟩
   refine Sz7 h1 h5 ud jm nY @true_and @and_true ?_
   rw[<-List.append_assoc,Kbx]
   simp
  clear h1 h5 ud jm nY
  rintro _ fr _ ⟨k,c,p,rs,rfl,hk,hc,dD,bx,dh,hinv,h1,h5,h6,h7,h8,ud,jm,nY,ri,FZ,F2,rfl⟩
  refine Sz3 ri FZ F2 ?_
  refine Qa (fun hq=> ?_) (fun hq=> ?_)
  ·have cf:k<(ak y).length:=by omega
   have hyk:=ek mi cf
   rw[Kaw cf]at hinv
   generalize VI:(ak y)[k]=yk at *
   obtain _|⟨r,rs⟩:=rs
   ·simp at dh;omega
   rw[ix]at dD
   have dp:=dD.1
   have CW:=uT fE hyk
   rw[ko]at hinv
   have au:i+k<(p++r::(rs++List.replicate ((ak x).length-i) 0)).length:=by simp;omega
   have eL:=Ff bx au
   simp+decide (disch:=first|omega|rfl|(simp+decide only[go_sem,h1,h5,h6,h7,h8,ri,FZ,F2,VI,KaU,eL]<;>rfl)|fail) only[go_sem,h1,h5,h6,h7,h8,ri,FZ,F2,VI,KaU,eL]
   refine oB (m:=(ak y).length-(k+1)) Oz ⟨k+1,_,_,_,rfl,by omega,?_,dD.2,?_,?_,(KbP ..).symm.trans hinv,?_⟩
   ·omega
   ·simp[bx];omega
   ·simp at dh;omega
   ·refine Sz14 h1 h5 h6 h7 h8 ud jm nY ri FZ F2 @true_and @and_true @oJ ?_
    simp
  ·obtain rfl:k=(ak y).length:=by omega
   obtain rfl:rs=[]:=KaE.1 Oz
   rw[Kan (Kaf _),ko]at hinv
   rotate_left
   ·intros;simp_all
   obtain⟨z,hz⟩:∃z,(ak x).length-i=z+1:=⟨(ak x).length-i-1,by omega⟩
   have au:i+(ak y).length<(p++0::(List.replicate z 0)).length:=by simp;omega
   simp+decide (disch:=first|omega|rfl|(simp+decide only[go_sem,h1,h5,h6,h8,ud,jm,nY,KaQ,hz,KbH]<;>rfl)|fail) only[go_sem,h1,h5,h6,h8,ud,jm,nY,KaQ,hz,KbH]
   refine oB (m:=(ak x).length-(i+1)) Oz ⟨i+1,lo.take i++ko (lo.drop i) (ak y) xi 0,rfl,by omega,CG,by omega,?_,?_⟩
   ·rw[rF]
   ·refine Sz8 h1 h5 ud jm nY @true_and @and_true @oJ ?_
    rw[<-hinv,show(ak x).length-(i+1)=z by omega,KaO hc]
    simp
 ·obtain rfl:i=(ak x).length:=by omega
  rw[KaH,Qw,Qw]at hv
  simp+decide (disch:=first|omega|rfl|(simp+decide only[go_sem,h5,KbD,Ka8,Kam]<;>rfl)|fail) only[go_sem,h5,KbD,Ka8,Kam]
  refine wR hP (iJ sM Oz) (Bj rfl K0.symm) rfl fun hp'=> ?_
  refine Sz0 ?_
  exact Qc (by rw[hv]) rfl
theorem WU{pre w post v:List Nat}{j m:Nat}(hw:Qj w)(hv:Qj v)(hj:pre.length=j)(hm:w.length=m)(hle:v.length<=w.length)(hlen:(pre++(w++post)).length<2^43):
  zg Tryz.prog 232 [.aB B0 j m,PV.nat v] 155 (cj (pre++(w++post))) (fun r xs'=>r= .aI []/\xs'=cj (pre++(kV w v 0++post))):=by
 simp only[Kax]at hlen
 refine Ei Qg Tryz.func232 rfl afA Nz fun C hP=> ?_;simp only[TE];refine ic ?_
 refine Sz0 ?_
 refine rV (fun k fr hp=>∃i c done,k=w.length-i/\i<=w.length/\c<=1/\done.length=i/\done++kV (w.drop i) (v.drop i) c=kV w v 0/\
  fr 0= .aB 1000000 j m/\fr 1=PV.nat v/\fr 4= .int .u32 c/\fr 7= .int .i64 m/\fr 8= .int .i64 i/\hp=Qi aA 1000000 ⟨1,155,cj ((pre++done)++(w.drop i++post)),false⟩) w.length ?_ ?_
 ·refine⟨0,0,[],rfl,by omega,by omega,rfl,rfl,?_⟩
  simp+decide (disch:=first|omega|rfl|(simp+decide only[go_sem,true_and,and_true,Kam,Ka6]<;>rfl)|fail) only[go_sem,true_and,and_true,Kam,Ka6]
  simp
 rintro _ fr _ ⟨i,c,done,rfl,hi,hc,fl,hd,h0,h1,h4,h7,h8,rfl⟩
 refine Sz2 h7 h8 ?_
 refine Qa (fun hg=> ?_) (fun hg=> ?_)
 ·have ao:i<w.length:=by omega
  have Lp:=ek hw ao
  rw[aaT ao]at hd
  have bx:(pre++done).length=j+i:=by simp[hj,fl]
  rw[Kaw ao]
  generalize hww:w[i]=wi at *
  have au:j+i<((pre++done)++wi::(w.drop (i+1)++post)).length:=by simp;omega
  have eL:=Ff bx au
  simp+decide (disch:=first|omega|rfl|(simp+decide only[go_sem,h0,h1,h4,h7,h8,KaU,eL]<;>rfl)|fail) only[go_sem,h0,h1,h4,h7,h8,KaU,eL]
  refine Qa (fun hq=> ?_) (fun hq=> ?_)
  ·have js:i<v.length:=by omega
   have VB:=ek hv js
   rw[gD js]at hd
   simp+decide (disch:=first|omega|rfl|(simp+decide only[go_sem,h0,h1,h4,h7,h8,oJ]<;>rfl)|fail) only[go_sem,h0,h1,h4,h7,h8,oJ]
   refine oB (m:=w.length-(i+1)) Oz ⟨i+1,_,_,rfl,by omega,?_,?_,(KbP ..).symm.trans hd,?_⟩
   ·omega
   ·simp[fl]
   ·refine Sz8 h0 h1 h4 h7 h8 @true_and @and_true @oJ ?_
    simp
  ·rw[gE Oz]at hd
   refine Sz6 h0 h1 h4 h7 h8 @oJ ?_
   refine oB (m:=w.length-(i+1)) Oz ⟨i+1,_,_,rfl,by omega,?_,?_,(KbP ..).symm.trans hd,?_⟩
   ·omega
   ·simp[fl]
   ·refine Sz8 h0 h1 h4 h7 h8 @true_and @and_true @oJ ?_
    simp
 ·obtain rfl:i=w.length:=by omega
  rw[Kan (Kaf _),kV,Kam]at hd
  refine Sz0 ?_
  refine aiP rfl (rW _) ?_ ⟨rfl,?_⟩
  ·simp[fl]
  ·rw[Kan (Kaf _),hd];simp
theorem Wv{pre w post v:List Nat}{j m q:Nat}(hw:Qj w)(hv:Qj v)(hq:q<65536)(hj:pre.length=j)(hm:w.length=m)(hle:v.length<=w.length)(hlen:(pre++(w++post)).length<2^43):
  zg Tryz.prog 231 [.aB B0 j m,PV.nat v,.int .u32 q] 155 (cj (pre++(w++post))) (fun r xs'=>r= .bool (decide (0<(fe w v q 0 0).2.2))/\xs'=cj (pre++((fe w v q 0 0).1++post))):=by
 simp only[Kax]at hlen
 refine Ei Qg Tryz.func231 rfl afz Nz fun C hP=> ?_;simp only[TD];refine ic ?_
 refine Sz0 ?_
 refine rV (fun k fr hp=>∃i c b done,k=w.length-i/\i<=w.length/\c<65536/\b<=1/\done.length=i/\done++(fe (w.drop i) (v.drop i) q c b).1=(fe w v q 0 0).1/\(fe (w.drop i) (v.drop i) q c b).2=(fe w v q 0 0).2/\
  fr 0= .aB 1000000 j m/\fr 1=PV.nat v/\fr 2= .int .u32 q/\fr 7= .int .u32 c/\fr 8= .int .i32 (b:Nat)/\fr 12= .int .i64 m/\fr 13= .int .i64 i/\hp=Qi aA 1000000 ⟨1,155,cj ((pre++done)++(w.drop i++post)),false⟩) w.length ?_ ?_
 ·refine⟨0,0,0,[],rfl,by omega,by omega,by omega,rfl,rfl,rfl,?_⟩
  simp+decide (disch:=first|omega|rfl|(simp+decide only[go_sem,true_and,and_true,Kam,Ka6]<;>rfl)|fail) only[go_sem,true_and,and_true,Kam,Ka6]
  simp
 rintro _ fr _ ⟨i,c,b,done,rfl,hi,hc,hb,fl,hd,m9,h0,h1,h2,h7,h8,eY,eB,rfl⟩
 refine Sz2 eY eB ?_
 refine Qa (fun hg=> ?_) (fun hg=> ?_)
 ·have ao:i<w.length:=by omega
  have Lp:=ek hw ao
  rw[aaU ao]at hd m9
  simp only at hd m9
  have bx:(pre++done).length=j+i:=by simp[hj,fl]
  rw[Kaw ao]
  generalize hww:w[i]=wi at *
  have au:j+i<((pre++done)++wi::(w.drop (i+1)++post)).length:=by simp;omega
  have eL:=Ff bx au
  simp+decide (disch:=first|omega|rfl|(simp+decide only[go_sem,h0,h1,h2,h7,h8,eY,eB,KaU,eL]<;>rfl)|fail) only[go_sem,h0,h1,h2,h7,h8,eY,eB,KaU,eL]
  refine wS (fun fr hp=>c+q*v.getD i 0<=4294967295/\fr 0= .aB 1000000 j m/\fr 1=PV.nat v/\fr 2= .int .u32 q/\fr 7= .int .u32 (c+q*v.getD i 0:Nat)/\fr 8= .int .i32 (b:Nat)/\fr 9= .int .i64 i/\fr 12= .int .i64 m/\fr 13= .int .i64 i/\hp=Qi aA 1000000 ⟨1,155,cj ((pre++done)++wi::(w.drop (i+1)++post)),false⟩) ?_ ?_
  ·refine Qa (fun sR=> ?_) (fun sR=> ?_)
   ·have js:i<v.length:=by omega
    have VB:=ek hv js
    have sR:=uT hq VB
    simp+decide (disch:=first|omega|rfl|(simp+decide only[go_sem,h0,h1,h2,h7,h8,eY,eB,gD js,true_and,and_true]<;>rfl)|fail) only[go_sem,h0,h1,h2,h7,h8,eY,eB,gD js,true_and,and_true]
    omega
   ·simp+decide (disch:=first|omega|rfl|(simp+decide only[go_sem,h0,h1,h2,h7,h8,eY,eB,true_and,and_true,gE (by omega:¬i<v.length),Kb5,KaX]<;>rfl)|fail) only[go_sem,h0,h1,h2,h7,h8,eY,eB,true_and,and_true,gE (by omega:¬i<v.length),Kb5,KaX]
    omega
  clear h0 h1 h2 h7 h8 eY eB
  rintro fr _ ⟨xL,h0,h1,h2,h7,h8,h9,eY,eB,rfl⟩
  generalize c+q*v.getD i 0=c1 at *
  refine Sz9 h0 h1 h2 h7 h8 h9 eY eB eL ?_
  refine wS (fun fr hp=>fr 0= .aB 1000000 j m/\fr 1=PV.nat v/\fr 2= .int .u32 q/\fr 7= .int .u32 (c1/65536:Nat)/\fr 8= .int .i32 ((if wi<c1%65536+b then 1 else 0):Nat)/\fr 9= .int .i64 i/\fr 10= .int .i32 ((wi+65536-c1%65536-b)%65536:Nat)/\fr 12= .int .i64 m/\fr 13= .int .i64 i/\hp=Qi aA 1000000 ⟨1,155,cj ((pre++done)++wi::(w.drop (i+1)++post)),false⟩) ?_ ?_
  ·refine Qa (fun hq=> ?_) (fun hq=> ?_)
   ·rw[if_pos Oz]
    refine xp h0 h1 h2 h7 h8 h9 eY eB @true_and @and_true ?_
    simp;omega
   ·rw[if_neg Oz]
    refine xp h0 h1 h2 h7 h8 h9 eY eB @true_and @and_true ?_
    simp;omega
  clear h0 h1 h2 h7 h8 h9 eY eB
  rintro fr _ ⟨h0,h1,h2,h7,h8,h9,bl,eY,eB,rfl⟩
  refine xp h0 h1 h2 h7 h8 h9 bl eY eB @oJ ?_
  refine oB (m:=w.length-(i+1)) Oz ⟨i+1,c1/65536,_,_,rfl,by omega,by omega,?_,?_,(KbP ..).symm.trans hd,m9,?_⟩
  ·split<;>omega
  ·simp[fl]
  ·refine Sz13 h0 h1 h2 h7 h8 h9 bl eY eB @true_and @and_true @oJ @Nat.mod_mod ?_
   simp
 ·obtain rfl:i=w.length:=by omega
  rw[Kan (Kaf _),fe]at hd m9
  simp only[Kam]at hd
  refine Sz1 h8 ?_
  refine Pw (p:= .bool (decide (0<(b:Int)))) rfl (rW _) ?_ Tz0 rfl ⟨?_,?_⟩
  ·simp[fl]
  ·rw[<-m9];simp
  ·rw[Kan (Kaf _),hd];simp
theorem Ww{v u:List Nat}{dg n r j:Nat}(hv:Qj v)(hu:Qj u)(hn:2<=n)(jr:n=v.length)(hju:j+n<u.length)(hd:dg<4294967296)(hr:r<65536)(yh:u.length<2^43):
  Qd Tryz.prog 230 [.pt [.int .u64 dg],.pt [PV.nat v],.pt [.int .i64 n],.pt [.int .u64 r],.pt [PV.nat u],.pt [.int .i64 j]]
   (· = .bool (decide (65536<=dg∨r*65536+u.getD (j+n-2) 0<dg*v.getD (n-2) 0))):=by
 have h1:n-2<v.length:=by omega
 have h2:j+n-2<u.length:=by omega
 have yl:=ek hv h1
 have Lm:=ek hu h2
 rw[gD h1,gD h2]
 refine aE Qg Tryz.func230 afy fun C hP=> ?_
 refine Sz0 ?_
 refine Qx (fun hz=> ?_) (fun hz=> ?_)
 ·refine Sz0 ?_
  exact Qc (by simp;omega) rfl
 ·have xM:dg<65536:=by omega
  have e1:(n:Int)-2=((n-2:Nat):Int):=by omega
  have e2:((j+n:Nat):Int)-2=((j+n-2:Nat):Int):=by omega
  generalize hvv:v[n-2]=vi at *
  generalize huu:u[j+n-2]=ui at *
  have hm:=uT xM yl
  refine Sz6 e1 e2 hvv huu @IU @Jl ?_
  exact Qc (congrArg PV.bool (decide_eq_decide.2 ⟨fun h=> .inr Oz,fun h=>by rcases h with h|h<;>omega⟩)) rfl
theorem ZX{l post:List Nat}(hv:Qj l)(hl:(l++post).length<2^43)(hlen:0<l.length):
  zg Tryz.prog 212 [.aB B0 0 l.length] 155 (cj (l++post)) (fun r xs'=>r= .aB B0 0 (nl (val l))/\xs'=cj (l++post)):=by
 simp only[Kax]at hl
 have asy:l.length<=(l++post).length:=by simp
 refine Ei Qg Tryz.func212 rfl OZ Nz fun C hP=> ?_;simp only[Ty];refine ic ?_
 refine Sz0 ?_
 refine rV (fun m fr hp=>m<=l.length/\cut l m=ak (val l)/\fr 0= .aB 1000000 0 l.length/\fr 3= .int .i64 m/\hp=Qi aA 1000000 ⟨1,155,cj (l++post),false⟩) l.length ?_ ?_
 ·exact⟨Kaf _,By hv,rfl,rfl,rfl⟩
 rintro n fr _ ⟨hn,hc,h0,h3,rfl⟩
 refine Sz2 h0 h3 ?_
 refine fV (fun hg=> ?_) (fun hg=> ?_)
 ·obtain _|n:=n
  ·omega
  have e:((n+1:Nat):Int)-1=n:=by omega
  have au:n<(l++post).length:=by simp;omega
  have eL:(l++post)[n]=l[n]:=by simp[List.getElem_append,show n<l.length by omega]
  refine Sz4 h0 h3 e eL ?_
  simp only[cut]at hc
  refine Qa (fun hz=> ?_) (fun hz=> ?_)
  ·rw[if_pos (by grind)]at hc
   refine Sz3 h0 h3 e ?_
   refine oB (m:=n) Oz ⟨by omega,hc,?_⟩
   exact Tz3 h0 @true_and @and_true
  ·rw[if_neg (by grind)]at hc
   have gQ:nl (val l)=n+1:=by rw[nl,<-hc];simp;omega
   refine Sz2 h0 h3 ?_
   exact OJ rfl (rW _) (by simp) (Tz1 gQ) ⟨rfl,rfl⟩
 ·obtain rfl:n=0:=by omega
  have gQ:nl (val l)=0:=by rw[nl,<-hc,cut];rfl
  refine Sz2 h0 h3 ?_
  exact OJ rfl (rW _) (by simp) (Tz1 gQ) ⟨rfl,rfl⟩
theorem H4{a:List Nat}{s:Nat}(ha:Qj a)(bG:a.length<2^40)(hs:s<=15)(aH:val a≠0):BB Tryz.prog 221 [PV.nat a,.int .i64 s] 155 (fun ys=>ys=cj (ak (val a*2^s))):=by
 have gM:=bZ ha
 unfold nl at gM
 have mc:(ak (val a)).length≠0:=by
  intro h;exact aH (kP.1 (qz h))
 refine aaR Qg Tryz.func221 rfl JU Nz fun C hP=> ?_;simp only[TA];refine ic ?_
 refine Sz0 ?_
 refine Qb hP (iJ ha Oz) ?_
 refine Sz0 ?_
 generalize val a=x at *
 have dN:=Qk x
 have e1:s/16=0:=KbY Oz
 have e2:s%16=s:=KaO Oz
 refine Qx (fun hz=>by omega) (fun hz=> ?_)
 refine Sz0 ?_
 refine Qx (fun hz=>by omega) (fun hz=> ?_)
 refine Sz0 ?_
 refine Qa (fun hz=>by omega) (fun hz=> ?_)
 refine Sz0 ?_
 refine Qa (fun hz=>by omega) (fun hz=> ?_)
 refine Sz4 @Md @Me e1 e2 ?_
 refine rV (fun k fr hp=>∃i c done,k=(ak x).length-i/\i<=(ak x).length/\c<2^s/\done.length=i/\done++oS s ((ak x).drop i) c=oS s (ak x) 0/\
  fr 5= .int .i64 (0:Nat)/\fr 6= .int .i64 s/\fr 7= .ms 44 ((ak x).length+1)/\fr 45=PV.num x/\fr 46= .int .i64 (ak x).length/\fr 47= .int .i64 i/\
  hp=Qi aA 44 ⟨1,155,cj (done++c::List.replicate ((ak x).length-i) 0),false⟩) (ak x).length ?_ ?_
 ·refine⟨0,0,[],rfl,by omega,Kbp Oz,rfl,rfl,?_⟩
  simp+decide (disch:=first|omega|rfl|(simp+decide only[go_sem,true_and,and_true,KaQ,Kcm]<;>rfl)|fail) only[go_sem,true_and,and_true,KaQ,Kcm]
  simp[KbH]
 rintro _ fr _ ⟨i,c,done,rfl,hi,hc,fl,hd,h5,h6,h7,F3,F4,F5,rfl⟩
 refine Sz3 F3 F4 F5 ?_
 have asK:2^s<=2^15:=KaN Oz hs
 refine Qa (fun hg=> ?_) (fun hg=> ?_)
 ·have ao:i<(ak x).length:=by omega
  have fE:=ek dN ao
  rw[Kaw ao,oS]at hd
  generalize dJ:(ak x)[i]=xi at *
  obtain⟨z,hz⟩:∃z,(ak x).length-i=z+1:=⟨(ak x).length-i-1,by omega⟩
  have au:i<(done++c::List.replicate (z+1) 0).length:=by simp;omega
  have eL:=Ff fl au
  have eD:=Nu (x:=xi) (show s<=16 by omega) hc
  have jK:=Mf (show s<=16 by omega) fE
  have hl:=aiR hs fE
  refine Sz13 h5 h6 h7 F3 F4 F5 dJ hz eL @OL @aiQ eD.2 @oJ ?_
  have kH:∀v u,(done++v::List.replicate (z+1) 0).set (i+1) u=(done++[v])++u::List.replicate z 0:=fun v u=>by
   rw[KbP,KbH,oJ (by simp[fl])]
  rw[PG (by simp;omega),kH,KaO (by omega:xi*2^s/65536<65536)]
  refine Sz6 h5 h6 h7 F3 F4 F5 ?_
  refine oB (m:=(ak x).length-(i+1)) Oz ⟨i+1,xi*2^s/65536,done++[xi*2^s%65536+c],rfl,by omega,jK,by simp[fl],(KbP ..).symm.trans hd,?_⟩
  refine Sz8 h5 h6 h7 F3 F4 F5 @true_and @and_true ?_
  rw[show(ak x).length-(i+1)=z by omega]
 ·obtain rfl:i=(ak x).length:=by omega
  rw[Kan (Kaf _),oS]at hd
  have rC:=SA hs (ak x) 0 dN (Kbp Oz)
  have lv:=Nt s (ak x) 0
  have CI:=RL s (ak x) 0
  rw[Qw,KaX]at lv
  rw[<-hd]at rC lv CI
  have asI:x*2^s≠0:=Nat.mul_ne_zero aH (Nat.ne_of_gt (Kbp Oz))
  simp+decide (disch:=first|omega|rfl|(simp+decide only[go_sem,h7,KbD,Ka8]<;>rfl)|fail) only[go_sem,h7,KbD,Ka8]
  have ht:=ZX (l:=done++[c]) (post:=[]) rC (by simp[fl];omega) (by simp)
  rw[Kam,lv]at ht
  refine Fy hP ht (β:=44) Tz0 (rW _) (by simp) (by simp[kM,CI]) rfl ?_
  rintro r xs' _ _ ⟨rfl,rfl⟩
  simp+decide (disch:=first|omega|rfl|(simp+decide only[go_sem,oM]<;>rfl)|fail) only[go_sem,oM]
  refine⟨4,44,nl (x*2^s),_,rfl,by simp+decide (disch:=try exact D0) only[go_sem],rfl,by simp+decide (disch:=try exact D0) only[go_sem];rfl,rW _,?_,?_⟩
  ·have:= @AI (x*2^s);omega
  ·rw[<-lv,<-List.map_take,acy rC]
theorem ZY{a:List Nat}{s:Nat}(ha:Qj a)(bG:a.length<2^42)(hs:s<=15):Qd Tryz.prog 229 [PV.nat a,.int .i64 s] (· =PV.num (val a/2^s)):=by
 have e1:s/16=0:=KbY Oz
 have e2:s%16=s:=KaO Oz
 refine aE Qg Tryz.func229 afC fun C hP=> ?_
 refine Sz4 @Md @Me e1 e2 ?_
 refine Qa (fun hz=> ?_) (fun hz=> ?_)
 ·have:a=[]:=KaE.1 Oz
  subst this
  refine Sz0 ?_
  exact oI (BA (by simp[val])) rfl
 have e3:((a.length:Int)-((0:Nat):Int))=((a.length:Nat):Int):=by omega
 refine Sz1 e3 ?_
 refine Ql dq [(8,9),(25,60)] [] (fun k J hp=>∃i done,k=a.length-i/\i<=a.length/\done.length=i/\done++nQ s (a.drop i)=nQ s a/\J 25= .int .i64 i/\
  hp=Qi aA 22 ⟨1,155,cj (done++List.replicate (a.length-i) 0),false⟩) a.length ?_ ?_
 ·refine⟨0,[],rfl,by omega,rfl,rfl,?_⟩
  simp+decide (disch:=first|omega|rfl|(simp+decide only[go_sem,true_and,and_true,KaQ,Kcm]<;>rfl)|fail) only[go_sem,true_and,and_true,KaQ,Kcm]
  simp
 rintro _ J _ ⟨i,done,rfl,hi,fl,hd,xD,rfl⟩
 refine Sz1 xD ?_
 refine Qa (fun hg=> ?_) (fun hg=> ?_)
 ·have ao:i<a.length:=by omega
  have Ge:=ek ha ao
  rw[abp ao]at hd
  generalize dJ:a[i]=xi at *
  have hlen:=Jj (n:=a.length-i) fl (by omega:_=a.length)
  refine Sz2 xD dJ ?_
  refine Qa (fun hq=> ?_) (fun hq=> ?_)
  ·have js:i+1<a.length:=by omega
   have haj:=ek ha js
   rw[gD js]at hd
   simp+decide (disch:=first|omega|rfl|(simp+decide only[go_sem,xD,IV,Mc,JM]<;>rfl)|fail) only[go_sem,xD,IV,Mc,JM]
   refine Qf (a.length-(i+1)) Oz ⟨i+1,_,rfl,by omega,by simp[fl],(KbP ..).symm.trans hd,?_⟩
   exact Tz5 xD @true_and @and_true @Bi @Nat.sub_sub
  ·rw[gE Oz,KcA,Kbb]at hd
   refine Sz2 xD @JM ?_
   refine Qf (a.length-(i+1)) Oz ⟨i+1,_,rfl,by omega,by simp[fl],(KbP ..).symm.trans hd,?_⟩
   exact Tz5 xD @true_and @and_true @Bi @Nat.sub_sub
 ·obtain rfl:i=a.length:=by omega
  rw[Kan (Kaf _),nQ,Kam]at hd
  simp+decide (disch:=first|omega|rfl|(simp+decide only[go_sem,KbD,Ka8,Kam]<;>rfl)|fail) only[go_sem,KbD,Ka8,Kam]
  rw[hd]
  refine wR hP (iJ (SB s a) (by rw[Ib];exact bG)) (Bj rfl (Ib s a).symm) rfl fun hp'=> ?_
  refine Sz0 ?_
  exact Qc (by rw[Nw Oz a ha]) rfl
theorem Xz{x V d q:Nat}(hd:0<d)(h:q=V/d):(V%d*65536+x)/d+65536*q=(x+65536*V)/d/\(V%d*65536+x)%d=(x+65536*V)%d:=by
 subst h
 have e:x+65536*V=(V%d*65536+x)+d*(65536*(V/d)):=by
  have:=Kbl V d
  calc x+65536*V=x+65536*(d*(V/d)+V%d):=by rw[this]
   _=_:=by rw[Ka0,Kbi];omega
 rw[e,Kcu _ _ hd,Kcs]
 exact⟨rfl,rfl⟩
theorem XA{a:List Nat}{d:Nat}(ha:Qj a)(bG:a.length<2^42)(hd:0<d)(m9:d<65536):Qd Tryz.prog 219 [PV.nat a,.int .u16 d] (· = .aI [PV.num (val a/d),.int .u16 (val a%d:Nat)]):=by
 refine aE Qg Tryz.func219 afw fun C hP=> ?_
 refine Sz0 ?_
 refine Ql dq [(7,8),(15,38)] [] (fun k J hp=>∃qs,k<=a.length/\qs.length=a.length-k/\Qj qs/\val qs=val (a.drop k)/d/\J 7= .int .u32 (val (a.drop k)%d:Nat)/\J 8= .int .i64 ((k:Int)-1)/\
  hp=Qi aA 11 ⟨1,155,cj (List.replicate k 0++qs),false⟩) a.length ?_ ?_
 ·refine⟨[],Kaf _,by simp,oG,by simp[val],?_⟩
  refine Sz2 @true_and @and_true ?_
  simp[val]
 rintro k J _ ⟨qs,hk,Vi,qo,hv,h7,h8,rfl⟩
 refine Sz2 h7 h8 ?_
 have hr:=Kbt (val (a.drop k)) hd
 refine Qa (fun hg=> ?_) (fun hg=> ?_)
 ·obtain _|n:=k
  ·omega
  have hn:n<a.length:=by omega
  have Kx:=ek ha hn
  have e:((n+1:Nat):Int)-1=n:=by omega
  have bA:=Xz (x:=a[n]) hd hv
  rw[<-mD hn]at bA
  have au:(val (a.drop (n+1))%d*65536+a[n])/d<65536:=by
   rw[Kbc hd]
   have:(val (a.drop (n+1))%d+1)*65536<=d*65536:=Kah _ hr
   omega
  generalize dJ:a[n]=xn at *
  generalize val (a.drop (n+1))%d=r at *
  have hlen:n<(List.replicate (n+1) 0++qs).length:=by simp;omega
  refine Sz8 h7 h8 e dJ @IV @acx @aeQ @qC ?_
  refine Qf n Oz ⟨(r*65536+xn)/d::qs,by omega,?_,?_,?_,?_⟩
  ·simp;omega
  ·rw[ix];exact⟨au,qo⟩
  ·rw[val,bA.1]
  ·refine Sz5 h7 h8 @true_and @and_true bA.2 ?_
   rw[KaO au,List.replicate_succ',Kbs,List.singleton_append,oJ (by simp)]
 ·obtain rfl:k=0:=by omega
  rw[Ka6]at hv h7
  have au:=Kbt (val a) hd
  simp+decide (disch:=first|omega|rfl|(simp+decide only[go_sem,h7,h8,Ka8,KaQ]<;>rfl)|fail) only[go_sem,h7,h8,Ka8,KaQ]
  refine wR hP (iJ qo Oz) (Bj rfl Oz) rfl fun hp'=> ?_
  refine Sz1 h7 ?_
  refine gI rfl rfl rfl (uW (by rw[hv])) (uW ?_)
  rw[KaO Oz]
theorem SK{x:Nat}(h:x<65536):Qd Tryz.prog 214 [.int .u16 x] (· = .int .i64 (Lib.bitLen x:Nat)):=
 Xu (by simp[qO];exact⟨rfl,by decide⟩) (fun w=>XB x w Oz Oz) (fun _ _=>Qp.int _ _)
theorem H5{x:Nat}(h:x<65536):Lib.bitLen x<=16:=Lib.bitLen_le x 16 Oz Oz
theorem Ij{x:Nat}(h:x<65536)(h0:x≠0):1<=Lib.bitLen x:=by
 have:=Lib.bitLen_half x h0 Oz;omega
theorem XC:Lib.bitLen 0=0:=by decide
theorem ZZ:∀(n x:Nat),Lib.bitLen x=n->x≠0->x<65536->2^n<=2*x/\x<2^n:=by
 intro n
 induction n with
 |zero=>intro x h h0 hx;have:=Ij hx h0;omega
 | succ n ih=>
  intro x h h0 hx
  have e:=Lib.bitLen_half x h0 Oz
  by_cases h2:x/2=0
  ·have:x=1:=by omega
   subst this
   have:n=0:=by rw[h]at e;simp[XC]at e;exact e
   subst this;simp
  ·have:=ih (x/2) Oz h2 Oz
   rw[Kbr];omega
theorem Qsh{x:Nat}(h:x<65536):Qd Tryz.prog 220 [.int .u16 x] (· = .int .i64 (16-Lib.bitLen x:Nat)):=by
 have:=H5 h
 refine aE Qg Tryz.func220 afD fun C hP=> ?_
 refine Sz0 ?_
 refine Qb hP (SK h) ?_
 refine Sz0 ?_
 exact Qc (by congr 1;omega) rfl
theorem Mu{a:List Nat}(ha:Qj a)(bG:a.length<2^40):Qd Tryz.prog 178 [PV.nat a] (fun r=>∃n:Nat,r= .int .i64 n/\(n=0↔val a=0)):=by
 have hd:=bZ ha
 unfold nl at hd
 refine aE Qg Tryz.func178 afr fun C hP=> ?_
 refine Sz0 ?_
 refine Qb hP (iJ ha Oz) ?_
 refine Sz0 ?_
 refine Qa (fun hz=> ?_) (fun hz=> ?_)
 ·refine Sz0 ?_
  have:val a=0:=kP.1 (KaE.1 Oz)
  exact⟨rfl,_,Qn _,0,rfl,by simp[this]⟩
 ·have aH:val a≠0:=fun h=>by rw[h,fI]at hz;simp at hz
  have iq:=Bh (val a)
  have Gu:=Qk (val a)
  generalize val a=x at *
  obtain⟨k,hk⟩:∃k,(ak x).length=k+1:=⟨(ak x).length-1,by omega⟩
  have au:k<(ak x).length:=by omega
  have uB:=ek Gu au
  have mc:(ak x)[k]≠0:=by
   intro h;apply iq
   rw[Kbk,hk,Nat.add_sub_cancel,Kag au,h]
  have e:((k+1:Nat):Int)-1=k:=by omega
  generalize dJ:(ak x)[k]=xi at *
  have hb:=H5 uB
  have hb1:=Ij uB mc
  refine Sz3 hk e dJ ?_
  refine Qb hP (SK uB) ?_
  have e2:(16:Int)*(k:Int)=((16*k:Nat):Int):=by omega
  refine Sz1 e2 ?_
  exact⟨rfl,_,Qn _,16*k+Lib.bitLen xi,rfl,by omega⟩
theorem ak9(i:Nat):2^(16*i)=65536^i:=by rw[Nat.pow_mul]
theorem IN{a:List Nat}(ha:Qj a)(bG:a.length<2^40):Qd Tryz.prog 216 [PV.nat a] (· =if nl (val a)<=4 then .aI [.int .u64 (val a),.bool true]else .aI [.int .u64 0,.bool false]):=by
 have hd:=bZ ha
 unfold nl at hd
 refine aE Qg Tryz.func216 afq fun C hP=> ?_
 refine Sz0 ?_
 refine Qb hP (iJ ha Oz) ?_
 refine Sz0 ?_
 have Gu:=Qk (val a)
 have eR:=Qw (val a)
 unfold nl
 generalize val a=x at *
 refine Qa (fun hz=> ?_) (fun hz=> ?_)
 ·refine Sz0 ?_
  rw[if_neg Oz]
  exact gI rfl rfl rfl (Qn _) (Qn _)
 ·refine Sz0 ?_
  rw[if_pos Oz]
  refine Ql dq [(4,6),(14,26)] [] (fun k J hp=>∃i,k=(ak x).length-i/\i<=(ak x).length/\J 14= .int .i64 i/\J 4= .int .u64 (val ((ak x).take i))/\hp=aA) (ak x).length ?_ ?_
  ·refine⟨0,rfl,by omega,?_⟩
   simp+decide (disch:=first|omega|rfl|(simp+decide only[go_sem,true_and,and_true,Kcr]<;>rfl)|fail) only[go_sem,true_and,and_true,Kcr]
   simp[val]
  rintro _ J _ ⟨i,rfl,hi,fh,h4,rfl⟩
  refine Sz2 fh h4 ?_
  refine Qa (fun hg=> ?_) (fun hg=> ?_)
  ·have ao:i<(ak x).length:=by omega
   have fE:=ek Gu ao
   have mf:=Ax ao
   have wx:=uM Gu i Oz
   generalize dJ:(ak x)[i]=xi at *
   have e2:(16:Int)*(i:Int)=((16*i:Nat):Int):=by omega
   have hb:xi*2^(16*i)+2^(16*i)<=18446744073709551616:=by
    have h3:2^(16*i)<=2^48:=KaN Oz Oz
    have:(xi+1)*2^(16*i)<=65536*2^48:=KaY Oz h3
    rw[KaJ]at this;omega
   have Lb:0<2^(16*i):=Kbp Oz
   rw[<-ak9]at mf wx
   have z':(val ((ak x).take i)|||xi*2^(16*i))=val ((ak x).take (i+1)):=by
    rw[Nat.or_comm,BM wx,mf,KaR,KbO]
   refine Sz7 fh h4 dJ e2 @OK @Px z' ?_
   refine Qf ((ak x).length-(i+1)) Oz ⟨i+1,rfl,by omega,?_⟩
   exact Tz3 fh @true_and @and_true
  ·obtain rfl:i=(ak x).length:=by omega
   rw[KaH,eR]at h4
   refine Sz1 h4 ?_
   exact gI rfl rfl rfl (Qn _) (Qn _)
set_option maxHeartbeats 2000000 in
theorem abm{u v ex:List Nat}(hu:Qj u)(hv:Qj v)(hn:2<=v.length)(au:v.length<u.length)(Vy:32768<=v.getD (v.length-1) 0)(aqb:val (u.drop (u.length-v.length))<val v)(yh:u.length+ex.length<2^42):
  zg Tryz.prog 222 [.aB B0 0 u.length,PV.nat v] 155 (cj (u++ex)) (fun r xs'=>r=PV.num (val u/val v)/\∃l,xs'=cj (l++ex)/\Qj l/\l.length=u.length/\val l=val u%val v):=by
 obtain⟨n,jr⟩:∃n,v.length=n+2:=⟨v.length-2,by omega⟩
 have e1:(u.length:Int)-(v.length:Int)=((u.length-v.length:Nat):Int):=by omega
 have wx:=Om jr
 have yj:=uM hv n Oz
 have aq0:=pR hv
 have yl:=ek hv (show n+1<v.length by omega)
 have ym:=ek hv (show n<v.length by omega)
 have sK:v[n+1]'Oz=v.getD (n+1) 0:=(gD _).symm
 have eZ:v[n]'Oz=v.getD n 0:=(gD _).symm
 have aqR:32768<=v.getD (n+1) 0:=by rw[jr]at Vy;exact Vy
 rw[sK]at yl
 rw[eZ]at ym
 rw[jr]at aq0
 have hvp:0<val v:=by
  rw[wx]
  have:0<65536^n:=Kbp Oz
  have:0<(v.getD (n+1) 0*65536+v.getD n 0)*65536^n:=Nat.mul_pos Oz this
  omega
 refine Ei Qg Tryz.func222 rfl af3 Nz fun C hP=> ?_;simp only[TC];refine ic ?_
 refine Sz1 e1 ?_
 refine NA dq [(7,11),(24,105)] [7,9,10] (fun k J hp=>∃l qs,k+qs.length=u.length-v.length/\Qj l/\l.length=u.length/\Qj qs/\val (l.drop k)<val v/\val u=val l+val v*(65536^k*val qs)/\J 7= .mp 7 0 0/\
  hp 7=some ⟨1,3,[.int .i64 ((k:Int)-1)],false⟩/\hp 1000000=some ⟨1,155,cj (l++ex),false⟩/\hp 18=some ⟨1,155,cj (List.replicate k 0++qs),false⟩/\
  hp 3=some ⟨1,47,[PV.nat v],false⟩/\hp 5=some ⟨1,3,[.int .i64 v.length],false⟩) (u.length-v.length) ?_ ?_
 ·refine⟨u,[],rfl,hu,rfl,oG,aqb,by simp[val],?_⟩
  refine Sz2 @true_and @and_true ?_
  simp
 intro F hF
 have lZ:F 2= .rb 1000000 0 u.length:=by rw[hF];simp+decide (disch:=try exact D0) only[go_sem]
 have jI:F 3= .mp 3 0 0:=by rw[hF];simp+decide (disch:=try exact D0) only[go_sem]
 have jJ:F 5= .mp 5 0 0:=by rw[hF];simp+decide (disch:=try exact D0) only[go_sem]
 have l7:F 6= .ms 18 (u.length-v.length):=by rw[hF];simp+decide (disch:=try exact D0) only[go_sem]
 have Gq:∀β,[7,9,10].contains β=true->cx β F=F:=fun β h=>by rw[hF];exact DH h
 have hk9:=Gq 9 rfl
 have ass:=Gq 10 rfl
 have Gp:=Gq 7 rfl
 have hkk:bF [9,10] F=F:=by rw[hF];exact Wu rfl
 clear Gq hF
 rintro k J h ⟨l,qs,pw,hl,gP,qo,uw,eR,gL,oa,l9,rp,bR,bT⟩
 refine xp @gL oa @l9 rp bR bT @lZ @jI @jJ @l7 ?_
 refine Qa (fun hg=> ?_) (fun hg=> ?_)
 ·obtain _|j:=k
  ·omega
  have e2:((j+1:Nat):Int)-1=j:=by omega
  have e3:((n+2:Nat):Int)-1=((n+1:Nat):Int):=by omega
  have e4:((j+(n+2):Nat):Int)-1=((j+(n+1):Nat):Int):=by omega
  obtain⟨pre,w,post,K1,bx,uA,Ab,hw,fT,La,hdj,VE,w0,yo,GR⟩:=aiT (n:=n) hl Oz Oz uw
  have rA:=ek hl (show j+(n+2)<l.length by omega)
  have xT:=ek hl (show j+(n+1)<l.length by omega)
  have rz:=ek hl (show j+n<l.length by omega)
  have asx:(l++ex).length=u.length+ex.length:=by rw[Kax,gP]
  have UL:(l++ex)[j+(n+2)]'Oz=l.getD (j+(n+2)) 0:=by rw[KbC Oz];exact(gD _).symm
  have UK:(l++ex)[j+(n+1)]'Oz=l.getD (j+(n+1)) 0:=by rw[KbC Oz];exact(gD _).symm
  rw[<-gD Oz]at rA xT
  have aqQ:(cj (l++ex)).take u.length=cj l:=by rw[<-List.map_take,<-gP,List.take_left]
  have UZ:l++ex=pre++(w++(post++ex)):=by rw[K1];simp
  generalize l.getD (j+(n+2)) 0=w2 at *
  generalize l.getD (j+(n+1)) 0=w1 at *
  simp+decide (disch:=first|omega|rfl|(simp+decide only[go_sem,gL,oa,l9,rp,bR,bT,lZ,jI,jJ,l7,jr,e2,e3,e4,UL,UK,sK,IU,Jl,BC,qC]<;>rfl)|fail) only[go_sem,gL,oa,l9,rp,bR,bT,lZ,jI,jJ,l7,jr,e2,e3,e4,UL,UK,sK,IU,Jl,BC,qC]
  have asX:w.length=n+3:=uA
  have apN:=X4 wx GR yo (by rw[<-gD (show j+n<l.length by omega)]at rz;omega) (by omega:0<v.getD (n+1) 0)
  have v9:=adj wx GR yj VE (Kbp Oz)
  have v3:=Kbl (w2*65536+w1) (v.getD (n+1) 0)
  have asf:(w2*65536+w1)/v.getD (n+1) 0<131072:=by rw[Kbc Oz];omega
  have asO:=Kbt (w2*65536+w1) (by omega:0<v.getD (n+1) 0)
  rw[KaR]at v3
  generalize hd0:(w2*65536+w1)/v.getD (n+1) 0=d0 at *
  generalize dp:(w2*65536+w1)%v.getD (n+1) 0=r0 at *
  have KI:∀(h:HP) v w,Qi (Qi h 10 v) 9 w=Qi (Qi h 9 w) 10 v:=fun h v w=>abr 10 9 (by decide) h v w
  refine aeU (fun J=>J 7= .mp 7 0 0/\J 52= .int .u64 d0/\J 53= .int .u64 (w2*65536+w1:Nat)) (Tz3 @gL @true_and @and_true) ?_
  clear gL
  rintro J ⟨gL,Kq,Kr⟩
  refine adk dq [9,10] (fun J2 cc=>J2 7= .mp 7 0 0/\J2 9= .mp 9 0 0/\J2 10= .mp 10 0 0/\cc=Qi (Qi h 9 ⟨1,112,[.int .u64 d0],false⟩) 10 ⟨1,112,[.int .u64 r0],false⟩) ?_ ?_
  ·intro F' Ce
   have Uf:F' 3= .mp 3 0 0:=by rw[Ce];simp+decide (disch:=try exact D1 jI) only[go_sem,jI]
   have Ug:F' 5= .mp 5 0 0:=by rw[Ce];simp+decide (disch:=try exact D1 jJ) only[go_sem,jJ]
   have UX:cx 9 F'=F':=by rw[Ce];exact DH rfl
   have UU:cx 10 F'=F':=by rw[Ce];exact DH rfl
   clear Ce
   repeat' (first|refine jO ?_ ?_|simp+decide (disch:=first|omega|rfl|(simp+decide only[go_sem,gL,Kq,Kr,bR,bT,Uf,Ug,UX,UU,jr,e3,sK,qC]<;>rfl)|fail) only[go_sem,gL,Kq,Kr,bR,bT,Uf,Ug,UX,UU,jr,e3,sK,qC])
   all_goals refine oK (J:=_) ?_
   all_goals simp+decide (disch:=try exact D5 gL dp KI true_and and_true) only[go_sem,gL,dp,KI,true_and,and_true]
  clear gL Kq Kr J
  rintro J _ ⟨gL,o8,o7,rfl⟩
  simp+decide (disch:=first|omega|rfl|(simp+decide only[go_sem,gL,o8,o7,lZ,jI,jJ,l7,TM,List.all_cons,List.all_nil,KaU,KaQ,true_and]<;>rfl)|fail) only[go_sem,gL,o8,o7,lZ,jI,jJ,l7,TM,List.all_cons,List.all_nil,KaU,KaQ,true_and]
  refine NA dq [(62,77)] [] (fun m J hp=>∃d r,m=d/\d*v.getD (n+1) 0+r=w2*65536+w1/\val w<(d+1)*val v/\hp=Qi (Qi h 9 ⟨1,112,[.int .u64 d],false⟩) 10 ⟨1,112,[.int .u64 r],false⟩) d0 ?_ ?_
  ·exact⟨d0,r0,rfl,v3,apN,rfl⟩
  intro F1 zV
  have F7:F1 9= .mp 9 0 0:=by rw[zV,fX];simp+decide (disch:=try exact D1 o8) only[go_sem,o8]
  have F6:F1 10= .mp 10 0 0:=by rw[zV,fX];simp+decide (disch:=try exact D1 o7) only[go_sem,o7]
  have Kn:F1 11= .fn 230 [] [.mp 9 0 0,.mp 3 0 0,.mp 5 0 0,.mp 10 0 0,.rb 1000000 0 u.length,.mp 7 0 0]:=by rw[zV,fX];simp+decide (disch:=try exact D0) only[go_sem]
  have hE3:F1 3= .mp 3 0 0:=by rw[zV,fX];simp+decide (disch:=try exact D1 jI) only[go_sem,jI]
  have hE5:F1 5= .mp 5 0 0:=by rw[zV,fX];simp+decide (disch:=try exact D1 jJ) only[go_sem,jJ]
  rintro d J2 _ ⟨_,r,rfl,v5,KL,rfl⟩
  have asd:d<131072:=by
   have:d*32768<=d*v.getD (n+1) 0:=KaA _ aqR
   omega
  refine Sz3 @F7 @F6 @Kn ?_
  refine Xv dq [(62,67)] [] (fun J hp=>J 67= .bool (decide (r<65536/\(65536<=d∨r*65536+l.getD (j+n) 0<d*v.getD n 0)))/\hp=Qi (Qi h 9 ⟨1,112,[.int .u64 d],false⟩) 10 ⟨1,112,[.int .u64 r],false⟩) ?_ ?_
  ·refine fV (fun hr=> ?_) (fun hr=> ?_)
   ·refine Sz3 @F7 @F6 @Kn ?_
    refine aaS hP (Ww (dg:=d) (r:=r) (j:=j) hv hl hn rfl Oz Oz Oz Oz) (by simp+decide (disch:=first|omega|rfl|(simp+decide only[go_sem,gV,l9,bR,bT,oa,e2,Kam,KaQ,List.getElem?_cons_zero,Ka6,Kac]<;>rfl)|fail) only[go_sem,gV,l9,bR,bT,oa,e2,Kam,KaQ,List.getElem?_cons_zero,Ka6,Kac];simp only[Ka6,aqQ]) rfl rfl ?_
    refine Sz1 jr ?_
    refine oK ⟨?_,rfl⟩
    refine Sz0 ?_
    rw[show j+(n+2)-2=j+n by omega,show n+2-2=n by omega]
    exact congrArg PV.bool (decide_eq_decide.2 ⟨fun h=>⟨by omega,h⟩,fun h=>h.2⟩)
   ·refine Sz3 @F7 @F6 @Kn ?_
    refine oK ⟨?_,rfl⟩
    refine Sz0 ?_
    simp;omega
  rintro J3 _ ⟨h67,rfl⟩
  simp (disch:=decide) only[fX,eP]
  refine Sz1 h67 ?_
  refine Qa (fun ht=> ?_) (fun ht=> ?_)
  ·obtain⟨hr,ht⟩:=ht
   have xW:val w<d*val v:=by
    rcases ht with ht|ht
    ·exact Kbu VE (Kah _ ht)
    ·exact acF wx GR yo v5 ht
   obtain _|d:=d
   ·omega
   have e5:((d+1:Nat):Int)-1=(d:Nat):=by omega
   refine Sz11 @F7 @F6 @hE3 @hE5 bR bT jr e3 e5 sK KI ?_
   refine Qf d Oz ⟨d,r+v.getD (n+1) 0,rfl,?_,xW,rfl⟩
   rw[KaJ]at v5;omega
  have xN:d<65536:=by
   apply Decidable.byContradiction
   intro il
   apply ht
   refine⟨?_,.inl Oz⟩
   have:65536*v.getD (n+1) 0<=d*v.getD (n+1) 0:=Kah _ Oz
   omega
  have aqO:¬r*65536+l.getD (j+n) 0<d*v.getD n 0:=by
   intro aqr
   by_cases hr:r<65536
   ·exact ht ⟨hr,.inr aqr⟩
   ·have:=uT xN ym
    omega
  have e5:j+(n+2)+1-j=n+3:=by omega
  subst zV
  simp (disch:=decide) only[fX,hkk,eP]
  refine Sz14 @gL @o8 @o7 @lZ @jI @jJ @l7 bR bT oa @l9 e2 jr e5 ?_
  have yg:=Ns w v d 0 0 hw Oz Oz
  have Gi:=SE w v d 0 0 Oz Oz xN hv
  have bb:=Sy w v d 0 0
  have Vt:=RK w v d 0 0
  have VD:=pR hw
  rw[uA]at yg VD
  refine Fy hP (Wv (pre:=pre) (w:=w) (post:=post++ex) (j:=j) (m:=n+3) (q:=d) hw hv xN bx uA Oz (by rw[<-UZ];omega)) (β:=1000000) (Tz2 @l9 UZ) (rW _) (by simp;omega) (by simp[kM,B0]) rfl ?_
  rintro _ _ _ _ ⟨rfl,rfl⟩
  generalize fe w v d 0 0=sq at *
  obtain⟨⟨yg,hb1⟩,Gi⟩:=And.intro yg Gi
  have Uo:=pR bb
  rw[Vt,uA]at Uo
  have asL:pre.length+(w.length+post.length)=u.length:=by rw[<-gP,K1];simp
  have asQ:j<(List.replicate (j+1) 0++qs).length:=by simp;omega
  have VC:val l=val pre+65536^j*val w:=by
   rw[K1,nB,nB,La,bx,Kb5,KaX]
  simp+decide (disch:=first|omega|rfl|(simp+decide only[go_sem,oM,gL,o8,o7,lZ,jI,jJ,l7]<;>rfl)|fail) only[go_sem,oM,gL,o8,o7,lZ,jI,jJ,l7]
  refine Qa (fun hb=> ?_) (fun hb=> ?_)
  ·have hb2:sq.2.2=1:=by omega
   rw[Gi,hb2]at yg
   obtain _|d:=d
   ·omega
   have UF:=acG wx GR yj Oz xN v5 aqO
   obtain⟨k,hk⟩:=Nr sq.1 v 0 Oz
   have dh:=Se sq.1 v 0
   have Vn:=RJ sq.1 v 0
   rw[Vt,uA]at hk Vn
   have Vk:=pR dh
   rw[Vn]at Vk
   obtain⟨Ks,df⟩:=aeV (B:=65536^(n+3)) (S:=val sq.1) (e:=d) Oz Uo UF Oz Vk VD
   have e6:((d+1:Nat):Int)-1=(d:Nat):=by omega
   simp+decide (disch:=first|omega|rfl|(simp+decide only[go_sem,gL,o8,o7,lZ,jI,jJ,l7,bR,bT,oa,l9,e2,e6,jr,e5]<;>rfl)|fail) only[go_sem,gL,o8,o7,lZ,jI,jJ,l7,bR,bT,oa,l9,e2,e6,jr,e5]
   refine Fy hP (WU (pre:=pre) (w:=sq.1) (post:=post++ex) (j:=j) (m:=n+3) bb hv bx Oz Oz (by simp;omega)) (β:=1000000) Tz0 (rW _) (by simp;omega) (by simp[kM,B0]) rfl ?_
   rintro _ _ _ _ ⟨rfl,rfl⟩
   have uh:=Mj (q:=d) (R:=kV sq.1 v 0) bx La eR VC df
   simp+decide (disch:=first|omega|rfl|(simp+decide only[go_sem,oM,gL,o8,o7,lZ,jI,jJ,l7,bR,bT,oa,l9,rp,e2,e6,jr,e5,Fh,KaO (by omega:d<65536),Gp]<;>rfl)|fail) only[go_sem,oM,gL,o8,o7,lZ,jI,jJ,l7,bR,bT,oa,l9,rp,e2,e6,jr,e5,Fh,KaO (by omega:d<65536),Gp]
   refine Qf j Oz ⟨pre++(kV sq.1 v 0++post),d::qs,by simp;omega,?_,?_,?_,?_,uh.2,?_⟩
   ·rw[oz,oz];exact⟨Ab,dh,fT⟩
   ·simp;omega
   ·rw[ix];exact⟨by omega,qo⟩
   ·rw[uh.1];exact Ks
   ·simp+decide (disch:=first|omega|rfl|(simp+decide only[go_sem,bR,bT,true_and,and_true,jr,Kbs]<;>rfl)|fail) only[go_sem,bR,bT,true_and,and_true,jr,Kbs]
  ·have hb2:sq.2.2=0:=by omega
   rw[Gi,hb2]at yg
   obtain⟨Ks,df⟩:=aiU (S:=val sq.1) (d:=d) Oz KL
   have uh:=Mj (q:=d) (R:=sq.1) bx La eR VC df
   simp+decide (disch:=first|omega|rfl|(simp+decide only[go_sem,oM,gL,o8,o7,lZ,jI,jJ,l7,bR,bT,oa,l9,rp,e2,jr,e5,Fh,KaO xN,Gp]<;>rfl)|fail) only[go_sem,oM,gL,o8,o7,lZ,jI,jJ,l7,bR,bT,oa,l9,rp,e2,jr,e5,Fh,KaO xN,Gp]
   refine Qf j Oz ⟨pre++(sq.1++post),d::qs,by simp;omega,?_,?_,?_,?_,uh.2,?_⟩
   ·rw[oz,oz];exact⟨Ab,bb,fT⟩
   ·simp;omega
   ·rw[ix];exact⟨xN,qo⟩
   ·rw[uh.1];exact Ks
   ·simp+decide (disch:=first|omega|rfl|(simp+decide only[go_sem,bR,bT,true_and,and_true,jr,Kbs]<;>rfl)|fail) only[go_sem,bR,bT,true_and,and_true,jr,Kbs]
 ·obtain rfl:k=0:=by omega
  rw[Ka6]at uw
  rw[KcZ,KcK]at eR
  have hdiv:val u/val v=val qs:=by
   rw[eR,Kcu _ _ hvp,KbY uw,Kbb]
  have xY:val u%val v=val l:=by
   rw[eR,Kcs,KaO uw]
  simp+decide (disch:=first|omega|rfl|(simp+decide only[go_sem,gL,oa,l9,rp,bR,bT,lZ,jI,jJ,l7,Ka8,KaQ]<;>rfl)|fail) only[go_sem,gL,oa,l9,rp,bR,bT,lZ,jI,jJ,l7,Ka8,KaQ]
  refine kS hP (iJ qo Oz) (Bj (ty:=155) (fz:=false) (by simp+decide (disch:=first|omega|rfl|(simp+decide only[go_sem,rp,Ka8,KaQ]<;>rfl)|fail) only[go_sem,rp,Ka8,KaQ]) Oz) rfl ?_
  refine Sz0 ?_
  refine Pw (xs':=cj (l++ex)) (p:=PV.num (val qs)) ?_ (rW _) (by simp;omega) Tz0 rfl ⟨by rw[hdiv],l,rfl,hl,gP,xY.symm⟩
  show FW.bV h [18] 1000000=_
  simp only[FW.bV]
  rw[if_neg (by decide),l9]
theorem Z'{a:List Nat}{s:Nat}(ha:Qj a)(bG:a.length<2^40)(hs:s<=15):Qd Tryz.prog 221 [PV.nat a,.int .i64 (-(s:Int))] (· =PV.num (val a/2^s)):=by
 have gM:=bZ ha
 unfold nl at gM
 by_cases h0:val a=0
 ·refine aE Qg Tryz.func221 JU fun C hP=> ?_
  refine Sz0 ?_
  refine Qb hP (iJ ha Oz) ?_
  refine Sz0 ?_
  refine Qx (fun hz=>by omega) (fun hz=> ?_)
  refine Sz0 ?_
  refine Qx (fun hz=>by omega) (fun hz=> ?_)
  refine Sz0 ?_
  refine Qa (fun hz=> ?_) (fun hz=>absurd (by rw[h0,fI];rfl) hz)
  refine Sz0 ?_
  exact oI (BA (by simp[h0])) rfl
 by_cases gz:s=0
 ·subst gz
  have:=(H4 (s:=0) ha bG Oz h0).Wg
  rw[KcZ,KbG]at this
  rw[KcZ,Nat.div_one]
  exact this
 have mc:(ak (val a)).length≠0:=fun h=>h0 (kP.1 (qz h))
 refine aE Qg Tryz.func221 JU fun C hP=> ?_
 refine Sz0 ?_
 refine Qb hP (iJ ha Oz) ?_
 refine Sz0 ?_
 refine Qx (fun hz=>by omega) (fun hz=> ?_)
 refine Sz0 ?_
 refine Qx (fun hz=>by omega) (fun hz=> ?_)
 refine Sz0 ?_
 refine Qa (fun hz=>by omega) (fun hz=> ?_)
 refine Sz0 ?_
 refine Qa (fun hz=> ?_) (fun hz=>by omega)
 have e:(0:Int)- -(s:Int)=(s:Nat):=by omega
 refine Sz1 e ?_
 refine Qb hP (ZY (Qk (val a)) Oz hs) ?_
 refine Sz1 @Qw ?_
 exact Qc rfl rfl
theorem aaa{x d:Nat}(hx:(ak x).length<2^42)(hd:0<d)(m9:d<65536):Qd Tryz.prog 219 [PV.num x,.int .u16 d] (· = .aI [PV.num (x/d),.int .u16 (x%d:Nat)]):=by
 have:=XA (Qk x) hx hd m9
 rwa[Qw]at this
theorem H6{a b:List Nat}(ha:Qj a)(hb:Qj b)(bG:a.length<2^38)(dx:b.length<2^38):Qd Tryz.prog 192 [PV.nat a,PV.nat b]
  (· =if val b=0 then .aI [PV.num 0,PV.num 0,.int .i64 3]else .aI [PV.num (val a/val b),PV.num (val a%val b),.int .i64 0]):=by
 have gM:=bZ ha
 have jq:=bZ hb
 unfold nl at gM jq
 refine aE Qg Tryz.func192 afx fun C hP=> ?_
 refine Sz0 ?_
 refine Qb hP (iJ ha Oz) ?_
 refine Sz0 ?_
 refine Qb hP (iJ hb Oz) ?_
 refine Sz0 ?_
 have dN:=Qk (val a)
 have mi:=Qk (val b)
 have rG:=Qw (val a)
 have yp:=Qw (val b)
 have arb:=Bh (val b)
 generalize val a=x at *
 generalize val b=y at *
 refine Qa (fun hz=> ?_) (fun hz=> ?_)
 ·have cY:y=0:=kP.1 (qz Oz)
  refine Sz0 ?_
  rw[if_pos cY]
  exact kU rfl rfl rfl rfl yY yY (Qn _)
 have cY:y≠0:=fun h=>by rw[h,fI]at hz;simp at hz
 rw[if_neg cY]
 refine Sz0 ?_
 refine Qb hP (Ey dN mi Oz Oz) ?_
 refine Sz2 rG yp ?_
 refine Qa (fun hc=> ?_) (fun hc=> ?_)
 ·have au:x<y:=by
   unfold gY at hc;split at hc
   ·assumption
   ·split at hc<;>omega
  refine Sz0 ?_
  refine Qb hP (AZ dN Oz) ?_
  refine Sz1 rG ?_
  exact kU rfl rfl rfl rfl (BA (KbY au)) (uW (by rw[KaO au])) (Qn _)
 have il:y<=x:=by
  unfold gY at hc;split at hc<;>omega
 refine Sz0 ?_
 refine Qa (fun h1=> ?_) (fun h1=> ?_)
 ·obtain⟨d,hd⟩:∃d,ak y=[d]:=by
   match h:ak y,h1 with
   | [d],_=>exact⟨d,rfl⟩
   | [],h1=>simp at h1
   |_::_::_,h1=>simp at h1;omega
  have hyd:y=d:=by rw[<-yp,hd];simp[val]
  have sI:d<65536:=by rw[hd]at mi;exact mi d (by simp)
  simp+decide (disch:=first|omega|rfl|(simp+decide only[go_sem,hd,Kbd,Kbw,KaP,Kbn]<;>rfl)|fail) only[go_sem,hd,Kbd,Kbw,KaP,Kbn]
  refine Nm hP (aaa (x:=x) (d:=d) Oz Oz sI) (by rw[PV.num];rfl) rfl rfl ?_
  have hm:x%d<18446744073709551616:=by have:=Kbt x (show 0<d by omega);omega
  refine Sz0 ?_
  refine Qb hP (Fm hm) ?_
  refine Sz0 ?_
  rw[hyd]
  exact kU rfl rfl rfl rfl (Qn _) (Qn _) (Qn _)
 obtain⟨n,hn⟩:∃n,(ak y).length=n+2:=⟨(ak y).length-2,by omega⟩
 obtain⟨m,hm⟩:∃m,(ak x).length=m+2:=by
  have:=gC il
  unfold nl at this
  exact⟨(ak x).length-2,by omega⟩
 have e1:((n+2:Nat):Int)-1=((n+1:Nat):Int):=by omega
 have iq:(ak y)[n+1]'Oz≠0:=by
  intro h;apply arb
  have:(ak y).getLast? =some ((ak y)[n+1]'Oz):=by
   rw[Kbk,show(ak y).length-1=n+1 by omega];exact Kag _
  rw[this,h]
 have jM:=ek mi (show n+1<(ak y).length by omega)
 have ash:val (ak y)=y:=Qw y
 generalize wy:(ak y)[n+1]'Oz=yi at *
 have sH:=H5 jM
 have hbp:=Ij jM iq
 obtain⟨cJ,aqS⟩:=ZZ _ yi rfl iq jM
 obtain⟨s,hs,wq⟩:∃s,16-Lib.bitLen yi=s/\s<=15:=⟨_,rfl,by omega⟩
 refine Sz3 hn e1 wy ?_
 refine Qb hP (Qsh jM) ?_
 refine Sz1 hs ?_
 have Lj:=H4 (a:=ak x) (s:=s) dN Oz wq (by rw[rG];omega)
 refine aiO hP Lj rfl rfl rfl (by decide) ?_
 rintro _ _ rfl
 rw[rG]
 have hDl:(ak (x*2^s)).length<=m+3:=by
  have h1:=pS x (2^s)
  have h2:nl (2^s)<=1:=nG.2 (by have:2^s<=2^15:=KaN Oz wq;omega)
  unfold nl at h1 h2;omega
 have ar2:m+2<=(ak (x*2^s)).length:=by
  have:=gC (show x<=x*2^s from Ka1 _ (Kbp Oz))
  unfold nl at this;omega
 refine Sz1 hm ?_
 rw[Is (ys:=cj [0,0]) (xs:=cj (ak (x*2^s))) (by simp+decide (disch:=first|omega|rfl|(simp+decide only[go_sem,jd]<;>rfl)|fail) only[go_sem,jd];rfl) Tz0 Oz (by simp) (by simp;omega) (by simp;omega)]
 rw[Kac (by simp),<-List.map_append]
 simp+decide (disch:=first|omega|rfl|(simp+decide only[go_sem,hm,KaP,Kbn]<;>rfl)|fail) only[go_sem,hm,KaP,Kbn]
 have Vw:=(H4 (a:=ak y) (s:=s) mi Oz wq (by rw[yp];omega)).Wg
 rw[yp]at Vw
 refine Qb hP Vw ?_
 obtain⟨g1,g2⟩:=abv wq (by rw[show 16-s=Lib.bitLen yi by omega];exact cJ) (by rw[show 16-s=Lib.bitLen yi by omega];exact aqS)
 obtain⟨Ut,hYt,apt⟩:=Xw hn wy g1 g2
 have gm:n<=m:=by have:=gC il;unfold nl at this;omega
 obtain⟨u,ex,Lm,GN,hu3,hu4,hu5,hu6⟩:=Xx (s:=s) hm wq gm apt
 have apO:x*2^s/(y*2^s)=x/y:=Nat.mul_div_mul_right _ _ (Kbp Oz)
 have apP:x*2^s%(y*2^s)=x%y*2^s:=Nat.mul_mod_mul_right _ _ _
 rw[Lm]
 refine Sz0 ?_
 have xV:=abm (u:=u) (v:=ak (y*2^s)) (ex:=ex) hu3 (Qk _) Oz Oz (by rw[Ut];exact hYt) (by rw[Ut,GN,Qw];exact hu6) Oz
 rw[GN,hu4,Qw,apO,apP]at xV
 refine Fy hP xV (β:=52) Tz0 (rW _) (by simp;omega) (by simp[kM]) rfl ?_
 rintro _ _ _ _ ⟨rfl,l,rfl,xT,rA,hl3⟩
 have e5:IntKind.i64.wrap (0-(s:Int))= -(s:Int):=by rw[w6 Oz Oz];omega
 have aW:(cj (l++ex)).take (m+2+1)=cj l:=by rw[<-List.map_take,show m+2+1=l.length by omega,List.take_left]
 simp+decide (disch:=first|omega|rfl|(simp+decide only[go_sem,oM]<;>rfl)|fail) only[go_sem,oM]
 refine kS hP (iJ xT Oz) (by simp[aO,cN,aP,Qi,<-List.map_append,aW]) rfl ?_
 refine Sz1 e5 ?_
 rw[hl3]
 have GK:=Z' (a:=ak (x%y*2^s)) (s:=s) (Qk _) (by have:=gC (show x%y*2^s<=x*2^s from Kah _ (Nat.mod_le _ _));unfold nl at this;omega) wq
 rw[Qw,Nat.mul_div_cancel _ (Kbp Oz)]at GK
 refine Qb hP GK ?_
 refine Sz0 ?_
 exact kU rfl rfl rfl rfl (Qn _) (Qn _) (Qn _)
theorem Ni{a b:List Nat}(ha:Qj a)(hb:Qj b)(bG:a.length<2^38)(dx:b.length<2^38):Qd Tryz.prog 186 [PV.nat a,PV.nat b] (· =PV.num (Nat.gcd (val a) (val b))):=by
 have gM:=bZ ha
 have jq:=bZ hb
 unfold nl at gM jq
 refine aE Qg Tryz.func186 afB fun C hP=> ?_
 refine Sz0 ?_
 refine Qb hP (AZ ha Oz) ?_
 refine Sz0 ?_
 refine Qb hP (AZ hb Oz) ?_
 refine Sz0 ?_
 refine Ql dq [(0,1),(4,11),(16,49)] [] (fun m J hp=>∃x y,m=y/\Nat.gcd x y=Nat.gcd (val a) (val b)/\(ak x).length<2^38/\(ak y).length<2^38/\J 0=PV.num x/\J 1=PV.num y/\hp=aA) (val b) ?_ ?_
 ·refine⟨val a,val b,rfl,rfl,by omega,by omega,?_⟩
  exact Tz2 @true_and @and_true
 rintro y J _ ⟨x,_,rfl,hg,hx,hy,h0,h1,rfl⟩
 generalize Nat.gcd (val a) (val b)=g at *
 refine Sz2 h0 h1 ?_
 refine Qa (fun hc=> ?_) (fun hc=> ?_)
 ·have cY:y≠0:=fun h=>by rw[h,fI]at hc;simp at hc
  have xY:(ak (x%y)).length<2^38:=by
   have:=gC (Nat.le_of_lt (Kbt x (Kba cY)));unfold nl at this;omega
  refine Sz2 h0 h1 ?_
  refine Qb hP (IN (Qk x) Oz) ?_
  refine Sz2 h0 h1 ?_
  rw[Qw]
  by_cases eT:nl x<=4
  ·have pC:=Eh.1 eT
   rw[if_pos eT]
   refine Sz2 h0 h1 ?_
   refine Qb hP (IN (Qk y) Oz) ?_
   rw[Qw]
   by_cases cR:nl y<=4
   ·have oh:=Eh.1 cR
    rw[if_pos cR]
    refine Sz2 h0 h1 ?_
    refine Ql dq [(5,5),(7,7),(33,38)] [] (fun m J hp=>∃p q,m=q/\Nat.gcd p q=g/\p<18446744073709551616/\q<18446744073709551616/\J 5= .int .u64 p/\J 7= .int .u64 q/\hp=aA) y ?_ ?_
    ·refine⟨x,y,rfl,hg,pC,oh,?_⟩
     exact Tz2 @true_and @and_true
    rintro q J2 _ ⟨p,_,rfl,eZ,ka,cc,h5,h7,rfl⟩
    refine Sz2 h5 h7 ?_
    refine Qa (fun hq=> ?_) (fun hq=> ?_)
    ·have gu:0<q:=by omega
     refine Sz3 h5 h7 @qC ?_
     refine Qf (p%q) (Kbt _ gu) ⟨q,p%q,rfl,?_,cc,?_,?_⟩
     ·rw[<-eZ,KcO p q,Nat.gcd_rec q p,KcO]
     ·have:=Kbt p gu;omega
     ·exact Tz2 @true_and @and_true
    ·obtain rfl:q=0:=by omega
     refine Sz2 h5 h7 ?_
     refine Qb hP (Fm ka) ?_
     refine Sz0 ?_
     exact Qc (by rw[<-eZ,Kc2]) rfl
   ·rw[if_neg cR]
    refine Sz2 h0 h1 ?_
    refine Qb hP (H6 (Qk x) (Qk y) Oz Oz) ?_
    rw[Qw,Qw,if_neg cY]
    refine Sz2 h0 h1 ?_
    refine Qf (x%y) (Kbt _ (Kba cY)) ⟨y,x%y,rfl,?_,hy,xY,?_⟩
    ·rw[<-hg,KcO x y,Nat.gcd_rec y x,KcO]
    ·exact Tz2 @true_and @and_true
  ·rw[if_neg eT]
   refine Sz2 h0 h1 ?_
   refine Qb hP (IN (Qk y) Oz) ?_
   obtain⟨r1,r2,hr⟩:∃r1 r2,(if nl (val (ak y))<=4 then PV.aI [.int .u64 (val (ak y)),.bool true]else .aI [.int .u64 0,.bool false])= .aI [.int .u64 r1,.bool r2]:=by
    split<;>exact⟨_,_,rfl⟩
   rw[hr]
   refine Sz2 h0 h1 ?_
   refine Qb hP (H6 (Qk x) (Qk y) Oz Oz) ?_
   rw[Qw,Qw,if_neg cY]
   refine Sz2 h0 h1 ?_
   refine Qf (x%y) (Kbt _ (Kba cY)) ⟨y,x%y,rfl,?_,hy,xY,?_⟩
   ·rw[<-hg,KcO x y,Nat.gcd_rec y x,KcO]
   ·exact Tz2 @true_and @and_true
 ·have cY:y=0:=kP.1 (qz Oz)
  subst cY
  refine Sz1 h0 ?_
  exact Qc (by rw[<-hg,Kc2]) rfl
theorem yH(n:Bool)(x:Nat):Qd Tryz.prog 188 [.bool n,PV.num x] (· =PV.zz (if n then -(x:Int)else x)):=by
 refine aE Qg Tryz.func188 afF fun C hP=> ?_
 refine Sz0 ?_
 refine yL (fun hn=> ?_) (fun hn=> ?_)
 all_goals
  refine Sz0 ?_
  refine cn ?_
  refine Sz0 ?_
  exact Qc (by rw[<-JQ,hn];simp) rfl
theorem abP{n:Bool}{a:List Nat}(ha:Qj a)(bG:a.length<2^42):Qd Tryz.prog 217 [.bool n,PV.nat a] (· =PV.zz (zv n a)):=by
 refine aE Qg Tryz.func217 afE fun C hP=> ?_
 refine Sz0 ?_
 refine Qb hP (AZ ha bG) ?_
 refine Sz0 ?_
 refine yL (fun hn=> ?_) (fun hn=> ?_)
 all_goals
  refine Sz0 ?_
  refine cn ?_
  refine Sz0 ?_
  exact Qc (by have:=JQ n (val a);rw[hn]at this;subst hn;simpa[zv]using this) rfl
theorem XD{n:Bool}{a:List Nat}(ha:Qj a)(bG:a.length<2^42):Qd Tryz.prog 191 [PV.zi n a] (· =PV.zz (zv n a)):=by
 refine aE Qg Tryz.func191 ae7 fun C hP=> ?_
 refine Sz0 ?_
 refine Qb hP (abP ha bG) ?_
 refine Sz0 ?_
 refine cn ?_
 refine Sz0 ?_
 exact Qc rfl rfl
theorem DN{n:Bool}{a:List Nat}(ha:Qj a)(bG:a.length<2^40):Qd Tryz.prog 109 [PV.zi n a] (· = .int .i64 (fa (zv n a))):=by
 refine aE Qg Tryz.func109 ae9 fun C hP=> ?_
 refine Sz0 ?_
 refine pL hP (Mu ha bG) rfl rfl rfl ?_
 rintro _ ⟨k,rfl,hk⟩
 refine Sz0 ?_
 rw[Hq]
 refine Qa (fun hz=> ?_) (fun hz=> ?_)
 ·refine Sz0 ?_
  rw[if_pos (hk.1 Oz)]
  exact Qc rfl rfl
 ·rw[if_neg (fun h=>hz (by rw[hk.2 h];rfl))]
  refine Sz0 ?_
  refine AT (fun hn=> ?_) (fun hn=> ?_)
  ·refine Sz0 ?_
   exact Qc (by simp[hn]) rfl
  ·refine Sz0 ?_
   exact Qc (by simp[hn]) rfl
theorem Rv{a b:List Nat}(ha:Qj a)(hb:Qj b)(bG:a.length<2^40)(dx:b.length<2^40):Qd Tryz.prog 233 [PV.nat a,PV.nat b] (· = .int .i64 (gY (val a) (val b))):=by
 refine aE Qg Tryz.func233 afb fun C hP=> ?_
 refine Sz0 ?_
 refine Qb hP (Ey ha hb bG dx) ?_
 refine Sz0 ?_
 exact Qc rfl rfl
theorem aab{n m:Bool}{a b:List Nat}(ha:Qj a)(hb:Qj b)(bG:a.length<2^40)(dx:b.length<2^40):Qd Tryz.prog 224 [PV.zi n a,PV.zi m b] (· = .int .i64 (dC (zv n a) (zv m b))):=by
 have hx:=Hq n a
 have hy:=Hq m b
 refine aE Qg Tryz.func224 afa fun C hP=> ?_
 refine Sz0 ?_
 refine Qb hP (DN ha bG) ?_
 refine Sz0 ?_
 refine Qb hP (DN hb dx) ?_
 refine Sz0 ?_
 refine Qa (fun hs=> ?_) (fun hs=> ?_)
 ·refine Sz0 ?_
  exact Qc (by rw[aeZ hs]) rfl
 refine Sz0 ?_
 refine Qa (fun cR=> ?_) (fun cR=> ?_)
 ·refine Sz0 ?_
  exact Qc (by rw[ae0 cR]) rfl
 have he:fa (zv n a)=fa (zv m b):=by omega
 refine Sz0 ?_
 refine Qa (fun wu=> ?_) (fun wu=> ?_)
 ·refine Sz0 ?_
  refine Qb hP (Rv hb ha dx bG) ?_
  refine Sz0 ?_
  exact Qc (by rw[ae1 (BD.1 wu) (BD.1 (he▸wu))]) rfl
 ·refine Sz0 ?_
  refine Qb hP (Rv ha hb bG dx) ?_
  refine Sz0 ?_
  exact Qc (by rw[ae2 (fun h=>wu (BD.2 h)) (fun h=>wu (he▸BD.2 h))]) rfl
theorem SL{n m:Bool}{a b:List Nat}(ha:Qj a)(hb:Qj b)(bG:a.length<2^40)(dx:b.length<2^40):Qd Tryz.prog 213 [PV.zi n a,PV.zi m b] (· =PV.zz (zv n a+zv m b)):=by
 refine aE Qg Tryz.func213 afc fun C hP=> ?_
 refine Sz0 ?_
 refine AT (fun gm=> ?_) (fun gm=> ?_)
 ·have gm:n=m:=by simpa using gm
  subst gm
  refine Sz0 ?_
  refine Qb hP (ada ha hb bG dx) ?_
  refine Sz0 ?_
  refine Qb hP (yH n (val a+val b)) ?_
  refine Sz0 ?_
  refine cn ?_
  refine Sz0 ?_
  exact Qc (congrArg PV.zz (by unfold zv;split<;>simp<;>omega)) rfl
 have gm:n= !m:=by cases n<;>cases m<;>simp_all
 subst gm
 refine Sz0 ?_
 refine Qb hP (Ey ha hb bG dx) ?_
 refine Sz0 ?_
 refine Qa (fun hc=> ?_) (fun hc=> ?_)
 ·rw[EK]at hc
  refine Sz0 ?_
  refine Qb hP (Nh hb ha dx bG Oz) ?_
  refine Sz0 ?_
  refine Qb hP (yH m (val b-val a)) ?_
  refine Sz0 ?_
  refine cn ?_
  refine Sz0 ?_
  exact Qc (congrArg PV.zz (by unfold zv;cases m<;>simp<;>omega)) rfl
 ·rw[EK]at hc
  refine Sz0 ?_
  refine Qb hP (Nh ha hb bG dx Oz) ?_
  refine Sz0 ?_
  refine Qb hP (yH (!m) (val a-val b)) ?_
  refine Sz0 ?_
  refine cn ?_
  refine Sz0 ?_
  exact Qc (congrArg PV.zz (by unfold zv;cases m<;>simp<;>omega)) rfl
theorem tj{n m:Bool}{a b:List Nat}(ha:Qj a)(hb:Qj b)(bG:a.length<2^40)(dx:b.length<2^40):Qd Tryz.prog 173 [PV.zi n a,PV.zi m b] (· =PV.zz (zv n a*zv m b)):=by
 refine aE Qg Tryz.func173 afd fun C hP=> ?_
 refine Sz0 ?_
 refine Qb hP (EA ha hb bG dx) ?_
 refine Sz0 ?_
 refine Qb hP (yH (!(n==m)) (val a*val b)) ?_
 refine Sz0 ?_
 refine cn ?_
 refine Sz0 ?_
 exact Qc (congrArg PV.zz (by unfold zv;cases n<;>cases m<;>simp[Int.neg_mul,Int.mul_neg])) rfl
theorem EB{a:List Nat}(hl:a.length<2^43):Qd Tryz.prog 175 [PV.nat a] (· = .bool (decide (a=[1]))):=by
 refine aE Qg Tryz.func175 afe fun C hP=> ?_
 refine Sz0 ?_
 refine Qa (fun hz=> ?_) (fun hz=> ?_)
 ·obtain⟨x,xs,rfl⟩:∃x xs,a=x::xs:=by
   match a,hz with
   |x::xs,_=>exact⟨x,xs,rfl⟩
  simp+decide (disch:=first|omega|rfl|(simp+decide only[go_sem,Kbd,List.getElem_cons_zero]<;>rfl)|fail) only[go_sem,Kbd,List.getElem_cons_zero]
  refine Qc (congrArg PV.bool ?_) rfl
  rw[<-Bool.decide_and]
  exact decide_eq_decide.2 ⟨fun⟨h1,h2⟩=>by
   have:xs=[]:=KaE.1 Oz
   subst this;congr 1;omega,fun h=>by
   injection h with h1 h2;subst h1 h2;simp⟩
 ·have:a=[]:=KaE.1 Oz
  subst this
  refine Sz0 ?_
  exact Qc rfl rfl
theorem Rw(x:Nat):(ak x=[1])↔x=1:=⟨fun h=>by have:=Qw x;rw[h]at this;simpa[val]using this.symm,fun h=>by rw[h,tB]⟩
theorem JV{x:Nat}(hl:(ak x).length<2^43):Qd Tryz.prog 175 [PV.num x] (· = .bool (decide (x=1))):=by
 have:=EB hl
 rwa[decide_eq_decide.2 (Rw x)]at this
theorem Ep:Qd Tryz.prog 128 [] (· =PV.nat [1]):=by
 refine aE Qg Tryz.func128 aff fun C hP=> ?_
 refine Sz0 ?_
 exact Qc rfl rfl
theorem SM{x y:Nat}(hx:(ak x).length<2^38)(hy:(ak y).length<2^38)(h0:y≠0):Qd Tryz.prog 192 [PV.num x,PV.num y] (· = .aI [PV.num (x/y),PV.num (x%y),.int .i64 0]):=by
 have:=H6 (Qk x) (Qk y) hx hy
 rwa[Qw,Qw,if_neg h0]at this
theorem af4{x y:Nat}(hx:(ak x).length<2^38)(hy:(ak y).length<2^38):Qd Tryz.prog 186 [PV.num x,PV.num y] (· =PV.num (Nat.gcd x y)):=by
 have:=Ni (Qk x) (Qk y) hx hy
 rwa[Qw,Qw]at this
theorem HX{n:Bool}{a d:List Nat}(ha:Qj a)(hd:Qj d)(bG:a.length<2^38)(rB:d.length<2^38):Qd Tryz.prog 129 [PV.zi n a,PV.nat d] (· =PV.rat (rv n a d)):=by
 have iF:=bZ ha
 have uo:=bZ hd
 rw[<-jA n a]at iF
 unfold rv
 unfold nl at iF uo
 refine aE Qg Tryz.func129 afQ fun C hP=> ?_
 refine Sz0 ?_
 refine Qb hP (AZ hd Oz) ?_
 refine Sz0 ?_
 refine Qb hP (XD ha Oz) ?_
 refine Sz0 ?_
 generalize zv n a=z at *
 generalize val d=D at *
 have hlen:∀x:Nat,((ak x).length:Int)=0↔x=0:=fun x=>by
  rw[<-kP,<-List.length_eq_zero_iff];omega
 have TW:∀ {fr:Fr} {hp:HP},(D=0∨z=0)->zL (· =PV.rat (mkRat z D)) (.agg [.bool false,.al,PV.nat [1]]):=fun h=>by
  rw[RM h];exact oI On rfl
 refine Qx (fun hz=> ?_) (fun hz=> ?_)
 ·refine Sz0 ?_
  refine Qb hP Ep ?_
  refine Sz0 ?_
  refine cn ?_
  refine Sz0 ?_
  exact TW (fr:=bJ) (hp:=aA) (.inl ((hlen _).1 hz))
 refine Sz0 ?_
 refine Qa (fun Ag=> ?_) (fun Ag=> ?_)
 ·refine Sz0 ?_
  refine Qb hP Ep ?_
  refine Sz0 ?_
  refine cn ?_
  refine Sz0 ?_
  exact TW (fr:=bJ) (hp:=aA) (.inr (Int.natAbs_eq_zero.1 ((hlen _).1 Ag)))
 have hD:D≠0:=fun h=>hz ((hlen _).2 h)
 refine Sz0 ?_
 refine Qb hP (JV Oz) ?_
 refine Sz0 ?_
 refine Qa (fun h1=> ?_) (fun h1=> ?_)
 ·subst h1
  refine Sz0 ?_
  refine cn ?_
  refine Sz0 ?_
  exact Qc (by rw[<-ak2];simp only[tB]) rfl
 refine Sz0 ?_
 refine Qb hP (af4 Oz Oz) ?_
 have qk:Nat.gcd z.natAbs D≠0:=fun h=>hD (Nat.eq_zero_of_gcd_eq_zero_right h)
 have xP:(ak (Nat.gcd z.natAbs D)).length<2^38:=by
  have:=gC (Kda z.natAbs (Kba hD));unfold nl at this;omega
 have fm:=PM (z:=z) hD
 generalize Nat.gcd z.natAbs D=g at *
 refine Sz0 ?_
 refine Qb hP (JV Oz) ?_
 refine Sz0 ?_
 refine AT (fun h2=> ?_) (fun h2=> ?_)
 ·refine Sz0 ?_
  refine Qb hP (SM Oz xP qk) ?_
  refine Sz0 ?_
  refine Qb hP (SM Oz xP qk) ?_
  refine Sz0 ?_
  refine cn ?_
  refine Sz0 ?_
  exact Qc fm rfl
 ·have:g=1:=by simpa using h2
  subst this
  rw[Nat.div_one,Nat.div_one]at fm
  refine Sz0 ?_
  refine cn ?_
  refine Sz0 ?_
  exact Qc fm rfl
theorem uP(a:List Nat):Qd Tryz.prog 177 [PV.nat a] (· =PV.zi false a):=by
 refine aE Qg Tryz.func177 afS fun C hP=> ?_
 refine Sz0 ?_
 refine cn ?_
 refine Sz0 ?_
 exact Qc rfl rfl
def ajm(k:Nat)(q:Rat)(r:PV):Prop:=∃n a d,r= .aI [PV.zi n a,PV.nat d]/\Qj a/\Qj d/\a.length<=k/\d.length<=k/\val d≠0/\rv n a d=q
theorem rS{n:Bool}{a d:List Nat}{k:Nat}(ha:Qj a)(hd:Qj d)(hk:1<=k)(bG:a.length<=k)(rB:d.length<=k)(ry:k<2^38):Qd Tryz.prog 108 [PV.rr n a d] (ajm k (rv n a d)):=by
 refine aE Qg Tryz.func108 afR fun C hP=> ?_
 refine Sz0 ?_
 refine pL hP (Mu hd Oz) rfl rfl rfl ?_
 rintro _ ⟨b,rfl,hb⟩
 refine Sz0 ?_
 refine Qa (fun hz=> ?_) (fun hz=> ?_)
 ·have h0:val d=0:=hb.1 Oz
  refine Sz0 ?_
  refine Qb hP Ep ?_
  refine Sz0 ?_
  refine nH ?_
  refine Sz0 ?_
  refine⟨⟨rfl,rfl⟩,.aI [PV.zi false [],PV.nat [1]],⟨⟨rfl,trivial,trivial⟩,Qn _,trivial⟩,false,[],[1],rfl,oG,by intro x hx;simp at hx;omega,by simp,by simpa using hk,by simp[val],?_⟩
  unfold rv;rw[h0,Rat.mkRat_zero];rfl
 ·have h0:val d≠0:=fun h=>hz (by rw[hb.2 h];rfl)
  refine Sz0 ?_
  refine jO ?_ ?_
  all_goals
   refine Sz0 ?_
   refine nH ?_
   refine Sz0 ?_
   exact⟨⟨rfl,rfl⟩,.aI [PV.zi n a,PV.nat d],⟨Qn _,Qn _,trivial⟩,n,a,d,rfl,ha,hd,bG,rB,h0,rfl⟩
theorem adb{z:Int}{m:Bool}{b:List Nat}(hb:Qj b)(bG:nl z.natAbs<2^40)(dx:b.length<2^40):Qd Tryz.prog 213 [PV.zz z,PV.zi m b] (· =PV.zz (z+zv m b)):=by
 have:=SL (n:=decide (z<0)) (a:=ak z.natAbs) (m:=m) (Qk _) hb bG dx
 rwa[mK]at this
theorem NM{n m:Bool}{a b:List Nat}(ha:Qj a)(hb:Qj b)(bG:a.length<2^39)(dx:b.length<2^39):Qd Tryz.prog 176 [.sl 2 [PV.zi n a,PV.zi m b]] (· =PV.zz (zv n a+zv m b)):=by
 have iF:=bZ ha
 rw[<-jA n a]at iF
 refine aE Qg Tryz.func176 afW fun C hP=> ?_
 refine Sz0 ?_
 refine Ql dq [(5,5),(8,15)] [5] (fun k J hp=>∃i,k=2-i/\i<=2/\J 8= .int .i64 (i:Nat)/\hp 2=some ⟨2,49,[.agg [.bool false,.al]],false⟩/\hp 3=some ⟨2,49,[if i=0 then .agg [.bool false,.al]else if i=1 then PV.zz (zv n a)else PV.zz (zv n a+zv m b)],false⟩) 2 ?_ ?_
 ·refine⟨0,rfl,by omega,?_⟩
  refine Sz0 ?_
  simp
 rintro _ J h ⟨i,rfl,hi,h8,dI,bR⟩
 refine Sz1 h8 ?_
 refine Qa (fun hg=> ?_) (fun hg=> ?_)
 ·have gj:i=0∨i=1:=by have:i<2:=Oz;omega
  rcases gj with rfl|rfl
  ·have Ca:J 8= .int .i64 0:=h8
   refine Sz3 Ca dI bR ?_
   refine Qb hP ((SL (n:=false) (a:=[]) (m:=n) (b:=a) oG ha (by simp) Oz).le (args':=[.agg [.bool false,.al],PV.zi n a]) ⟨⟨rfl,trivial,trivial⟩,Qn _,trivial⟩) ?_
   refine Sz3 Ca dI bR ?_
   refine Qf 1 Oz ⟨1,rfl,by omega,?_⟩
   refine Sz2 dI bR ?_
   simp[zv,val]
  ·rw[if_neg Oz,if_pos rfl]at bR
   have Ca:J 8= .int .i64 1:=h8
   refine Sz3 Ca dI bR ?_
   refine Qb hP (adb (z:=zv n a) hb Oz Oz) ?_
   refine Sz3 Ca dI bR ?_
   refine Qf 0 Oz ⟨2,rfl,by omega,?_⟩
   refine Sz2 dI bR ?_
   simp
 ·obtain rfl:i=2:=by simp at hg;omega
  rw[if_neg Oz,if_neg Oz]at bR
  refine Sz3 h8 dI bR ?_
  refine cn ?_
  refine Sz2 dI bR ?_
  exact Qc rfl rfl
theorem DY{z:Int}{d:List Nat}(hd:Qj d)(hz:nl z.natAbs<2^38)(rB:d.length<2^38):Qd Tryz.prog 129 [PV.zz z,PV.nat d] (· =PV.rat (mkRat z (val d))):=by
 have:=HX (n:=decide (z<0)) (Qk z.natAbs) hd hz rB
 rwa[rv,mK]at this
theorem PT{x y:Int}(hx:nl x.natAbs<2^39)(hy:nl y.natAbs<2^39):Qd Tryz.prog 176 [.sl 2 [PV.zz x,PV.zz y]] (· =PV.zz (x+y)):=by
 have:=NM (n:=decide (x<0)) (m:=decide (y<0)) (Qk x.natAbs) (Qk y.natAbs) hx hy
 rwa[mK,mK]at this
theorem ade{x y:Int}(hx:nl x.natAbs<2^40)(hy:nl y.natAbs<2^40):Qd Tryz.prog 224 [PV.zz x,PV.zz y] (· = .int .i64 (dC x y)):=by
 have:=aab (n:=decide (x<0)) (m:=decide (y<0)) (Qk x.natAbs) (Qk y.natAbs) hx hy
 rwa[mK,mK]at this
structure Raw(k:Nat)(n:Bool)(a d:List Nat):Prop where
 la:Qj a
 ld:Qj d
 sa:a.length<=k
 sd:d.length<=k
 k1:1<=k
theorem eW{q:Rat}{k:Nat}(h:rs q<=k):Raw k (decide (q.num<0)) (ak q.num.natAbs) (ak q.den):=by
 have:=Hr q
 unfold rs nl at *
 exact⟨Qk _,Qk _,by omega,by omega,by omega⟩
theorem Raw.rs{n:Bool}{a d:List Nat}{k:Nat}(h:Raw k n a d):FW.rs (rv n a d)<=k:=aiZ (k:=k) (n:=k) h.la h.ld h.sa h.sd h.k1
theorem IP{n m:Bool}{a d b c:List Nat}{k:Nat}(hp:Raw k n a d)(hq:Raw k m b c)(hk:k<2^36):Qd Tryz.prog 107 [PV.rr n a d,PV.rr m b c] (· =PV.rat (rv n a d+rv m b c)):=by
 refine aE Qg Tryz.func107 afX fun C hP=> ?_
 refine Sz0 ?_
 refine pL hP (rS hp.la hp.ld hp.k1 hp.sa hp.sd Oz) rfl rfl rfl ?_
 rintro _ ⟨n',a',d',rfl,g1,g2,g3,g4,g5,g6⟩
 refine Sz0 ?_
 refine pL hP (rS hq.la hq.ld hq.k1 hq.sa hq.sd Oz) rfl rfl rfl ?_
 rintro _ ⟨m',b',c',rfl,e1,e2,e3,e4,e5,e6⟩
 refine Sz0 ?_
 refine Qb hP (EB Oz) ?_
 have key:=Rat.mkRat_add_mkRat (zv n' a') (zv m' b') g5 e5
 have Ls:nl (zv n' a').natAbs<=k:=by rw[jA];exact Kao (bZ g1) g3
 have Lt:nl (zv m' b').natAbs<=k:=by rw[jA];exact Kao (bZ e1) e3
 have Ln:nl (val d')<=k:=Kao (bZ g2) g4
 have yn:nl (val c')<=k:=Kao (bZ e2) e4
 rw[<-g6,<-e6]
 unfold rv
 rw[key]
 refine Sz0 ?_
 refine fV (fun h1=> ?_) (fun h1=> ?_)
 ·refine Sz0 ?_
  refine Qb hP (EB Oz) ?_
  refine Sz0 ?_
  refine Qa (fun h2=> ?_) (fun h2=> ?_)
  ·subst h1 h2
   refine Sz0 ?_
   refine kS hP (NM (n:=n') (m:=m') g1 e1 Oz Oz) tU rfl ?_
   refine gJ ?_
   have hs:=rR (zv n' a') (zv m' b')
   refine Qb hP (DY g2 Oz Oz) ?_
   refine gJ ?_
   refine cn ?_
   refine gJ ?_
   exact Qc (congrArg PV.rat (by simp[val])) rfl
  ·refine Sz0 ?_
   refine Qb hP (uP _) ?_
   refine Sz0 ?_
   refine Qb hP (tj (n:=n') (m:=false) g1 e2 Oz Oz) ?_
   refine Sz0 ?_
   refine Qb hP (uP _) ?_
   refine Sz0 ?_
   refine Qb hP (tj (n:=m') (m:=false) e1 g2 Oz Oz) ?_
   rw[uX,uX]
   have h3:=iy (zv n' a') (val c')
   have h4:=iy (zv m' b') (val d')
   have h5:=rR (zv n' a'*(val c':Int)) (zv m' b'*(val d':Int))
   have h6:=pS (val d') (val c')
   rw[Kbh]at h3 h4
   refine Sz0 ?_
   refine kS hP (PT (x:=zv n' a'*(val c':Int)) (y:=zv m' b'*(val d':Int)) Oz Oz) tU rfl ?_
   refine gJ ?_
   refine Qb hP (EA g2 e2 Oz Oz) ?_
   refine gJ ?_
   refine Qb hP (DY (z:=zv n' a'*(val c':Int)+zv m' b'*(val d':Int)) (Qk _) Oz (by show nl _<_;omega)) ?_
   refine gJ ?_
   refine cn ?_
   refine gJ ?_
   exact Qc (by rw[Qw]) rfl
 · simp+decide (disch:=try exact D0) only[go_sem]
   refine Qb hP (uP _) ?_
   refine Sz0 ?_
   refine Qb hP (tj (n:=n') (m:=false) g1 e2 Oz Oz) ?_
   refine Sz0 ?_
   refine Qb hP (uP _) ?_
   refine Sz0 ?_
   refine Qb hP (tj (n:=m') (m:=false) e1 g2 Oz Oz) ?_
   rw[uX,uX]
   have h3:=iy (zv n' a') (val c')
   have h4:=iy (zv m' b') (val d')
   have h5:=rR (zv n' a'*(val c':Int)) (zv m' b'*(val d':Int))
   have h6:=pS (val d') (val c')
   rw[Kbh]at h3 h4
   refine Sz0 ?_
   refine kS hP (PT (x:=zv n' a'*(val c':Int)) (y:=zv m' b'*(val d':Int)) Oz Oz) tU rfl ?_
   refine gJ ?_
   refine Qb hP (EA g2 e2 Oz Oz) ?_
   refine gJ ?_
   refine Qb hP (DY (z:=zv n' a'*(val c':Int)+zv m' b'*(val d':Int)) (Qk _) Oz (by show nl _<_;omega)) ?_
   refine gJ ?_
   refine cn ?_
   refine gJ ?_
   exact Qc (by rw[Qw]) rfl
end Go.Proofs.YtkoclfmjlolkhaaGreat
namespace Go.FW
open Go
variable {C : Ctx} {ρ : Nat -> Option Nat} {fr aC : Fr} {hp hp' : HP} {w w' : World} {K R : Qh}
theorem FC{P:Program}{pr:Bool}(hP:C.P=P){g:FuncId}{args aZ:List PV}{d:Option Nat}{G:Fr}{aA:HP}{aT:PV->Fr->HP->Prop}(h:jC P g aZ G aA aT)(gv:Nat->Option Nat)(τ:Nat->Nat)(hh:tP C hp aA gv)
  (sX:∀β γ,gv β=some γ->τ γ=β) (cl:args.map (b6 τ)=aZ) (iF:∀x∈args,∀γ∈x.refs++x.aQ,∃β,gv β=some γ)
  (hG:∀s,1000000<=s->G s= .undef∨∃s',1000000<=s'/\G s=b6 τ (fr s')/\∀γ∈(fr s').refs++(fr s').aQ,∃β,gv β=some γ) (bx:aZ.length<=1000000) (Lc:pr=true->∀β,gn gv β=none)
  (hK:∀(ρ:Nat->Option Nat) (tmps:Array Value) (w:World),Qr C ρ fr hp tmps w->∀r F H,aT r F H->(∀lI C2 v w',Qr C2 lI (jV r F) H #[v] w'->(∀β,C2.fx β≠none->H β≠none->True)->True)->∃(eo:Nat->Option Nat) (σ:Nat->Nat) (fC:Fr) (cc:HP),
   (∀γ β,eo γ=some β->H β≠none/\σ β=γ/\bE γ=true/\((aP β=true/\gn gv β=some γ)∨(aP β=false/\aP γ=false/\(hp γ=none∨∃bn,gn gv bn=some γ))))/\
   (∀β γ,gn gv β=some γ->aP β=true->eo γ=some β)/\
   (∀γ β,eo γ=some β->cc γ=H β)/\(∀γ,eo γ=none->(∃β,gn gv β=some γ)->cc γ=none)/\(∀γ,eo γ=none->(¬∃β,gn gv β=some γ)->cc γ=hp γ)/\
   (∀s,fC s= .undef∨
    (d≠some s/\fC s=fr s/\(∀γ∈(fr s).refs++(fr s).aQ,(¬∃β,gn gv β=some γ)∨∃β hb aw,gn gv β=some γ/\aP β=true/\hp γ=some hb/\H β=some aw/\aw.e=hb.e/\hb.xs.length<=aw.xs.length)/\∀γ e ty xs,fr s= .aF γ e ty xs->¬∃β,gn gv β=some γ)∨
    (d=some s/\fC s=b6 σ r/\∀β∈r.refs++r.aQ,eo (σ β)=some β)∨
    (∃s',1000000<=s'/\(∃γ e ty xs,F s'= .aF γ e ty xs)/\fC s=b6 σ (F s')/\∀β∈(F s').refs++(F s').aQ,eo (σ β)=some β))/\
   K fC cc):fY C pr (.fn g [] []) args d fr hp K:=by
 subst hP
 refine⟨h.1,fun ρ tmps w fv cv av rk hs h1 h2 h3 _ _ pq=> ?_⟩
 have e1:fv= #[]:=KbV (by simpa using h1)
 have e2:cv= #[]:=KbV (by simpa using h2)
 subst e1;subst e2
 simp only[Array.empty_append,Array.append_empty]
 refine(h.2 (vu C ρ fr hp aA tmps w gv hs hh aZ.length bx) _ av w rfl rfl rfl (ZW hs hh sX h3 cl pq iF hG bx)).mono ?_
 rintro e w' ⟨v,ρ',r,F,H,rfl,cR,fT⟩
 obtain⟨eo,σ,fC,cc,a1,a2,a3,a4,a5,a6,a7⟩:=hK ρ tmps w hs r F H fT (fun _ _ _ _ _ _=>trivial)
 exact⟨v,fC,cc,rfl,abk hs hh cR rk a1 a2 a3 a4 a5 a6,fun hq=>abl hs hh cR (Lc hq),a7⟩
def nI(r:PV):Prop:=(r.refs=[]/\r.aQ=[])/\∀σ,b6 σ r=r
theorem PU{gv:Nat->Option Nat}(h:∀β γ,gv β=some γ->dK β=false):gn gv=gv:=by
 funext β
 cases hr:dK β with
 |false=>exact vk hr
 |true=>
  unfold gn
  rw[if_pos hr]
  cases hq:gv β with
  |none=>rfl
  |some γ=>have:=h β γ hq;rw[hr]at this;cases this
theorem Hu{P:Program}(hP:C.P=P){pr:Bool}{g:FuncId}{args aZ:List PV}{d:Option Nat}{G:Fr}{aA:HP}{aT:PV->Fr->HP->Prop}(h:jC P g aZ G aA aT)(gv:Nat->Option Nat)(τ:Nat->Nat)
  (hR:∀β γ,gv β=some γ->dK β=true/\∃hb,hp γ=some hb/\aA β=some ⟨hb.e,hb.ty,hb.xs,true⟩) (ha:∀β,aA β≠none->∃γ,gv β=some γ) (hi:∀β bn γ,gv β=some γ->gv bn=some γ->β=bn)
  (sX:∀β γ,gv β=some γ->τ γ=β) (cl:args.map (b6 τ)=aZ) (iF:∀x∈args,∀γ∈x.refs++x.aQ,∃β,gv β=some γ)
  (hG:∀s,1000000<=s->G s= .undef∨∃s',1000000<=s'/\G s=b6 τ (fr s')/\∀γ∈(fr s').refs++(fr s').aQ,∃β,gv β=some γ) (bx:aZ.length<=1000000)
  (hK:∀r F H,aT r F H->nI r/\K (dB fr d r) hp):fY C pr (.fn g [] []) args d fr hp K:=by
 have g0:∀β,gn gv β=none:=fun β=>by
  unfold gn
  split
  ·rfl
  ·rename_i hr
   cases hq:gv β with
   |none=>rfl
   |some γ=>exact absurd (hR β γ hq).1 hr
 have C4:∀γ:Nat,¬∃β,gn gv β=some γ:=fun γ ⟨β,af⟩=>by rw[g0 β]at af;cases af
 refine FC hP h gv τ ⟨fun β γ hq=> ?_,ha,hi⟩ sX cl iF hG bx (fun _=>g0) (fun ρ tmps w hs r F H fT _=> ?_)
 ·obtain⟨h1,hb,h2,h3⟩:=hR β γ hq
  refine⟨hb,h2,?_,fun _=>h3,fun h=>by rw[h1]at h;cases h⟩
  simp[dK]at h1;simp[bE];omega
 ·obtain⟨⟨⟨p1,p2⟩,p3⟩,hk⟩:=hK r F H fT
  refine⟨fun _=>none,id,dB fr d r,hp,(fun _ _ h=>by cases h),(fun β γ h=>by rw[g0 β]at h;cases h),(fun _ _ h=>by cases h),fun γ _ h=>absurd h (C4 γ),fun _ _ _=>rfl,fun s=> ?_,hk⟩
  cases d with
  |none=>exact .inr (.inl ⟨(by simp),rfl,fun γ _=> .inl (C4 γ),fun γ _ _ _ _=>C4 γ⟩)
  | some d=>
   by_cases e:s=d
   ·subst e
    refine .inr (.inr (.inl ⟨rfl,?_,fun β af=>by rw[p1,p2]at af;cases af⟩))
    rw[p3];simp[dB,ae]
   ·exact .inr (.inl ⟨by simp;exact fun h=>e h.symm,by simp[dB,ae,e],fun γ _=> .inl (C4 γ),fun γ _ _ _ _=>C4 γ⟩)
def JW(P:Program)(f:FuncId)(args:List PV)(hb1 hb2:HB)(aT:PV->List PV->Prop):Prop:=
 jC P f args (fun _=> .undef) (Qi (Qi aA 1000000 hb1) 1500001 ⟨hb2.e,hb2.ty,hb2.xs,true⟩) fun r F H=>nI r/\∃xs,H 1000000=some ⟨hb1.e,hb1.ty,xs,false⟩/\xs.length=hb1.xs.length/\aT r xs
theorem ajn{P:Program}(hP:C.P=P){g:FuncId}{args aZ:List PV}{d:Option Nat}{dt wG:Nat}{hb1 hb2:HB}{aT:PV->List PV->Prop}(h:JW P g aZ hb1 hb2 aT)(h1:hp dt=some hb1)(h2:hp wG=some hb2)(aH:dt≠wG)(f1:hb1.fz=false)(n1:hb1.xs≠[])(B1:bE dt=true)
  (cl:args.map (b6 fun x=>if x=dt then 1000000 else if x=wG then 1500001 else x)=aZ) (iF:∀γ∈args.flatMap (fun x=>x.refs++x.aQ),γ=dt∨γ=wG) (bx:aZ.length<=1000000)
  (hK:∀r xs,xs.length=hb1.xs.length->aT r xs->K (dB fr d r) (Qi hp dt ⟨hb1.e,hb1.ty,xs,false⟩)):fY C false (.fn g [] []) args d fr hp K:=by
 obtain⟨gv,n8⟩:∃f:Nat->Option Nat,f=fun x=>if x=1000000 then some dt else if x=1500001 then some wG else none:=⟨_,rfl⟩
 have ga:∀β γ,gv β=some γ->(β=1000000/\γ=dt)∨(β=1500001/\γ=wG):=fun β γ hq=>by
  rw[n8]at hq;simp only at hq
  split at hq
  ·cases hq;rename_i e;exact .inl ⟨e,rfl⟩
  ·split at hq
   ·cases hq;rename_i e;exact .inr ⟨e,rfl⟩
   ·cases hq
 have g0:gv 1000000=some dt:=by rw[n8];rfl
 have g1:gv 1500001=some wG:=by rw[n8];rfl
 have y0:aP 1000000=true:=by decide
 have r0:dK 1000000=false:=by decide
 have r1:dK 1500001=true:=by decide
 have uc:∀β γ,gn gv β=some γ->β=1000000/\γ=dt:=fun β γ hq=>by
  obtain⟨k1,k2⟩:=zo hq
  rcases ga β γ k2 with h|⟨rfl,_⟩
  ·exact h
  ·rw[r1]at k1;cases k1
 have B9:gn gv 1000000=some dt:=(vk r0).trans g0
 refine FC hP h gv _ ⟨fun β γ hq=> ?_,fun β hq=> ?_,fun β bn γ q1 q2=> ?_⟩ (fun β γ hq=> ?_) cl (fun x hx γ aj=> ?_) (fun s _=> .inl rfl) bx (fun hq=>by cases hq) (fun ρ tmps w hs r F H aA _=> ?_)
 ·rcases ga β γ hq with⟨rfl,rfl⟩|⟨rfl,rfl⟩
  ·exact⟨hb1,h1,by decide,(fun h=>by rw[r0]at h;cases h),fun _=>⟨by simp[Qi],f1,B1,fun h=>by rw[y0]at h;cases h⟩⟩
  ·exact⟨hb2,h2,by decide,(fun _=>by simp[Qi]),fun h=>by rw[r1]at h;cases h⟩
 ·by_cases e:β=1500001
  ·subst e;exact⟨_,g1⟩
  ·by_cases e2:β=1000000
   ·subst e2;exact⟨_,g0⟩
   ·simp[Qi,FW.aA,e,e2]at hq
 ·rcases ga β γ q1 with⟨rfl,rfl⟩|⟨rfl,rfl⟩<;>rcases ga bn _ q2 with⟨rfl,e⟩|⟨rfl,e⟩
  ·rfl
  ·exact absurd e aH
  ·exact absurd e.symm aH
  ·rfl
 ·rcases ga β γ hq with⟨rfl,rfl⟩|⟨rfl,rfl⟩
  ·simp
  ·rw[if_neg (fun e=>aH e.symm),if_pos rfl]
 ·rcases iF γ (Kat.2 ⟨x,hx,aj⟩)with rfl|rfl
  ·exact⟨_,g0⟩
  ·exact⟨_,g1⟩
 ·obtain⟨⟨⟨p1,p2⟩,p3⟩,xs,k1,k2,k4⟩:=aA
  obtain⟨eo,n7⟩:∃f:Nat->Option Nat,f=fun γ=>if γ=dt then some 1000000 else none:=⟨_,rfl⟩
  have ea:∀γ β,eo γ=some β->γ=dt/\β=1000000:=fun γ β hq=>by
   rw[n7]at hq;simp only at hq
   split at hq
   ·cases hq;rename_i e;exact⟨e,rfl⟩
   ·cases hq
  have xB:eo dt=some 1000000:=by rw[n7];simp
  refine⟨eo,fun x=>dt,dB fr d r,Qi hp dt ⟨hb1.e,hb1.ty,xs,false⟩,fun γ β hq=> ?_,fun β γ hq _=> ?_,fun γ β hq=> ?_,fun γ hq hg=> ?_,fun γ hq hg=> ?_,fun s=> ?_,hK r xs k2 k4⟩
  ·obtain⟨rfl,rfl⟩:=ea γ β hq
   exact⟨by simp[k1],rfl,B1,.inl ⟨y0,B9⟩⟩
  ·obtain⟨rfl,rfl⟩:=uc β γ hq
   exact xB
  ·obtain⟨rfl,rfl⟩:=ea γ β hq
   rw[k1];simp[Qi]
  ·obtain⟨β,af⟩:=hg
   obtain⟨rfl,rfl⟩:=uc β γ af
   rw[xB]at hq;cases hq
  ·have:γ≠dt:=fun e=>by subst e;rw[xB]at hq;cases hq
   simp[Qi,this]
  ·have bb:=hs.cS s
   have hn:∀γ e ty xs,fr s= .aF γ e ty xs->¬∃β,gn gv β=some γ:=fun γ e ty xs e0 ⟨β,af⟩=>by
    rw[e0]at bb
    obtain⟨_,_,b,hb,_,_,_,l2,l3,_⟩:=bb
    obtain⟨rfl,rfl⟩:=uc β γ af
    rw[h1]at l2;cases l2;exact n1 l3
   have ho:∀γ∈(fr s).refs++(fr s).aQ,(¬∃β,gn gv β=some γ)∨∃β hb aw,gn gv β=some γ/\aP β=true/\hp γ=some hb/\H β=some aw/\aw.e=hb.e/\hb.xs.length<=aw.xs.length:=fun γ _=>by
    by_cases e:γ=dt
    ·subst e;exact .inr ⟨_,_,_,B9,y0,h1,k1,rfl,by simp[k2]⟩
    ·left
     rintro⟨β,af⟩
     exact e (uc β γ af).2
   cases d with
   |none=>exact .inr (.inl ⟨(by simp),rfl,ho,hn⟩)
   | some d=>
    by_cases e:s=d
    ·subst e
     refine .inr (.inr (.inl ⟨rfl,?_,fun β af=>by rw[p1,p2]at af;cases af⟩))
     rw[p3]
     simp[dB,ae]
    ·exact .inr (.inl ⟨by simp;exact fun h=>e h.symm,by simp[dB,ae,e],ho,hn⟩)
def vv(nm:Nat->Bool)(p:PV):PV:=if(p.refs++p.aQ).any nm then .undef else p
def iU(nm:Nat->Bool)(fr:Fr):Fr:=fun s=>vv nm (fr s)
def qf(nm ex:Nat->Bool)(H hp:HP):HP:=fun x=>if ex x then H x else if nm x then none else hp x
def rh(S:List Nat)(F fr:Fr):Fr:=fun s=>if S.contains s then F s else fr s
theorem QR(p:PV):dy id p=p:=PI fun _ _=>rfl
theorem QH{p:PV}(h:∀γ e ty xs,p≠ .aF γ e ty xs):b6 id p=p:=by
 have hm:∀l:List PV,l.map (dy id)=l:=fun l=>by
  conv=>rhs;rw[<-List.map_id l]
  exact KaL fun x _=>QR x
 cases p with
 |aF γ e ty xs=>exact absurd rfl (h _ _ _ _)
 |fn f a b=>simp only[b6,hm]
 |bm cs=>simp only[b6,hm]
 |_=>rfl
def G'(xs:List PV):Prop:=∀x∈xs,fA x.aU=x
theorem O0{γ e ty:Nat}{xs:List PV}(h:G' xs):b6 id (.aF γ e ty xs)= .aF γ e ty xs:=by
 simp only[b6,id]
 congr 1
 conv=>rhs;rw[<-List.map_id xs]
 refine KaL fun x hx=> ?_
 have:x.aU.map (dy id)=x.aU:=by
  conv=>rhs;rw[<-List.map_id x.aU]
  exact KaL fun y _=>QR y
 rw[this];exact h x hx
theorem Hv{P:Program}{pr:Bool}(hP:C.P=P){g:FuncId}{args aZ:List PV}{d:Option Nat}{G:Fr}{ka:HP}{aT:PV->Fr->HP->Prop}(h:jC P g aZ G ka aT)(nm ex:Nat->Bool)(S:List Nat)
  (gm:∀x,nm x=true->∃hb,hp x=some hb/\hb.fz=false/\2000000<=x) (Vg:∀x,ka x=if nm x then hp x else none) (cl:args=aZ) (bx:aZ.length<=1000000)
  (bA:∀x∈args,∀γ e ty xs,x≠ .aF γ e ty xs) (iF:∀γ∈args.flatMap (fun x=>x.refs++x.aQ),nm γ=true)
  (hG:∀s,1000000<=s->G s= .undef∨∃γ e ty xs,G s=fr s/\fr s= .aF γ e ty xs/\G' xs/\∀γ∈(fr s).refs++(fr s).aQ,nm γ=true)
  (hex:∀x,ex x=true->(hp x=none∨nm x=true)/\2000000<=x) (Lc:pr=true->∀x,nm x=false)
  (hK:∀r F H,aT r F H->(∀x,ex x=true->H x≠none)/\(∀γ e ty xs,r≠ .aF γ e ty xs)/\(∀β∈r.refs++r.aQ,ex β=true)/\(∀s∈S,1000000<=s/\(∃γ e ty xs,F s= .aF γ e ty xs/\G' xs)/\∀β∈(F s).refs++(F s).aQ,ex β=true)/\K (rh S F (dB (iU nm fr) d r)) (qf nm ex H hp)):
  fY C pr (.fn g [] []) args d fr hp K:=by
 obtain⟨gv,n8⟩:∃f:Nat->Option Nat,f=fun x=>if nm x then some x else none:=⟨_,rfl⟩
 have ga:∀β γ,gv β=some γ->β=γ/\nm γ=true:=fun β γ hq=>by
  rw[n8]at hq;simp only at hq
  split at hq
  ·cases hq;rename_i e;exact⟨rfl,e⟩
  ·cases hq
 have gb:∀γ,nm γ=true->gv γ=some γ:=fun γ aj=>by rw[n8];simp[aj]
 have gN:∀γ,(∃β,gv β=some γ)->nm γ=true:=fun γ ⟨β,af⟩=>(ga β γ af).2
 have gr:∀β γ,gv β=some γ->dK β=false:=fun β γ hq=>by
  obtain⟨rfl,hn⟩:=ga β γ hq
  obtain⟨_,_,_,k3⟩:=gm β hn
  simp[dK];omega
 refine FC hP h gv id ⟨fun β γ hq=> ?_,fun β hq=> ?_,fun β bn γ q1 q2=> ?_⟩ (fun β γ hq=>(ga β γ hq).1.symm) ?_ (fun x hx γ aj=>⟨γ,gb γ (iF γ (Kat.2 ⟨x,hx,aj⟩))⟩) (fun s hs=> ?_) bx (fun hq β=>by
  rw[PU gr,n8];simp only;rw[Lc hq β];rfl) (fun ρ tmps w hs r F H fT _=> ?_)
 ·obtain⟨rfl,hn⟩:=ga β γ hq
  obtain⟨hb,k1,k2,k3⟩:=gm β hn
  exact⟨hb,k1,by simp[bE];omega,(fun h=>by simp[dK]at h;omega),fun _=>⟨by rw[Vg,if_pos hn];exact k1,k2,by simp[bE];omega,fun _=>by simp[aP];omega⟩⟩
 ·refine⟨β,gb β ?_⟩
  cases hn:nm β with
  |true=>rfl
  |false=>rw[Vg,hn]at hq;simp at hq
 ·rw[(ga β γ q1).1,(ga bn γ q2).1]
 ·rw[<-cl]
  conv=>rhs;rw[<-List.map_id args]
  exact KaL fun x hx=>QH (bA x hx)
 ·rcases hG s hs with e|⟨γ,e,ty,xs,e1,e2,e3,e4⟩
  ·exact .inl e
  ·refine .inr ⟨s,hs,?_,fun γ aj=>⟨γ,gb γ (e4 γ aj)⟩⟩
   rw[e1,e2,O0 e3]
 ·rw [PU gr]
  obtain⟨a1,a2,a3,a4,a5⟩:=hK r F H fT
  obtain⟨eo,n7⟩:∃f:Nat->Option Nat,f=fun x=>if ex x then some x else none:=⟨_,rfl⟩
  have ea:∀γ β,eo γ=some β->γ=β/\ex γ=true:=fun γ β hq=>by
   rw[n7]at hq;simp only at hq
   split at hq
   ·cases hq;rename_i e;exact⟨rfl,e⟩
   ·cases hq
  have eb:∀γ,ex γ=true->eo γ=some γ:=fun γ aj=>by rw[n7];simp[aj]
  have en:∀γ,eo γ=none->ex γ=false:=fun γ aj=>by
   cases hq:ex γ with
   |false=>rfl
   |true=>rw[eb γ hq]at aj;cases aj
  refine⟨eo,id,rh S F (dB (iU nm fr) d r),qf nm ex H hp,fun γ β hq=> ?_,fun β γ hq hy=> ?_,fun γ β hq=> ?_,fun γ hq hg=> ?_,fun γ hq hg=> ?_,fun s=> ?_,a5⟩
  ·obtain⟨rfl,he⟩:=ea γ β hq
   obtain⟨k1,k2⟩:=hex γ he
   exact⟨a1 γ he,rfl,by simp[bE];omega,.inr ⟨by simp[aP];omega,by simp[aP];omega,k1.imp id fun hn=>⟨γ,gb γ hn⟩⟩⟩
  ·obtain⟨rfl,hn⟩:=ga β γ hq
   obtain⟨_,_,_,k3⟩:=gm β hn
   simp[aP]at hy;omega
  ·obtain⟨rfl,he⟩:=ea γ β hq
   simp[qf,he]
  ·simp[qf,en γ hq,gN γ hg]
  ·have:nm γ=false:=by
    cases hn:nm γ with
    |false=>rfl
    |true=>exact absurd ⟨γ,gb γ hn⟩ hg
   simp[qf,en γ hq,this]
  ·unfold rh
   by_cases hS:S.contains s=true
   ·rw[if_pos hS]
    obtain⟨b1,⟨γ,e,ty,xs,b2,b3⟩,b4⟩:=a4 s (by simpa using hS)
    refine .inr (.inr (.inr ⟨s,b1,⟨γ,e,ty,xs,b2⟩,?_,fun β af=>eb β (b4 β af)⟩))
    rw[b2,O0 b3]
   ·rw[if_neg hS]
    have Ar:d≠some s->iU nm fr s= .undef∨(d≠some s/\iU nm fr s=fr s/\(∀γ∈(fr s).refs++(fr s).aQ,(¬∃β,gv β=some γ)∨∃β hb aw,gv β=some γ/\aP β=true/\hp γ=some hb/\H β=some aw/\aw.e=hb.e/\hb.xs.length<=aw.xs.length)/\∀γ e ty xs,fr s= .aF γ e ty xs->¬∃β,gv β=some γ):=fun hds=>by
     unfold iU vv
     split
     ·exact .inl rfl
     ·rename_i sO
      have Ve:∀γ∈(fr s).refs++(fr s).aQ,¬∃β,gv β=some γ:=fun γ aj hg=>sO (Ka4.2 ⟨γ,aj,gN γ hg⟩)
      exact .inr ⟨hds,rfl,fun γ aj=> .inl (Ve γ aj),fun γ e ty xs e0=>Ve γ (by rw[e0];simp[PV.aQ])⟩
    cases d with
    |none=>
     simp only[dB]
     rcases Ar (by simp)with h|h
     ·exact .inl h
     ·exact .inr (.inl h)
    | some d=>
     by_cases e:s=d
     ·subst e
      refine .inr (.inr (.inl ⟨rfl,?_,fun β af=>eb β (a3 β af)⟩))
      rw[QH a2]
      simp[dB,ae]
     ·have e1:dB (iU nm fr) (some d) r s=iU nm fr s:=by simp[dB,ae,e]
      rw[e1]
      rcases Ar (by simp;exact fun h=>e h.symm)with h|h
      ·exact .inl h
      ·exact .inr (.inl h)
end Go.FW
namespace Go.FW
open Go
variable {C : Ctx} {ρ : Nat -> Option Nat} {fr aC : Fr} {hp : HP} {w : World} {K R : Qh}
theorem adf{B:List Nat}{F:Fr}{β δ:Nat}(af:B.contains β=true)(h2:β<1000000):rL β δ (cM B F)=cM B F:=afk (.inl af) (.inl h2)
theorem arE:
  (∀(σ:Nat->Nat)(k:IntKind)(n:Int),b6 σ (.int k n)= .int k n)/\
  (∀(σ:Nat->Nat)(b:Bool),b6 σ (.bool b)= .bool b)/\
  (∀(σ:Nat->Nat)(e:Nat)(xs:List PV),b6 σ (.sl e xs)= .sl e xs)/\
  (∀(σ:Nat->Nat)(cs:List PV),b6 σ (.agg cs)= .agg cs)/\
  (∀(σ:Nat->Nat)(cs:List PV),b6 σ (.aI cs)= .aI cs)/\
  (∀(σ:Nat->Nat)(cs:List PV),b6 σ (.pt cs)= .pt cs)/\
  (∀(σ:Nat->Nat),b6 σ .al= .al)/\
  (∀(σ:Nat->Nat),b6 σ .undef= .undef)/\
  (∀(σ:Nat->Nat)(β o n:Nat),b6 σ (.aB β o n)= .aB (σ β) o n)/\
  (∀(σ:Nat->Nat)(β o n:Nat),b6 σ (.mp β o n)= .mp (σ β) o n)/\
  (∀(σ:Nat->Nat)(β o n:Nat),b6 σ (.aG β o n)= .aG (σ β) o n)/\
  (∀(σ:Nat->Nat)(β o n:Nat),b6 σ (.np β o n)= .np (σ β) o n)/\
  (∀(σ:Nat->Nat)(cs:List PV),b6 σ (.bm cs)= .bm (cs.map (dy σ))):=by
 refine⟨?_,?_,?_,?_,?_,?_,?_,?_,?_,?_,?_,?_,?_⟩<;>intros<;>rfl
theorem arD:
  (∀(σ:Nat->Nat)(k:IntKind)(n:Int),dy σ (.int k n)= .int k n)/\
  (∀(σ:Nat->Nat)(b:Bool),dy σ (.bool b)= .bool b)/\
  (∀(σ:Nat->Nat)(e:Nat)(xs:List PV),dy σ (.sl e xs)= .sl e xs)/\
  (∀(σ:Nat->Nat),dy σ .al= .al)/\
  (∀(σ:Nat->Nat),dy σ .undef= .undef)/\
  (∀(σ:Nat->Nat)(β o n:Nat),dy σ (.aB β o n)= .aB (σ β) o n)/\
  (∀(σ:Nat->Nat)(β o n:Nat),dy σ (.aG β o n)= .aG (σ β) o n):=by
 refine⟨?_,?_,?_,?_,?_,?_,?_⟩<;>intros<;>rfl
theorem akC:
  (∀(γ:Nat)(k:IntKind)(n:Int),gF γ (.int k n)= .int k n)/\
  (∀(γ:Nat)(b:Bool),gF γ (.bool b)= .bool b)/\
  (∀(γ e:Nat)(xs:List PV),gF γ (.sl e xs)= .sl e xs)/\
  (∀(γ:Nat)(cs:List PV),gF γ (.agg cs)= .agg cs)/\
  (∀(γ:Nat)(cs:List PV),gF γ (.aI cs)= .aI cs)/\
  (∀(γ:Nat)(cs:List PV),gF γ (.pt cs)= .pt cs)/\
  (∀(γ:Nat),gF γ .al= .al)/\
  (∀(γ:Nat),gF γ .undef= .undef)/\
  (∀(γ β o n:Nat),gF γ (.aB β o n)=if β=γ then .aG γ o n else .aB β o n)/\
  (∀(γ β o n:Nat),gF γ (.mp β o n)=if β=γ then .np γ o n else .mp β o n)/\
  (∀(γ β o n:Nat),gF γ (.aG β o n)= .aG β o n)/\
  (∀(γ β o n:Nat),gF γ (.np β o n)= .np β o n):=by
 refine⟨?_,?_,?_,?_,?_,?_,?_,?_,?_,?_,?_,?_⟩<;>intros<;>rfl
theorem af5{γ s:Nat}{x:PV}:Ha γ x fr s=if s=γ then x else gF γ (fr s):=rfl
theorem af6{args:List PV}{G:Fr}{s:Nat}:sn args G s=if s<1000000 then(args[s]?).getD .undef else G s:=rfl
theorem af7{nm:Nat->Bool}{s:Nat}:iU nm fr s=vv nm (fr s):=rfl
theorem af8{nm:Nat->Bool}{p:PV}:vv nm p=if(p.refs++p.aQ).any nm then .undef else p:=rfl
theorem ajo{nm ex:Nat->Bool}{H:HP}{x:Nat}:qf nm ex H hp x=if ex x then H x else if nm x then none else hp x:=rfl
theorem ajp{S:List Nat}{F:Fr}{s:Nat}:rh S F fr s=if S.contains s then F s else fr s:=rfl
theorem SN(l:List (Nat×Nat)):G' (Qy l):=fun x hx=>by
 obtain⟨y,_,rfl⟩:=Kau.1 hx;rfl
theorem akD{d β n ty e:Nat}{xs ys:List PV}(hb:hp β=some ⟨e,ty,xs,false⟩)(he:0<e)(hn:n=xs.length)(hl:ys.length=n):
  qL e (.ms β n) (.sl e ys) d fr hp K=K (ae fr d (.int .i64 n)) (Qi hp β ⟨e,ty,ys,false⟩):=by
 rw[ac2 hb he hn]
 have h1:ys.take n=ys:=Kac (by omega)
 have h2:xs.drop ys.length=[]:=List.drop_eq_nil_of_le (by omega)
 rw[h1,h2,Kam]
 congr 2
 ·congr 1;congr 1;omega
attribute [go_sem] afh afi ajh aji ajg adf arE arD akC af5 af6 af7 af8 ajo ajp
end Go.FW
namespace Go.FW
open Go
variable {C : Ctx} {ρ : Nat -> Option Nat} {fr aC : Fr} {hp : HP} {w : World} {K R : Qh}
def gG(B i n:Nat)(L:Nat->Nat):List PV:=Qy (rws B i L)++List.replicate (n-i) .al
theorem abQ(B n:Nat)(L:Nat->Nat):List.replicate n PV.al=gG B 0 n L:=by simp[gG,rws,Qy]
theorem abR(B n:Nat)(L:Nat->Nat):gG B n n L=Qy (rws B n L):=by simp[gG]
theorem Rx{B i n:Nat}{L:Nat->Nat}(h:i<=n):(gG B i n L).length=n:=by simp[gG,Qy,rws];omega
theorem adg{B i n j:Nat}{L:Nat->Nat}(h:j<i):(gG B i n L)[j]? =some (.ms (B+j) (L j)):=by
 simp[gG,Qy,rws,KaZ,h]
theorem adh{B i n:Nat}{L:Nat->Nat}(h:i<n):(gG B i n L).set i (.ms (B+i) (L i))=gG B (i+1) n L:=by
 have h1:(Qy (rws B i L)).length=i:=by simp[Qy,rws]
 unfold gG
 rw[List.set_append,if_neg (by omega),h1,KbD]
 have h2:Qy (rws B (i+1) L)=Qy (rws B i L)++[.ms (B+i) (L i)]:=by simp[Qy,rws,Kc3]
 rw[h2,Kbs]
 congr 1
 obtain⟨k,hk⟩:∃k,n-i=k+1:=⟨n-i-1,by omega⟩
 rw[hk,show n-(i+1)=k by omega,KbH]
 rfl
theorem af9{γ i n ty B m:Nat}{L:Nat->Nat}{e0 ty0:Nat}{xs0:List PV}(aj:fr γ= .aF γ 1 ty (gG B i n L))(hh:hp γ=some ⟨e0,ty0,xs0,false⟩)(h:i<n)(hB:1000000<=B)(hm:L i=m):
  ow 1 (.np γ i 0) (.ms (B+i) m) fr hp K=K (ae (gU γ fr) γ (.aF γ 1 ty (gG B (i+1) n L))) hp:=by
 subst hm
 have hl:i<(gG B i n L).length:=by rw[Rx (by omega)];exact h
 have hb:bE (B+i)=true:=by simp[bE];omega
 have h0:(gG B i n L)[i]= .al:=by
  have h1:(Qy (rws B i L)).length=i:=by simp[Qy,rws]
  simp[gG,List.getElem_append,h1]
 simp only[ow,aj,hl,exists_true_left,true_and,Kaf,Kbb,eU,hb,if_true,KaP,Kbn,hh,KaC,exists_eq_left',h0]
 rw[<-adh h]
 simp[fA,oP,PV.aU,PV.cells]
theorem aga{d γ j i n ty B:Nat}{L:Nat->Nat}(aj:fr γ= .aF γ 1 ty (gG B i n L))(h:j<i)(hi:i<=n):iW 1 false (.np γ j 0) d fr hp K=K (ae fr d (.ms (B+j) (L j))) hp:=by
 have hl:j<(gG B i n L).length:=by rw[Rx hi];omega
 have h0:(gG B i n L)[j]= .ms (B+j) (L j):=by
  have:=adg (B:=B) (n:=n) (L:=L) h
  rw[Kag hl]at this
  exact KbI this
 simp only[iW,aj,hl,exists_true_left,true_and,Kaf,Kbb,implies_true,h0]
 simp[rI,PV.aU,PV.cells]
theorem JX{σ:Nat->Nat}{p:PV}(h:p= .al∨∃β n,p= .ms β n)(uE:∀β n,p= .ms β n->σ β=β):fA (p.aU.map (dy σ))=p:=by
 rcases h with rfl|⟨β,n,rfl⟩
 ·rfl
 ·have:=uE β n rfl
  simp[PV.aU,PV.cells,dy,fA,this]
theorem agb{β δ γ e ty B i n:Nat}{L:Nat->Nat}(af:β<1000000)(hB:2000000<=B)(aj:2000000<=γ):b6 (ju β δ) (.aF γ e ty (gG B i n L))= .aF γ e ty (gG B i n L):=by
 have e1:ju β δ γ=γ:=by unfold ju;rw[if_neg (by omega)]
 simp only[b6,e1]
 congr 1
 conv=>rhs;rw[<-List.map_id (gG B i n L)]
 refine KaL fun x hx=> ?_
 rcases KaK.1 hx with hx|hx
 ·obtain⟨y,hy,rfl⟩:=Kau.1 hx
  obtain⟨j,hj,rfl⟩:=Kau.1 hy
  refine JX (.inr ⟨_,_,rfl⟩) fun bn n' h=> ?_
  cases h;unfold ju;rw[if_neg (by omega)]
 ·obtain rfl:=Kcy hx
  exact JX (.inl rfl) fun _ _ h=>by cases h
def bW(B n w:Nat)(π:Nat->Nat):List (Nat×Nat):=(List.range n).map fun r=>(B+π r,w)
theorem HJ(B n w:Nat):rws B n (fun _=>w)=bW B n w id:=rfl
theorem XE(B n w:Nat)(π:Nat->Nat):(bW B n w π).length=n:=by simp[bW]
theorem NN{B n w r:Nat}{π:Nat->Nat}(h:r<(bW B n w π).length):(bW B n w π)[r]=(B+π r,w):=by simp[bW]
theorem SO{B n w:Nat}{π:Nat->Nat}:∀β∈(Qy (bW B n w π)).flatMap (fun x=>x.aU.flatMap PV.gB),∃r,r<n/\β=B+π r:=by
 intro β af
 obtain⟨x,hx,af⟩:=Kat.1 af
 obtain⟨y,hy,rfl⟩:=Kau.1 hx
 obtain⟨r,hr,rfl⟩:=Kau.1 hy
 exact⟨r,Kbz.1 hr,by simpa[PV.aU,PV.cells,PV.gB]using af⟩
def Qo{α:Type}(p:α->PV)(f:Nat->α)(w:Nat):List PV:=(List.range w).map fun c=>p (f c)
theorem fW{α:Type}(p:α->PV)(f:Nat->α)(w:Nat):(Qo p f w).length=w:=by simp[Qo]
theorem pN{α:Type}{p:α->PV}{f:Nat->α}{w c:Nat}(h:c<(Qo p f w).length):(Qo p f w)[c]=p (f c):=by simp[Qo]
theorem adi{α:Type}{p:α->PV}{f g:Nat->α}{w c:Nat}{v:α}(h:∀k,k<w->g k=if k=c then v else f k):(Qo p f w).set c (p v)=Qo p g w:=by
 refine Kbg (by simp[Qo]) fun j h1 h2=> ?_
 have hj:j<w:=by simpa[Qo]using h2
 rw[pN,KcX,pN,h j hj]
 split
 ·rename_i e;subst e;simp
 ·rename_i e;rw[if_neg fun e2=>e e2.symm]
theorem nC{α:Type}{p:α->PV}{f g:Nat->α}{w:Nat}(h:∀k,k<w->f k=g k):Qo p f w=Qo p g w:=
 KaL fun c hc=>by rw[h c (Kbz.1 hc)]
theorem BF{α:Type}{p:α->PV}{f:Nat->α}{w:Nat}(h:0<w):Qo p f w≠[]:=by
 intro e;have:=fW p f w;rw[e]at this;simp at this;omega
theorem akE{by_ ty d:Nat}{k k':IntKind}{n c:Nat}(h2:n<=c)(h3:by_*c<=281474976710656)(h4:c<=9223372036854775807):
  ot 3 by_ ty (.agg [.bool false,.al,.al]) (.int k (n:Int)) (.int k' (c:Int)) d fr hp K=K (ae (cx d fr) d (.ms d n)) (Qi hp d ⟨3,ty,List.replicate n (.agg [.bool false,.al,.al]),false⟩):=by
 rw[Dj (e:=3) (by omega) rfl (by omega) (by omega) (by omega) (by omega)];rfl
attribute [go_sem] akE
end Go.FW
namespace Go.FW
open Go
def bN(φ:List Int->Rat):List Tm->Rat
 | []=>0
 |t::p=>t.1*φ t.2+bN φ p
theorem mF(φ:List Int->Rat):bN φ []=0:=rfl
theorem fc(φ:List Int->Rat)(t:Tm)(p:List Tm):bN φ (t::p)=t.1*φ t.2+bN φ p:=rfl
theorem Ik(φ:List Int->Rat):∀(p q:List Tm),bN φ (p++q)=bN φ p+bN φ q
 | [],q=>by rw[KaQ,mF];grind
 |t::p,q=>by rw[KaU,fc,fc,Ik φ p q];grind
theorem wT{φ ψ:List Int->Rat}:∀ {p:List Tm},(∀t∈p,φ t.2=ψ t.2)->bN φ p=bN ψ p
 | [],_=>rfl
 |t::p,h=>by
  rw[fc,fc,h t (by simp),wT (p:=p) (fun x hx=>h x (by simp[hx]))]
theorem O1(φ ψ:List Int->Rat):∀(p:List Tm),bN (fun m=>φ m+ψ m) p=bN φ p+bN ψ p
 | []=>by simp only[mF];grind
 |t::p=>by simp only[fc];rw[O1 φ ψ p];grind
theorem EC(c:Rat)(φ:List Int->Rat):∀(p:List Tm),bN (fun m=>c*φ m) p=c*bN φ p
 | []=>by simp only[mF];grind
 |t::p=>by simp only[fc];rw[EC c φ p];grind
theorem NO:∀(p:List Tm),bN (fun _=>0) p=0
 | []=>rfl
 |t::p=>by simp only[fc];rw[NO p];grind
theorem Jb(ψ:List Int->List Int->Rat)(q:List Tm):∀(p:List Tm),bN (fun m=>bN (fun n=>ψ m n) q) p=bN (fun n=>bN (fun m=>ψ m n) p) q
 | []=>by simp only[mF];rw[NO]
 |t::p=>by
  simp only[fc]
  rw[Jb ψ q p,O1 (fun n=>t.1*ψ t.2 n),EC]
def Can(p:List Tm):Prop:=∀t∈p,t.2.getLast? ≠some 0
def NZ(p:List Tm):Prop:=∀t∈p,t.1≠0
structure bC(p:List Tm):Prop where
 c:Can p
 z:NZ p
 s:jB p
theorem Can.cons{t:Tm}{p:List Tm}:Can (t::p)↔t.2.getLast? ≠some 0/\Can p:=by simp[Can]
theorem NZ.cons{t:Tm}{p:List Tm}:NZ (t::p)↔t.1≠0/\NZ p:=by simp[NZ]
theorem bC.nil:bC []:=⟨by simp[Can],by simp[NZ],trivial⟩
theorem bC.tail{t:Tm}{p:List Tm}(h:bC (t::p)):bC p:=⟨(Can.cons.1 h.c).2,(NZ.cons.1 h.z).2,h.s.2⟩
theorem bC.one{t:Tm}(h:t.1≠0)(hm:t.2.getLast? ≠some 0):bC [t]:=⟨by simpa[Can]using hm,by simpa[NZ]using h,⟨by simp,trivial⟩⟩
theorem pJ.rM{p:List Tm}(h:pJ p):bC p:=⟨fun t ht=>yG (h.t t ht).m,fun t ht=>(h.t t ht).c,h.s⟩
theorem IQ{E:Nat}{a:List Int}(h:MB E a)(hE:E<=1048576)(hl:a.getLast? ≠some 0):cD a=true:=by
 simp only[cD,Kar,decide_eq_true_eq,Kas]
 exact⟨h.len,hl,fun x hx=>⟨h.lo x hx,by have:=h.hi x hx;omega⟩⟩
theorem bC.LG{K E:Nat}{p:List Tm}(h:bC p)(hb:PB K E p)(hE:E<=1048576):pJ p:=
 ⟨fun t ht=>⟨h.z t ht,IQ (hb t ht).m hE (hb t ht).l⟩,h.s⟩
theorem ER{φ:List Int->Rat}:∀ {p q:List Tm},Can p->Can q->bN φ (aN p q)=bN φ p+bN φ q:=by
 intro p q
 induction p,q using aN.induct with
 |case1 q=>rw[aN,mF];intros;grind
 |case2 p h=>rw[nD,mF];intros;grind
 |case3 c m p d l q h ih=>
  intro hp hq
  rw[aN,if_pos h,fc,fc,ih (Can.cons.1 hp).2 hq];grind
 |case4 c m p d l q h1 h2 ih=>
  intro hp hq
  rw[aN,if_neg h1,if_pos h2,fc,ih hp (Can.cons.1 hq).2,fc φ (d,l)];grind
 |case5 c m p d l q h1 h2 h3 ih=>
  intro hp hq
  have e:=Iv h1 h2 (Can.cons.1 hp).1 (Can.cons.1 hq).1
  rw[aN,if_neg h1,if_neg h2,if_pos h3,ih (Can.cons.1 hp).2 (Can.cons.1 hq).2,fc,fc]
  subst e
  have:c*φ m+d*φ m=0:=by rw[<-Rat.add_mul,h3];grind
  grind
 |case6 c m p d l q h1 h2 h3 ih=>
  intro hp hq
  have e:=Iv h1 h2 (Can.cons.1 hp).1 (Can.cons.1 hq).1
  rw[aN,if_neg h1,if_neg h2,if_neg h3,fc,ih (Can.cons.1 hp).2 (Can.cons.1 hq).2,fc,fc]
  subst e
  grind
theorem y5:∀ {p q:List Tm} {t:Tm},t∈aN p q->(∃s∈p,s.2=t.2)∨(∃s∈q,s.2=t.2):=by
 intro p q
 induction p,q using aN.induct with
 |case1 q=>rw[aN];intro t ht;exact Or.inr ⟨t,ht,rfl⟩
 |case2 p h=>rw[nD];intro t ht;exact Or.inl ⟨t,ht,rfl⟩
 | case3 c m p d l q h ih=>
  intro t ht
  rw[aN,if_pos h]at ht
  rcases KaG.1 ht with rfl|ht
  ·exact Or.inl ⟨_,by simp,rfl⟩
  ·rcases ih ht with⟨s,h1,h2⟩|h1
   ·exact Or.inl ⟨s,by simp[h1],h2⟩
   ·exact Or.inr h1
 | case4 c m p d l q h1 h2 ih=>
  intro t ht
  rw[aN,if_neg h1,if_pos h2]at ht
  rcases KaG.1 ht with rfl|ht
  ·exact Or.inr ⟨_,by simp,rfl⟩
  ·rcases ih ht with h3|⟨s,h3,h4⟩
   ·exact Or.inl h3
   ·exact Or.inr ⟨s,by simp[h3],h4⟩
 |case5 c m p d l q h1 h2 h3 ih=>
  intro t ht
  rw[aN,if_neg h1,if_neg h2,if_pos h3]at ht
  rcases ih ht with⟨s,h4,h5⟩|⟨s,h4,h5⟩
  ·exact Or.inl ⟨s,by simp[h4],h5⟩
  ·exact Or.inr ⟨s,by simp[h4],h5⟩
 | case6 c m p d l q h1 h2 h3 ih=>
  intro t ht
  rw[aN,if_neg h1,if_neg h2,if_neg h3]at ht
  rcases KaG.1 ht with rfl|ht
  ·exact Or.inl ⟨(c,m),by simp,rfl⟩
  ·rcases ih ht with⟨s,h4,h5⟩|⟨s,h4,h5⟩
   ·exact Or.inl ⟨s,by simp[h4],h5⟩
   ·exact Or.inr ⟨s,by simp[h4],h5⟩
theorem NP{p q:List Tm}(hp:Can p)(hq:Can q):Can (aN p q):=fun t ht=>by
 rcases y5 ht with⟨s,h1,h2⟩|⟨s,h1,h2⟩
 ·rw[<-h2];exact hp s h1
 ·rw[<-h2];exact hq s h1
theorem agc:∀ {p q:List Tm},NZ p->NZ q->NZ (aN p q):=by
 intro p q
 induction p,q using aN.induct with
 |case1 q=>rw[aN];exact fun _ h=>h
 |case2 p h=>rw[nD];exact fun h _=>h
 |case3 c m p d l q h ih=>
  intro hp hq
  rw[aN,if_pos h,NZ.cons]
  exact⟨(NZ.cons.1 hp).1,ih (NZ.cons.1 hp).2 hq⟩
 |case4 c m p d l q h1 h2 ih=>
  intro hp hq
  rw[aN,if_neg h1,if_pos h2,NZ.cons]
  exact⟨(NZ.cons.1 hq).1,ih hp (NZ.cons.1 hq).2⟩
 |case5 c m p d l q h1 h2 h3 ih=>
  intro hp hq
  rw[aN,if_neg h1,if_neg h2,if_pos h3]
  exact ih (NZ.cons.1 hp).2 (NZ.cons.1 hq).2
 |case6 c m p d l q h1 h2 h3 ih=>
  intro hp hq
  rw[aN,if_neg h1,if_neg h2,if_neg h3,NZ.cons]
  exact⟨h3,ih (NZ.cons.1 hp).2 (NZ.cons.1 hq).2⟩
theorem aac{a b c:List Int}(h:aX a b=0)(h2:0<aX b c):0<aX a c:=by
 have e:∀i,eN a i=eN b i:=by
  intro i
  have:=(Em a b _).1 h
  by_cases hi:i<max a.length b.length
  ·exact this i hi
  ·rw[gW (by omega),gW (by omega)]
 rw[ZS e (fun _=>rfl)];exact h2
theorem XF:∀ {p q:List Tm},jB p->jB q->jB (aN p q):=by
 intro p q
 induction p,q using aN.induct with
 |case1 q=>rw[aN];exact fun _ h=>h
 |case2 p h=>rw[nD];exact fun h _=>h
 | case3 c m p d l q h ih=>
  intro hp hq
  rw[aN,if_pos h]
  refine⟨fun t ht=> ?_,ih hp.2 hq⟩
  rcases y5 ht with⟨s,h1,h2⟩|⟨s,h1,h2⟩
  ·rw[<-h2];exact hp.1 s h1
  ·rw[<-h2]
   rcases KaG.1 h1 with rfl|h1
   ·exact h
   ·exact yE h (hq.1 s h1)
 | case4 c m p d l q h1 h2 ih=>
  intro hp hq
  rw[aN,if_neg h1,if_pos h2]
  have lY:0<aX l m:=by have:=y4 m l;omega
  refine⟨fun t ht=> ?_,ih hp hq.2⟩
  rcases y5 ht with⟨s,h3,h4⟩|⟨s,h3,h4⟩
  ·rw[<-h4]
   rcases KaG.1 h3 with rfl|h3
   ·exact lY
   ·exact yE lY (hp.1 s h3)
  ·rw[<-h4];exact hq.1 s h3
 |case5 c m p d l q h1 h2 h3 ih=>
  intro hp hq
  rw[aN,if_neg h1,if_neg h2,if_pos h3]
  exact ih hp.2 hq.2
 |case6 c m p d l q h1 h2 h3 ih=>
  intro hp hq
  rw[aN,if_neg h1,if_neg h2,if_neg h3]
  refine⟨fun t ht=> ?_,ih hp.2 hq.2⟩
  rcases y5 ht with⟨s,h4,h5⟩|⟨s,h4,h5⟩
  ·rw[<-h5];exact hp.1 s h4
  ·rw[<-h5];exact aac (b:=l) (by show aX m l=0;omega) (hq.1 s h4)
theorem Jc{p q:List Tm}(hp:bC p)(hq:bC q):bC (aN p q):=⟨NP hp.c hq.c,agc hp.z hq.z,XF hp.s hq.s⟩
def ind(m:List Int):List Int->Rat:=fun n=>if n=m then 1 else 0
theorem DO{m:List Int}:∀ {p:List Tm},(∀t∈p,t.2≠m)->bN (ind m) p=0
 | [],_=>rfl
 |t::p,h=>by
  rw[fc,DO (p:=p) (fun x hx=>h x (by simp[hx])),ind,if_neg (h t (by simp))];grind
theorem BU{a b:List Int}(h:0<aX a b):b≠a:=by rintro rfl;rw[En]at h;omega
theorem yI{t:Tm}{p:List Tm}(h:jB (t::p)):bN (ind t.2) (t::p)=t.1:=by
 rw[fc,DO (fun s hs=>BU (h.1 s hs)),ind,if_pos rfl];grind
theorem JY:∀ {p q:List Tm},bC p->bC q->(∀φ,bN φ p=bN φ q)->p=q
 | [],[],_,_,_=>rfl
 | [],t::q,_,hq,h=>by
  have:=h (ind t.2)
  rw[yI hq.s,mF]at this
  exact absurd this.symm (hq.z t (by simp))
 |t::p,[],hp,_,h=>by
  have:=h (ind t.2)
  rw[yI hp.s,mF]at this
  exact absurd this (hp.z t (by simp))
 | s ::p,t::q,hp,hq,h=>by
  by_cases h1:0<aX s.2 t.2
  ·have:=h (ind s.2)
   rw[yI hp.s,DO (fun x hx=> ?_)]at this
   ·exact absurd this (hp.z s (by simp))
   ·rcases KaG.1 hx with rfl|hx
    ·exact BU h1
    ·exact BU (yE h1 (hq.s.1 x hx))
  ·by_cases h2:aX s.2 t.2<0
   ·have lY:0<aX t.2 s.2:=by have:=y4 s.2 t.2;omega
    have:=h (ind t.2)
    rw[yI hq.s,DO (fun x hx=> ?_)]at this
    ·exact absurd this.symm (hq.z t (by simp))
    ·rcases KaG.1 hx with rfl|hx
     ·exact BU lY
     ·exact BU (yE lY (hp.s.1 x hx))
   ·have e:=Iv h1 h2 (hp.c s (by simp)) (hq.c t (by simp))
    have e2:=h (ind s.2)
    rw[yI hp.s,e,yI hq.s]at e2
    have e3:s=t:=Prod.ext e2 e
    subst e3
    rw[JY hp.tail hq.tail (fun φ=>by have:=h φ;rw[fc,fc]at this;grind)]
theorem Mv{φ:List Int->Rat}:∀(n:Nat)(l:List (List Tm)),l.length<=n->(∀p∈l,Can p)->Can (eJ l)/\bN φ (eJ l)=(l.map (bN φ)).sum:=by
 intro n
 induction n with
 |zero=>
  intro l hl _
  have:l=[]:=KaE.1 (by omega)
  subst this
  rw[eJ];exact⟨bC.nil.c,rfl⟩
 | succ n ih=>
  intro l hl h
  match l,h with
  | [],_=>rw[eJ];exact⟨bC.nil.c,rfl⟩
  | [p],h=>rw[eJ];exact⟨h p (by simp),by simp;grind⟩
  |p::q::r,h=>
   rw[AX (by simp)]
   generalize hL:p::q::r=L at *
   have hlen:2<=L.length:=by rw[<-hL];simp
   obtain⟨a1,a2⟩:=ih (L.take (L.length/2)) (by rw[KaI];omega) (fun x hx=>h x (Kbf hx))
   obtain⟨b1,b2⟩:=ih (L.drop (L.length/2)) (by rw[Ka7];omega) (fun x hx=>h x (KbM hx))
   refine⟨NP a1 b1,?_⟩
   rw[ER a1 b1,a2,b2,<-List.sum_append,<-List.map_append,Kbx]
theorem NQ:∀(n:Nat)(l:List (List Tm)),l.length<=n->(∀p∈l,bC p)->bC (eJ l):=by
 intro n
 induction n with
 |zero=>
  intro l hl _
  have:l=[]:=KaE.1 (by omega)
  subst this
  rw[eJ];exact bC.nil
 | succ n ih=>
  intro l hl h
  match l,h with
  | [],_=>rw[eJ];exact bC.nil
  | [p],h=>rw[eJ];exact h p (by simp)
  | p::q::r,h=>
   rw[AX (by simp)]
   generalize hL:p::q::r=L at *
   have hlen:2<=L.length:=by rw[<-hL];simp
   exact Jc (ih (L.take (L.length/2)) (by rw[KaI];omega) (fun x hx=>h x (Kbf hx)))
    (ih (L.drop (L.length/2)) (by rw[Ka7];omega) (fun x hx=>h x (KbM hx)))
theorem DZ(φ:List Int->Rat)(t:Tm):∀(p:List Tm),bN φ (bQ p t)=t.1*bN (fun m=>φ (bp m t.2)) p
 | []=>by rw[bQ,Kcp,mF,mF];grind
 | s::p=>by
  have ih:=DZ φ t p
  rw[bQ]at ih⊢
  rw[Kb9]
  by_cases h:s.1*t.1=0
  ·simp only[h,if_true,fc]
   rw[ih]
   have:t.1*(s.1*φ (bp s.2 t.2))=(s.1*t.1)*φ (bp s.2 t.2):=by grind
   rw[Rat.mul_add,this,h];grind
  ·simp only[h,if_false,fc]
   rw[ih];grind
theorem Iz(p:List Tm)(t:Tm):Can (bQ p t):=by
 intro x hx
 simp only[bQ,Kb4]at hx
 obtain⟨y,hy,h⟩:=hx
 split at h
 ·cases h
 ·cases h;exact qB _ _
theorem abS(p:List Tm)(t:Tm):NZ (bQ p t):=by
 intro x hx
 simp only[bQ,Kb4]at hx
 obtain⟨y,hy,h⟩:=hx
 split at h
 ·cases h
 ·rename_i h0;cases h;exact h0
theorem Re(t:Tm):∀(p:List Tm),jB p->jB (bQ p t)
 | [],_=>trivial
 | s ::p,hp=>by
  have ih:=Re t p hp.2
  rw[bQ]at ih⊢
  rw[Kb9]
  split
  ·exact ih
  ·rename_i b hb
   split at hb
   ·cases hb
   ·cases hb
    refine⟨fun x hx=> ?_,ih⟩
    simp only[Kb4]at hx
    obtain⟨y,hy,h⟩:=hx
    split at h
    ·cases h
    ·cases h
     simp only[adv]
     exact hp.1 y hy
theorem IA{p:List Tm}(t:Tm)(hp:jB p):bC (bQ p t):=⟨Iz _ _,abS _ _,Re t p hp⟩
theorem SP(φ:List Int->Rat)(q:List Tm):∀(p:List Tm),((p.map (bQ q)).map (bN φ)).sum=bN (fun m=>bN (fun n=>φ (bp m n)) q) p
 | []=>rfl
 |t::p=>by
  rw[Kbd,Kbd,KcR,SP φ q p,DZ,fc]
  congr 2
  exact wT fun s _=>by rw[yO]
theorem Mw(φ:List Int->Rat)(p q:List Tm):bN φ (sh p q)=bN (fun m=>bN (fun n=>φ (bp m n)) q) p:=by
 rw[sh,(Mv (φ:=φ) _ _ (Kaf _) ?_).2,SP]
 intro x hx
 obtain⟨t,_,rfl⟩:=Kau.1 hx
 exact Iz _ _
theorem Jd(φ:List Int->Rat)(p q:List Tm):bN φ (fy p q)=bN (fun m=>bN (fun n=>φ (bp m n)) q) p:=by
 unfold fy
 split
 ·rw[Mw,Jb (fun m n=>φ (bp m n))]
  exact wT fun s _=>wT fun t _=>by rw[yO]
 ·exact Mw φ p q
theorem Mx{p q:List Tm}(hq:jB q):bC (sh p q):=NQ _ _ (Kaf _) fun x hx=>by
 obtain⟨t,_,rfl⟩:=Kau.1 hx
 exact IA t hq
theorem ES{p q:List Tm}(hp:jB p)(hq:jB q):bC (fy p q):=by
 unfold fy
 split
 ·exact Mx hp
 ·exact Mx hq
theorem SQ(φ:List Int->Rat){p:List Tm}(hp:Can p)(a:Rat):bN φ (jP p a)=a*bN φ p:=by
 unfold jP
 split
 ·rename_i h;rw[h,mF];grind
 ·rw[DZ]
  congr 1
  exact wT fun s hs=>by rw[NG (hp s hs)]
theorem aad{p:List Tm}(hp:jB p)(a:Rat):bC (jP p a):=by
 unfold jP
 split
 ·exact bC.nil
 ·exact IA _ hp
def pT(p q:List Tm):List Tm:=q.foldl (fun out t=>aN out (bQ p t)) []
theorem My(p:List Tm)(hp:bC p):∀(q out:List Tm),bC out->bC (q.foldl (fun out t=>aN out (bQ p t)) out)/\
  ∀φ,bN φ (q.foldl (fun out t=>aN out (bQ p t)) out)=bN φ out+bN (fun m=>bN (fun n=>φ (bp n m)) p) q
 | [],out,h=>⟨h,fun φ=>by rw[List.foldl_nil,mF];grind⟩
 |t::q,out,h=>by
  obtain⟨h1,h2⟩:=My p hp q (aN out (bQ p t)) (Jc h (IA t hp.s))
  refine⟨h1,fun φ=> ?_⟩
  rw[List.foldl_cons,h2,ER h.c (Iz _ _),DZ,fc];grind
theorem NR{p q:List Tm}(hp:bC p)(hq:bC q):pT p q=fy p q:=by
 obtain⟨h1,h2⟩:=My p hp q [] bC.nil
 refine JY h1 (ES hp.s hq.s) fun φ=> ?_
 rw[pT,h2,Jd,mF,Jb (fun m n=>φ (bp m n))]
 grind
variable {C : Ctx} {fr : Fr} {hp : HP} {w : World} {K R : Qh}
theorem O2{len e β j o d i:Nat}{k:IntKind}(h:i<len):vj len e (.mp β j o) (.int k (i:Int)) d fr hp K=K (ae fr d (.mp β j (o+i*e))) hp:=by
 simp only[vj,Kcz]
 exact propext ⟨fun h=>h.2.2,fun h'=>⟨by omega,by omega,h'⟩⟩
theorem XG{e by_ ty d:Nat}(h0:0<e):iC e by_ ty .al (.sl e []) d fr hp K=K (ae (cx d fr) d (.ms d 0)) (Qi hp d ⟨e,ty,[],false⟩):=by
 have:=Ir (fr:=fr) (hp:=hp) (K:=K) (e:=e) (by_:=by_) (ty:=ty) (d:=d) (x:= .sl e []) (ys:=[]) rfl h0 (by simp) (by simp)
 simpa using this
theorem NS{len d i:Nat}{k:IntKind}{bs:List Bool}(hl:bs.length=len)(h:i<bs.length):vw len 1 false (.agg (bs.map PV.bool)) (.int k (i:Int)) d fr hp K=K (ae fr d (.bool bs[i])) hp:=by
 have e:eE false 1 (i*1) (.agg (bs.map PV.bool))= .bool bs[i]:=by
  show((bs.map PV.bool).drop (i*1)).headD .undef=_
  rw[KbG,Kaw (by simpa using h)]
  simp
 simp only[vw,Kcz]
 rw[e]
 exact propext ⟨fun h=>h.2.2.2.2,fun h'=>⟨by omega,by omega,by simp;omega,by simp,h'⟩⟩
theorem aae{n:Nat}{bs:List Bool}(h:bs.length=n):(bs.map PV.bool).take n=bs.map PV.bool:=Kac (by simp[h])
def ku(n:Nat)(h:Nat->Bool):List Bool:=(List.range n).map h
theorem DP(n:Nat)(h:Nat->Bool):(ku n h).length=n:=by simp[ku]
theorem adN{n:Nat}{h:Nat->Bool}{i:Nat}(hi:i<(ku n h).length):(ku n h)[i]=h i:=by simp[ku]
theorem SR{n:Nat}{h g:Nat->Bool}(e:∀i,i<n->h i=g i):ku n h=ku n g:=KaL fun i hi=>e i (Kbz.1 hi)
theorem adO{n j:Nat}{h g:Nat->Bool}(hj:j<n)(e:∀i,i<n->g i=if i=j then true else h i):
  ((ku n h).map PV.bool).take j++(PV.bool true).cells++((ku n h).map PV.bool).drop (j+1)=(ku n g).map PV.bool:=by
 apply Kbg
 ·simp[ku,PV.cells];omega
 ·intro i h1 h2
  have hi:i<n:=by simpa[ku]using h2
  have e1:((ku n g).map PV.bool)[i]=PV.bool (g i):=by simp[ku]
  rw[e1,e i hi]
  simp only[ku,PV.cells]
  by_cases qm:i=j
  ·subst qm
   rw[KbC (by simp;omega),Kcc (by simp;omega)]
   simp
  ·rw[if_neg qm]
   by_cases au:i<j
   ·rw[KbC (by simp;omega),KbC (by simp;omega)]
    simp
   ·rw[Kcc (by simp;omega)]
    simp
    congr 1;omega
def gH(p:List Tm)(v:Nat):Bool:=p.any fun t=>decide (eN t.2 v≠0)
def tE(n:Nat)(h:Nat->Bool):List Int:=((List.range n).filter h).map fun(v:Nat)=>(v:Int)
def QI(p:List Tm):List Int:=tE 64 (gH p)
theorem XH(n:Nat)(h:Nat->Bool):tE (n+1) h=tE n h++(if h n=true then [(n:Int)]else []):=by
 unfold tE
 rw[Kc3,List.filter_append,Kbo]
 congr 1
 by_cases hn:h n=true
 ·simp[hn]
 ·simp[hn]
theorem Wx(n:Nat)(h:Nat->Bool):(tE n h).length<=n:=by
 unfold tE;rw[Kap];exact Kao (List.length_filter_le _ _) (by simp)
theorem abT{p:List Tm}{i:Nat}(h:i<p.length)(v:Nat):gH (p.take (i+1)) v=(gH (p.take i) v||decide (eN p[i].2 v≠0)):=by
 rw[Kak h,gH,List.any_append];simp[gH]
def rZ(p:List Tm):Bool:=decide (4000<p.length)||p.any fun t=>t.2.any fun x=>decide (1048576<x)
end Go.FW
namespace Go.FW
open Go
theorem JZ{m:List Int}{c:Rat}:∀ {u v:List Tm},(∀t∈u,0<aX t.2 m)->(∀t∈v,aX t.2 m<0)->aN (u++v) [(c,m)]=u++(c,m)::v
 | [],[],_,_=>by rw[KaQ,wU];rfl
 | [],t::v,_,hv=>by
  have h1:=hv t (by simp)
  rw[KaQ,AY,if_neg (by show ¬0<aX t.2 m;omega),if_pos (by exact h1),nD];rfl
 |t::u,v,hu,hv=>by
  rw[KaU,AY,if_pos (by exact hu t (by simp)),JZ (fun s hs=>hu s (by simp[hs])) hv];rfl
theorem O3{m:List Int}{c d:Rat}:∀ {u v:List Tm},(∀t∈u,0<aX t.2 m)->aN (u++(d,m)::v) [(c,m)]=u++(if d+c=0 then []else [(d+c,m)])++v
 | [],v,_=>by
  have h0:=En m
  rw[KaQ,AY,if_neg (by show ¬0<aX m m;omega),if_neg (by show ¬aX m m<0;omega)]
  show(if d+c=0 then aN v []else(d+c,m)::aN v [])=_
  rw[nD]
  split<;>rfl
 |t::u,v,hu=>by
  rw[KaU,AY,if_pos (by exact hu t (by simp)),O3 (fun s hs=>hu s (by simp[hs]))];simp
def qH(p:List Tm)(c:Rat)(m:List Int):List Tm:=aN p (if c=0 then []else [(c,m)])
theorem WY{p:List Tm}(hs:jB p):∀ {i:Nat} (h:i<p.length),∀t∈p.take i,0<aX t.2 p[i].2:=by
 induction p with
 |nil=>intro i h;simp at h
 | cons s p ih=>
  intro i h t ht
  cases i with
  |zero=>simp at ht
  |succ i=>
   simp only[List.take_succ_cons,KaG]at ht
   have hi:i<p.length:=by simpa using h
   show 0<aX t.2 p[i].2
   rcases ht with rfl|ht
   ·exact hs.1 _ (Kai hi)
   ·exact ih hs.2 hi t ht
def vl{α:Type}(g:α->Bool)(l:List α):Int:=match l.findIdx? g with
 |some i=>i
 |none=> -1
theorem Mz{α:Type}(g:α->Bool)(l:List α):decide (0<=vl g l)=l.any g:=by
 unfold vl
 cases h:l.findIdx? g with
 |none=>
  rw[List.findIdx?_eq_none_iff]at h
  symm
  show l.any g=decide ((0:Int)<= -1)
  rw[show decide ((0:Int)<= -1)=false from rfl,Kb2]
  intro x hx;simp[h x hx]
 |some i=>
  obtain⟨hi,h1,_⟩:=List.findIdx?_eq_some_iff_getElem.1 h
  symm
  show l.any g=decide ((0:Int)<=(i:Int))
  rw[decide_eq_true (by omega),Ka4]
  exact⟨_,Kai hi,h1⟩
theorem NT{α:Type}{g:α->Bool}{l:List α}{i:Nat}(hi:i<l.length)(h1:g l[i]=true)(h2:∀j (h:j<l.length),j<i->g l[j]=false):vl g l=i:=by
 unfold vl
 rw[List.findIdx?_eq_some_iff_getElem.2 ⟨hi,h1,fun j hj=>by simp[h2 j (by omega) hj]⟩]
theorem SS{α:Type}{g:α->Bool}{l:List α}(h2:∀j (h:j<l.length),g l[j]=false):vl g l= -1:=by
 unfold vl
 rw[List.findIdx?_eq_none_iff.2 (fun x hx=>by
  obtain⟨j,hj,rfl⟩:=KaT hx
  exact h2 j hj)]
def vm(t:a9):Option Tm:=if cD (dF t.m)=true then some (t.q,dF t.m)else none
def qF(l:List a9):List Tm:=l.filterMap vm
def pU(t:Tm):Option (List Tm):=if t.1=0 then none else some [t]
def jQ(l:List a9):List (List Tm):=(qF l).filterMap pU
def zD(l:List a9):List Tm:=eJ (jQ l)
theorem XI{l:List a9}{i:Nat}(h:i<l.length):qF (l.take (i+1))=qF (l.take i)++(vm l[i]).toList:=by
 rw[Kak h,qF,List.filterMap_append]
 congr 1
theorem XJ{l:List a9}{i:Nat}(h:i<l.length):jQ (l.take (i+1))=jQ (l.take i)++((vm l[i]).toList.filterMap pU):=by
 rw[jQ,XI h,List.filterMap_append];rfl
theorem IB{t:a9}(h:cD (dF t.m)=true):vm t=some (t.q,dF t.m):=by rw[vm,if_pos h]
theorem SU{t:a9}(h:cD (dF t.m)=false):vm t=none:=by rw[vm,if_neg (by simp[h])]
theorem SV{l:List a9}{t:Tm}(h:t∈qF l):∃r∈l,t=(r.q,dF r.m)/\cD (dF r.m)=true:=by
 simp only[qF,Kb4]at h
 obtain⟨r,h1,h2⟩:=h
 unfold vm at h2
 split at h2
 ·rename_i hm;cases h2;exact⟨r,h1,rfl,hm⟩
 ·cases h2
theorem Ea{l:List a9}{p:List Tm}(h:p∈jQ l):∃t∈qF l,p=[t]/\t.1≠0:=by
 simp only[jQ,Kb4]at h
 obtain⟨t,h1,h2⟩:=h
 unfold pU at h2
 split at h2
 ·cases h2
 ·rename_i hm;cases h2;exact⟨t,h1,rfl,hm⟩
theorem Wy(l:List a9):(qF l).length<=l.length:=KcY _ _
theorem DA(l:List a9):(jQ l).length<=l.length:=Kao (KcY _ _) (Wy l)
theorem SW(l:List a9):∀p∈jQ l,bC p:=fun p hp=>by
 obtain⟨t,h1,rfl,h3⟩:=Ea hp
 obtain⟨r,_,rfl,h5⟩:=SV h1
 exact bC.one h3 (yG h5)
theorem MA(l:List a9):bC (zD l):=NQ _ _ (Kaf _) (SW l)
theorem SX(φ:List Int->Rat):∀(ts:List Tm),((ts.filterMap pU).map (bN φ)).sum=bN φ ts
 | []=>rfl
 | t::ts=>by
  have ih:=SX φ ts
  rw[Kb9,fc]
  by_cases h:t.1=0
  ·have e:pU t=none:=if_pos h
   rw[e]
   show((ts.filterMap pU).map (bN φ)).sum=_
   rw[ih,h];grind
  ·have e:pU t=some [t]:=if_neg h
   rw[e]
   show bN φ [t]+((ts.filterMap pU).map (bN φ)).sum=_
   rw[ih,fc,mF];grind
theorem abU{l:List a9}{k:Nat}(hb:∀t∈l,rs t.q<=k):PB (k+1) 1048576 (qF l):=fun t ht=>by
 obtain⟨r,h1,rfl,h5⟩:=SV ht
 exact⟨by have:=hb r h1;show rs r.q+1<=k+1;omega,MB.sY h5,yG h5⟩
theorem MC{l:List a9}{k:Nat}(hb:∀t∈l,rs t.q<=k):∀p∈jQ l,PB (k+1) 1048576 p:=fun p hp=>by
 obtain⟨t,h1,rfl,_⟩:=Ea hp
 intro s hs
 simp only[KaB]at hs
 subst hs
 exact abU hb _ h1
theorem Ry(l:List a9):pZ (jQ l)<=l.length:=by
 have key:∀L:List (List Tm),(∀p∈L,p.length=1)->pZ L=L.length:=by
  intro L
  induction L with
  |nil=>intro _;rfl
  |cons p L ih=>
   intro h
   have h1:=h p (by simp)
   have h2:=ih (fun q hq=>h q (by simp[hq]))
   unfold pZ at *
   rw[Kbd,KcR,h1,h2,KaP];omega
 rw[key _ (fun p hp=>by obtain⟨t,_,rfl,_⟩:=Ea hp;rfl)]
 exact DA l
theorem XK{l:List a9}{k:Nat}(hb:∀t∈l,rs t.q<=k):PB (l.length*(k+1)) 1048576 (zD l)/\(zD l).length<=l.length:=by
 obtain⟨h1,h2⟩:=DW _ (jQ l) (Kaf _) (MC hb)
 exact⟨h1.mono (Kah _ (DA l)) (Kaf _),Kao h2 (Ry l)⟩
theorem ET(q:Rat):kj (decide (q.num<0)) (ak q.num.natAbs) (ak q.den)=true:=by
 simp only[kj,oN,Kar,decide_eq_true_eq]
 refine⟨?_,⟨?_,Bh _⟩,?_⟩
 ·split
  ·rename_i h
   rw[kP]at h
   have:¬q.num<0:=by omega
   simp[this]
  ·exact decide_eq_true (Bh _)
 ·rw[ne_eq,kP];exact q.den_nz
 ·rw[Qw,Qw];exact q.reduced
def ee(t:Tm):a9:=⟨decide (t.1.num<0),ak t.1.num.natAbs,ak t.1.den,t.2⟩
theorem PW(t:Tm):(ee t).tm=t:=by
 show(rv _ _ _,t.2)=t
 rw[ee,dE]
theorem Bm(p:List Tm):PV.lG (p.map ee)=PV.aM p:=by
 show PV.sl 4 ((p.map ee).map PV.qw)=PV.sl 4 (p.map PV.term)
 rw[KbE];rfl
theorem O4{t:Tm}(h:TV t):fq (ee t)=true:=by
 have e:(ee t).q=t.1:=by show rv _ _ _=_;rw[ee,dE]
 simp only[fq,Kar,decide_eq_true_eq]
 exact⟨ET t.1,by rw[e];exact h.c,h.m⟩
theorem EU:∀ {p:List Tm},pJ p->dk (p.map ee)=true
 | [],_=>rfl
 | [t],h=>by show fq (ee t)=true;exact O4 (h.t t (by simp))
 |s::t::p,h=>by
  have h1:=O4 (h.t s (by simp))
  have h2:0<aX (ee s).m (ee t).m:=h.s.1 t (by simp)
  have h3:=EU (p:=t::p) ⟨fun x hx=>h.t x (by simp[hx]),h.s.2⟩
  show dk (ee s::ee t::p.map ee)=true
  rw[dk,h1,decide_eq_true h2];exact h3
theorem BN{t:Tm}{k:Nat}(h:rs t.1<=k)(hm:t.2.length<2^40):RB k (ee t):=by
 have h1:nl t.1.num.natAbs<=k:=by unfold rs at h;omega
 have h2:nl t.1.den<=k:=by unfold rs at h;omega
 exact⟨⟨Qk _,Qk _,h1,h2⟩,hm⟩
def cE(a:Rat):Nat->Rat
 |0=>1
 |n+1=>cE a n*a
theorem Ba(a:Rat):cE a 0=1:=rfl
theorem adP(a:Rat):cE a 1=a:=by show 1*a=a;grind
theorem NU(a:Rat)(m:Nat):∀n,cE a (m+n)=cE a m*cE a n
 |0=>by rw[KaX,Ba];grind
 |n+1=>by
  rw[<-Nat.add_assoc]
  show cE a (m+n)*a=cE a m*(cE a n*a)
  rw[NU a m n];grind
theorem J6(a:Rat):∀k,cE (a*a) k=cE a (2*k)
 |0=>rfl
 |k+1=>by
  show cE (a*a) k*(a*a)=_
  rw[J6 a k,show 2*(k+1)=2*k+1+1 by omega]
  show _=cE a (2*k)*a*a
  grind
theorem Qzy{a:Rat}{n:Nat}(h:n%2=0):cE (a*a) (n/2)=cE a n:=by rw[J6];congr 1;omega
theorem Wz{a:Rat}{n:Nat}(h:n%2=1):cE (a*a) (n/2)*a=cE a n:=by
 rw[J6,show n=2*(n/2)+1 by omega,show 2*((2*(n/2)+1)/2)=2*(n/2)by omega];rfl
theorem J7(a:Rat):∀n,rs (cE a n)<=1+rs a*n
 |0=>by have:=lO;show rs 1<=_;omega
 |n+1=>by
  have:=J7 a n
  have:=eX (cE a n) a
  rw[Ka0]
  show rs (cE a n*a)<=_
  omega
def fN(vs:List Rat)(m:List Int):Nat->Rat
 |0=>1
 |n+1=>fN vs m n*cE (vs.getD n 0) (eN m n).toNat
def iG(vs:List Rat)(m:List Int):Rat:=fN vs m m.length
theorem agd(vs:List Rat)(m:List Int)(k:Nat):fN vs m (m.length+k)=iG vs m:=by
 induction k with
 |zero=>rfl
 |succ k ih=>
  rw[<-Nat.add_assoc]
  show fN vs m (m.length+k)*cE _ (eN m (m.length+k)).toNat=_
  rw[ih,gW (by omega)]
  show iG vs m*1=_
  grind
theorem Jz{vs:List Rat}{m:List Int}{n:Nat}(h:m.length<=n):fN vs m n=iG vs m:=by
 obtain⟨k,rfl⟩:∃k,n=m.length+k:=⟨n-m.length,by omega⟩
 exact agd vs m k
theorem O5{vs:List Rat}{a b:List Int}{k l:Nat}(ha:MB k a)(hb:MB l b):iG vs (bp a b)=iG vs a*iG vs b:=by
 have hlen:(bp a b).length<=max a.length b.length:=by
  have:=uN (ks (· + ·) a b)
  rw[pK]at this
  exact this
 rw[<-Jz (n:=max a.length b.length) hlen,<-Jz (m:=a) (n:=max a.length b.length) (by omega),<-Jz (m:=b) (n:=max a.length b.length) (by omega)]
 generalize max a.length b.length=N
 induction N with
 |zero=>show(1:Rat)=1*1;grind
 |succ N ih=>
  have h1:=(ha.eN N).1
  have h2:=(hb.eN N).1
  show fN vs (bp a b) N*cE _ (eN (bp a b) N).toNat=(fN vs a N*cE _ (eN a N).toNat)*(fN vs b N*cE _ (eN b N).toNat)
  rw[ih,nE,show(eN a N+eN b N).toNat=(eN a N).toNat+(eN b N).toNat by omega,NU];grind
def cV(vs:List Rat)(p:List Tm):Rat:=bN (iG vs) p
def tS(vs:List Rat)(p:List Tm):Bool:=p.any fun t=>decide (vs.length<t.2.length)
abbrev PV.bU(vs:List Rat):PV:= .sl 3 (vs.map PV.rat)
def B7(vs:List Rat)(p:List Tm):PV:=if tS vs p=true then .aI [PV.rr false [] [],.int .i64 2]else .aI [PV.rat (cV vs p),.int .i64 0]
theorem So{vs:List Rat}{p:List Tm}{i:Nat}(h:i<p.length):cV vs (p.take (i+1))=cV vs (p.take i)+p[i].1*iG vs p[i].2:=by
 rw[Kak h,cV,Ik,fc,mF,cV];grind
theorem JA{vs:List Rat}{m:List Int}{E W:Nat}(hm:MB E m)(hv:∀v∈vs,rs v<=W)(hW:1<=W)(c:Rat):∀n,rs (c*fN vs m n)<=rs c+n*(1+W*E)
 |0=>by
  have:c*fN vs m 0=c:=by show c*1=c;grind
  rw[this];omega
 | n+1=>by
  have h1:=JA hm hv hW c n
  have h2:=J7 (vs.getD n 0) (eN m n).toNat
  have h3:rs (vs.getD n 0)<=W:=by
   by_cases h:n<vs.length
   ·rw[Kad,Kag h];exact hv _ (Kai h)
   ·rw[Kad,KcN (by omega)]
    have:=sj
    show rs 0<=W;omega
  have h4:(eN m n).toNat<=E:=by have:=(hm.eN n).2;omega
  have h5:rs (vs.getD n 0)*(eN m n).toNat<=W*E:=KaY h3 h4
  have h6:=eX (c*fN vs m n) (cE (vs.getD n 0) (eN m n).toNat)
  have e:c*fN vs m (n+1)=(c*fN vs m n)*cE (vs.getD n 0) (eN m n).toNat:=by
   show c*(fN vs m n*_)=_;grind
  rw[e,KaJ]
  omega
theorem Je{vs:List Rat}{p:List Tm}{K E W:Nat}(hp:PB K E p)(hv:∀v∈vs,rs v<=W)(hW:1<=W):∀i,i<=p.length->rs (cV vs (p.take i))<=1+i*(K+64*(1+W*E))
 |0,_=>by have:=sj;show rs 0<=_;omega
 |i+1,h=>by
  have h1:=Je hp hv hW i (by omega)
  have ht:=hp.get (i:=i) (by omega)
  have h2:=JA (vs:=vs) ht.m hv hW p[i].1 p[i].2.length
  have h3:=ki (cV vs (p.take i)) (p[i].1*iG vs p[i].2)
  have h4:p[i].2.length*(1+W*E)<=64*(1+W*E):=Kah _ ht.m.len
  have h5:=ht.c
  rw[So (by omega),KaJ]
  have h6:rs (p[i].1*iG vs p[i].2)<=rs p[i].1+p[i].2.length*(1+W*E):=h2
  omega
theorem aaf{B B':List Nat}{F:Fr}(h:(B'.all B.contains)=true):bF B' (bF B F)=bF B F:=by
 funext s
 rw[IY B']
 split
 ·rename_i h1
  rw[IY B]at h1⊢
  split
  ·rfl
  ·rename_i h2
   rw[if_neg h2]at h1
   exfalso
   apply h2
   rw[Ka4]at h1⊢
   obtain⟨x,hx,hb⟩:=h1
   rw[Kas]at h
   exact⟨x,hx,h x (List.contains_iff_mem.1 hb)⟩
 ·rfl
theorem aag{W:List (Nat×Nat)}{B:List Nat}{J F:Fr}:bF B (aR W J F)=aR W (bF B J) (bF B F):=by
 funext s;unfold bF aR;split<;>rfl
theorem H7{V W:List (Nat×Nat)}{B B':List Nat}{X Z F:Fr}(h:xr V W=true)(hB:(B'.all B.contains)=true):aR V X (bF B' (aR W Z (bF B F)))=aR W (aR V X (bF B' Z)) (bF B F):=by
 rw[aag,aaf hB,eP h]
section
variable {C : Ctx} {fr : Fr} {hp : HP} {w : World} {K R : Qh}
theorem akF{ty d β n e' ty':Nat}{xs:List PV}{fz:Bool}(h:hp β=some ⟨e',ty',xs,fz⟩)(hB:bE β=false:=by decide):
  lV 1 ty [.ms β n] d fr hp K=K (ae (cx d fr) d (.ms d 1)) (Qi (bV hp [β]) d ⟨1,ty,[.sl e' (xs.take n)],false⟩):=by
 have e:=JJ hp β n _ _ _ _ h hB
 have e2:Fi hp 1 [.ms β n]:=fun p hp'=>by
  simp only[KaB]at hp'
  subst hp'
  rw[e];exact⟨rfl,rfl⟩
 apply propext
 have KC:nO [.ms β n]=false:=by
  have:β<1000000:=by simpa[bE]using hB
  simp[nO,lK];omega
 simp only[lV,KC,Kbm,if_false,B3,Kbd,Kbw,e,KaP,Kbn]
 exact⟨fun h=>h.2.2,fun h=>⟨by omega,e2,h⟩⟩
end
def nJ(m:List Int)(v:Nat):List Int:=dF (m.set v 0)
theorem ajq(m:List Int)(v i:Nat):eN (m.set v 0) i=if i=v then 0 else eN m i:=by
 by_cases hi:i<m.length
 ·rw[fw (by simpa using hi),KcX]
  by_cases h:i=v
  ·rw[if_pos h,if_pos h.symm]
  ·rw[if_neg h,if_neg (fun h'=>h h'.symm),fw hi]
 ·rw[gW (by simpa using hi),gW (by omega)];split<;>rfl
theorem uY(m:List Int)(v i:Nat):eN (nJ m v) i=if i=v then 0 else eN m i:=by rw[nJ,I7,ajq]
theorem Sp(m:List Int)(v:Nat):(nJ m v).getLast? ≠some 0:=Iu _
theorem Bn{E:Nat}{m:List Int}(h:MB E m)(v:Nat):MB E (nJ m v):=by
 have hl:(nJ m v).length<=64:=by
  have:=uN (m.set v 0)
  have:=h.len
  rw[List.length_set]at *
  unfold nJ;omega
 refine⟨hl,fun x hx=> ?_,fun x hx=> ?_⟩
 all_goals
  obtain⟨i,hi,rfl⟩:=KaT hx
  rw[<-fw hi,uY]
  have:=h.eN i
  split<;>omega
def BS(p:List Tm)(v:Nat)(n:Int):List Tm:=p.filterMap fun t=>if eN t.2 v=n then some (t.1,nJ t.2 v)else none
theorem abV{p:List Tm}{v:Nat}{n:Int}{t:Tm}(h:t∈BS p v n):∃s∈p,eN s.2 v=n/\t=(s.1,nJ s.2 v):=by
 simp only[BS,Kb4]at h
 obtain⟨s,h1,h2⟩:=h
 split at h2
 ·rename_i h3;cases h2;exact⟨s,h1,h3,rfl⟩
 ·cases h2
end Go.FW
namespace Go.FW
open Go
def z'(p:List Tm)(v:Nat)(q:List Tm)(top:Nat):Nat->List Tm
 |0=>BS p v top
 |k+1=>aN (fy (z' p v q top k) q) (BS p v ((top:Int)-(k+1)))
theorem aah{vs:List Rat}{p q:List Tm}(hp:Can p)(hq:Can q):cV vs (aN p q)=cV vs p+cV vs q:=ER hp hq
theorem aai{vs:List Rat}{p q:List Tm}{K L E F:Nat}(hp:PB K E p)(hq:PB L F q):cV vs (fy p q)=cV vs p*cV vs q:=by
 rw[cV,Jd]
 have e:bN (fun m=>bN (fun n=>iG vs (bp m n)) q) p=bN (fun m=>cV vs q*iG vs m) p:=wT fun s hs=>by
  have e2:bN (fun n=>iG vs (bp s.2 n)) q=bN (fun n=>iG vs s.2*iG vs n) q:=wT fun t ht=>O5 (hp s hs).m (hq t ht).m
  rw[e2,EC,cV];grind
 rw[e,EC,cV,cV];grind
def eR(vs:List Rat)(v:Nat)(b:Rat)(n:Int):List Tm->Rat
 | []=>0
 |t::p=>(if n<=eN t.2 v then t.1*iG vs (nJ t.2 v)*cE b (eN t.2 v-n).toNat else 0)+eR vs v b n p
def ML(n:Nat)(p:List Tm):Prop:=∀t∈p,t.2.length<=n
theorem ML.arx{n:Nat}{p q:List Tm}(hp:ML n p)(hq:ML n q):ML n (aN p q):=fun t ht=>by
 rcases y5 ht with⟨s,h1,h2⟩|⟨s,h1,h2⟩
 ·rw[<-h2];exact hp s h1
 ·rw[<-h2];exact hq s h1
theorem NV(a b:List Int):(bp a b).length<=max a.length b.length:=by
 have:=uN (ks (· + ·) a b)
 rwa[pK]at this
theorem aaj{p:List Tm}{t x:Tm}(h:x∈bQ p t):∃s∈p,x.2=bp s.2 t.2:=by
 simp only[bQ,Kb4]at h
 obtain⟨y,hy,h⟩:=h
 split at h
 ·cases h
 ·cases h;exact⟨y,hy,rfl⟩
theorem NW:∀(n:Nat)(l:List (List Tm)),l.length<=n->∀ {t:Tm},t∈eJ l->∃p∈l,∃s∈p,s.2=t.2:=by
 intro n
 induction n with
 |zero=>
  intro l hl t ht
  have:l=[]:=KaE.1 (by omega)
  subst this
  rw[eJ]at ht;cases ht
 | succ n ih=>
  intro l hl t ht
  match l,ht with
  | [],ht=>rw[eJ]at ht;cases ht
  | [p],ht=>rw[eJ]at ht;exact⟨p,by simp,t,ht,rfl⟩
  | p::q::r,ht=>
   rw[AX (by simp)]at ht
   generalize hL:p::q::r=L at *
   have hlen:2<=L.length:=by rw[<-hL];simp
   rcases y5 ht with⟨s,h1,h2⟩|⟨s,h1,h2⟩
   ·obtain⟨p',hp',s',eC,e⟩:=ih _ (by rw[KaI];omega) h1
    exact⟨p',Kbf hp',s',eC,e.trans h2⟩
   ·obtain⟨p',hp',s',eC,e⟩:=ih _ (by rw[Ka7];omega) h1
    exact⟨p',KbM hp',s',eC,e.trans h2⟩
theorem adQ{p q:List Tm}{t:Tm}(h:t∈fy p q):∃a∈p,∃b∈q,t.2=bp a.2 b.2:=by
 have main:∀ {p q:List Tm},t∈sh p q->∃a∈p,∃b∈q,t.2=bp a.2 b.2:=fun {p q} h=>by
  obtain⟨x,hx,s,hs,e⟩:=NW _ _ (Kaf _) h
  obtain⟨a,ha,rfl⟩:=Kau.1 hx
  obtain⟨b,hb,e2⟩:=aaj hs
  exact⟨a,ha,b,hb,by rw[<-e,e2,yO]⟩
 unfold fy at h
 split at h
 ·obtain⟨a,ha,b,hb,e⟩:=main h
  exact⟨b,hb,a,ha,by rw[e,yO]⟩
 ·exact main h
theorem ML.arz{n:Nat}{p q:List Tm}(hp:ML n p)(hq:ML n q):ML n (fy p q):=fun t ht=>by
 obtain⟨a,ha,b,hb,e⟩:=adQ ht
 have:=NV a.2 b.2
 have:=hp a ha
 have:=hq b hb
 rw[e];omega
theorem ML.TQ{n:Nat}{p:List Tm}(hp:ML n p)(v:Nat)(k:Int):ML n (BS p v k):=fun t ht=>by
 obtain⟨s,h1,_,rfl⟩:=abV ht
 have:=uN (s.2.set v 0)
 rw[List.length_set]at this
 exact Kao this (hp s h1)
theorem ML.z'{n:Nat}{p q:List Tm}(hp:ML n p)(hq:ML n q)(v top:Nat):∀k,ML n (z' p v q top k)
 |0=>hp.TQ v _
 |k+1=>((ML.z' hp hq v top k).arz hq).arx (hp.TQ v _)
theorem WZ{p:List Tm}{K E:Nat}(hp:PB K E p)(hE:E<=1048576)(hl:p.length<=4000):rZ p=false:=by
 have:(p.any fun t=>t.2.any fun x=>decide (1048576<x))=false:=by
  rw[Kb2];intro t ht;rw[Bool.not_eq_true,Kb2];intro x hx
  have:=(hp t ht).m.hi x hx
  simp;omega
 rw[rZ,this,Bool.or_false]
 exact decide_eq_false (by omega)
def sr(a:List Int):Nat->Int
 |0=>0
 |n+1=>sr a n+eN a n
theorem MD(a:List Int):∀n,n<=a.length->sr a n=(a.take n).sum
 |0,_=>by simp[sr]
 |n+1,h=>by
  rw[sr,MD a n (by omega),Kak (by omega),List.sum_append,fw (by omega)];simp
theorem age(a:List Int)(k:Nat):sr a (a.length+k)=dj a:=by
 induction k with
 |zero=>rw[KaX,MD a _ (Kaf _),KaH];rfl
 |succ k ih=>rw[<-Nat.add_assoc,sr,ih,gW (by omega)];omega
theorem JB{a:List Int}{n:Nat}(h:a.length<=n):sr a n=dj a:=by
 obtain⟨k,rfl⟩:∃k,n=a.length+k:=⟨n-a.length,by omega⟩
 exact age a k
theorem adR(a b:List Int):dj (bp a b)=dj a+dj b:=by
 rw[<-JB (NV a b),<-JB (a:=a) (n:=max a.length b.length) (by omega),<-JB (a:=b) (n:=max a.length b.length) (by omega)]
 generalize max a.length b.length=n
 induction n with
 |zero=>rfl
 |succ n ih=>rw[sr,sr,sr,ih,nE];omega
theorem Jo:∀(p:List Tm)(d:Int),d<=p.foldl (fun d t=>max d (dj t.2)) d/\(∀t∈p,dj t.2<=p.foldl (fun d t=>max d (dj t.2)) d)/\(p.foldl (fun d t=>max d (dj t.2)) d=d∨∃t∈p,p.foldl (fun d t=>max d (dj t.2)) d=dj t.2)
 | [],d=>⟨Int.le_refl _,by simp,.inl rfl⟩
 | s::p,d=>by
  obtain⟨h1,h2,h3⟩:=Jo p (max d (dj s.2))
  rw[List.foldl_cons]
  refine⟨by omega,fun t ht=> ?_,?_⟩
  ·rcases KaG.1 ht with rfl|ht
   ·omega
   ·exact h2 t ht
  ·rcases h3 with h3|⟨t,ht,h3⟩
   ·rw[h3]
    by_cases h:d<=dj s.2
    ·right;exact⟨s,by simp,by omega⟩
    ·left;omega
   ·right;exact⟨t,by simp[ht],h3⟩
theorem NX(p:List Tm):(∀t∈p,dj t.2<=jU p)/\(jU p= -1∨∃t∈p,jU p=dj t.2):=⟨(Jo p (-1)).2.1,(Jo p (-1)).2.2⟩
def cB(v n:Nat):List Int:=List.replicate v 0++[(n:Int)]
theorem Fo(v n i:Nat):eN (cB v n) i=if i=v then(n:Int)else 0:=by
 unfold cB
 by_cases h:i<v
 ·rw[if_neg (by omega),fw (by simp;omega),KbC (by simpa using h),List.getElem_replicate]
 ·by_cases h2:i=v
  ·subst h2
   rw[if_pos rfl,fw (by simp),Kcc (by simp)]
   simp
  ·rw[if_neg h2,gW (by simp;omega)]
theorem ME{v n:Nat}(h:0<n):(cB v n).getLast? ≠some 0:=by
 unfold cB
 rw[List.getLast?_append]
 simp
 omega
theorem JC{v n:Nat}(hv:v<64):MB n (cB v n):=by
 refine⟨by simp[cB];omega,fun x hx=> ?_,fun x hx=> ?_⟩
 all_goals
  simp only[cB,KaK,Kc0,KaB]at hx
  omega
variable {C : Ctx} {fr : Fr} {hp : HP} {w : World} {K R : Qh}
theorem bs0{e ty d:Nat}(he:0<e):lV e ty [] d fr hp K=K (ae (cx d fr) d (.ms d 0)) (Qi hp d ⟨e,ty,[],false⟩):=JP (by rfl) (by simp) he
end Go.FW
namespace Go.FW
open Go
variable {C : Ctx} {fr : Fr} {hp : HP} {K : Qh}
end Go.FW
namespace Go.FW
open Go
theorem Sr:∀ {p:List Tm},jB p->∀n,jB (p.take n)
 |_,_,0=>trivial
 | [],_,n+1=>trivial
 |t::p,h,n+1=>⟨fun s hs=>h.1 s (Kbf hs),Sr h.2 n⟩
theorem bC.take{p:List Tm}(h:bC p)(n:Nat):bC (p.take n):=⟨fun t ht=>h.c t (Kbf ht),fun t ht=>h.z t (Kbf ht),Sr h.s n⟩
abbrev PV.bO(r c:Nat)(l:List Rat):PV:= .agg [.int .i64 r,.int .i64 c,PV.bU l]
abbrev MF:=Nat->Nat->Rat
def Qu(l:List Rat)(m:Nat):MF:=fun r c=>l.getD (r*m+c) 0
theorem MG{l:List Rat}{n m r:Nat}(hl:l.length=n*m)(hr:r<n):((l.take ((r+1)*m)).drop (r*m)).map PV.rat=Qo PV.rat (Qu l m r) m:=by
 have h1:(r+1)*m<=n*m:=Kah _ hr
 have h2:(r+1)*m=r*m+m:=by rw[KaJ,KcK]
 refine Kbg (by simp[Qo];omega) fun j h3 h4=> ?_
 have hj:j<m:=by simpa[Qo]using h4
 simp only[List.getElem_drop,List.getElem_take,KbB,Qo,List.getElem_range,Qu]
 rw[Kad,Kag (by omega)]
 rfl
structure RQ where
 n:Bool
 a:List Nat
 d:List Nat
 deriving Inhabited
abbrev PV.rq(q:RQ):PV:=PV.rr q.n q.a q.d
abbrev PV.rQ(l:List RQ):PV:= .sl 3 (l.map PV.rq)
abbrev PV.lF(r c:Int)(l:List RQ):PV:= .agg [.int .i64 r,.int .i64 c,PV.rQ l]
def mQ(q:RQ):Bool:=kj q.n q.a q.d
def iY(q:RQ):Rat:=rv q.n q.a q.d
def iO(r c:Int)(l:List RQ):Bool:=decide (0<=r/\r<=40/\0<=c/\c<=40/\(l.length:Int)=r*c)&&l.all mQ
def qR(q:Rat):RQ:=⟨decide (q.num<0),ak q.num.natAbs,ak q.den⟩
theorem IZ{R m:Nat}{l:List Rat}(hl:l.length=R*m)(hR:R<=40)(hm:m<=40):iO R m (l.map qR)=true:=by
 unfold iO
 rw[Kar,decide_eq_true_eq]
 refine⟨⟨by omega,by omega,by omega,by omega,by rw[Kap,hl,KbX]⟩,?_⟩
 rw[Kas]
 intro x hx
 obtain⟨q,hq,rfl⟩:=Kau.1 hx
 exact ET q
theorem PX(l:List Rat):PV.bU l=PV.rQ (l.map qR):=by
 unfold PV.rQ PV.bU
 rw[KbE];rfl
theorem vg(R m:Nat)(l:List Rat):PV.bO R m l=PV.lF R m (l.map qR):=by
 unfold PV.bO PV.lF
 rw[PX]
theorem ajr(q:Rat):iY (qR q)=q:=dE q
theorem Ss(l:List Rat):(l.map qR).map iY=l:=by
 rw[KbE]
 conv=>rhs;rw[<-List.map_id l]
 exact KaL fun q _=>ajr q
def oU(M:MF)(k:Nat):Nat->Nat->Nat
 |0,i=>i
 |f+1,i=>if M i k=0 then oU M k f (i+1)else i
theorem y6(M:MF)(k:Nat):∀f i,i<=oU M k f i/\oU M k f i<=i+f
 |0,i=>⟨Kaf _,Kaf _⟩
 |f+1,i=>by
  unfold oU
  split
  ·have:=y6 M k f (i+1);omega
  ·omega
theorem Bo(M:MF)(k:Nat):∀f i,oU M k f i<i+f->M (oU M k f i) k≠0
 |0,i,h=>by simp[oU]at h
 |f+1,i,h=>by
  unfold oU at h⊢
  split
  ·rename_i h0;rw[if_pos h0]at h;exact Bo M k f (i+1) (by omega)
  ·rename_i h0;exact h0
theorem MH(M:MF)(k:Nat):∀f i j,i<=j->j<oU M k f i->M j k=0
 |0,i,j,h1,h2=>by simp[oU]at h2;omega
 | f+1,i,j,h1,h2=>by
  unfold oU at h2
  split at h2
  ·rename_i h0
   by_cases e:j=i
   ·subst e;exact h0
   ·exact MH M k f (i+1) j (by omega) h2
  ·omega
def dX(M:MF)(R k n:Nat):Nat:=oU M k (R-n) n
def cz(M:MF)(i n:Nat):MF:=fun r=>if r=n then M i else if r=i then M n else M r
def di(M:MF)(n:Nat)(p:Rat):MF:=fun r c=>if r=n then M n c/p else M r c
def mM(M:MF)(n k:Nat):MF:=fun r c=>if r=n then M n c else M r c-M r k*M n c
structure ox where
 M:MF
 ax:List Nat
 cr:Rat
def dM(R:Nat)(E:ox)(k:Nat):ox:=
 if dX E.M R k E.ax.length=R then E else
  ⟨mM (di (cz E.M (dX E.M R k E.ax.length) E.ax.length) E.ax.length (E.M (dX E.M R k E.ax.length) k)) E.ax.length k,E.ax++[k],
   (if dX E.M R k E.ax.length=E.ax.length then E.cr else -E.cr)*E.M (dX E.M R k E.ax.length) k⟩
def Qt(R:Nat)(M:MF):Nat->ox
 |0=>⟨M,[],1⟩
 |k+1=>dM R (Qt R M k) k
theorem kR(R:Nat)(M:MF):∀k,(Qt R M k).ax.length<=k/\(Qt R M k).ax.length<=R/\∀x∈(Qt R M k).ax,x<k
 |0=>⟨Kaf _,Kbv _,by simp[Qt]⟩
 | k+1=>by
  obtain⟨h1,h2,h3⟩:=kR R M k
  show(dM R (Qt R M k) k).ax.length<=k+1/\_
  simp only[Qt]
  unfold dM
  split
  ·exact⟨by omega,h2,fun x hx=>by have:=h3 x hx;omega⟩
  ·rename_i h
   have:=y6 (Qt R M k).M k (R-(Qt R M k).ax.length) (Qt R M k).ax.length
   have h4:dX (Qt R M k).M R k (Qt R M k).ax.length<=R:=by unfold dX;omega
   have h5:(Qt R M k).ax.length<=dX (Qt R M k).M R k (Qt R M k).ax.length:=this.1
   refine⟨by simp;omega,by simp;omega,fun x hx=> ?_⟩
   simp only[KaK,KaB]at hx
   rcases hx with hx|hx
   ·have:=h3 x hx;omega
   ·omega
def eV(K R w:Nat)(M:MF):Prop:=∀r,r<R->∀c,c<w->rs (M r c)<=K
theorem agf:PV.le (.agg [.int .i64 0,.int .i64 0,.al]) (PV.lF 0 0 []):=by simp[PV.le,PV.Am,PV.mo,PV.lF,PV.rQ]
def xt(K R w n:Nat)(M:MF):Prop:=∀k,k<=n->eV K R w (Qt R M k).M/\rs (Qt R M k).cr<=K
def mR(p:Nat->Bool):Nat->Nat->Nat
 |0,i=>i
 |f+1,i=>if p i then i else mR p f (i+1)
theorem w9{p:Nat->Bool}:∀ {f i n:Nat},i<=n->n<i+f->p n=true->(∀j,i<=j->j<n->p j=false)->mR p f i=n
 |0,i,n,h1,h2,_,_=>by omega
 | f+1,i,n,h1,h2,h3,h4=>by
  unfold mR
  by_cases e:i=n
  ·subst e;rw[if_pos h3]
  ·rw[h4 i (Kaf _) (by omega)]
   exact w9 (by omega) (by omega) h3 fun j h5 h6=>h4 j (by omega) h6
theorem tD{p:Nat->Bool}:∀ {f i:Nat},(∀j,i<=j->j<i+f->p j=false)->mR p f i=i+f
 |0,i,_=>rfl
 |f+1,i,h=>by
  unfold mR
  rw[h i (Kaf _) (by omega)]
  have:=tD (p:=p) (f:=f) (i:=i+1) fun j h5 h6=>h j (by omega) (by omega)
  simp only[Kbm,if_false];omega
def fu(x y:Nat->Rat)(c:Rat):Nat->Rat:=fun i=>x i+c*y i
def dA(M:MF)(R:Nat):Nat:=mR (fun i=>decide (M i i≠0)) R 0
def dR(M:MF)(R i:Nat):Nat:=mR (fun k=>decide (M i k≠0)) R 0
def ck(M:MF)(R:Nat):Nat:=mR (fun i=>decide (dR M R i<R)) R 0
def bS (M:MF) (R:Nat):List (Rat×(Nat->Rat)):=
  if dA M R<R then [(M (dA M R) (dA M R),fu (fun _=>0) (M (dA M R)) (1/M (dA M R) (dA M R)))]
  else if ck M R<R then
    [(1/(M (ck M R) (dR M R (ck M R))+M (ck M R) (dR M R (ck M R))),fu (M (ck M R)) (M (dR M R (ck M R))) 1),
     (-(1/(M (ck M R) (dR M R (ck M R))+M (ck M R) (dR M R (ck M R)))),fu (M (ck M R)) (M (dR M R (ck M R))) (-1))]
  else []
abbrev PV.form(w:Nat)(f:Rat×(Nat->Rat)):PV:= .agg [.bool (decide (f.1.num<0)),PV.num f.1.num.natAbs,PV.num f.1.den,.sl 3 (Qo PV.rat f.2 w)]
end Go.FW
