/- Part 4 of the proof of SquaresQuadratics: C1, CI, C1b, N1, N2, N3, N4, N5, N6, N7, N8, N9, N10, N11, N12, N13, N14, N15, I1, R1, R2, FwNG, FwNS, FwNT, FwQA, FwSD, FwSE, FwSF, FwSG, FwSH, FwSI, FwSJ, FwSK, FwSL, FwUA, FwSM, FwUC, FwVA. Own lemmas; no conditions. -/
import Derived.Test.YtkoclfmjlolkhaaGreatSquaresQuadraticsPart3
import Derived.Test.YtkoclfmjlolkhaaGreatProg
set_option maxHeartbeats 1000000
set_option linter.unusedSimpArgs false
set_option linter.unusedVariables false
set_option linter.unnecessarySimpa false
set_option maxRecDepth 100000
namespace Go.Proofs.YtkoclfmjlolkhaaGreat
open Go Go.FW
theorem Qg:Tryz.prog.follows .mixedOrders=true:=by kernel_rfl
def WG:ay:=⟨21,[.t 2],Zr (YE 2)<|Zr (Yp 4 0<|
 Zm 3 5 .nil)<| .seq (.block 0<| .loop<| .seq (Zr (YB 6 3 1<|
 Zg 8 true (.ld 13 1 false (.t 12))<|
 Zg 8 true (.bin 14 .eql false (.t 13) (.c (.int .u16 0)))<|
 Yq 15 8 14 .nil)<| .cond (.t 15) .skip (.exit 0))<| .block 1<| .rg (rM 16 3))<|Zr (Ya 18 0 3<|
 uj 20 1 18 19<|
 Ye 2 20) .ret⟩
theorem Ss:Qe Tryz.prog Tryz.f212=some WG:=by kernel_rfl
def aqF:ay:=⟨16,[.t 2],Zr (YE 2)<|Zr (YD 4 0 212<|
 Zm 0 5 .nil)<| .seq (Zr (Yp 6 0<|
 jj 8 7 0)<| .cond (.t 8) (Zr (YE 2) .ret) .skip)<|Zr (Yp 9 0<|
 sP 11 10 10<|
 Zm 3 11 .nil)<|Zr (Ya 12 3 0<|
 Zo (.vD 14 1 (.t 12) (.t 13)) .nil)<|Zr (YZ 15 3 2) .ret⟩
theorem ah7:Qe Tryz.prog Tryz.f190=some aqF:=by kernel_rfl
def aqD:ay:=⟨14,[.t 2],Zr (YE 2)<|Zr (YE 3)<| .seq (.block 0<| .loop<| .seq (Zr (Zm 4 0<|
 Zo (.bin 5 .gtr false (.t 4) (.c (.int .u64 0))) .nil)<| .cond (.t 5) .skip (.exit 0))<| .seq (.block 1<| .rg (Ya 8 3 0<|
 jV 10 9<|
 Zo (.bs 11 1 155 [.t 10])<|
 mo 12 1 2 155 8 11<|
 Zm 3 12 .nil))<| .rg (xf 6 0<|
 Zm 0 7 .nil))<|Zr (jC 13 3 2) .ret⟩
theorem ah8:Qe Tryz.prog Tryz.f189=some aqD:=by kernel_rfl
def aq5:ay:=⟨28,[.t 2,.t 3],Zr (Zo (.mv 2 (.c (.int .u64 0)))<|
 Yh 3)<|Zr (YD 7 0 212<|
 Zm 0 8 .nil)<| .seq (Zr (Yp 9 0<|
 Zk 11 .gtr 10 4 .nil)<| .cond (.t 11) (Zr (Zo (.mv 2 (.c (.int .u64 0)))<|
 Yh 3) .ret) .skip)<|Zr (Zo (.mv 4 (.c (.int .u64 0))) .nil)<| .seq (Zr (YV 12 0)<| .block 0<| .loop<|Zr (Yz 15 14 13)<| .seq (.cond (.t 15) .skip (.exit 0))<| .seq (.block 1<|Zr (Zm 16 14<|
 YM 17 12 14<|
 Zm 5 16<|
 Zm 6 18 .nil)<| .rg (Ya 19 4 6<|
 nH 21 20<|
 Zm 22 5<|
 Zo (.bin 23 .mul false (.c (Zz 16)) (.t 22))<|
 Zb 24 .shl 21 23<|
 Zb 25 .or 19 24<|
 Ye 4 25))<| .rg (YC 26 14 14))<|Zr (Zm 27 4<|
 Zm 2 27<|
 YO 3) .ret⟩
theorem ah9:Qe Tryz.prog Tryz.f216=some aq5:=by kernel_rfl
def aqs:ay:=⟨20,[.t 2],Zr (Yj 2 0)<|Zr (YD 3 0 212<|
 Zm 0 4 .nil)<| .seq (Zr (Yp 5 0<|
 jj 7 6 0)<| .cond (.t 7) (Zr (Yj 2 0) .ret) .skip)<|Zr (Yp 8 0<|
 Zk 10 .sub 9 1<|
 Zo (.bin 11 .mul false (.c (Zz 16)) (.t 10))<|
 sQ 12 0<|
 YM 16 12 15<|
 Yl 18 214 17<|
 dx 19 11 18<|
 Ye 2 19) .ret⟩
theorem aia:Qe Tryz.prog Tryz.f178=some aqs:=by kernel_rfl
def aq7:ay:=⟨45,[.t 4],Zr (Yj 4 0)<|Zr (nJ 6 212<|
 Zm 0 7<|
 Zm 1 9 .nil)<| .seq (Zr (kR 10<|
 jU 14 11 13)<| .cond (.t 14) (.seq (Zr (kR 15<|
 Yz 19 16 18)<| .cond (.t 19) (Zr (kQ 4) .ret) .skip)<|Zr (Yj 4 1) .ret) .skip)<| .seq (Zr (Yp 20 0<|
 Zk 22 .sub 21 1<|
 Ye 5 22)<| .block 0<| .loop<| .seq (Zr (Zm 23 5<|
 Zk 24 .geq 23 0 .nil)<| .cond (.t 24) .skip (.exit 0))<| .seq (.block 1<| .seq (Zr (Ym 27 0 5<|
 Ym 31 1 5<|
 Yz 35 30 34)<| .cond (.t 35) (Zr (kQ 4) .ret) .skip)<|Zr (Ym 36 0 5<|
 Ym 40 1 5<|
 Zb 44 .gtr 39 43 .nil)<| .cond (.t 44) (Zr (Yj 4 1) .ret) .skip)<| .rg (rM 25 5))<|Zr (Yj 4 0) .ret⟩
theorem aib:Qe Tryz.prog Tryz.f218=some aq7:=by kernel_rfl
def arf:ay:=⟨64,[.t 4],Zr (YE 4)<|Zr (nJ 9 212<|
 Zm 0 10<|
 Zm 1 12 .nil)<| .seq (Zr (kR 13<|
 Yz 17 14 16)<| .cond (.t 17) (.rg (Ya 18 1 0<|
 dp 0 18 19)) .skip)<|Zr (Yp 20 0<|
 Yp 22 0<|
 Zk 24 .add 23 1<|
 sP 25 21 24<|
 Ye 5 25)<|Zr (Zo (.mv 6 (.c (.int .u32 0))) .nil)<| .seq (Zr (YV 26 0)<| .block 0<| .loop<|Zr (Yz 29 28 27)<| .seq (.cond (.t 29) .skip (.exit 0))<| .seq (.block 1<|Zr (Zm 30 28<|
 YM 31 26 28<|
 dp 7 30 32)<|Zr (Ya 33 6 8<|
 mX 35 34<|
 dx 36 33 35<|
 Ye 6 36)<| .seq (Zr (Yo 37 7 1)<| .cond (.t 40) (.rg (YY 41 6 1 7<|
 YM 44 42 43<|
 mX 46 45<|
 dx 47 41 46<|
 Ye 6 47)) .skip)<|Zr (YY 48 5 7 6<|
 jV 51 50<|
 YS 52 1 48 49 51)<| .rg (xf 53 6<|
 Ye 6 54))<| .rg (Yu 55 28 28))<| .seq (Zr (Zm 56 6<|
 Zo (.bin 57 .gtr false (.t 56) (.c (.int .u32 0))) .nil)<| .cond (.t 57) (.rg (Ya 58 5 6<|
 jV 60 59<|
 Ys 61 1 155 60 2 58 5)) .skip)<|Zr (YZ 63 5 4) .ret⟩
theorem aic:Qe Tryz.prog Tryz.f227=some arf:=by kernel_rfl
def arh:ay:=⟨56,[.t 4,.t 5],Zr (eV 4 0)<| .seq (Zr (YK 11 0 1 218<|
 Zk 14 .lss 13 0 .nil)<| .cond (.t 14) (Zr (eV 4 2) .ret) .skip)<|Zr (nJ 15 212<|
 dp 0 16 18)<|Zr (Yp 19 0<|
 sP 21 20 20<|
 Ye 6 21)<|Zr (Zo (.mv 7 (.c (.int .i32 0))) .nil)<| .seq (Zr (YV 22 0)<| .block 0<| .loop<|Zr (Yz 25 24 23)<| .seq (.cond (.t 25) .skip (.exit 0))<| .seq (.block 1<|Zr (Zm 26 24<|
 YM 27 22 24<|
 dp 8 26 28)<|Zr (Zm 29 9<|
 Zo (.conv 30 .i32 (.t 29))<|
 Zm 31 7<|
 Zb 32 .sub 30 31<|
 Ye 10 32)<| .seq (Zr (Yo 33 8 1)<| .cond (.t 36) (.rg (YY 37 10 1 8<|
 YM 40 38 39<|
 Zo (.conv 42 .i32 (.t 41))<|
 Zb 43 .sub 37 42<|
 Ye 10 43)) .skip)<|Zr (Zo (.mv 7 (.c (.int .i32 0))) .nil)<| .seq (Zr (Zm 44 10<|
 Zo (.bin 45 .lss false (.t 44) (.c (.int .i32 0))) .nil)<| .cond (.t 45) (Zr (Zm 46 10<|
 Zo (.bin 47 .add false (.t 46) (.c (.int .i32 65536)))<|
 Ye 10 47)<| .rg (Zo (.mv 7 (.c (.int .i32 1))) .nil)) .skip)<| .rg (YY 48 6 8 10<|
 jV 51 50<|
 YS 52 1 48 49 51))<| .rg (Yu 53 24 24))<|Zr (YD 54 6 212<|
 Zm 4 55<|
 Yj 5 0) .ret⟩
theorem aiO:Qe Tryz.prog Tryz.f228=some arh:=by kernel_rfl
def aqo:ay:=⟨79,[.t 4],Zr (YE 4)<|Zr (nJ 11 212<|
 Zm 0 12<|
 Ye 1 14)<| .seq (Zr (Yp 15 0<|
 Zk 17 .eql 16 0<|
 sR 18 17 1<|
 Zg 18 false (.bin 21 .eql false (.t 20) (.c (Zz 0)))<|
 fQ 22 18 21)<| .cond (.t 22) (Zr (YE 4) .ret) .skip)<|Zr (kR 23<|
 dx 27 24 26<|
 sP 28 27 27<|
 Ye 5 28)<| .seq (Zr (YV 29 0)<| .block 0<| .loop<|Zr (Yz 32 31 30)<| .seq (.cond (.t 32) .skip (.exit 0))<| .seq (.block 1<|Zr (Zm 33 31<|
 YM 34 29 31<|
 dp 6 33 35)<|Zr (Zo (.mv 8 (.c (.int .u32 0))) .nil)<| .seq (Zr (YV 36 1)<| .block 2<| .loop<|Zr (Yz 39 38 37)<| .seq (.cond (.t 39) .skip (.exit 2))<| .seq (.block 3<|Zr (Zm 40 38<|
 YM 41 36 38<|
 dp 9 40 42)<|Zr (Ya 43 8 5<|
 Ya 45 6 9<|
 dx 47 45 46<|
 YM 48 44 47<|
 mX 50 49<|
 Zm 51 7<|
 mX 52 51<|
 Zm 53 10<|
 mX 54 53<|
 Zb 55 .mul 52 54<|
 dx 56 50 55<|
 dx 57 43 56<|
 Ye 8 57)<|Zr (YY 58 5 6 9<|
 dx 61 59 60<|
 Zm 62 8<|
 jV 63 62<|
 YS 64 1 58 61 63)<| .rg (xf 65 8<|
 Ye 8 66))<| .rg (Yu 67 38 38))<| .rg (Ya 68 5 6<|
 Yp 70 1<|
 dx 72 69 71<|
 Zm 73 8<|
 jV 74 73<|
 YS 75 1 68 72 74))<| .rg (Yu 76 31 31))<|Zr (YD 77 5 212<|
 Ye 4 78) .ret⟩
theorem aiP:Qe Tryz.prog Tryz.f174=some aqo:=by kernel_rfl
def aq8:ay:=⟨43,[.t 4,.t 5],Zr (Yf 4<|
 Zo (.mv 5 (.c (.int .u16 0))) .nil)<|Zr (Yp 9 0<|
 sP 11 10 10<|
 Zm 6 11 .nil)<|Zr (Zo (.mv 7 (.c (.int .u32 0))) .nil)<| .seq (Zr (Yp 12 0<|
 Zk 14 .sub 13 1<|
 Zm 8 14 .nil)<| .block 0<| .loop<| .seq (Zr (Zm 15 8<|
 Zk 16 .geq 15 0 .nil)<| .cond (.t 16) .skip (.exit 0))<| .seq (.block 1<|Zr (Zm 19 7<|
 Zo (.bin 20 .shl false (.t 19) (.c (.int .u64 16)))<|
 Ym 21 0 8<|
 mX 25 24<|
 Zb 26 .or 20 25<|
 Ye 7 26)<|Zr (Ya 27 6 8<|
 Ya 29 7 1<|
 mX 31 30<|
 Zb 32 .quo 29 31<|
 jV 33 32<|
 YS 34 1 27 28 33)<| .rg (Ya 35 7 1<|
 mX 37 36<|
 Zb 38 .rem 35 37<|
 Ye 7 38))<| .rg (Zm 17 8<|
 Zk 18 .sub 17 1<|
 Zm 8 18 .nil))<|Zr (YD 39 6 212<|
 Zm 41 7<|
 jV 42 41<|
 dp 4 40 42) .ret⟩
theorem aiQ:Qe Tryz.prog Tryz.f219=some aq8:=by kernel_rfl
def aqH:ay:=⟨71,[.t 4,.t 5,.t 6],Zr (Yf 4<|
 eV 5 0)<|Zr (nJ 12 212<|
 dp 0 13 15)<| .seq (.block 0<|Zr (Yp 17 1<|
 Zk 19 .eql 18 0<|
 Zm 16 19 .nil)<| .cond (.t 16) (Zr (Yf 4<|
 eV 5 3) .ret) (Zr (YK 21 0 1 218<|
 Zk 24 .lss 23 0<|
 Zm 20 24 .nil)<| .cond (.t 20) (Zr (YD 25 0 190<|
 Yf 4<|
 Zm 5 26<|
 Yj 6 0) .ret) (Zr (Yp 28 1<|
 Zk 30 .eql 29 1<|
 Zm 27 30 .nil)<| .cond (.t 27) (Zr (Ya 32 0 1<|
 Zo (.idx 34 1 (.t 33) (.c (Zz 0)))<|
 Zl 35 1 34<|
 Yn 36 219 32 35<|
 Zm 31 36<|
 Yd 37 31<|
 dp 7 37 38)<|Zr (Ya 39 7 8<|
 nH 41 40<|
 Yl 42 189 41<|
 Ya 4 39 42<|
 Yj 6 0) .ret) .skip)))<|Zr (sQ 43 1<|
 YM 47 43 46<|
 Yl 49 220 48<|
 Ye 9 49)<|Zr (YK 50 0 9 221<|
 Zo (.bs 53 1 155 [.c (.int .u16 0),.c (.int .u16 0)])<|
 mo 54 1 2 155 52 53<|
 Yp 55 0<|
 Zk 57 .add 56 1<|
 uj 58 1 54 57<|
 Ye 10 58)<|Zr (YK 59 1 9 221<|
 Ye 11 61)<|Zr (YK 62 10 11 222<|
 Ye 4 64)<|Zr (Ya 65 4 10<|
 Yl 67 212 66<|
 Zm 68 9<|
 Zo (.un 69 .neg (.t 68))<|
 Yn 70 221 67 69<|
 Ya 4 65 70<|
 Yj 6 0) .ret⟩
theorem aiR:Qe Tryz.prog Tryz.f192=some aqH:=by kernel_rfl
def ark:ay:=⟨31,[.t 6],Zr (Yh 6)<|Zr (Zl 7 1 0<|
 Zo (.bin 8 .geq false (.t 7) (.c (.int .u64 65536)))<|
 Zm 9 8<|
 Zg 9 false (.ld 10 1 false (.t 0))<|
 Zg 9 false (.ld 11 1 false (.t 1))<|
 Zg 9 false (.ld 12 1 false (.t 2))<|
 Zg 9 false (.bin 13 .sub false (.t 12) (.c (Zz 2)))<|
 Zg 9 false (.idx 14 1 (.t 11) (.t 13))<|
 Zg 9 false (.ld 15 1 false (.t 14))<|
 Zg 9 false (.conv 16 .u64 (.t 15))<|
 Zg 9 false (.bin 17 .mul false (.t 10) (.t 16))<|
 Zg 9 false (.ld 18 1 false (.t 3))<|
 Zg 9 false (.bin 19 .shl false (.t 18) (.c (.int .u64 16)))<|
 Zg 9 false (.ld 20 1 false (.t 4))<|
 Zg 9 false (.ld 21 1 false (.t 5))<|
 Zg 9 false (.ld 22 1 false (.t 2))<|
 Zg 9 false (.bin 23 .add false (.t 21) (.t 22))<|
 Zg 9 false (.bin 24 .sub false (.t 23) (.c (Zz 2)))<|
 Zg 9 false (.idx 25 1 (.t 20) (.t 24))<|
 Zg 9 false (.ld 26 1 false (.t 25))<|
 Zg 9 false (.conv 27 .u64 (.t 26))<|
 Zg 9 false (.bin 28 .or false (.t 19) (.t 27))<|
 Zg 9 false (.bin 29 .gtr false (.t 17) (.t 28))<|
 Yk 30 9 29<|
 Ye 6 30) .ret⟩
theorem aiS:Qe Tryz.prog Tryz.f230=some ark:=by kernel_rfl
def WJ:ay:=⟨54,[.t 6],Zr (Yh 6)<|Zr (Zo (.mv 7 (.c (.int .u32 0))) .nil)<|Zr (Zo (.mv 8 (.c (.int .i32 0))) .nil)<| .seq (Zr (YV 11 0)<| .block 0<| .loop<|Zr (Yz 14 13 12)<| .seq (.cond (.t 14) .skip (.exit 0))<| .seq (.block 1<|Zr (jC 15 13 9)<| .seq (Zr (Yo 16 9 1)<| .cond (.t 19) (.rg (Ya 20 7 2<|
 Ym 22 1 9<|
 mX 26 25<|
 Zb 27 .mul 21 26<|
 dx 28 20 27<|
 Ye 7 28)) .skip)<|Zr (Ym 29 0 9<|
 Zo (.conv 33 .i32 (.t 32))<|
 Zm 34 7<|
 jV 35 34<|
 Zo (.conv 36 .i32 (.t 35))<|
 Zb 37 .sub 33 36<|
 Zm 38 8<|
 Zb 39 .sub 37 38<|
 Ye 10 39)<|Zr (xf 40 7<|
 Ye 7 41)<|Zr (Zo (.mv 8 (.c (.int .i32 0))) .nil)<| .seq (Zr (Zm 42 10<|
 Zo (.bin 43 .lss false (.t 42) (.c (.int .i32 0))) .nil)<| .cond (.t 43) (Zr (Zm 44 10<|
 Zo (.bin 45 .add false (.t 44) (.c (.int .i32 65536)))<|
 Ye 10 45)<| .rg (Zo (.mv 8 (.c (.int .i32 1))) .nil)) .skip)<| .rg (YY 46 0 9 10<|
 jV 49 48<|
 YS 50 1 46 47 49))<| .rg (Yu 51 13 13))<|Zr (Zm 52 8<|
 Zo (.bin 53 .gtr false (.t 52) (.c (.int .i32 0)))<|
 Ye 6 53) .ret⟩
theorem aiT:Qe Tryz.prog Tryz.f231=some WJ:=by kernel_rfl
def WK:ay:=⟨37,[],Zr (Zo (.mv 4 (.c (.int .u32 0))) .nil)<|Zr (YV 6 0)<| .block 0<| .loop<|Zr (Yz 9 8 7)<| .seq (.cond (.t 9) .skip (.exit 0))<| .seq (.block 1<|Zr (jC 10 8 5)<|Zr (YY 11 4 0 5<|
 YM 14 12 13<|
 mX 16 15<|
 dx 17 11 16<|
 Ye 4 17)<| .seq (Zr (Yo 18 5 1)<| .cond (.t 21) (.rg (YY 22 4 1 5<|
 YM 25 23 24<|
 mX 27 26<|
 dx 28 22 27<|
 Ye 4 28)) .skip)<|Zr (YY 29 0 5 4<|
 jV 32 31<|
 YS 33 1 29 30 32)<| .rg (xf 34 4<|
 Ye 4 35))<| .rg (Yu 36 8 8)⟩
theorem aiU:Qe Tryz.prog Tryz.f232=some WK:=by kernel_rfl
def aqA:ay:=⟨51,[.t 4],Zr (YE 4)<|Zr (nJ 12 190<|
 dp 0 13 15)<| .seq (.block 0<| .loop<| .seq (Zr (Yp 16 1<|
 Zk 18 .gtr 17 0 .nil)<| .cond (.t 18) .skip (.exit 0))<| .block 1<|Zr (YD 20 0 216<|
 Zm 19 21<|
 Yd 22 19<|
 dp 5 22 23)<|Zr (YD 25 1 216<|
 Zm 24 26<|
 Yd 27 24<|
 dp 7 27 28)<| .seq (Zr (Zm 29 6<|
 YN 30 29 8<|
 Yq 32 30 31 .nil)<| .cond (.t 32) (.seq (.block 2<| .loop<| .seq (Zr (Zm 33 7<|
 Zo (.bin 34 .gtr false (.t 33) (.c (.int .u64 0))) .nil)<| .cond (.t 34) .skip (.exit 2))<| .block 3<| .rg (YY 35 7 5 7<|
 Zb 38 .rem 36 37<|
 Zm 5 35<|
 Ye 7 38))<|Zr (YD 39 5 189<|
 Ye 4 40) .ret) .skip)<|Zr (YK 42 0 1 192<|
 gy 41<|
 Zo (.ext 47 (.t 41) 2)<|
 Ya 9 45 46<|
 Ye 11 47)<| .rg (Ya 48 1 10<|
 dp 0 48 49))<|Zr (YZ 50 0 4) .ret⟩
theorem aiV:Qe Tryz.prog Tryz.f186=some aqA:=by kernel_rfl
def WH:ay:=⟨78,[.t 4],Zr (YE 4)<|Zr (YD 11 0 212<|
 Zm 0 12 .nil)<| .seq (Zr (Zm 13 1<|
 Zk 14 .lss 13 (-1048576)<|
 Yw 15 14 1<|
 Zg 15 false (.bin 17 .gtr false (.t 16) (.c (Zz 1048576)))<|
 Yk 18 15 17<|
 sR 19 18 0<|
 Zg 19 false (.bin 22 .eql false (.t 21) (.c (Zz 0)))<|
 fQ 23 19 22)<| .cond (.t 23) (Zr (YE 4) .ret) .skip)<| .seq (Zr (Zm 24 1<|
 Zk 25 .lss 24 0 .nil)<| .cond (.t 25) (Zr (Ya 26 0 1<|
 Zo (.un 28 .neg (.t 27))<|
 Yn 29 229 26 28<|
 Ye 4 29) .ret) .skip)<|Zr (Zm 30 1<|
 Zk 31 .quo 30 16<|
 Zm 32 1<|
 Zk 33 .rem 32 16<|
 dp 5 31 33)<|Zr (Yp 34 0<|
 Zm 36 5<|
 dx 37 35 36<|
 Zk 38 .add 37 1<|
 Yp 39 0<|
 Zm 41 5<|
 dx 42 40 41<|
 Zk 43 .add 42 3<|
 sP 44 38 43<|
 Ye 7 44)<| .seq (Zr (YV 45 0)<| .block 0<| .loop<|Zr (Yz 48 47 46)<| .seq (.cond (.t 48) .skip (.exit 0))<| .seq (.block 1<|Zr (Zm 49 47<|
 YM 50 45 47<|
 dp 8 49 51)<|Zr (Zm 52 9<|
 mX 53 52<|
 Zm 54 6<|
 Zb 55 .shl 53 54<|
 Ye 10 55)<|Zr (YY 56 7 8 5<|
 dx 59 57 58<|
 YM 60 56 59<|
 Zm 62 10<|
 jV 63 62<|
 Zb 64 .or 61 63<|
 YS 65 1 56 59 64)<| .rg (YY 66 7 8 5<|
 dx 69 67 68<|
 Zk 70 .add 69 1<|
 xf 71 10<|
 jV 73 72<|
 YS 74 1 66 70 73))<| .rg (Yu 75 47 47))<|Zr (YD 76 7 212<|
 Ye 4 77) .ret⟩
theorem JH:Qe Tryz.prog Tryz.f221=some WH:=by kernel_rfl
def ari:ay:=⟨63,[.t 4],Zr (YE 4)<|Zr (Zm 10 1<|
 Zk 11 .quo 10 16<|
 Zm 12 1<|
 Zk 13 .rem 12 16<|
 Zm 5 11<|
 Zm 6 13 .nil)<| .seq (Zr (Ya 14 5 0<|
 Zn 16 15<|
 Zb 17 .geq 14 16 .nil)<| .cond (.t 17) (Zr (YE 4) .ret) .skip)<|Zr (Yp 18 0<|
 Zm 20 5<|
 Zb 21 .sub 19 20<|
 sP 22 21 21<|
 Ye 7 22)<| .seq (Zr (YV 23 7)<| .block 0<| .loop<|Zr (Yz 26 25 24)<| .seq (.cond (.t 26) .skip (.exit 0))<| .seq (.block 1<|Zr (YZ 27 25 8)<|Zr (YY 28 0 8 5<|
 dx 31 29 30<|
 YM 32 28 31<|
 mX 34 33<|
 Ye 9 34)<| .seq (Zr (Ya 35 8 5<|
 dx 37 35 36<|
 Zk 38 .add 37 1<|
 Yp 39 0<|
 Yz 41 38 40)<| .cond (.t 41) (.rg (Ya 42 9 0<|
 Ya 44 8 5<|
 dx 46 44 45<|
 Zk 47 .add 46 1<|
 YM 48 43 47<|
 mX 50 49<|
 Zo (.bin 51 .shl false (.t 50) (.c (.int .u64 16)))<|
 Zb 52 .or 42 51<|
 Ye 9 52)) .skip)<| .rg (Ya 53 7 8<|
 Ya 55 9 6<|
 Zb 57 .shr 55 56<|
 jV 58 57<|
 YS 59 1 53 54 58))<| .rg (Yu 60 25 25))<|Zr (YD 61 7 212<|
 Ye 4 62) .ret⟩
theorem aiW:Qe Tryz.prog Tryz.f229=some ari:=by kernel_rfl
def ara:ay:=⟨6,[.t 2],Zr (Yj 2 0)<|Zr (YD 3 0 214<|
 Zo (.bin 5 .sub false (.c (Zz 16)) (.t 4))<|
 Zm 2 5 .nil) .ret⟩
theorem aiX:Qe Tryz.prog Tryz.f220=some ara:=by kernel_rfl
def aq6:ay:=⟨15,[.cell 4 2 true],Zr (ue 4)<|Zr (YD 5 1 190<|
 Zm 1 6 .nil)<|Zr (DT 7<|
 Zs 2 4 14 .nil) .ret⟩
theorem aiY:Qe Tryz.prog Tryz.f217=some aq6:=by kernel_rfl
def aqC:ay:=⟨13,[.cell 4 2 true],Zr (ue 4)<|Zr (DT 5<|
 Zs 2 4 12 .nil) .ret⟩
theorem aiZ:Qe Tryz.prog Tryz.f188=some aqC:=by kernel_rfl
def aqz:ay:=⟨27,[.t 2],Zr (jT 1 49 0<|
 Yh 2)<|Zr (Yi 4 1 1<|
 Zn 6 5<|
 Zm 3 6 .nil)<|Zr (Zm 7 3<|
 Zk 8 .eql 7 0<|
 Zm 9 8<|
 YT 9 0 1<|
 Zg 9 true (.un 12 .not (.t 11))<|
 Yq 13 9 12<|
 Yw 14 13 3<|
 Zg 14 false (.bin 16 .gtr false (.t 15) (.c (Zz 0)))<|
 Zg 14 false (.mv 17 (.t 16))<|
 YT 17 1 1<|
 Zg 17 true (.mv 20 (.t 3))<|
 Zg 17 true (.bin 21 .sub false (.t 20) (.c (Zz 1)))<|
 Zg 17 true (.idx 22 1 (.t 19) (.t 21))<|
 Zg 17 true (.ld 23 1 false (.t 22))<|
 Zg 17 true (.bin 24 .neq false (.t 23) (.c (.int .u16 0)))<|
 Zg 14 false (.pick 25 (.t 17) (.t 24) (.c (.bool false)))<|
 Yk 26 14 25<|
 Ye 2 26) .ret⟩
theorem ai0:Qe Tryz.prog Tryz.f185=some aqz:=by kernel_rfl
def aqG:ay:=⟨8,[.cell 2 2 true],Zr (jT 1 49 0<|
 uf 2)<|Zr (ff 3 0 1 1 1<|
 Yn 7 217 4 6<|
 Zs 2 2 7 .nil) .ret⟩
theorem ai1:Qe Tryz.prog Tryz.f191=some aqG:=by kernel_rfl
def apF:ay:=⟨16,[.cell 2 2 true],Zr (uf 2)<| .seq (Zr (Zm 3 0<|
 Zk 4 .lss 3 0 .nil)<| .cond (.t 4) (Zr (Zm 5 0<|
 Zk 6 .add 5 1<|
 Zo (.un 7 .neg (.t 6))<|
 nH 8 7<|
 Zo (.bin 9 .add false (.t 8) (.c (.int .u64 1)))<|
 Yl 10 189 9<|
 Zq 11 false 188 [.c (.bool true),.t 10]<|
 Zs 2 2 11 .nil) .ret) .skip)<|Zr (Zm 12 0<|
 nH 13 12<|
 Yl 14 189 13<|
 Zq 15 false 188 [.c (.bool false),.t 14]<|
 Zs 2 2 15 .nil) .ret⟩
theorem ai2:Qe Tryz.prog Tryz.f127=some apF:=by kernel_rfl
def apr:ay:=⟨11,[.t 2],Zr (jT 1 49 0<|
 Yj 2 0)<| .seq (.block 0<|Zr (Yi 4 1 1<|
 Yl 6 178 5<|
 Zk 7 .eql 6 0<|
 Zm 3 7 .nil)<| .cond (.t 3) (Zr (Yj 2 0) .ret) (Zr (Yi 9 0 1<|
 Zm 8 10 .nil)<| .cond (.t 8) (Zr (kQ 2) .ret) .skip))<|Zr (Yj 2 1) .ret⟩
theorem ai3:Qe Tryz.prog Tryz.f109=some apr:=by kernel_rfl
def arc:ay:=⟨35,[.t 4],Zr (uh 2<|
 Yj 4 0)<|Zr (Zh 8 2 2<|
 Zh 10 2 3<|
 dQ 9 109 8<|
 dQ 11 109 10<|
 Zm 5 9<|
 Zm 6 11 .nil)<|Zr (Zo (.mv 7 (.c (.fn 233 [] []))) .nil)<| .seq (.block 0<|Zr (Ya 13 5 6<|
 Zb 15 .lss 13 14<|
 Zm 12 15 .nil)<| .cond (.t 12) (Zr (kQ 4) .ret) (Zr (Ya 17 5 6<|
 Zb 19 .gtr 17 18<|
 Zm 16 19 .nil)<| .cond (.t 16) (Zr (Yj 4 1) .ret) (Zr (Zm 21 5<|
 Zk 22 .lss 21 0<|
 Zm 20 22 .nil)<| .cond (.t 20) (Zr (Zm 23 7<|
 ff 24 1 3 1 2<|
 Zo (.call (some 28) false (.t 23) [.t 25,.t 27])<|
 Ye 4 28) .ret) .skip)))<|Zr (Zm 29 7<|
 ff 30 1 2 1 3<|
 Zo (.call (some 34) false (.t 29) [.t 31,.t 33])<|
 Ye 4 34) .ret⟩
theorem ai4:Qe Tryz.prog Tryz.f224=some arc:=by kernel_rfl
def arl:ay:=⟨8,[.t 4],Zr (Yj 4 0)<|Zr (YK 5 0 1 218<|
 Zm 4 7 .nil) .ret⟩
theorem ai5:Qe Tryz.prog Tryz.f233=some arl:=by kernel_rfl
def aq3:ay:=⟨40,[.cell 4 2 true],Zr (uh 2<|
 ue 4)<| .seq (Zr (ff 7 0 2 0 3<|
 Zo (.bin 11 .eql true (.t 8) (.t 10)) .nil)<| .cond (.t 11) (Zr (ff 12 0 2 1 2<|
 Yi 16 1 3<|
 Yr 18 227 15 17<|
 jD 19 188 13 18 2 4) .ret) .skip)<| .seq (Zr (ff 20 1 2 1 3<|
 Yn 24 218 21 23<|
 Zk 25 .lss 24 0 .nil)<| .cond (.t 25) (.rg (Zh 26 2 3<|
 Zh 27 2 2<|
 Zs 2 2 26<|
 jE 2 27)) .skip)<|Zr (ff 29 1 2 1 3<|
 Yn 33 228 30 32<|
 Zm 28 33<|
 Yd 34 28<|
 dp 5 34 35)<|Zr (Yi 36 0 2<|
 Zm 38 5<|
 Yn 39 188 37 38<|
 Zs 2 4 39 .nil) .ret⟩
theorem ai6:Qe Tryz.prog Tryz.f213=some aq3:=by kernel_rfl
def aqn:ay:=⟨16,[.cell 4 2 true],Zr (uh 2<|
 ue 4)<|Zr (ff 5 0 2 0 3<|
 Zo (.bin 9 .neq true (.t 6) (.t 8))<|
 ff 10 1 2 1 3<|
 Yr 14 174 11 13<|
 jD 15 188 9 14 2 4) .ret⟩
theorem ai7:Qe Tryz.prog Tryz.f173=some aqn:=by kernel_rfl
def aqp:ay:=⟨17,[.t 2],Zr (Yh 2)<|Zr (Yp 4 0<|
 Zo (.eB 6 [Zz 0,.int .u16 0] [(0,1,.t 5)])<|
 Zo (.alloc 3 2 194 (.agg [Zz 0,.int .u16 0]))<|
 Zs 2 3 6 .nil)<| .seq (Zr (Yp 7 0<|
 Zk 9 .gtr 8 0 .nil)<| .cond (.t 9) (.rg (Zm 10 0<|
 Zo (.idx 11 1 (.t 10) (.c (Zz 0)))<|
 Zl 12 1 11<|
 Zf 13 1 3<|
 Zs 1 13 12 .nil)) .skip)<|Zr (Zh 14 2 3<|
 Zo (.eB 15 [Zz 0,.int .u16 0] [(0,1,.c (Zz 1)),(1,1,.c (.int .u16 1))])<|
 Zo (.eqs 16 false (.t 14) (.t 15))<|
 Ye 2 16) .ret⟩
theorem ai8:Qe Tryz.prog Tryz.f175=some aqp:=by kernel_rfl
def apG:ay:=⟨2,[.t 0],Zr (YE 0)<|Zr (Zo (.bs 1 1 155 [.c (.int .u16 1)])<|
 Zm 0 1 .nil) .ret⟩
theorem ai9:Qe Tryz.prog Tryz.f128=some apG:=by kernel_rfl
def apH:ay:=⟨52,[.cell 4 3 true],Zr (Zo (.box 2 2 49 (.t 0))<|
 Yc 4 .nil)<|Zr (YD 6 1 190<|
 Zm 1 7 .nil)<|Zr (dn 8 2 2 191<|
 Zs 2 2 9 .nil)<| .seq (Zr (Yp 10 1<|
 Zk 12 .eql 11 0<|
 YA 13 12 1 2<|
 Zg 13 false (.len 16 (.t 15))<|
 Zg 13 false (.bin 17 .eql false (.t 16) (.c (Zz 0)))<|
 fQ 18 13 17)<| .cond (.t 18) (Zr (Zq 19 false 128 []<|
 Zo (.eB 20 [.bool false,.au,.au] [(2,1,.t 19)])<|
 jE 3 20) .ret) .skip)<| .seq (Zr (YD 21 1 175 .nil)<| .cond (.t 22) (Zr (Zh 23 2 2<|
 Zm 24 1<|
 yZ 25 23 24<|
 jE 3 25) .ret) .skip)<|Zr (Yi 26 1 2<|
 Zm 28 1<|
 Yn 29 186 27 28<|
 Ye 5 29)<| .seq (Zr (YD 30 5 175<|
 Zu 32 31 .nil)<| .cond (.t 32) (Zr (Yi 34 1 2<|
 Zm 36 5<|
 Yn 37 192 35 36<|
 Zm 33 37<|
 Yd 38 33<|
 Zo (.ext 40 (.t 33) 2)<|
 Zf 41 1 2<|
 Zs 1 41 38 .nil)<| .rg (YK 43 1 5 192<|
 gy 42<|
 Zo (.ext 48 (.t 42) 2)<|
 Ye 1 46)) .skip)<|Zr (Zh 49 2 2<|
 Zm 50 1<|
 yZ 51 49 50<|
 jE 3 51) .ret⟩
theorem aja:Qe Tryz.prog Tryz.f129=some apH:=by kernel_rfl
def apq:ay:=⟨14,[.cell 2 2 true,.t 3],Zr (iS 1 51<|
 Zo (.alloc 2 2 49 (.agg [.bool false,.au]))<|
 YE 3)<| .seq (Zr (Yi 4 2 1<|
 Yl 6 178 5<|
 jj 7 6 0)<| .cond (.t 7) (Zr (Zo (.eB 8 [.bool false,.au] [])<|
 Zq 9 false 128 []<|
 Zs 2 2 8<|
 Zm 3 9 .nil) .ret) .skip)<|Zr (YP 10 1 2<|
 Zf 12 2 1<|
 .br (Zl 13 1 12<|
 Zs 2 2 11<|
 Zm 3 13 .nil) (Zs 2 2 11<|
 Zl 13 1 12<|
 Zm 3 13 .nil)) .ret⟩
theorem ajb:Qe Tryz.prog Tryz.f108=some apq:=by kernel_rfl
def aqr:ay:=⟨5,[.cell 2 2 true],Zr (uf 2)<|Zr (Zm 3 0<|
 Zo (.eB 4 [.bool false,.au] [(1,1,.t 3)])<|
 Zs 2 2 4 .nil) .ret⟩
theorem ajc:Qe Tryz.prog Tryz.f177=some aqr:=by kernel_rfl
def apA:ay:=⟨36,[.t 2],Zr (iS 1 51<|
 Yh 2)<|Zr (Yi 4 2 1<|
 Zn 6 5<|
 Zm 3 6 .nil)<| .seq (Zr (YP 7 1 2<|
 Yl 9 185 8<|
 Zu 10 9<|
 Yw 11 10 3<|
 Zg 11 false (.bin 13 .eql false (.t 12) (.c (Zz 0)))<|
 Yk 14 11 13<|
 YA 15 14 2 1<|
 Zg 15 false (.mv 18 (.t 3))<|
 Zg 15 false (.bin 19 .sub false (.t 18) (.c (Zz 1)))<|
 Zg 15 false (.idx 20 1 (.t 17) (.t 19))<|
 Zg 15 false (.ld 21 1 false (.t 20))<|
 Zg 15 false (.bin 22 .eql false (.t 21) (.c (.int .u16 0)))<|
 fQ 23 15 22)<| .cond (.t 23) (Zr (Yh 2) .ret) .skip)<|Zr (Yi 24 2 1<|
 Yl 26 175 25<|
 Zm 27 26<|
 Zg 27 false (.gI 28 0 (.t 1))<|
 Zg 27 false (.gI 29 1 (.t 28))<|
 Zg 27 false (.ld 30 1 false (.t 29))<|
 Zg 27 false (.gI 31 2 (.t 1))<|
 Zg 27 false (.ld 32 1 false (.t 31))<|
 Zg 27 false (.call (some 33) false (.c (.fn 186 [] [])) [.t 30,.t 32])<|
 Zg 27 false (.call (some 34) false (.c (.fn 175 [] [])) [.t 33])<|
 Yk 35 27 34<|
 Ye 2 35) .ret⟩
theorem ajd:Qe Tryz.prog Tryz.f122=some apA:=by kernel_rfl
def c61:ay:=⟨7,[.cell 2 3 true],Zr (xe 2)<|Zr (YD 3 0 127<|
 Zq 5 false 128 []<|
 yZ 6 4 5<|
 Zs 3 2 6 .nil) .ret⟩
theorem amR:Qe Tryz.prog Tryz.f61=some c61:=by kernel_rfl
def c38:ay:=⟨12,[.t 2],Zr (iS 1 51<|
 Yj 2 0)<|Zr (YI 6 1 5 3<|
 Zm 4 9 .nil)<|Zr (dn 10 2 3 109<|
 Zm 2 11 .nil) .ret⟩
theorem amS:Qe Tryz.prog Tryz.f38=some c38:=by kernel_rfl
def aqU:ay:=⟨40,[.t 4],Zr (YU 2 51<|
 Yj 4 0)<|Zr (Zh 11 3 2<|
 Zh 13 3 3<|
 dQ 12 38 11<|
 dQ 14 38 13<|
 Zm 5 12<|
 Zm 6 14 .nil)<| .seq (Zr (Ya 15 5 6<|
 jU 17 15 16)<| .cond (.t 17) (.seq (Zr (Ya 18 5 6<|
 Yz 20 18 19)<| .cond (.t 20) (Zr (kQ 4) .ret) .skip)<|Zr (Yj 4 1) .ret) .skip)<|Zr (YI 22 2 21 7<|
 Ye 8 25)<|Zr (YI 27 3 26 9<|
 Ye 10 30)<|Zr (Zh 31 2 7<|
 Zm 32 10<|
 Zh 35 2 9<|
 Zm 36 8<|
 dQ 33 177 32<|
 Yr 34 173 31 33<|
 dQ 37 177 36<|
 Yr 38 173 35 37<|
 Yr 39 224 34 38<|
 Ye 4 39) .ret⟩
theorem aiE:Qe Tryz.prog Tryz.f204=some aqU:=by kernel_rfl
def aqt:ay:=⟨9,[.t 4],Zr (YU 2 51<|
 Yh 4)<|Zr (mY 5 3 2 3 204<|
 Zk 8 .eql 7 0<|
 Zm 4 8 .nil) .ret⟩
theorem aiF:Qe Tryz.prog Tryz.f179=some aqt:=by kernel_rfl
def aqq:ay:=⟨17,[.cell 2 2 true],Zr (uf 2)<|Zr (ue 3)<| .seq (Zr (YV 6 0)<| .block 0<| .loop<|Zr (Yz 9 8 7)<| .seq (.cond (.t 9) .skip (.exit 0))<| .seq (.block 1<|Zr (Yx 10 2 6 8<|
 Zo (.alloc 5 2 49 (.agg [.bool false,.au]))<|
 Zs 2 5 11 .nil)<| .rg (mY 12 2 3 5 213<|
 Zs 2 3 14 .nil))<| .rg (YC 15 8 8))<|Zr (Zh 16 2 3<|
 Zs 2 2 16 .nil) .ret⟩
theorem aiG:Qe Tryz.prog Tryz.f176=some aqq:=by kernel_rfl
def apo:ay:=⟨45,[.cell 4 3 true],Zr (YU 2 51<|
 Yc 4 .nil)<|Zr (YI 10 2 9 5<|
 Zm 6 13 .nil)<|Zr (YI 15 3 14 7<|
 Zm 8 18 .nil)<| .seq (Zr (YD 19 6 175<|
 YN 21 20 8<|
 xg 21 175<|
 Yq 24 21 23 .nil)<| .cond (.t 24) (Zr (Zh 25 2 5<|
 Zh 26 2 7<|
 Zo (.bs 27 2 49 [.t 25,.t 26])<|
 Yl 28 176 27<|
 Zm 29 6<|
 Yn 30 129 28 29<|
 jE 3 30) .ret) .skip)<|Zr (Zh 31 2 5<|
 Zm 32 8<|
 Zh 35 2 7<|
 Zm 36 6<|
 Ya 41 6 8<|
 dQ 33 177 32<|
 Yr 34 173 31 33<|
 dQ 37 177 36<|
 Yr 38 173 35 37<|
 Zo (.bs 39 2 49 [.t 34,.t 38])<|
 dQ 40 176 39<|
 Yr 43 174 41 42<|
 jD 44 129 40 43 3 4) .ret⟩
theorem aiH:Qe Tryz.prog Tryz.f107=some apo:=by kernel_rfl
def aqv:ay:=⟨18,[.cell 4 3 true],Zr (YU 2 51<|
 Yc 4 .nil)<|Zr (Zh 5 3 2<|
 Zf 6 0 3<|
 Yi 7 0 6<|
 Zu 9 8<|
 Zf 10 0 3<|
 Yi 11 1 10<|
 Zo (.eB 13 [.bool false,.au] [(0,1,.t 9),(1,1,.t 12)])<|
 Yi 14 2 3<|
 yZ 16 13 15<|
 Yn 17 107 5 16<|
 jE 3 17) .ret⟩
theorem aiI:Qe Tryz.prog Tryz.f181=some aqv:=by kernel_rfl
def apm:ay:=⟨26,[.cell 4 3 true],Zr (YU 2 51<|
 Yc 4 .nil)<|Zr (YI 10 2 9 5<|
 Zm 6 13 .nil)<|Zr (YI 15 3 14 7<|
 Zm 8 18 .nil)<|Zr (mY 19 2 5 7 173<|
 YK 22 6 8 174<|
 Yn 25 129 21 24<|
 jE 3 25) .ret⟩
theorem aiJ:Qe Tryz.prog Tryz.f105=some apm:=by kernel_rfl
def c62:ay:=⟨18,[.cell 2 3 true],Zr (iS 1 51<|
 xe 2)<|Zr (YI 6 1 5 3<|
 Zm 4 9 .nil)<|Zr (Yi 10 0 3<|
 Zu 12 11<|
 Yi 13 1 3<|
 Zo (.eB 15 [.bool false,.au] [(0,1,.t 12),(1,1,.t 14)])<|
 Zm 16 4<|
 Yn 17 129 15 16<|
 Zs 3 2 17 .nil) .ret⟩
theorem amT:Qe Tryz.prog Tryz.f62=some c62:=by kernel_rfl
def aqB:ay:=⟨21,[.cell 4 3 true,.t 5],Zr (uh 2<|
 Yc 4<|
 Yj 5 0)<| .seq (Zr (dn 6 2 3 109<|
 jj 8 7 0)<| .cond (.t 8) (Zr (Zo (.eB 9 [.bool false,.au,.au] [])<|
 Zs 3 4 9<|
 Yj 5 3) .ret) .skip)<|Zr (ff 10 0 2 0 3<|
 Zo (.bin 14 .neq true (.t 11) (.t 13))<|
 Yi 15 1 2<|
 Zo (.eB 17 [.bool false,.au] [(0,1,.t 14),(1,1,.t 16)])<|
 Yi 18 1 3<|
 Yn 20 129 17 19<|
 Zs 3 4 20<|
 Yj 5 0) .ret⟩
theorem aiK:Qe Tryz.prog Tryz.f187=some aqB:=by kernel_rfl
def apB:ay:=⟨31,[.cell 4 3 true,.t 5],Zr (YU 2 51<|
 Yc 4<|
 Yj 5 0)<|Zr (YI 11 2 10 6<|
 Zm 7 14 .nil)<|Zr (YI 16 3 15 8<|
 Zm 9 19 .nil)<|Zr (Zh 20 2 6<|
 Zm 21 9<|
 Zh 24 2 8<|
 Zm 25 7<|
 dQ 22 177 21<|
 Yr 23 173 20 22<|
 dQ 26 177 25<|
 Yr 27 173 24 26<|
 Yr 28 187 23 27<|
 Yd 29 28<|
 Zs 3 4 29<|
 Ye 5 30) .ret⟩
theorem aiL:Qe Tryz.prog Tryz.f123=some apB:=by kernel_rfl
def aqJ:ay:=⟨19,[.cell 4 3 true],Zr (Yc 4 .nil)<|Zr (nJ 8 127<|
 Yn 12 187 9 11<|
 Zm 7 12<|
 Yd 13 7<|
 Yc 5<|
 Zs 3 5 13<|
 Zm 6 14 .nil)<| .seq (Zr (Zm 15 6<|
 iT 16 15)<| .cond (.t 16) (Zr (iA 17 61 0<|
 jE 3 17) .ret) .skip)<|Zr (Zh 18 3 5<|
 jE 3 18) .ret⟩
theorem aiM:Qe Tryz.prog Tryz.f194=some aqJ:=by kernel_rfl
def WI:ay:=⟨108,[.t 4],Zr (Zo (.box 2 1 47 (.t 0))<|
 Zo (.box 3 1 47 (.t 1))<|
 YE 4)<|Zr (Zl 12 1 3<|
 Zn 13 12<|
 Zo (.alloc 5 1 3 (Zz 0))<|
 Zs 1 5 13 .nil)<|Zr (Zl 14 1 2<|
 Zn 15 14<|
 Zl 16 1 5<|
 Zb 17 .sub 15 16<|
 sP 18 17 17<|
 Zm 6 18 .nil)<| .seq (Zr (Zl 19 1 2<|
 Zn 20 19<|
 Zl 21 1 5<|
 Zb 22 .sub 20 21<|
 Zk 23 .sub 22 1<|
 Zo (.alloc 7 1 3 (Zz 0))<|
 Zs 1 7 23 .nil)<| .block 0<| .loop<| .seq (Zr (Zl 24 1 7<|
 Zk 25 .geq 24 0 .nil)<| .cond (.t 25) .skip (.exit 0))<| .seq (.block 1<|Zr (Zl 28 1 2<|
 Zl 29 1 7<|
 Zl 30 1 5<|
 dx 31 29 30<|
 YM 32 28 31<|
 nH 34 33<|
 Zo (.bin 35 .shl false (.t 34) (.c (.int .u64 16)))<|
 Zl 36 1 2<|
 Zl 37 1 7<|
 Zl 38 1 5<|
 dx 39 37 38<|
 Zk 40 .sub 39 1<|
 YM 41 36 40<|
 nH 43 42<|
 Zb 44 .or 35 43<|
 Ye 8 44)<|Zr (Zm 45 8<|
 Zl 46 1 3<|
 YJ 47 46<|
 Zl 50 1 49<|
 nH 51 50<|
 Zb 52 .quo 45 51<|
 Zm 53 8<|
 .br (Zl 54 1 3<|
 .br (YJ 55 54<|
 .br (Yb 58<|
 .br (Yv 9<|
 Yv 10<|
 YQ 1) (Yv 10<|
 Yv 9<|
 YQ 1)) (.br (Yv 9<|
 .br (Yb 58<|
 Yv 10<|
 YQ 1) (Yv 10<|
 .br (iC 58) (YW 1))) (Yv 10<|
 .br (Yb 58<|
 Yv 9<|
 YQ 1) (Yv 9<|
 .br (iC 58) (YW 1))))) (.br (Yv 9<|
 .br (YJ 55 54<|
 .br (Yb 58<|
 Yv 10<|
 YQ 1) (Yv 10<|
 .br (iC 58) (YW 1))) (Yv 10<|
 .br (YJ 55 54<|
 .br (iC 58) (YW 1)) (Zs 1 9 52<|
 YJ 55 54<|
 Yb 58<|
 Yy 1))) (Yv 10<|
 .br (YJ 55 54<|
 .br (Yb 58<|
 Yv 9<|
 YQ 1) (Yv 9<|
 .br (iC 58) (YW 1))) (Yv 9<|
 .br (YJ 55 54<|
 .br (iC 58) (YW 1)) (Zs 1 9 52<|
 YJ 55 54<|
 Yb 58<|
 Yy 1))))) (.br (Zl 55 1 5<|
 Zk 56 .sub 55 1<|
 .br (kt 54<|
 .br (Yb 58<|
 .br (Yv 9<|
 Yv 10<|
 YQ 1) (Yv 10<|
 Yv 9<|
 YQ 1)) (.br (Yv 9<|
 .br (Yb 58<|
 Yv 10<|
 YQ 1) (Yv 10<|
 .br (iC 58) (YW 1))) (Yv 10<|
 .br (Yb 58<|
 Yv 9<|
 YQ 1) (Yv 9<|
 .br (iC 58) (YW 1))))) (.br (Yv 9<|
 .br (kt 54<|
 .br (Yb 58<|
 Yv 10<|
 YQ 1) (Yv 10<|
 .br (iC 58) (YW 1))) (Yv 10<|
 .br (kt 54<|
 .br (iC 58) (YW 1)) (Zs 1 9 52<|
 kt 54<|
 Yb 58<|
 Yy 1))) (Yv 10<|
 .br (kt 54<|
 .br (Yb 58<|
 Yv 9<|
 YQ 1) (Yv 9<|
 .br (iC 58) (YW 1))) (Yv 9<|
 .br (kt 54<|
 .br (iC 58) (YW 1)) (Zs 1 9 52<|
 kt 54<|
 Yb 58<|
 Yy 1))))) (.br (Yv 9<|
 .br (Zl 54 1 3<|
 .br (YJ 55 54<|
 .br (Yb 58<|
 Yv 10<|
 YQ 1) (Yv 10<|
 .br (iC 58) (YW 1))) (Yv 10<|
 .br (YJ 55 54<|
 .br (iC 58) (YW 1)) (Zs 1 9 52<|
 YJ 55 54<|
 Yb 58<|
 Yy 1))) (.br (Zl 55 1 5<|
 Zk 56 .sub 55 1<|
 .br (kt 54<|
 .br (Yb 58<|
 Yv 10<|
 YQ 1) (Yv 10<|
 .br (iC 58) (YW 1))) (Yv 10<|
 .br (kt 54<|
 .br (iC 58) (YW 1)) (Zs 1 9 52<|
 kt 54<|
 Yb 58<|
 Yy 1))) (Yv 10<|
 .br (Zl 54 1 3<|
 .br (YJ 55 54<|
 .br (iC 58) (YW 1)) (Zs 1 9 52<|
 YJ 55 54<|
 Yb 58<|
 Yy 1)) (.br (Zl 55 1 5<|
 Zk 56 .sub 55 1<|
 .br (kt 54<|
 .br (iC 58) (YW 1)) (Zs 1 9 52<|
 kt 54<|
 Yb 58<|
 Yy 1)) (Zs 1 9 52<|
 .br (Zl 54 1 3<|
 YJ 55 54<|
 Yb 58<|
 Yy 1) (Zl 55 1 5<|
 Zk 56 .sub 55 1<|
 kt 54<|
 Yb 58<|
 Yy 1)))))) (Yv 10<|
 .br (Zl 54 1 3<|
 .br (YJ 55 54<|
 .br (Yb 58<|
 Yv 9<|
 YQ 1) (Yv 9<|
 .br (iC 58) (YW 1))) (Yv 9<|
 .br (YJ 55 54<|
 .br (iC 58) (YW 1)) (Zs 1 9 52<|
 YJ 55 54<|
 Yb 58<|
 Yy 1))) (.br (Zl 55 1 5<|
 Zk 56 .sub 55 1<|
 .br (kt 54<|
 .br (Yb 58<|
 Yv 9<|
 YQ 1) (Yv 9<|
 .br (iC 58) (YW 1))) (Yv 9<|
 .br (kt 54<|
 .br (iC 58) (YW 1)) (Zs 1 9 52<|
 kt 54<|
 Yb 58<|
 Yy 1))) (Yv 9<|
 .br (Zl 54 1 3<|
 .br (YJ 55 54<|
 .br (iC 58) (YW 1)) (Zs 1 9 52<|
 YJ 55 54<|
 Yb 58<|
 Yy 1)) (.br (Zl 55 1 5<|
 Zk 56 .sub 55 1<|
 .br (kt 54<|
 .br (iC 58) (YW 1)) (Zs 1 9 52<|
 kt 54<|
 Yb 58<|
 Yy 1)) (Zs 1 9 52<|
 .br (Zl 54 1 3<|
 YJ 55 54<|
 Yb 58<|
 Yy 1) (Zl 55 1 5<|
 Zk 56 .sub 55 1<|
 kt 54<|
 Yb 58<|
 Yy 1)))))))))<|Zr (Zo (.fn 61 230 [] [.t 9,.t 3,.t 5,.t 10,.t 2,.t 7])<|
 Ye 11 61)<| .seq (.block 2<| .loop<| .seq (Zr (Zl 62 1 10<|
 Zo (.bin 63 .lss false (.t 62) (.c (.int .u64 65536)))<|
 YN 64 63 11<|
 Zg 64 true (.call (some 66) false (.t 65) [])<|
 Yq 67 64 66 .nil)<| .cond (.t 67) .skip (.exit 2))<| .block 3<|Zr (Zl 68 1 9<|
 Zo (.bin 69 .sub false (.t 68) (.c (.int .u64 1)))<|
 Zs 1 9 69 .nil)<| .rg (Zl 70 1 10<|
 Zl 71 1 3<|
 YJ 72 71<|
 Zl 75 1 74<|
 nH 76 75<|
 dx 77 70 76<|
 Zs 1 10 77 .nil))<| .seq (Zr (Zl 78 1 2<|
 Zl 79 1 7<|
 Zl 80 1 7<|
 Zl 81 1 5<|
 dx 82 80 81<|
 Zk 83 .add 82 1<|
 Zo (.sl 84 1 (.t 78) (some (.t 79)) (some (.t 83)) none)<|
 Zl 85 1 3<|
 Zl 86 1 9<|
 mX 87 86<|
 Zq 88 false 231 [.t 84,.t 85,.t 87] .nil)<| .cond (.t 88) (Zr (Zl 89 1 9<|
 Zo (.bin 90 .sub false (.t 89) (.c (.int .u64 1)))<|
 Zs 1 9 90 .nil)<| .rg (Zl 91 1 2<|
 Zl 92 1 7<|
 Zl 93 1 7<|
 Zl 94 1 5<|
 dx 95 93 94<|
 Zk 96 .add 95 1<|
 Zo (.sl 97 1 (.t 91) (some (.t 92)) (some (.t 96)) none)<|
 Zl 98 1 3<|
 Yn 99 232 97 98 .nil)) .skip)<| .rg (Zm 100 6<|
 Zl 101 1 7<|
 Zl 102 1 9<|
 jV 103 102<|
 YS 104 1 100 101 103))<| .seq (Zr (Zl 105 1 7 .nil)<| .rg (Zo (.alloc 7 1 3 (Zz 0))<|
 Zs 1 7 105 .nil))<| .rg (Zl 26 1 7<|
 Zk 27 .sub 26 1<|
 Zs 1 7 27 .nil))<|Zr (YD 106 6 212<|
 Ye 4 107) .ret⟩
theorem aiN:Qe Tryz.prog Tryz.f222=some WI:=by kernel_rfl
theorem jK{l:List Nat}(hv:Qk l)(hl:l.length<2^42):Qd Tryz.prog 212 [PV.nat l] (· =PV.num (val l)):=by
 refine aE Qg Tryz.func212 Ss fun C hP=>?_;refine Sz0 ?_;refine tI (fun m fr hp=>m<=l.length/\cut l m=ao (val l)/\fr 0=PV.nat l/\fr 3= .int .i64 m/\hp=aA) l.length ?_ ?_
 ·exact⟨Kae _,Dc hv,rfl,rfl,rfl⟩
 rintro n fr _ ⟨hn,hc,h0,h3,rfl⟩;refine Sz2 h0 h3 ?_;refine fN (fun hg=>?_) (fun hg=>?_)
 ·simp+decide (disch:=first|omega|rfl|(simp+decide only[go_sem,h0,h3,AU,uZ]<;>rfl)|fail) only[go_sem,h0,h3,AU,uZ];obtain _|n:=n
  ·omega
  have e:((n+1:Nat):Int)-1=n:=by omega
  simp only[cut]at hc;refine Qa (fun hz=>?_) (fun hz=>?_)
  ·rw[if_pos (by grind)]at hc;simp+decide (disch:=try exact D3 h0 h3 e) only[go_sem,h0,h3,e];refine qk (m:=n) Oz ⟨by omega,hc,?_⟩;exact Tz3 h0 @true_and @and_true
  ·refine Sz3 h0 h3 @LL ?_;rw[if_neg (by grind)]at hc;exact Qc (by simp[hc]) rfl
 ·obtain rfl:n=0:=by omega
  refine Sz3 h0 h3 @LL ?_;exact Qc (by simp[<-hc,cut]) rfl
theorem CK{l:List Nat}(hv:Qk l)(hl:l.length<2^42):Qd Tryz.prog 190 [PV.nat l] (· =PV.num (val l)):=by
 have hd:=cq hv;unfold nl at hd;refine aE Qg Tryz.func190 ah7 fun C hP=>?_;refine Sz0 ?_;refine Qb hP (jK hv hl) ?_;refine Sz0 ?_;refine Qa (fun hz=>?_) (fun hz=>?_)
 ·refine Sz0 ?_;have:ao (val l)=[]:=KaI.1 Oz;exact pg (by rw[PV.num,this];exact alF) rfl
 ·refine Sz0 ?_;rw[ahI rfl (by simp)];refine Sz0 ?_;exact Da rfl (by simp[Kac])
theorem Hz{n:Nat}(hn:n<18446744073709551616):Qd Tryz.prog 189 [.int .u64 n] (· =PV.num n):=by
 have hlen:=qu hn;unfold nl at hlen;refine aE Qg Tryz.func189 ah8 fun C hP=>?_;refine Sz0 ?_;refine CE (fun m fr hp=>∃done:List Nat,ao n=done++ao m/\m<=n/\fr 0= .int .u64 m/\fr 3= .ms 12 done.length/\hp 12=some ⟨1,155,done.map fun(x:Nat)=>.int .u16 x,false⟩) n (Tf 3 12 1 155 Oz ?_) ?_ ?_
 ·exact Tz0
 ·refine⟨[],?_⟩;simp+decide (disch:=first|omega|rfl|(simp+decide only[go_sem,KaO,Kbu,Kbk,true_and,and_true,Kae]<;>rfl)|fail) only[go_sem,KaO,Kbu,Kbk,true_and,and_true,Kae]
 rintro m fr hp ⟨done,hd,hm,h0,h3,hh⟩;rw[hd,Kay]at hlen;refine Sz1 h0 ?_;refine Qa (fun hz=>?_) (fun hz=>?_)
 ·have aJ:m≠0:=by omega
  have nQ:ao n=(done++[m%65536])++ao (m/65536):=by rw[hd,wK aJ];simp
  refine Sz2 h0 h3 ?_;rw[CZ (xs:=done.map fun(x:Nat)=>.int .u16 x) (Tz1 hh) rfl Oz (by simp) Oz Oz];refine Sz4 h0 h3 @UG @OS ?_;refine qk (m:=m/65536) Oz ⟨done++[m%65536],nQ,by omega,?_⟩;refine Sz3 h0 h3 hh ?_;simp
 ·obtain rfl:m=0:=by omega
  refine Sz1 h3 ?_;exact Da hh (by simp[PV.num,PV.nat,hd,gW,Kac])
theorem Hg{a b:List Nat}(ha:Qk a)(hb:Qk b)(bD:a.length<2^40)(dJ:b.length<2^40):Qd Tryz.prog 218 [PV.nat a,PV.nat b] (· = .int .i64 (ji (val a) (val b))):=by
 have iW:=cq ha;have kC:=cq hb;have X1:= @QJ (val a) (val b);have X2:= @QJ (val b) (val a);have atK:=Qm (val a);have atL:=Qm (val b);have hva:=Qy (val a);have hvb:=Qy (val b);unfold nl at iW kC X1 X2;refine aE Qg Tryz.func218 aib fun C hP=>?_;refine Sz0 ?_;refine Qb hP (jK ha Oz) ?_;refine Sz0 ?_;refine Qb hP (jK hb Oz) ?_;refine Sz0 ?_;generalize val a=x at *
 generalize val b=y at *
 refine Qa (fun hz=>?_) (fun hz=>?_)
 ·refine Sz0 ?_;refine Qa (fun hz=>?_) (fun hz=>?_)
  ·refine Sz0 ?_;exact Qc (by rw[Ju (X1 Oz)]) rfl
  ·refine Sz0 ?_;exact Qc (by rw[Jv (X2 Oz)]) rfl
 refine Sz0 ?_;refine tI (fun m fr hp=>m<=(ao x).length/\val ((ao x).drop m)=val ((ao y).drop m)/\fr 0=PV.num x/\fr 1=PV.num y/\fr 5= .int .i64 ((m:Int)-1)/\hp=aA) (ao x).length ?_ ?_
 ·refine⟨Kae _,?_,?_⟩
  ·rw[Kao (Kae _),Kao Oz]
  ·exact Tz2 @true_and @and_true
 rintro m fr _ ⟨hm,hd,h0,h1,h5,rfl⟩;refine Sz3 h0 h1 h5 ?_;refine Qa (fun hg=>?_) (fun hg=>?_)
 ·obtain _|m:=m
  ·omega
  have e:((m+1:Nat):Int)-1=m:=by omega
  have jH:m<(ao x).length:=by omega
  have nf:m<(ao y).length:=by omega
  simp+decide (disch:=try exact D4 h0 h1 h5 e) only[go_sem,h0,h1,h5,e];refine Qa (fun hq=>?_) (fun hq=>?_)
  ·refine Sz0 ?_;exact Qc (by rw[Ju];have:=OU atK jH nf Oz hd;omega) rfl
  simp+decide (disch:=try exact D4 h0 h1 h5 e) only[go_sem,h0,h1,h5,e];refine Qa (fun xL=>?_) (fun xL=>?_)
  ·refine Sz0 ?_;exact Qc (by rw[Jv];have:=OU atL nf jH Oz hd.symm;omega) rfl
  refine Sz4 h0 h1 h5 e ?_;refine qk (m:=m) Oz ⟨by omega,?_,?_⟩
  ·rw[ot jH,ot nf,hd];omega
  ·exact Tz4 h0 h1 @true_and @and_true
 ·obtain rfl:m=0:=by omega
  refine Sz0 ?_;refine Qc ?_ rfl;rw[R0];simp at hd;omega
theorem agW{a b:List Nat}(ha:Qk a)(hb:Qk b)(bD:a.length<2^40)(dJ:b.length<2^40):Qd Tryz.prog 227 [PV.nat a,PV.nat b] (· =PV.num (val a+val b)):=by
 have iW:=cq ha;have kC:=cq hb;unfold nl at iW kC;refine aE Qg Tryz.func227 aic fun C hP=>?_;refine Sz0 ?_;refine Qb hP (jK ha Oz) ?_;refine Sz0 ?_;refine Qb hP (jK hb Oz) ?_;refine Sz0 ?_;generalize val a=x0 at *
 generalize val b=y0 at *
 refine yn (fun fr hp=>∃x y,x+y=x0+y0/\(ao x).length<2^40/\(ao y).length<=(ao x).length/\fr 0=PV.num x/\fr 1=PV.num y/\hp=aA) ?_ ?_
 ·refine Qa (fun hz=>?_) (fun hz=>?_)
  ·refine Sz0 ?_;refine⟨y0,x0,by omega,by omega,by omega,?_⟩;exact Tz2 @true_and @and_true
  ·refine Sz0 ?_;refine⟨x0,y0,by omega,by omega,by omega,?_⟩;exact Tz2 @true_and @and_true
 rintro fr _ ⟨x,y,qX,hx,hy,h0,h1,rfl⟩;rw[<-qX];clear qX iW kC;have ee:=Qm x;have n6:=Qm y;refine Sz2 h0 h1 ?_;refine tI (fun m fr hp=>∃i c done,m=(ao x).length-i/\i<=(ao x).length/\c<=1/\done.length=i/\done++kP ((ao x).drop i) ((ao y).drop i) c=ao (x+y)/\
  fr 1=PV.num y/\fr 5= .ms 25 (ao x).length/\fr 6= .int .u32 c/\fr 26=PV.num x/\fr 27= .int .i64 (ao x).length/\fr 28= .int .i64 i/\hp=Qj aA 25 ⟨1,155,cD (done++List.replicate ((ao x).length-i) 0),false⟩) (ao x).length ?_ ?_
 ·refine⟨0,0,[],rfl,by omega,by omega,rfl,by simpa using agh hy,?_⟩;simp+decide (disch:=first|omega|rfl|(simp+decide only[go_sem,h0,h1,true_and,and_true,Kcw,KaO]<;>rfl)|fail) only[go_sem,h0,h1,true_and,and_true,Kcw,KaO];simp
 rintro _ fr _ ⟨i,c,done,rfl,hi,hc,gA,hd,h1,h5,h6,xo,xp,xq,rfl⟩;refine Sz3 xo xp xq ?_;refine Qa (fun hg=>?_) (fun hg=>?_)
 ·have al:i<(ao x).length:=by omega
  have gR:=fm ee al;rw[adY al]at hd;have hlen:=Mc (n:=(ao x).length-i) gA (by omega:_=(ao x).length);simp+decide (disch:=try exact D6 h1 h5 h6 xo xp xq) only[go_sem,h1,h5,h6,xo,xp,xq];refine Qa (fun hq=>?_) (fun hq=>?_)
  ·have jo:i<(ao y).length:=by omega
   have tt:=fm n6 jo;rw[iM jo]at hd;simp+decide (disch:=try exact D6 h1 h5 h6 xo xp xq) only[go_sem,h1,h5,h6,xo,xp,xq];refine qk (m:=(ao x).length-(i+1)) Oz ⟨i+1,_,_,rfl,by omega,?_,?_,(KbS ..).symm.trans hd,?_⟩
   ·omega
   ·simp[gA]
   ·exact Tz10 h1 h5 h6 xo xp xq @true_and @and_true @C1 @Nat.sub_sub
  ·rw[iO Oz]at hd;refine Sz6 h1 h5 h6 xo xp xq ?_;refine qk (m:=(ao x).length-(i+1)) Oz ⟨i+1,_,_,rfl,by omega,?_,?_,(KbS ..).symm.trans hd,?_⟩
   ·omega
   ·simp[gA]
   ·exact Tz11 h1 h5 h6 xo xp xq @true_and @and_true @C1 @Nat.sub_sub @Nat.add_zero
 ·obtain rfl:i=(ao x).length:=by omega
  rw[Kao (Kae _),Kao hy]at hd;simp+decide (disch:=first|omega|rfl|(simp+decide only[go_sem,h5,h6,KbA,Kbd,Kam]<;>rfl)|fail) only[go_sem,h5,h6,KbA,Kbd,Kam];refine Qa (fun hq=>?_) (fun hq=>?_)
  ·refine Sz2 h5 h6 ?_;rw[CZ (xs:=cD done) Tz0 rfl Oz (by simp[gA]) Oz Oz];refine Sz1 h5 ?_;refine Da rfl ?_;rw[kP,if_neg Oz]at hd;rw[PV.num,<-hd];simp[cD,gA,Kac];omega
  ·refine Sz1 h5 ?_;refine Da rfl ?_;rw[kP,if_pos Oz]at hd;rw[PV.num,<-hd];simp[cD,gA,Kac]
theorem Ra{a b:List Nat}(ha:Qk a)(hb:Qk b)(bD:a.length<2^40)(dJ:b.length<2^40)(hle:val b<=val a):Qd Tryz.prog 228 [PV.nat a,PV.nat b] (· = .aH [PV.num (val a-val b),.int .i64 0]):=by
 have iW:=cq ha;have kC:=cq hb;have jc:=iL hle;unfold nl at iW kC jc;refine aE Qg Tryz.func228 aiO fun C hP=>?_;refine Sz0 ?_;refine Qb hP (Hg ha hb bD dJ) ?_;have as4:¬ji (val a) (val b)<0:=by unfold ji;split<;>(try split)<;>omega
 refine Sz0 ?_;refine Qa (fun hz=>absurd hz as4) (fun hz=>?_);refine Sz0 ?_;refine Qb hP (jK ha Oz) ?_;refine Sz0 ?_;refine Qb hP (jK hb Oz) ?_;refine Sz0 ?_;generalize val a=x at *
 generalize val b=y at *
 have ee:=Qm x;have n6:=Qm y;have gH:=QL (ao x) (ao y) 0 Oz ee n6 jc (by rw[Qy,Qy];exact hle);rw[Qy,Qy,KaY]at gH;have iH:=VD (ao x) (ao y) 0;have EP:=Vc (ao x) (ao y) 0;refine tI (fun m fr hp=>∃i c done,m=(ao x).length-i/\i<=(ao x).length/\c<=1/\done.length=i/\done++oB ((ao x).drop i) ((ao y).drop i) c=oB (ao x) (ao y) 0/\
  fr 1=PV.num y/\fr 6= .ms 21 (ao x).length/\fr 7= .int .i32 (c:Nat)/\fr 22=PV.num x/\fr 23= .int .i64 (ao x).length/\fr 24= .int .i64 i/\hp=Qj aA 21 ⟨1,155,cD (done++List.replicate ((ao x).length-i) 0),false⟩) (ao x).length ?_ ?_
 ·refine⟨0,0,[],rfl,by omega,by omega,rfl,rfl,?_⟩;simp+decide (disch:=first|omega|rfl|(simp+decide only[go_sem,true_and,and_true,Kcw,KaO]<;>rfl)|fail) only[go_sem,true_and,and_true,Kcw,KaO];simp
 rintro _ fr _ ⟨i,c,done,rfl,hi,hc,gA,hd,h1,h6,h7,oG,oH,jF,rfl⟩;refine Sz3 oG oH jF ?_;refine Qa (fun hg=>?_) (fun hg=>?_)
 ·have al:i<(ao x).length:=by omega
  have gR:=fm ee al;rw[adZ al]at hd;have hlen:=Mc (n:=(ao x).length-i) gA (by omega:_=(ao x).length);simp+decide (disch:=try exact D6 h1 h6 h7 oG oH jF) only[go_sem,h1,h6,h7,oG,oH,jF];refine yn (fun fr hp=>fr 1=PV.num y/\fr 6= .ms 21 (ao x).length/\fr 8= .int .i64 i/\fr 10= .int .i32 ((ao x)[i]-(c:Int)-((ao y).getD i 0:Nat))/\(ao y).getD i 0<65536/\fr 22=PV.num x/\fr 23= .int .i64 (ao x).length/\fr 24= .int .i64 i/\hp=Qj aA 21 ⟨1,155,cD (done++List.replicate ((ao x).length-i) 0),false⟩) ?_ ?_
  ·refine Qa (fun hq=>?_) (fun hq=>?_)
   ·have jo:i<(ao y).length:=by omega
    have tt:=fm n6 jo;simp+decide (disch:=first|omega|rfl|(simp+decide only[go_sem,h1,h6,h7,oG,oH,jF,iM jo,true_and,and_true]<;>rfl)|fail) only[go_sem,h1,h6,h7,oG,oH,jF,iM jo,true_and,and_true];exact tt
   ·simp+decide (disch:=first|omega|rfl|(simp+decide only[go_sem,h1,h6,h7,oG,oH,jF,true_and,and_true,iO (by omega:¬i<(ao y).length)]<;>rfl)|fail) only[go_sem,h1,h6,h7,oG,oH,jF,true_and,and_true,iO (by omega:¬i<(ao y).length)];simp
  clear h1 h6 oG oH jF;rintro fr _ ⟨h1,h6,h8,bp,tt,oG,oH,jF,rfl⟩;generalize hw:(ao y).getD i 0=yi at *
  refine Sz1 bp ?_;refine yn (fun fr hp=>fr 1=PV.num y/\fr 6= .ms 21 (ao x).length/\fr 8= .int .i64 i/\fr 10= .int .i32 (((ao x)[i]+65536-c-yi)%65536:Nat)/\fr 7= .int .i32 ((if(ao x)[i]<c+yi then 1 else 0):Nat)/\fr 22=PV.num x/\fr 23= .int .i64 (ao x).length/\fr 24= .int .i64 i/\hp=Qj aA 21 ⟨1,155,cD (done++List.replicate ((ao x).length-i) 0),false⟩) ?_ ?_
  ·refine Qa (fun hq=>?_) (fun hq=>?_)
   ·rw[if_pos Oz];refine Sz9 h1 h6 h8 bp oG oH jF @true_and @and_true ?_;simp;omega
   ·rw[if_neg Oz];refine Sz9 h1 h6 h8 bp oG oH jF @true_and @and_true ?_;simp;omega
  clear h1 h6 h8 bp oG oH jF;rintro fr _ ⟨h1,h6,h8,bp,h7,oG,oH,jF,rfl⟩;refine Sz8 h1 h6 h7 h8 bp oG oH jF ?_;refine qk (m:=(ao x).length-(i+1)) Oz ⟨i+1,_,_,rfl,by omega,?_,?_,(KbS ..).symm.trans hd,?_⟩
  ·split<;>omega
  ·simp[gA]
  ·exact Tz13 h1 h6 h7 h8 bp oG oH jF @true_and @and_true @C1 @Nat.sub_sub @Nat.mod_mod
 ·obtain rfl:i=(ao x).length:=by omega
  rw[Kao (Kae _),oB,Kam]at hd;simp+decide (disch:=first|omega|rfl|(simp+decide only[go_sem,h6,KbA,Kbd,Kam]<;>rfl)|fail) only[go_sem,h6,KbA,Kbd,Kam];rw[hd];refine ym hP (jK iH Oz) (C3 rfl EP.symm) rfl fun hp'=>?_;refine Sz0 ?_;exact fp rfl rfl rfl (wC (by rw[show val (oB (ao x) (ao y) 0)=x-y by omega])) (Ql _)
theorem Hh{a b:List Nat}(ha:Qk a)(hb:Qk b)(bD:a.length<2^40)(dJ:b.length<2^40):Qd Tryz.prog 174 [PV.nat a,PV.nat b] (· =PV.num (val a*val b)):=by
 have iW:=cq ha;have kC:=cq hb;unfold nl at iW kC;refine aE Qg Tryz.func174 aiP fun C hP=>?_;refine Sz0 ?_;refine Qb hP (jK ha Oz) ?_;refine Sz0 ?_;refine Qb hP (jK hb Oz) ?_;refine Sz0 ?_;generalize val a=x at *
 generalize val b=y at *
 have ee:=Qm x;have n6:=Qm y;refine fb (fun hz=>?_) (fun hz=>?_)
 ·refine Sz0 ?_;have:=sj (by omega:(ao x).length=0);rw[mL]at this;exact pg (De (by simp[this])) rfl
 refine Sz0 ?_;refine Qa (fun BU=>?_) (fun BU=>?_)
 ·refine Sz0 ?_;have:=sj (by omega:(ao y).length=0);rw[mL]at this;exact pg (De (by simp[this])) rfl
 refine Sz0 ?_;refine tI (fun m fr hp=>∃i lo,m=(ao x).length-i/\i<=(ao x).length/\Qk lo/\lo.length=i+(ao y).length/\val lo=val ((ao x).take i)*val (ao y)/\
  fr 1=PV.num y/\fr 5= .ms 28 ((ao x).length+(ao y).length)/\fr 29=PV.num x/\fr 30= .int .i64 (ao x).length/\fr 31= .int .i64 i/\hp=Qj aA 28 ⟨1,155,cD (lo++List.replicate ((ao x).length-i) 0),false⟩) (ao x).length ?_ ?_
 ·refine⟨0,List.replicate (ao y).length 0,rfl,by omega,?_,by simp,by simp[OT,val],?_⟩
  ·intro z hz;rw[KcL hz];omega
  ·refine Sz3 @true_and @and_true @Nat.sub_zero ?_;simp[KbQ]
 rintro _ fr _ ⟨i,lo,rfl,hi,nb,Nt,hv,h1,h5,vH,ky,pI,rfl⟩;refine Sz3 vH ky pI ?_;refine Qa (fun hg=>?_) (fun hg=>?_)
 ·have al:i<(ao x).length:=by omega
  have gR:=fm ee al;have tq:=agi al Nt hv;have EO:Qk (lo.take i++ma (lo.drop i) (ao y) (ao x)[i] 0):=ql.2 ⟨As nb i,VF _ _ _ _ Oz gR (Cu nb i) n6⟩;have av1:(lo.take i++ma (lo.drop i) (ao y) (ao x)[i] 0).length=i+(ao y).length+1:=by rw[Kay,Vd _ _ _ _ (by simp[Nt])];simp;omega
  generalize eG:(ao x)[i]=xi at *
  refine Sz6 h1 h5 vH ky pI eG ?_;refine tI (fun m fr hp=>∃k c p rs,m=(ao y).length-k/\k<=(ao y).length/\c<65536/\Qk rs/\p.length=i+k/\rs.length=(ao y).length-k/\p++ma rs ((ao y).drop k) xi c=lo.take i++ma (lo.drop i) (ao y) xi 0/\
   fr 1=PV.num y/\fr 5= .ms 28 ((ao x).length+(ao y).length)/\fr 6= .int .i64 i/\fr 7= .int .u16 xi/\fr 8= .int .u32 c/\fr 29=PV.num x/\fr 30= .int .i64 (ao x).length/\fr 31= .int .i64 i/\fr 36=PV.num y/\fr 37= .int .i64 (ao y).length/\fr 38= .int .i64 k/\
   hp=Qj aA 28 ⟨1,155,cD (p++(rs++List.replicate ((ao x).length-i) 0)),false⟩) (ao y).length ?_ ?_
  ·refine⟨0,0,lo.take i,lo.drop i,rfl,by omega,by omega,Cu nb i,by simp;omega,by simp;omega,rfl,?_⟩;refine Sz7 h1 h5 vH ky pI @true_and @and_true ?_;rw[<-List.append_assoc,KbB];simp
  clear h1 h5 vH ky pI;rintro _ fr _ ⟨k,c,p,rs,rfl,hk,hc,dt,aV,dD,hinv,h1,h5,h6,h7,h8,vH,ky,pI,sX,Ie,Ig,rfl⟩;refine Sz3 sX Ie Ig ?_;refine Qa (fun hq=>?_) (fun hq=>?_)
  ·have bI:k<(ao y).length:=by omega
   have hyk:=fm n6 bI;rw[KaA bI]at hinv;generalize ZK:(ao y)[k]=yk at *
   obtain _|⟨r,rs⟩:=rs
   ·simp at dD;omega
   rw[jt]at dt;have dC:=dt.1;have Fi:=wy gR hyk;rw[ma]at hinv;have aw:i+k<(p++r::(rs++List.replicate ((ao x).length-i) 0)).length:=by simp;omega
   have fJ:=HJ aV aw;simp+decide (disch:=first|omega|rfl|(simp+decide only[go_sem,h1,h5,h6,h7,h8,sX,Ie,Ig,ZK,KaW,fJ]<;>rfl)|fail) only[go_sem,h1,h5,h6,h7,h8,sX,Ie,Ig,ZK,KaW,fJ];refine qk (m:=(ao y).length-(k+1)) Oz ⟨k+1,_,_,_,rfl,by omega,?_,dt.2,?_,?_,(KbS ..).symm.trans hinv,?_⟩
   ·omega
   ·simp[aV];omega
   ·simp at dD;omega
   ·refine Sz14 h1 h5 h6 h7 h8 vH ky pI sX Ie Ig @true_and @and_true @qv ?_;simp
  ·obtain rfl:k=(ao y).length:=by omega
   obtain rfl:rs=[]:=KaI.1 Oz;rw[Kao (Kae _),ma]at hinv
   rotate_left
   ·intros;simp_all
   obtain⟨z,hz⟩:∃z,(ao x).length-i=z+1:=⟨(ao x).length-i-1,by omega⟩
   have aw:i+(ao y).length<(p++0::(List.replicate z 0)).length:=by simp;omega
   simp+decide (disch:=first|omega|rfl|(simp+decide only[go_sem,h1,h5,h6,h8,vH,ky,pI,KaO,hz,KbL]<;>rfl)|fail) only[go_sem,h1,h5,h6,h8,vH,ky,pI,KaO,hz,KbL];refine qk (m:=(ao x).length-(i+1)) Oz ⟨i+1,lo.take i++ma (lo.drop i) (ao y) xi 0,rfl,by omega,EO,by omega,?_,?_⟩
   ·rw[tq]
   ·refine Sz8 h1 h5 vH ky pI @true_and @and_true @qv ?_;rw[<-hinv,show(ao x).length-(i+1)=z by omega,KaS hc];simp
 ·obtain rfl:i=(ao x).length:=by omega
  rw[Kaz,Qy,Qy]at hv;simp+decide (disch:=first|omega|rfl|(simp+decide only[go_sem,h5,KbA,Kbd,Kam]<;>rfl)|fail) only[go_sem,h5,KbA,Kbd,Kam];refine ym hP (jK nb Oz) (C3 rfl Nt.symm) rfl fun hp'=>?_;refine Sz0 ?_;exact Qc (by rw[hv]) rfl
theorem Q7b{pre w post v:List Nat}{j m:Nat}(hw:Qk w)(hv:Qk v)(hj:pre.length=j)(hm:w.length=m)(hle:v.length<=w.length)(hlen:(pre++(w++post)).length<2^43):
  AV Tryz.prog 232 [.aB B0 j m,PV.nat v] 155 (cD (pre++(w++post))) (fun r xs'=>r= .aH []/\xs'=cD (pre++(mR w v 0++post))):=by
 simp only[Kay]at hlen;refine GS Qg Tryz.func232 rfl aiU Nz fun C hP=>?_;simp only[WK];refine fw ?_;refine Sz0 ?_;refine tI (fun k fr hp=>∃i c done,k=w.length-i/\i<=w.length/\c<=1/\done.length=i/\done++mR (w.drop i) (v.drop i) c=mR w v 0/\
  fr 0= .aB 1000000 j m/\fr 1=PV.nat v/\fr 4= .int .u32 c/\fr 7= .int .i64 m/\fr 8= .int .i64 i/\hp=Qj aA 1000000 ⟨1,155,cD ((pre++done)++(w.drop i++post)),false⟩) w.length ?_ ?_
 ·refine⟨0,0,[],rfl,by omega,by omega,rfl,rfl,?_⟩;simp+decide (disch:=first|omega|rfl|(simp+decide only[go_sem,true_and,and_true,Kam,Ka0]<;>rfl)|fail) only[go_sem,true_and,and_true,Kam,Ka0];simp
 rintro _ fr _ ⟨i,c,done,rfl,hi,hc,gA,hd,h0,h1,h4,h7,h8,rfl⟩;refine Sz2 h7 h8 ?_;refine Qa (fun hg=>?_) (fun hg=>?_)
 ·have al:i<w.length:=by omega
  have uB:=fm hw al;rw[aeA al]at hd;have aV:(pre++done).length=j+i:=by simp[hj,gA]
  rw[KaA al];generalize hww:w[i]=wi at *
  have aw:j+i<((pre++done)++wi::(w.drop (i+1)++post)).length:=by simp;omega
  have fJ:=HJ aV aw;simp+decide (disch:=first|omega|rfl|(simp+decide only[go_sem,h0,h1,h4,h7,h8,KaW,fJ]<;>rfl)|fail) only[go_sem,h0,h1,h4,h7,h8,KaW,fJ];refine Qa (fun hq=>?_) (fun hq=>?_)
  ·have jo:i<v.length:=by omega
   have ZB:=fm hv jo;rw[iM jo]at hd;simp+decide (disch:=first|omega|rfl|(simp+decide only[go_sem,h0,h1,h4,h7,h8,qv]<;>rfl)|fail) only[go_sem,h0,h1,h4,h7,h8,qv];refine qk (m:=w.length-(i+1)) Oz ⟨i+1,_,_,rfl,by omega,?_,?_,(KbS ..).symm.trans hd,?_⟩
   ·omega
   ·simp[gA]
   ·refine Sz8 h0 h1 h4 h7 h8 @true_and @and_true @qv ?_;simp
  ·rw[iO Oz]at hd;refine Sz6 h0 h1 h4 h7 h8 @qv ?_;refine qk (m:=w.length-(i+1)) Oz ⟨i+1,_,_,rfl,by omega,?_,?_,(KbS ..).symm.trans hd,?_⟩
   ·omega
   ·simp[gA]
   ·refine Sz8 h0 h1 h4 h7 h8 @true_and @and_true @qv ?_;simp
 ·obtain rfl:i=w.length:=by omega
  rw[Kao (Kae _),mR,Kam]at hd;refine Sz0 ?_;refine amo rfl (tJ _) ?_ ⟨rfl,?_⟩
  ·simp[gA]
  ·rw[Kao (Kae _),hd];simp
theorem Q46{pre w post v:List Nat}{j m q:Nat}(hw:Qk w)(hv:Qk v)(hq:q<65536)(hj:pre.length=j)(hm:w.length=m)(hle:v.length<=w.length)(hlen:(pre++(w++post)).length<2^43):
  AV Tryz.prog 231 [.aB B0 j m,PV.nat v,.int .u32 q] 155 (cD (pre++(w++post))) (fun r xs'=>r= .bool (decide (0<(gu w v q 0 0).2.2))/\xs'=cD (pre++((gu w v q 0 0).1++post))):=by
 simp only[Kay]at hlen;refine GS Qg Tryz.func231 rfl aiT Nz fun C hP=>?_;simp only[WJ];refine fw ?_;refine Sz0 ?_;refine tI (fun k fr hp=>∃i c b done,k=w.length-i/\i<=w.length/\c<65536/\b<=1/\done.length=i/\done++(gu (w.drop i) (v.drop i) q c b).1=(gu w v q 0 0).1/\(gu (w.drop i) (v.drop i) q c b).2=(gu w v q 0 0).2/\
  fr 0= .aB 1000000 j m/\fr 1=PV.nat v/\fr 2= .int .u32 q/\fr 7= .int .u32 c/\fr 8= .int .i32 (b:Nat)/\fr 12= .int .i64 m/\fr 13= .int .i64 i/\hp=Qj aA 1000000 ⟨1,155,cD ((pre++done)++(w.drop i++post)),false⟩) w.length ?_ ?_
 ·refine⟨0,0,0,[],rfl,by omega,by omega,by omega,rfl,rfl,rfl,?_⟩;simp+decide (disch:=first|omega|rfl|(simp+decide only[go_sem,true_and,and_true,Kam,Ka0]<;>rfl)|fail) only[go_sem,true_and,and_true,Kam,Ka0];simp
 rintro _ fr _ ⟨i,c,b,done,rfl,hi,hc,hb,gA,hd,nQ,h0,h1,h2,h7,h8,fZ,fy,rfl⟩;refine Sz2 fZ fy ?_;refine Qa (fun hg=>?_) (fun hg=>?_)
 ·have al:i<w.length:=by omega
  have uB:=fm hw al;rw[aeB al]at hd nQ;simp only at hd nQ;have aV:(pre++done).length=j+i:=by simp[hj,gA]
  rw[KaA al];generalize hww:w[i]=wi at *
  have aw:j+i<((pre++done)++wi::(w.drop (i+1)++post)).length:=by simp;omega
  have fJ:=HJ aV aw;simp+decide (disch:=first|omega|rfl|(simp+decide only[go_sem,h0,h1,h2,h7,h8,fZ,fy,KaW,fJ]<;>rfl)|fail) only[go_sem,h0,h1,h2,h7,h8,fZ,fy,KaW,fJ];refine yn (fun fr hp=>c+q*v.getD i 0<=4294967295/\fr 0= .aB 1000000 j m/\fr 1=PV.nat v/\fr 2= .int .u32 q/\fr 7= .int .u32 (c+q*v.getD i 0:Nat)/\fr 8= .int .i32 (b:Nat)/\fr 9= .int .i64 i/\fr 12= .int .i64 m/\fr 13= .int .i64 i/\hp=Qj aA 1000000 ⟨1,155,cD ((pre++done)++wi::(w.drop (i+1)++post)),false⟩) ?_ ?_
  ·refine Qa (fun uy=>?_) (fun uy=>?_)
   ·have jo:i<v.length:=by omega
    have ZB:=fm hv jo;have uy:=wy hq ZB;simp+decide (disch:=first|omega|rfl|(simp+decide only[go_sem,h0,h1,h2,h7,h8,fZ,fy,iM jo,true_and,and_true]<;>rfl)|fail) only[go_sem,h0,h1,h2,h7,h8,fZ,fy,iM jo,true_and,and_true];omega
   ·simp+decide (disch:=first|omega|rfl|(simp+decide only[go_sem,h0,h1,h2,h7,h8,fZ,fy,true_and,and_true,iO (by omega:¬i<v.length),Kcd,KaY]<;>rfl)|fail) only[go_sem,h0,h1,h2,h7,h8,fZ,fy,true_and,and_true,iO (by omega:¬i<v.length),Kcd,KaY];omega
  clear h0 h1 h2 h7 h8 fZ fy;rintro fr _ ⟨zn,h0,h1,h2,h7,h8,h9,fZ,fy,rfl⟩;generalize c+q*v.getD i 0=c1 at *
  refine Sz9 h0 h1 h2 h7 h8 h9 fZ fy fJ ?_;refine yn (fun fr hp=>fr 0= .aB 1000000 j m/\fr 1=PV.nat v/\fr 2= .int .u32 q/\fr 7= .int .u32 (c1/65536:Nat)/\fr 8= .int .i32 ((if wi<c1%65536+b then 1 else 0):Nat)/\fr 9= .int .i64 i/\fr 10= .int .i32 ((wi+65536-c1%65536-b)%65536:Nat)/\fr 12= .int .i64 m/\fr 13= .int .i64 i/\hp=Qj aA 1000000 ⟨1,155,cD ((pre++done)++wi::(w.drop (i+1)++post)),false⟩) ?_ ?_
  ·refine Qa (fun hq=>?_) (fun hq=>?_)
   ·rw[if_pos Oz];refine yP h0 h1 h2 h7 h8 h9 fZ fy @true_and @and_true ?_;simp;omega
   ·rw[if_neg Oz];refine yP h0 h1 h2 h7 h8 h9 fZ fy @true_and @and_true ?_;simp;omega
  clear h0 h1 h2 h7 h8 h9 fZ fy;rintro fr _ ⟨h0,h1,h2,h7,h8,h9,bp,fZ,fy,rfl⟩;refine yP h0 h1 h2 h7 h8 h9 bp fZ fy @qv ?_;refine qk (m:=w.length-(i+1)) Oz ⟨i+1,c1/65536,_,_,rfl,by omega,by omega,?_,?_,(KbS ..).symm.trans hd,nQ,?_⟩
  ·split<;>omega
  ·simp[gA]
  ·refine Sz13 h0 h1 h2 h7 h8 h9 bp fZ fy @true_and @and_true @qv @Nat.mod_mod ?_;simp
 ·obtain rfl:i=w.length:=by omega
  rw[Kao (Kae _),gu]at hd nQ;simp only[Kam]at hd;refine Sz1 h8 ?_;refine Tj (p:=.bool (decide (0<(b:Int)))) rfl (tJ _) ?_ Tz0 rfl ⟨?_,?_⟩
  ·simp[gA]
  ·rw[<-nQ];simp
  ·rw[Kao (Kae _),hd];simp
theorem Q47{v u:List Nat}{dg n r j:Nat}(hv:Qk v)(hu:Qk u)(hn:2<=n)(jd:n=v.length)(hju:j+n<u.length)(hd:dg<4294967296)(hr:r<65536)(zN:u.length<2^43):
  Qd Tryz.prog 230 [.pt [.int .u64 dg],.pt [PV.nat v],.pt [.int .i64 n],.pt [.int .u64 r],.pt [PV.nat u],.pt [.int .i64 j]]
   (· = .bool (decide (65536<=dg∨r*65536+u.getD (j+n-2) 0<dg*v.getD (n-2) 0))):=by
 have h1:n-2<v.length:=by omega
 have h2:j+n-2<u.length:=by omega
 have zP:=fm hv h1;have NU:=fm hu h2;rw[iM h1,iM h2];refine aE Qg Tryz.func230 aiS fun C hP=>?_;refine Sz0 ?_;refine fb (fun hz=>?_) (fun hz=>?_)
 ·refine Sz0 ?_;exact Qc (by simp;omega) rfl
 ·have zo:dg<65536:=by omega
  have e1:(n:Int)-2=((n-2:Nat):Int):=by omega
  have e2:((j+n:Nat):Int)-2=((j+n-2:Nat):Int):=by omega
  generalize hvv:v[n-2]=vi at *
  generalize huu:u[j+n-2]=ui at *
  have hm:=wy zo zP;refine Sz6 e1 e2 hvv huu @LM @Me ?_;exact Qc (congrArg PV.bool (decide_eq_decide.2 ⟨fun h=>.inr Oz,fun h=>by rcases h with h|h<;>omega⟩)) rfl
theorem adk{l post:List Nat}(hv:Qk l)(hl:(l++post).length<2^43)(hlen:0<l.length):
  AV Tryz.prog 212 [.aB B0 0 l.length] 155 (cD (l++post)) (fun r xs'=>r= .aB B0 0 (nl (val l))/\xs'=cD (l++post)):=by
 simp only[Kay]at hl;have av0:l.length<=(l++post).length:=by simp
 refine GS Qg Tryz.func212 rfl Ss Nz fun C hP=>?_;simp only[WG];refine fw ?_;refine Sz0 ?_;refine tI (fun m fr hp=>m<=l.length/\cut l m=ao (val l)/\fr 0= .aB 1000000 0 l.length/\fr 3= .int .i64 m/\hp=Qj aA 1000000 ⟨1,155,cD (l++post),false⟩) l.length ?_ ?_
 ·exact⟨Kae _,Dc hv,rfl,rfl,rfl⟩
 rintro n fr _ ⟨hn,hc,h0,h3,rfl⟩;refine Sz2 h0 h3 ?_;refine fN (fun hg=>?_) (fun hg=>?_)
 ·obtain _|n:=n
  ·omega
  have e:((n+1:Nat):Int)-1=n:=by omega
  have aw:n<(l++post).length:=by simp;omega
  have fJ:(l++post)[n]=l[n]:=by simp[List.getElem_append,show n<l.length by omega]
  refine Sz4 h0 h3 e fJ ?_;simp only[cut]at hc;refine Qa (fun hz=>?_) (fun hz=>?_)
  ·rw[if_pos (by grind)]at hc;refine Sz3 h0 h3 e ?_;refine qk (m:=n) Oz ⟨by omega,hc,?_⟩;exact Tz3 h0 @true_and @and_true
  ·rw[if_neg (by grind)]at hc;have jc:nl (val l)=n+1:=by rw[nl,<-hc];simp;omega
   refine Sz2 h0 h3 ?_;exact R1 rfl (tJ _) (by simp) (Tz1 jc) ⟨rfl,rfl⟩
 ·obtain rfl:n=0:=by omega
  have jc:nl (val l)=0:=by rw[nl,<-hc,cut];rfl
  refine Sz2 h0 h3 ?_;exact R1 rfl (tJ _) (by simp) (Tz1 jc) ⟨rfl,rfl⟩
theorem KU{a:List Nat}{s:Nat}(ha:Qk a)(bD:a.length<2^40)(hs:s<=15)(aJ:val a≠0):Df Tryz.prog 221 [PV.nat a,.int .i64 s] 155 (fun ys=>ys=cD (ao (val a*2^s))):=by
 have iW:=cq ha;unfold nl at iW;have pU:(ao (val a)).length≠0:=by intro h;exact aJ (mL.1 (sj h))
 refine aey Qg Tryz.func221 rfl JH Nz fun C hP=>?_;simp only[WH];refine fw ?_;refine Sz0 ?_;refine Qb hP (jK ha Oz) ?_;refine Sz0 ?_;generalize val a=x at *
 have ee:=Qm x;have e1:s/16=0:=Kb4 Oz;have e2:s%16=s:=KaS Oz;refine fb (fun hz=>by omega) (fun hz=>?_);refine Sz0 ?_;refine fb (fun hz=>by omega) (fun hz=>?_);refine Sz0 ?_;refine Qa (fun hz=>by omega) (fun hz=>?_);refine Sz0 ?_;refine Qa (fun hz=>by omega) (fun hz=>?_);refine Sz4 @OX @OY e1 e2 ?_;refine tI (fun k fr hp=>∃i c done,k=(ao x).length-i/\i<=(ao x).length/\c<2^s/\done.length=i/\done++qH s ((ao x).drop i) c=qH s (ao x) 0/\
  fr 5= .int .i64 (0:Nat)/\fr 6= .int .i64 s/\fr 7= .ms 44 ((ao x).length+1)/\fr 45=PV.num x/\fr 46= .int .i64 (ao x).length/\fr 47= .int .i64 i/\
  hp=Qj aA 44 ⟨1,155,cD (done++c::List.replicate ((ao x).length-i) 0),false⟩) (ao x).length ?_ ?_
 ·refine⟨0,0,[],rfl,by omega,Kbw Oz,rfl,rfl,?_⟩;simp+decide (disch:=first|omega|rfl|(simp+decide only[go_sem,true_and,and_true,KaO,Kcw]<;>rfl)|fail) only[go_sem,true_and,and_true,KaO,Kcw];simp[KbL]
 rintro _ fr _ ⟨i,c,done,rfl,hi,hc,gA,hd,h5,h6,h7,Ih,Ii,Ij,rfl⟩;refine Sz3 Ih Ii Ij ?_;have av8:2^s<=2^15:=KaR Oz hs;refine Qa (fun hg=>?_) (fun hg=>?_)
 ·have al:i<(ao x).length:=by omega
  have gR:=fm ee al;rw[KaA al,qH]at hd;generalize eG:(ao x)[i]=xi at *
  obtain⟨z,hz⟩:∃z,(ao x).length-i=z+1:=⟨(ao x).length-i-1,by omega⟩
  have aw:i<(done++c::List.replicate (z+1) 0).length:=by simp;omega
  have fJ:=HJ gA aw;have eZ:=QQ (x:=xi) (show s<=16 by omega) hc;have kV:=OZ (show s<=16 by omega) gR;have hl:=amq hs gR;refine Sz13 h5 h6 h7 Ih Ii Ij eG hz fJ @R3 @amp eZ.2 @qv ?_;have ka:∀v u,(done++v::List.replicate (z+1) 0).set (i+1) u=(done++[v])++u::List.replicate z 0:=fun v u=>by rw[KbS,KbL,qv (by simp[gA])]
  rw[Tc (by simp;omega),ka,KaS (by omega:xi*2^s/65536<65536)];refine Sz6 h5 h6 h7 Ih Ii Ij ?_;refine qk (m:=(ao x).length-(i+1)) Oz ⟨i+1,xi*2^s/65536,done++[xi*2^s%65536+c],rfl,by omega,kV,by simp[gA],(KbS ..).symm.trans hd,?_⟩;refine Sz8 h5 h6 h7 Ih Ii Ij @true_and @and_true ?_;rw[show(ao x).length-(i+1)=z by omega]
 ·obtain rfl:i=(ao x).length:=by omega
  rw[Kao (Kae _),qH]at hd;have tj:=Wa hs (ao x) 0 ee (Kbw Oz);have kd:=QP s (ao x) 0;have EP:=Vg s (ao x) 0;rw[Qy,KaY]at kd;rw[<-hd]at tj kd EP;have av6:x*2^s≠0:=Nat.mul_ne_zero aJ (Nat.ne_of_gt (Kbw Oz));simp+decide (disch:=first|omega|rfl|(simp+decide only[go_sem,h7,KbA,Kbd]<;>rfl)|fail) only[go_sem,h7,KbA,Kbd];have ht:=adk (l:=done++[c]) (post:=[]) tj (by simp[gA];omega) (by simp);rw[Kam,kd]at ht;refine HT hP ht (β:=44) Tz0 (tJ _) (by simp) (by simp[lW,EP]) rfl ?_;rintro r xs' _ _ ⟨rfl,rfl⟩;simp+decide (disch:=first|omega|rfl|(simp+decide only[go_sem,qz]<;>rfl)|fail) only[go_sem,qz];refine⟨4,44,nl (x*2^s),_,rfl,by simp+decide (disch:=try exact D0) only[go_sem],rfl,by simp+decide (disch:=try exact D0) only[go_sem];rfl,tJ _,?_,?_⟩
  ·have:= @Cv (x*2^s);omega
  ·rw[<-kd,<-List.map_take,agk tj]
theorem adl{a:List Nat}{s:Nat}(ha:Qk a)(bD:a.length<2^42)(hs:s<=15):Qd Tryz.prog 229 [PV.nat a,.int .i64 s] (· =PV.num (val a/2^s)):=by
 have e1:s/16=0:=Kb4 Oz;have e2:s%16=s:=KaS Oz;refine aE Qg Tryz.func229 aiW fun C hP=>?_;refine Sz4 @OX @OY e1 e2 ?_;refine Qa (fun hz=>?_) (fun hz=>?_)
 ·have:a=[]:=KaI.1 Oz;subst this;refine Sz0 ?_;exact pg (De (by simp[val])) rfl
 have e3:((a.length:Int)-((0:Nat):Int))=((a.length:Nat):Int):=by omega
 refine Sz1 e3 ?_;refine Qi dV [(8,9),(25,60)] [] (fun k J hp=>∃i done,k=a.length-i/\i<=a.length/\done.length=i/\done++pB s (a.drop i)=pB s a/\J 25= .int .i64 i/\
  hp=Qj aA 22 ⟨1,155,cD (done++List.replicate (a.length-i) 0),false⟩) a.length ?_ ?_
 ·refine⟨0,[],rfl,by omega,rfl,rfl,?_⟩;simp+decide (disch:=first|omega|rfl|(simp+decide only[go_sem,true_and,and_true,KaO,Kcw]<;>rfl)|fail) only[go_sem,true_and,and_true,KaO,Kcw];simp
 rintro _ J _ ⟨i,done,rfl,hi,gA,hd,y8,rfl⟩;refine Sz1 y8 ?_;refine Qa (fun hg=>?_) (fun hg=>?_)
 ·have al:i<a.length:=by omega
  have Iu:=fm ha al;rw[aeF al]at hd;generalize eG:a[i]=xi at *
  have hlen:=Mc (n:=a.length-i) gA (by omega:_=a.length);refine Sz2 y8 eG ?_;refine Qa (fun hq=>?_) (fun hq=>?_)
  ·have jo:i+1<a.length:=by omega
   have haj:=fm ha jo;rw[iM jo]at hd;simp+decide (disch:=first|omega|rfl|(simp+decide only[go_sem,y8,LN,OW,Jw]<;>rfl)|fail) only[go_sem,y8,LN,OW,Jw];refine Qf (a.length-(i+1)) Oz ⟨i+1,_,rfl,by omega,by simp[gA],(KbS ..).symm.trans hd,?_⟩;exact Tz5 y8 @true_and @and_true @C1 @Nat.sub_sub
  ·rw[iO Oz,KcM,Kbh]at hd;refine Sz2 y8 @Jw ?_;refine Qf (a.length-(i+1)) Oz ⟨i+1,_,rfl,by omega,by simp[gA],(KbS ..).symm.trans hd,?_⟩;exact Tz5 y8 @true_and @and_true @C1 @Nat.sub_sub
 ·obtain rfl:i=a.length:=by omega
  rw[Kao (Kae _),pB,Kam]at hd;simp+decide (disch:=first|omega|rfl|(simp+decide only[go_sem,KbA,Kbd,Kam]<;>rfl)|fail) only[go_sem,KbA,Kbd,Kam];rw[hd];refine ym hP (jK (Wb s a) (by rw[KQ];exact bD)) (C3 rfl (KQ s a).symm) rfl fun hp'=>?_;refine Sz0 ?_;exact Qc (by rw[QS Oz a ha]) rfl
theorem Q9v{x V d q:Nat}(hd:0<d)(h:q=V/d):(V%d*65536+x)/d+65536*q=(x+65536*V)/d/\(V%d*65536+x)%d=(x+65536*V)%d:=by
 subst h;have e:x+65536*V=(V%d*65536+x)+d*(65536*(V/d)):=by
  have:=Kbq V d
  calc x+65536*V=x+65536*(d*(V/d)+V%d):=by rw[this]
   _=_:=by rw[Ka4,Kbl];omega
 rw[e,KcF _ _ hd,KcE];exact⟨rfl,rfl⟩
theorem Q9w{a:List Nat}{d:Nat}(ha:Qk a)(bD:a.length<2^42)(hd:0<d)(nQ:d<65536):Qd Tryz.prog 219 [PV.nat a,.int .u16 d] (· = .aH [PV.num (val a/d),.int .u16 (val a%d:Nat)]):=by
 refine aE Qg Tryz.func219 aiQ fun C hP=>?_;refine Sz0 ?_;refine Qi dV [(7,8),(15,38)] [] (fun k J hp=>∃qs,k<=a.length/\qs.length=a.length-k/\Qk qs/\val qs=val (a.drop k)/d/\J 7= .int .u32 (val (a.drop k)%d:Nat)/\J 8= .int .i64 ((k:Int)-1)/\
  hp=Qj aA 11 ⟨1,155,cD (List.replicate k 0++qs),false⟩) a.length ?_ ?_
 ·refine⟨[],Kae _,by simp,qq,by simp[val],?_⟩;refine Sz2 @true_and @and_true ?_;simp[val]
 rintro k J _ ⟨qs,hk,X6,rY,hv,h7,h8,rfl⟩;refine Sz2 h7 h8 ?_;have hr:=Kbx (val (a.drop k)) hd;refine Qa (fun hg=>?_) (fun hg=>?_)
 ·obtain _|n:=k
  ·omega
  have hn:n<a.length:=by omega
  have MY:=fm ha hn;have e:((n+1:Nat):Int)-1=n:=by omega
  have bc:=Q9v (x:=a[n]) hd hv;rw[<-ot hn]at bc;have aw:(val (a.drop (n+1))%d*65536+a[n])/d<65536:=by rw[Kbi hd];have:(val (a.drop (n+1))%d+1)*65536<=d*65536:=Kaj _ hr;omega
  generalize eG:a[n]=xn at *
  generalize val (a.drop (n+1))%d=r at *
  have hlen:n<(List.replicate (n+1) 0++qs).length:=by simp;omega
  refine Sz8 h7 h8 e eG @LN @agj @ahO @rD ?_;refine Qf n Oz ⟨(r*65536+xn)/d::qs,by omega,?_,?_,?_,?_⟩
  ·simp;omega
  ·rw[jt];exact⟨aw,rY⟩
  ·rw[val,bc.1]
  ·refine Sz5 h7 h8 @true_and @and_true bc.2 ?_;rw[KaS aw,KcG,Kbt,List.singleton_append,qv (by simp)]
 ·obtain rfl:k=0:=by omega
  rw[Ka0]at hv h7;have aw:=Kbx (val a) hd;simp+decide (disch:=first|omega|rfl|(simp+decide only[go_sem,h7,h8,Kbd,KaO]<;>rfl)|fail) only[go_sem,h7,h8,Kbd,KaO];refine ym hP (jK rY Oz) (C3 rfl Oz) rfl fun hp'=>?_;refine Sz1 h7 ?_;refine fp rfl rfl rfl (wC (by rw[hv])) (wC ?_);rw[KaS Oz]
theorem Wj{x:Nat}(h:x<65536):Qd Tryz.prog 214 [.int .u16 x] (· = .int .i64 (Lib.bitLen x:Nat)):=
 Q9q (by simp[sM];exact⟨rfl,by decide⟩) (fun w=>Q9x x w Oz Oz) (fun _ _=>Qu.int _ _)
theorem KV{x:Nat}(h:x<65536):Lib.bitLen x<=16:=Lib.bitLen_le x 16 Oz Oz
theorem Lm{x:Nat}(h:x<65536)(h0:x≠0):1<=Lib.bitLen x:=by have:=Lib.bitLen_half x h0 Oz;omega
theorem Q9y:Lib.bitLen 0=0:=by decide
theorem adm:∀(n x:Nat),Lib.bitLen x=n->x≠0->x<65536->2^n<=2*x/\x<2^n:=by
 intro n;induction n with
 |zero=>intro x h h0 hx;have:=Lm hx h0;omega
 | succ n ih=>
  intro x h h0 hx;have e:=Lib.bitLen_half x h0 Oz;by_cases h2:x/2=0
  ·have:x=1:=by omega
   subst this;have:n=0:=by rw[h]at e;simp[Q9y]at e;exact e
   subst this;simp
  ·have:=ih (x/2) Oz h2 Oz;rw[Kbv];omega
theorem Qt9{x:Nat}(h:x<65536):Qd Tryz.prog 220 [.int .u16 x] (· = .int .i64 (16-Lib.bitLen x:Nat)):=by have:=KV h;refine aE Qg Tryz.func220 aiX fun C hP=>?_;refine Sz0 ?_;refine Qb hP (Wj h) ?_;refine Sz0 ?_;exact Qc (by congr 1;omega) rfl
theorem Po{a:List Nat}(ha:Qk a)(bD:a.length<2^40):Qd Tryz.prog 178 [PV.nat a] (fun r=>∃n:Nat,r= .int .i64 n/\(n=0↔val a=0)):=by
 have hd:=cq ha;unfold nl at hd;refine aE Qg Tryz.func178 aia fun C hP=>?_;refine Sz0 ?_;refine Qb hP (jK ha Oz) ?_;refine Sz0 ?_;refine Qa (fun hz=>?_) (fun hz=>?_)
 ·refine Sz0 ?_;have:val a=0:=mL.1 (KaI.1 Oz);exact⟨rfl,_,Ql _,0,rfl,by simp[this]⟩
 ·have aJ:val a≠0:=fun h=>by rw[h,gW]at hz;simp at hz
  have gK:=C0 (val a);have IK:=Qm (val a);generalize val a=x at *
  obtain⟨k,hk⟩:∃k,(ao x).length=k+1:=⟨(ao x).length-1,by omega⟩
  have aw:k<(ao x).length:=by omega
  have vY:=fm IK aw;have pU:(ao x)[k]≠0:=by intro h;apply gK;rw[Kbn,hk,Nat.add_sub_cancel,Kag aw,h]
  have e:((k+1:Nat):Int)-1=k:=by omega
  generalize eG:(ao x)[k]=xi at *
  have hb:=KV vY;have hb1:=Lm vY pU;refine Sz3 hk e eG ?_;refine Qb hP (Wj vY) ?_;have e2:(16:Int)*(k:Int)=((16*k:Nat):Int):=by omega
  refine Sz1 e2 ?_;exact⟨rfl,_,Ql _,16*k+Lib.bitLen xi,rfl,by omega⟩
theorem abQ(i:Nat):2^(16*i)=65536^i:=by rw[Nat.pow_mul]
theorem LB{a:List Nat}(ha:Qk a)(bD:a.length<2^40):Qd Tryz.prog 216 [PV.nat a] (· =if nl (val a)<=4 then .aH [.int .u64 (val a),.bool true]else .aH [.int .u64 0,.bool false]):=by
 have hd:=cq ha;unfold nl at hd;refine aE Qg Tryz.func216 ah9 fun C hP=>?_;refine Sz0 ?_;refine Qb hP (jK ha Oz) ?_;refine Sz0 ?_;have IK:=Qm (val a);have gH:=Qy (val a);unfold nl;generalize val a=x at *
 refine Qa (fun hz=>?_) (fun hz=>?_)
 ·refine Sz0 ?_;rw[if_neg Oz];exact fp rfl rfl rfl (Ql _) (Ql _)
 ·refine Sz0 ?_;rw[if_pos Oz];refine Qi dV [(4,6),(14,26)] [] (fun k J hp=>∃i,k=(ao x).length-i/\i<=(ao x).length/\J 14= .int .i64 i/\J 4= .int .u64 (val ((ao x).take i))/\hp=aA) (ao x).length ?_ ?_
  ·refine⟨0,rfl,by omega,?_⟩;simp+decide (disch:=first|omega|rfl|(simp+decide only[go_sem,true_and,and_true,Kcg]<;>rfl)|fail) only[go_sem,true_and,and_true,Kcg];simp[val]
  rintro _ J _ ⟨i,rfl,hi,gz,h4,rfl⟩;refine Sz2 gz h4 ?_;refine Qa (fun hg=>?_) (fun hg=>?_)
  ·have al:i<(ao x).length:=by omega
   have gR:=fm IK al;have nZ:=Cj al;have xR:=wo IK i Oz;generalize eG:(ao x)[i]=xi at *
   have e2:(16:Int)*(i:Int)=((16*i:Nat):Int):=by omega
   have hb:xi*2^(16*i)+2^(16*i)<=18446744073709551616:=by have h3:2^(16*i)<=2^48:=KaR Oz Oz;have:(xi+1)*2^(16*i)<=65536*2^48:=KaQ Oz h3;rw[KaK]at this;omega
   have ND:0<2^(16*i):=Kbw Oz;rw[<-abQ]at nZ xR;have BJ:(val ((ao x).take i)|||xi*2^(16*i))=val ((ao x).take (i+1)):=by rw[Nat.or_comm,DE xR,nZ,KaP,KbQ]
   refine Sz7 gz h4 eG e2 @R2 @Tk BJ ?_;refine Qf ((ao x).length-(i+1)) Oz ⟨i+1,rfl,by omega,?_⟩;exact Tz3 gz @true_and @and_true
  ·obtain rfl:i=(ao x).length:=by omega
   rw[Kaz,gH]at h4;refine Sz1 h4 ?_;exact fp rfl rfl rfl (Ql _) (Ql _)
set_option maxHeartbeats 2000000 in
theorem ae2{u v ex:List Nat}(hu:Qk u)(hv:Qk v)(hn:2<=v.length)(aw:v.length<u.length)(Zy:32768<=v.getD (v.length-1) 0)(atA:val (u.drop (u.length-v.length))<val v)(zN:u.length+ex.length<2^42):
  AV Tryz.prog 222 [.aB B0 0 u.length,PV.nat v] 155 (cD (u++ex)) (fun r xs'=>r=PV.num (val u/val v)/\∃l,xs'=cD (l++ex)/\Qk l/\l.length=u.length/\val l=val u%val v):=by
 obtain⟨n,jd⟩:∃n,v.length=n+2:=⟨v.length-2,by omega⟩
 have e1:(u.length:Int)-(v.length:Int)=((u.length-v.length:Nat):Int):=by omega
 have xR:=Sk jd;have zO:=wo hv n Oz;have aut:=rE hv;have zP:=fm hv (show n+1<v.length by omega);have zQ:=fm hv (show n<v.length by omega);have nS:v[n+1]'Oz=v.getD (n+1) 0:=(iM _).symm;have eK:v[n]'Oz=v.getD n 0:=(iM _).symm;have aul:32768<=v.getD (n+1) 0:=by rw[jd]at Zy;exact Zy
 rw[nS]at zP;rw[eK]at zQ;rw[jd]at aut;have hvp:0<val v:=by rw[xR];have:0<65536^n:=Kbw Oz;have:0<(v.getD (n+1) 0*65536+v.getD n 0)*65536^n:=Nat.mul_pos Oz this;omega
 refine GS Qg Tryz.func222 rfl aiN Nz fun C hP=>?_;simp only[WI];refine fw ?_;refine Sz1 e1 ?_;refine QV dV [(7,11),(24,105)] [7,9,10] (fun k J hp=>∃l qs,k+qs.length=u.length-v.length/\Qk l/\l.length=u.length/\Qk qs/\val (l.drop k)<val v/\val u=val l+val v*(65536^k*val qs)/\J 7= .mp 7 0 0/\
  hp 7=some ⟨1,3,[.int .i64 ((k:Int)-1)],false⟩/\hp 1000000=some ⟨1,155,cD (l++ex),false⟩/\hp 18=some ⟨1,155,cD (List.replicate k 0++qs),false⟩/\
  hp 3=some ⟨1,47,[PV.nat v],false⟩/\hp 5=some ⟨1,3,[.int .i64 v.length],false⟩) (u.length-v.length) ?_ ?_
 ·refine⟨u,[],rfl,hu,rfl,qq,atA,by simp[val],?_⟩;refine Sz2 @true_and @and_true ?_;simp
 intro F hF;have nM:F 2= .rb 1000000 0 u.length:=by rw[hF];simp+decide (disch:=try exact D0) only[go_sem]
 have kS:F 3= .mp 3 0 0:=by rw[hF];simp+decide (disch:=try exact D0) only[go_sem]
 have kT:F 5= .mp 5 0 0:=by rw[hF];simp+decide (disch:=try exact D0) only[go_sem]
 have nN:F 6= .ms 18 (u.length-v.length):=by rw[hF];simp+decide (disch:=try exact D0) only[go_sem]
 have II:∀β,[7,9,10].contains β=true->cP β F=F:=fun β h=>by rw[hF];exact Gj h
 have hk9:=II 9 rfl;have avR:=II 10 rfl;have IH:=II 7 rfl;have hkk:bO [9,10] F=F:=by rw[hF];exact Q45 rfl
 clear II hF;rintro k J h ⟨l,qs,qX,hl,jm,rY,nX,gH,iU,pO,nT,td,cb,cf⟩;refine yP @iU pO @nT td cb cf @nM @kS @kT @nN ?_;refine Qa (fun hg=>?_) (fun hg=>?_)
 ·obtain _|j:=k
  ·omega
  have e2:((j+1:Nat):Int)-1=j:=by omega
  have e3:((n+2:Nat):Int)-1=((n+1:Nat):Int):=by omega
  have e4:((j+(n+2):Nat):Int)-1=((j+(n+1):Nat):Int):=by omega
  obtain⟨pre,w,post,Nu,aV,rf,BL,hw,eY,NC,hdj,ZF,w0,zS,I0⟩:=ams (n:=n) hl Oz Oz nX;have rV:=fm hl (show j+(n+2)<l.length by omega);have vQ:=fm hl (show j+(n+1)<l.length by omega);have th:=fm hl (show j+n<l.length by omega);have avZ:(l++ex).length=u.length+ex.length:=by rw[Kay,jm]
  have XJ:(l++ex)[j+(n+2)]'Oz=l.getD (j+(n+2)) 0:=by rw[KbF Oz];exact(iM _).symm
  have XI:(l++ex)[j+(n+1)]'Oz=l.getD (j+(n+1)) 0:=by rw[KbF Oz];exact(iM _).symm
  rw[<-iM Oz]at rV vQ;have auj:(cD (l++ex)).take u.length=cD l:=by rw[<-List.map_take,<-jm,List.take_left]
  have XW:l++ex=pre++(w++(post++ex)):=by rw[Nu];simp
  generalize l.getD (j+(n+2)) 0=w2 at *
  generalize l.getD (j+(n+1)) 0=w1 at *
  simp+decide (disch:=first|omega|rfl|(simp+decide only[go_sem,iU,pO,nT,td,cb,cf,nM,kS,kT,nN,jd,e2,e3,e4,XJ,XI,nS,LM,Me,Dg,rD]<;>rfl)|fail) only[go_sem,iU,pO,nT,td,cb,cf,nM,kS,kT,nN,jd,e2,e3,e4,XJ,XI,nS,LM,Me,Dg,rD];have awp:w.length=n+3:=rf;have ata:=ac5 xR I0 zS (by rw[<-iM (show j+n<l.length by omega)]at th;omega) (by omega:0<v.getD (n+1) 0);have rU:=agt xR I0 zO ZF (Kbw Oz);have xz:=Kbq (w2*65536+w1) (v.getD (n+1) 0);have avI:(w2*65536+w1)/v.getD (n+1) 0<131072:=by rw[Kbi Oz];omega
  have awg:=Kbx (w2*65536+w1) (by omega:0<v.getD (n+1) 0);rw[KaP]at xz;generalize hd0:(w2*65536+w1)/v.getD (n+1) 0=d0 at *
  generalize dC:(w2*65536+w1)%v.getD (n+1) 0=r0 at *
  have Nc:∀(h:HP) v w,Qj (Qj h 10 v) 9 w=Qj (Qj h 9 w) 10 v:=fun h v w=>aeH 10 9 (by decide) h v w;refine aie (fun J=>J 7= .mp 7 0 0/\J 52= .int .u64 d0/\J 53= .int .u64 (w2*65536+w1:Nat)) (Tz3 @iU @true_and @and_true) ?_;clear iU;rintro J ⟨iU,MO,MP⟩;refine agu dV [9,10] (fun J2 cz=>J2 7= .mp 7 0 0/\J2 9= .mp 9 0 0/\J2 10= .mp 10 0 0/\cz=Qj (Qj h 9 ⟨1,112,[.int .u64 d0],false⟩) 10 ⟨1,112,[.int .u64 r0],false⟩) ?_ ?_
  ·intro F' Ed;have Xe:F' 3= .mp 3 0 0:=by rw[Ed];simp+decide (disch:=try exact D1 kS) only[go_sem,kS]
   have Xf:F' 5= .mp 5 0 0:=by rw[Ed];simp+decide (disch:=try exact D1 kT) only[go_sem,kT]
   have XT:cP 9 F'=F':=by rw[Ed];exact Gj rfl
   have XS:cP 10 F'=F':=by rw[Ed];exact Gj rfl
   clear Ed
   repeat' (first|refine lk ?_ ?_|simp+decide (disch:=first|omega|rfl|(simp+decide only[go_sem,iU,MO,MP,cb,cf,Xe,Xf,XT,XS,jd,e3,nS,rD]<;>rfl)|fail) only[go_sem,iU,MO,MP,cb,cf,Xe,Xf,XT,XS,jd,e3,nS,rD])
   all_goals refine nv (J:=_) ?_
   all_goals simp+decide (disch:=try exact D5 iU dC Nc true_and and_true) only[go_sem,iU,dC,Nc,true_and,and_true]
  clear iU MO MP J;rintro J _ ⟨iU,iV,qP,rfl⟩;simp+decide (disch:=first|omega|rfl|(simp+decide only[go_sem,iU,iV,qP,nM,kS,kT,nN,WW,List.all_cons,List.all_nil,KaW,KaO,true_and]<;>rfl)|fail) only[go_sem,iU,iV,qP,nM,kS,kT,nN,WW,List.all_cons,List.all_nil,KaW,KaO,true_and];refine QV dV [(62,77)] [] (fun m J hp=>∃d r,m=d/\d*v.getD (n+1) 0+r=w2*65536+w1/\val w<(d+1)*val v/\hp=Qj (Qj h 9 ⟨1,112,[.int .u64 d],false⟩) 10 ⟨1,112,[.int .u64 r],false⟩) d0 ?_ ?_
  ·exact⟨d0,r0,rfl,xz,ata,rfl⟩
  intro F1 By;have Il:F1 9= .mp 9 0 0:=by rw[By,fV];simp+decide (disch:=try exact D1 iV) only[go_sem,iV]
  have Ik:F1 10= .mp 10 0 0:=by rw[By,fV];simp+decide (disch:=try exact D1 qP) only[go_sem,qP]
  have MN:F1 11= .fn 230 [] [.mp 9 0 0,.mp 3 0 0,.mp 5 0 0,.mp 10 0 0,.rb 1000000 0 u.length,.mp 7 0 0]:=by rw[By,fV];simp+decide (disch:=try exact D0) only[go_sem]
  have hE3:F1 3= .mp 3 0 0:=by rw[By,fV];simp+decide (disch:=try exact D1 kS) only[go_sem,kS]
  have hE5:F1 5= .mp 5 0 0:=by rw[By,fV];simp+decide (disch:=try exact D1 kT) only[go_sem,kT]
  rintro d J2 _ ⟨_,r,rfl,xA,Nf,rfl⟩;have avG:d<131072:=by have:d*32768<=d*v.getD (n+1) 0:=KaE _ aul;omega
  refine Sz3 @Il @Ik @MN ?_;refine Q9r dV [(62,67)] [] (fun J hp=>J 67= .bool (decide (r<65536/\(65536<=d∨r*65536+l.getD (j+n) 0<d*v.getD n 0)))/\hp=Qj (Qj h 9 ⟨1,112,[.int .u64 d],false⟩) 10 ⟨1,112,[.int .u64 r],false⟩) ?_ ?_
  ·refine fN (fun hr=>?_) (fun hr=>?_)
   ·refine Sz3 @Il @Ik @MN ?_;refine aez hP (Q47 (dg:=d) (r:=r) (j:=j) hv hl hn rfl Oz Oz Oz Oz) (by simp+decide (disch:=first|omega|rfl|(simp+decide only[go_sem,ix,nT,cb,cf,pO,e2,Kam,KaO,List.getElem?_cons_zero,Ka0,Kac]<;>rfl)|fail) only[go_sem,ix,nT,cb,cf,pO,e2,Kam,KaO,List.getElem?_cons_zero,Ka0,Kac];simp only[Ka0,auj]) rfl rfl ?_;refine Sz1 jd ?_;refine nv ⟨?_,rfl⟩;refine Sz0 ?_;rw[show j+(n+2)-2=j+n by omega,show n+2-2=n by omega];exact congrArg PV.bool (decide_eq_decide.2 ⟨fun h=>⟨by omega,h⟩,fun h=>h.2⟩)
   ·refine Sz3 @Il @Ik @MN ?_;refine nv ⟨?_,rfl⟩;refine Sz0 ?_;simp;omega
  rintro J3 _ ⟨h67,rfl⟩;simp (disch:=decide) only[fV,dS];refine Sz1 h67 ?_;refine Qa (fun ht=>?_) (fun ht=>?_)
  ·obtain⟨hr,ht⟩:=ht;have zA:val w<d*val v:=by
    rcases ht with ht|ht
    ·exact Kby ZF (Kaj _ ht)
    ·exact agr xR I0 zS xA ht
   obtain _|d:=d
   ·omega
   have e5:((d+1:Nat):Int)-1=(d:Nat):=by omega
   refine Sz11 @Il @Ik @hE3 @hE5 cb cf jd e3 e5 nS Nc ?_;refine Qf d Oz ⟨d,r+v.getD (n+1) 0,rfl,?_,zA,rfl⟩;rw[KaK]at xA;omega
  have zp:d<65536:=by apply Decidable.byContradiction;intro iY;apply ht;refine⟨?_,.inl Oz⟩;have:65536*v.getD (n+1) 0<=d*v.getD (n+1) 0:=Kaj _ Oz;omega
  have aui:¬r*65536+l.getD (j+n) 0<d*v.getD n 0:=by
   intro atN;by_cases hr:r<65536
   ·exact ht ⟨hr,.inr atN⟩
   ·have:=wy zp zQ;omega
  have e5:j+(n+2)+1-j=n+3:=by omega
  subst By;simp (disch:=decide) only[fV,hkk,dS];refine Sz14 @iU @iV @qP @nM @kS @kT @nN cb cf pO @nT e2 jd e5 ?_;have vW:=QO w v d 0 0 hw Oz Oz;have Iz:=Wd w v d 0 0 Oz Oz zp hv;have bb:=VJ w v d 0 0;have Zj:=Vf w v d 0 0;have ZE:=rE hw;rw[rf]at vW ZE;refine HT hP (Q46 (pre:=pre) (w:=w) (post:=post++ex) (j:=j) (m:=n+3) (q:=d) hw hv zp aV rf Oz (by rw[<-XW];omega)) (β:=1000000) (Tz2 @nT XW) (tJ _) (by simp;omega) (by simp[lW,B0]) rfl ?_;rintro _ _ _ _ ⟨rfl,rfl⟩;generalize gu w v d 0 0=sq at *
  obtain⟨⟨vW,hb1⟩,Iz⟩:=And.intro vW Iz;have Xm:=rE bb;rw[Zj,rf]at Xm;have awc:pre.length+(w.length+post.length)=u.length:=by rw[<-jm,Nu];simp
  have awh:j<(List.replicate (j+1) 0++qs).length:=by simp;omega
  have ZC:val l=val pre+65536^j*val w:=by rw[Nu,oW,oW,NC,aV,Kcd,KaY]
  simp+decide (disch:=first|omega|rfl|(simp+decide only[go_sem,qz,iU,iV,qP,nM,kS,kT,nN]<;>rfl)|fail) only[go_sem,qz,iU,iV,qP,nM,kS,kT,nN];refine Qa (fun hb=>?_) (fun hb=>?_)
  ·have hb2:sq.2.2=1:=by omega
   rw[Iz,hb2]at vW;obtain _|d:=d
   ·omega
   have XA:=ags xR I0 zO Oz zp xA aui;obtain⟨k,hk⟩:=QN sq.1 v 0 Oz;have dD:=VI sq.1 v 0;have Yt:=Ve sq.1 v 0;rw[Zj,rf]at hk Yt;have X8:=rE dD;rw[Yt]at X8;obtain⟨MT,cy⟩:=aif (B:=65536^(n+3)) (S:=val sq.1) (e:=d) Oz Xm XA Oz X8 ZE;have e6:((d+1:Nat):Int)-1=(d:Nat):=by omega
   simp+decide (disch:=first|omega|rfl|(simp+decide only[go_sem,iU,iV,qP,nM,kS,kT,nN,cb,cf,pO,nT,e2,e6,jd,e5]<;>rfl)|fail) only[go_sem,iU,iV,qP,nM,kS,kT,nN,cb,cf,pO,nT,e2,e6,jd,e5];refine HT hP (Q7b (pre:=pre) (w:=sq.1) (post:=post++ex) (j:=j) (m:=n+3) bb hv aV Oz Oz (by simp;omega)) (β:=1000000) Tz0 (tJ _) (by simp;omega) (by simp[lW,B0]) rfl ?_;rintro _ _ _ _ ⟨rfl,rfl⟩;have vJ:=O6 (q:=d) (R:=mR sq.1 v 0) aV NC gH ZC cy;simp+decide (disch:=first|omega|rfl|(simp+decide only[go_sem,qz,iU,iV,qP,nM,kS,kT,nN,cb,cf,pO,nT,td,e2,e6,jd,e5,Hw,KaS (by omega:d<65536),IH]<;>rfl)|fail) only[go_sem,qz,iU,iV,qP,nM,kS,kT,nN,cb,cf,pO,nT,td,e2,e6,jd,e5,Hw,KaS (by omega:d<65536),IH];refine Qf j Oz ⟨pre++(mR sq.1 v 0++post),d::qs,by simp;omega,?_,?_,?_,?_,vJ.2,?_⟩
   ·rw[ql,ql];exact⟨BL,dD,eY⟩
   ·simp;omega
   ·rw[jt];exact⟨by omega,rY⟩
   ·rw[vJ.1];exact MT
   ·simp+decide (disch:=first|omega|rfl|(simp+decide only[go_sem,cb,cf,true_and,and_true,jd,Kbt]<;>rfl)|fail) only[go_sem,cb,cf,true_and,and_true,jd,Kbt]
  ·have hb2:sq.2.2=0:=by omega
   rw[Iz,hb2]at vW;obtain⟨MT,cy⟩:=amt (S:=val sq.1) (d:=d) Oz Nf;have vJ:=O6 (q:=d) (R:=sq.1) aV NC gH ZC cy;simp+decide (disch:=first|omega|rfl|(simp+decide only[go_sem,qz,iU,iV,qP,nM,kS,kT,nN,cb,cf,pO,nT,td,e2,jd,e5,Hw,KaS zp,IH]<;>rfl)|fail) only[go_sem,qz,iU,iV,qP,nM,kS,kT,nN,cb,cf,pO,nT,td,e2,jd,e5,Hw,KaS zp,IH];refine Qf j Oz ⟨pre++(sq.1++post),d::qs,by simp;omega,?_,?_,?_,?_,vJ.2,?_⟩
   ·rw[ql,ql];exact⟨BL,bb,eY⟩
   ·simp;omega
   ·rw[jt];exact⟨zp,rY⟩
   ·rw[vJ.1];exact MT
   ·simp+decide (disch:=first|omega|rfl|(simp+decide only[go_sem,cb,cf,true_and,and_true,jd,Kbt]<;>rfl)|fail) only[go_sem,cb,cf,true_and,and_true,jd,Kbt]
 ·obtain rfl:k=0:=by omega
  rw[Ka0]at nX;rw[Kc8,KcT]at gH;have hdiv:val u/val v=val qs:=by rw[gH,KcF _ _ hvp,Kb4 nX,Kbh]
  have zD:val u%val v=val l:=by rw[gH,KcE,KaS nX]
  simp+decide (disch:=first|omega|rfl|(simp+decide only[go_sem,iU,pO,nT,td,cb,cf,nM,kS,kT,nN,Kbd,KaO]<;>rfl)|fail) only[go_sem,iU,pO,nT,td,cb,cf,nM,kS,kT,nN,Kbd,KaO];refine ln hP (jK rY Oz) (C3 (ty:=155) (fz:=false) (by simp+decide (disch:=first|omega|rfl|(simp+decide only[go_sem,td,Kbd,KaO]<;>rfl)|fail) only[go_sem,td,Kbd,KaO]) Oz) rfl ?_;refine Sz0 ?_;refine Tj (xs':=cD (l++ex)) (p:=PV.num (val qs)) ?_ (tJ _) (by simp;omega) Tz0 rfl ⟨by rw[hdiv],l,rfl,hl,jm,zD.symm⟩;show FW.bW h [18] 1000000=_;simp only[FW.bW];rw[if_neg (by decide),nT]
theorem adn{a:List Nat}{s:Nat}(ha:Qk a)(bD:a.length<2^40)(hs:s<=15):Qd Tryz.prog 221 [PV.nat a,.int .i64 (-(s:Int))] (· =PV.num (val a/2^s)):=by
 have iW:=cq ha;unfold nl at iW;by_cases h0:val a=0
 ·refine aE Qg Tryz.func221 JH fun C hP=>?_;refine Sz0 ?_;refine Qb hP (jK ha Oz) ?_;refine Sz0 ?_;refine fb (fun hz=>by omega) (fun hz=>?_);refine Sz0 ?_;refine fb (fun hz=>by omega) (fun hz=>?_);refine Sz0 ?_;refine Qa (fun hz=>?_) (fun hz=>absurd (by rw[h0,gW];rfl) hz);refine Sz0 ?_;exact pg (De (by simp[h0])) rfl
 by_cases iG:s=0
 ·subst iG;have:=(KU (s:=0) ha bD Oz h0).toV;rw[Kc8,KbK]at this;rw[Kc8,Nat.div_one];exact this
 have pU:(ao (val a)).length≠0:=fun h=>h0 (mL.1 (sj h));refine aE Qg Tryz.func221 JH fun C hP=>?_;refine Sz0 ?_;refine Qb hP (jK ha Oz) ?_;refine Sz0 ?_;refine fb (fun hz=>by omega) (fun hz=>?_);refine Sz0 ?_;refine fb (fun hz=>by omega) (fun hz=>?_);refine Sz0 ?_;refine Qa (fun hz=>by omega) (fun hz=>?_);refine Sz0 ?_;refine Qa (fun hz=>?_) (fun hz=>by omega);have e:(0:Int)- -(s:Int)=(s:Nat):=by omega
 refine Sz1 e ?_;refine Qb hP (adl (Qm (val a)) Oz hs) ?_;refine Sz1 @Qy ?_;exact Qc rfl rfl
theorem ado{x d:Nat}(hx:(ao x).length<2^42)(hd:0<d)(nQ:d<65536):Qd Tryz.prog 219 [PV.num x,.int .u16 d] (· = .aH [PV.num (x/d),.int .u16 (x%d:Nat)]):=by
 have:=Q9w (Qm x) hx hd nQ
 rwa[Qy]at this
theorem KW{a b:List Nat}(ha:Qk a)(hb:Qk b)(bD:a.length<2^38)(dJ:b.length<2^38):Qd Tryz.prog 192 [PV.nat a,PV.nat b]
  (· =if val b=0 then .aH [PV.num 0,PV.num 0,.int .i64 3]else .aH [PV.num (val a/val b),PV.num (val a%val b),.int .i64 0]):=by
 have iW:=cq ha;have kC:=cq hb;unfold nl at iW kC;refine aE Qg Tryz.func192 aiR fun C hP=>?_;refine Sz0 ?_;refine Qb hP (jK ha Oz) ?_;refine Sz0 ?_;refine Qb hP (jK hb Oz) ?_;refine Sz0 ?_;have ee:=Qm (val a);have n6:=Qm (val b);have tr:=Qy (val a);have zU:=Qy (val b);have auK:=C0 (val b);generalize val a=x at *
 generalize val b=y at *
 refine Qa (fun hz=>?_) (fun hz=>?_)
 ·have du:y=0:=mL.1 (sj Oz);refine Sz0 ?_;rw[if_pos du];exact jy rfl rfl rfl rfl AG AG (Ql _)
 have du:y≠0:=fun h=>by rw[h,gW]at hz;simp at hz
 rw[if_neg du];refine Sz0 ?_;refine Qb hP (Hg ee n6 Oz Oz) ?_;refine Sz2 tr zU ?_;refine Qa (fun hc=>?_) (fun hc=>?_)
 ·have aw:x<y:=by
   unfold ji at hc;split at hc
   ·assumption
   ·split at hc<;>omega
  refine Sz0 ?_;refine Qb hP (CK ee Oz) ?_;refine Sz1 tr ?_;exact jy rfl rfl rfl rfl (De (Kb4 aw)) (wC (by rw[KaS aw])) (Ql _)
 have iY:y<=x:=by unfold ji at hc;split at hc<;>omega
 refine Sz0 ?_;refine Qa (fun h1=>?_) (fun h1=>?_)
 ·obtain⟨d,hd⟩:∃d,ao y=[d]:=by
   match h:ao y,h1 with
   | [d],_=>exact⟨d,rfl⟩
   | [],h1=>simp at h1
   |_::_::_,h1=>simp at h1;omega
  have hyd:y=d:=by rw[<-zU,hd];simp[val]
  have lL:d<65536:=by rw[hd]at n6;exact n6 d (by simp)
  simp+decide (disch:=first|omega|rfl|(simp+decide only[go_sem,hd,Kba,Kbu,KaT,Kbk]<;>rfl)|fail) only[go_sem,hd,Kba,Kbu,KaT,Kbk];refine CY hP (ado (x:=x) (d:=d) Oz Oz lL) (by rw[PV.num];rfl) rfl rfl ?_;have hm:x%d<18446744073709551616:=by have:=Kbx x (show 0<d by omega);omega
  refine Sz0 ?_;refine Qb hP (Hz hm) ?_;refine Sz0 ?_;rw[hyd];exact jy rfl rfl rfl rfl (Ql _) (Ql _) (Ql _)
 obtain⟨n,hn⟩:∃n,(ao y).length=n+2:=⟨(ao y).length-2,by omega⟩
 obtain⟨m,hm⟩:∃m,(ao x).length=m+2:=by have:=iL iY;unfold nl at this;exact⟨(ao x).length-2,by omega⟩
 have e1:((n+2:Nat):Int)-1=((n+1:Nat):Int):=by omega
 have gK:(ao y)[n+1]'Oz≠0:=by
  intro h;apply auK;have:(ao y).getLast? =some ((ao y)[n+1]'Oz):=by rw[Kbn,show(ao y).length-1=n+1 by omega];exact Kag _
  rw[this,h]
 have ke:=fm n6 (show n+1<(ao y).length by omega);have avK:val (ao y)=y:=Qy y;generalize tt:(ao y)[n+1]'Oz=yi at *
 have m7:=KV ke;have hbp:=Lm ke gK;obtain⟨cg,aum⟩:=adm _ yi rfl gK ke;obtain⟨s,hs,xO⟩:∃s,16-Lib.bitLen yi=s/\s<=15:=⟨_,rfl,by omega⟩
 refine Sz3 hn e1 tt ?_;refine Qb hP (Qt9 ke) ?_;refine Sz1 hs ?_;have NQ:=KU (a:=ao x) (s:=s) ee Oz xO (by rw[tr];omega);refine amn hP NQ rfl rfl rfl (by decide) ?_;rintro _ _ rfl;rw[tr];have Xc:(ao (x*2^s)).length<=m+3:=by have h1:=rF x (2^s);have h2:nl (2^s)<=1:=nw.2 (by have:2^s<=2^15:=KaR Oz xO;omega);unfold nl at h1 h2;omega
 have avu:m+2<=(ao (x*2^s)).length:=by have:=iL (show x<=x*2^s from KaZ _ (Kbw Oz));unfold nl at this;omega
 refine Sz1 hm ?_;rw[K7 (ys:=cD [0,0]) (xs:=cD (ao (x*2^s))) (by simp+decide (disch:=first|omega|rfl|(simp+decide only[go_sem,jx]<;>rfl)|fail) only[go_sem,jx];rfl) Tz0 Oz (by simp) (by simp;omega) (by simp;omega)];rw[Kac (by simp),<-List.map_append];simp+decide (disch:=first|omega|rfl|(simp+decide only[go_sem,hm,KaT,Kbk]<;>rfl)|fail) only[go_sem,hm,KaT,Kbk];have Zw:=(KU (a:=ao y) (s:=s) n6 Oz xO (by rw[zU];omega)).toV;rw[zU]at Zw;refine Qb hP Zw ?_;obtain⟨g1,g2⟩:=aeK xO (by rw[show 16-s=Lib.bitLen yi by omega];exact cg) (by rw[show 16-s=Lib.bitLen yi by omega];exact aum);obtain⟨Xp,hYt,asR⟩:=Q9s hn tt g1 g2;have gM:n<=m:=by have:=iL iY;unfold nl at this;omega
 obtain⟨u,ex,NU,IX,hu3,hu4,hu5,hu6⟩:=Q9t (s:=s) hm xO gM asR;have atb:x*2^s/(y*2^s)=x/y:=Nat.mul_div_mul_right _ _ (Kbw Oz);have atc:x*2^s%(y*2^s)=x%y*2^s:=Nat.mul_mod_mul_right _ _ _;rw[NU];refine Sz0 ?_;have zy:=ae2 (u:=u) (v:=ao (y*2^s)) (ex:=ex) hu3 (Qm _) Oz Oz (by rw[Xp];exact hYt) (by rw[Xp,IX,Qy];exact hu6) Oz;rw[IX,hu4,Qy,atb,atc]at zy;refine HT hP zy (β:=52) Tz0 (tJ _) (by simp;omega) (by simp[lW]) rfl ?_;rintro _ _ _ _ ⟨rfl,l,rfl,vQ,rV,hl3⟩;have e5:IntKind.i64.wrap (0-(s:Int))= -(s:Int):=by rw[yr Oz Oz];omega
 have aT:(cD (l++ex)).take (m+2+1)=cD l:=by rw[<-List.map_take,show m+2+1=l.length by omega,List.take_left]
 simp+decide (disch:=first|omega|rfl|(simp+decide only[go_sem,qz]<;>rfl)|fail) only[go_sem,qz];refine ln hP (jK vQ Oz) (by simp[aU,cZ,aR,Qj,<-List.map_append,aT]) rfl ?_;refine Sz1 e5 ?_;rw[hl3];have BQ:=adn (a:=ao (x%y*2^s)) (s:=s) (Qm _) (by have:=iL (show x%y*2^s<=x*2^s from Kaj _ (Nat.mod_le _ _));unfold nl at this;omega) xO;rw[Qy,Nat.mul_div_cancel _ (Kbw Oz)]at BQ;refine Qb hP BQ ?_;refine Sz0 ?_;exact jy rfl rfl rfl rfl (Ql _) (Ql _) (Ql _)
theorem Rb{a b:List Nat}(ha:Qk a)(hb:Qk b)(bD:a.length<2^38)(dJ:b.length<2^38):Qd Tryz.prog 186 [PV.nat a,PV.nat b] (· =PV.num (Nat.gcd (val a) (val b))):=by
 have iW:=cq ha;have kC:=cq hb;unfold nl at iW kC;refine aE Qg Tryz.func186 aiV fun C hP=>?_;refine Sz0 ?_;refine Qb hP (CK ha Oz) ?_;refine Sz0 ?_;refine Qb hP (CK hb Oz) ?_;refine Sz0 ?_;refine Qi dV [(0,1),(4,11),(16,49)] [] (fun m J hp=>∃x y,m=y/\Nat.gcd x y=Nat.gcd (val a) (val b)/\(ao x).length<2^38/\(ao y).length<2^38/\J 0=PV.num x/\J 1=PV.num y/\hp=aA) (val b) ?_ ?_
 ·refine⟨val a,val b,rfl,rfl,by omega,by omega,?_⟩;exact Tz2 @true_and @and_true
 rintro y J _ ⟨x,_,rfl,hg,hx,hy,h0,h1,rfl⟩;generalize Nat.gcd (val a) (val b)=g at *
 refine Sz2 h0 h1 ?_;refine Qa (fun hc=>?_) (fun hc=>?_)
 ·have du:y≠0:=fun h=>by rw[h,gW]at hc;simp at hc
  have zD:(ao (x%y)).length<2^38:=by have:=iL (Nat.le_of_lt (Kbx x (Kbg du)));unfold nl at this;omega
  refine Sz2 h0 h1 ?_;refine Qb hP (LB (Qm x) Oz) ?_;refine Sz2 h0 h1 ?_;rw[Qy];by_cases eu:nl x<=4
  ·have ni:=GR.1 eu;rw[if_pos eu];refine Sz2 h0 h1 ?_;refine Qb hP (LB (Qm y) Oz) ?_;rw[Qy];by_cases cS:nl y<=4
   ·have qc:=GR.1 cS;rw[if_pos cS];refine Sz2 h0 h1 ?_;refine Qi dV [(5,5),(7,7),(33,38)] [] (fun m J hp=>∃p q,m=q/\Nat.gcd p q=g/\p<18446744073709551616/\q<18446744073709551616/\J 5= .int .u64 p/\J 7= .int .u64 q/\hp=aA) y ?_ ?_
    ·refine⟨x,y,rfl,hg,ni,qc,?_⟩;exact Tz2 @true_and @and_true
    rintro q J2 _ ⟨p,_,rfl,eK,jn,cz,h5,h7,rfl⟩;refine Sz2 h5 h7 ?_;refine Qa (fun hq=>?_) (fun hq=>?_)
    ·have gO:0<q:=by omega
     refine Sz3 h5 h7 @rD ?_;refine Qf (p%q) (Kbx _ gO) ⟨q,p%q,rfl,?_,cz,?_,?_⟩
     ·rw[<-eK,KcW p q,Nat.gcd_rec q p,KcW]
     ·have:=Kbx p gO;omega
     ·exact Tz2 @true_and @and_true
    ·obtain rfl:q=0:=by omega
     refine Sz2 h5 h7 ?_;refine Qb hP (Hz jn) ?_;refine Sz0 ?_;exact Qc (by rw[<-eK,Kda]) rfl
   ·rw[if_neg cS];refine Sz2 h0 h1 ?_;refine Qb hP (KW (Qm x) (Qm y) Oz Oz) ?_;rw[Qy,Qy,if_neg du];refine Sz2 h0 h1 ?_;refine Qf (x%y) (Kbx _ (Kbg du)) ⟨y,x%y,rfl,?_,hy,zD,?_⟩
    ·rw[<-hg,KcW x y,Nat.gcd_rec y x,KcW]
    ·exact Tz2 @true_and @and_true
  ·rw[if_neg eu];refine Sz2 h0 h1 ?_;refine Qb hP (LB (Qm y) Oz) ?_;obtain⟨r1,r2,hr⟩:∃r1 r2,(if nl (val (ao y))<=4 then PV.aH [.int .u64 (val (ao y)),.bool true]else .aH [.int .u64 0,.bool false])= .aH [.int .u64 r1,.bool r2]:=by split<;>exact⟨_,_,rfl⟩
   rw[hr];refine Sz2 h0 h1 ?_;refine Qb hP (KW (Qm x) (Qm y) Oz Oz) ?_;rw[Qy,Qy,if_neg du];refine Sz2 h0 h1 ?_;refine Qf (x%y) (Kbx _ (Kbg du)) ⟨y,x%y,rfl,?_,hy,zD,?_⟩
   ·rw[<-hg,KcW x y,Nat.gcd_rec y x,KcW]
   ·exact Tz2 @true_and @and_true
 ·have du:y=0:=mL.1 (sj Oz);subst du;refine Sz1 h0 ?_;exact Qc (by rw[<-hg,Kda]) rfl
theorem Ao(n:Bool)(x:Nat):Qd Tryz.prog 188 [.bool n,PV.num x] (· =PV.zz (if n then -(x:Int)else x)):=by
 refine aE Qg Tryz.func188 aiZ fun C hP=>?_;refine Sz0 ?_;refine Ar (fun hn=>?_) (fun hn=>?_)
 all_goals
  refine Sz0 ?_;refine cr ?_;refine Sz0 ?_;exact Qc (by rw[<-JA,hn];simp) rfl
theorem ae3{n:Bool}{a:List Nat}(ha:Qk a)(bD:a.length<2^42):Qd Tryz.prog 217 [.bool n,PV.nat a] (· =PV.zz (zv n a)):=by
 refine aE Qg Tryz.func217 aiY fun C hP=>?_;refine Sz0 ?_;refine Qb hP (CK ha bD) ?_;refine Sz0 ?_;refine Ar (fun hn=>?_) (fun hn=>?_)
 all_goals
  refine Sz0 ?_;refine cr ?_;refine Sz0 ?_;exact Qc (by have:=JA n (val a);rw[hn]at this;subst hn;simpa[zv]using this) rfl
theorem Q9z{n:Bool}{a:List Nat}(ha:Qk a)(bD:a.length<2^42):Qd Tryz.prog 191 [PV.zi n a] (· =PV.zz (zv n a)):=by refine aE Qg Tryz.func191 ai1 fun C hP=>?_;refine Sz0 ?_;refine Qb hP (ae3 ha bD) ?_;refine Sz0 ?_;refine cr ?_;refine Sz0 ?_;exact Qc rfl rfl
theorem Gr{n:Bool}{a:List Nat}(ha:Qk a)(bD:a.length<2^40):Qd Tryz.prog 109 [PV.zi n a] (· = .int .i64 (gf (zv n a))):=by
 refine aE Qg Tryz.func109 ai3 fun C hP=>?_;refine Sz0 ?_;refine nu hP (Po ha bD) rfl rfl rfl ?_;rintro _ ⟨k,rfl,hk⟩;refine Sz0 ?_;rw[J7];refine Qa (fun hz=>?_) (fun hz=>?_)
 ·refine Sz0 ?_;rw[if_pos (hk.1 Oz)];exact Qc rfl rfl
 ·rw[if_neg (fun h=>hz (by rw[hk.2 h];rfl))];refine Sz0 ?_;refine CD (fun hn=>?_) (fun hn=>?_)
  ·refine Sz0 ?_;exact Qc (by simp[hn]) rfl
  ·refine Sz0 ?_;exact Qc (by simp[hn]) rfl
theorem Vm{a b:List Nat}(ha:Qk a)(hb:Qk b)(bD:a.length<2^40)(dJ:b.length<2^40):Qd Tryz.prog 233 [PV.nat a,PV.nat b] (· = .int .i64 (ji (val a) (val b))):=by refine aE Qg Tryz.func233 ai5 fun C hP=>?_;refine Sz0 ?_;refine Qb hP (Hg ha hb bD dJ) ?_;refine Sz0 ?_;exact Qc rfl rfl
theorem adp{n m:Bool}{a b:List Nat}(ha:Qk a)(hb:Qk b)(bD:a.length<2^40)(dJ:b.length<2^40):Qd Tryz.prog 224 [PV.zi n a,PV.zi m b] (· = .int .i64 (ep (zv n a) (zv m b))):=by
 have hx:=J7 n a;have hy:=J7 m b;refine aE Qg Tryz.func224 ai4 fun C hP=>?_;refine Sz0 ?_;refine Qb hP (Gr ha bD) ?_;refine Sz0 ?_;refine Qb hP (Gr hb dJ) ?_;refine Sz0 ?_;refine Qa (fun hs=>?_) (fun hs=>?_)
 ·refine Sz0 ?_;exact Qc (by rw[aik hs]) rfl
 refine Sz0 ?_;refine Qa (fun cS=>?_) (fun cS=>?_)
 ·refine Sz0 ?_;exact Qc (by rw[ail cS]) rfl
 have he:gf (zv n a)=gf (zv m b):=by omega
 refine Sz0 ?_;refine Qa (fun xP=>?_) (fun xP=>?_)
 ·refine Sz0 ?_;refine Qb hP (Vm hb ha dJ bD) ?_;refine Sz0 ?_;exact Qc (by rw[aim (Di.1 xP) (Di.1 (he▸xP))]) rfl
 ·refine Sz0 ?_;refine Qb hP (Vm ha hb bD dJ) ?_;refine Sz0 ?_;exact Qc (by rw[ain (fun h=>xP (Di.2 h)) (fun h=>xP (he▸Di.2 h))]) rfl
theorem Wl{n m:Bool}{a b:List Nat}(ha:Qk a)(hb:Qk b)(bD:a.length<2^40)(dJ:b.length<2^40):Qd Tryz.prog 213 [PV.zi n a,PV.zi m b] (· =PV.zz (zv n a+zv m b)):=by
 refine aE Qg Tryz.func213 ai6 fun C hP=>?_;refine Sz0 ?_;refine CD (fun gM=>?_) (fun gM=>?_)
 ·have gM:n=m:=by simpa using gM
  subst gM;refine Sz0 ?_;refine Qb hP (agW ha hb bD dJ) ?_;refine Sz0 ?_;refine Qb hP (Ao n (val a+val b)) ?_;refine Sz0 ?_;refine cr ?_;refine Sz0 ?_;exact Qc (congrArg PV.zz (by unfold zv;split<;>simp<;>omega)) rfl
 have gM:n= !m:=by cases n<;>cases m<;>simp_all
 subst gM;refine Sz0 ?_;refine Qb hP (Hg ha hb bD dJ) ?_;refine Sz0 ?_;refine Qa (fun hc=>?_) (fun hc=>?_)
 ·rw[Hb]at hc;refine Sz0 ?_;refine Qb hP (Ra hb ha dJ bD Oz) ?_;refine Sz0 ?_;refine Qb hP (Ao m (val b-val a)) ?_;refine Sz0 ?_;refine cr ?_;refine Sz0 ?_;exact Qc (congrArg PV.zz (by unfold zv;cases m<;>simp<;>omega)) rfl
 ·rw[Hb]at hc;refine Sz0 ?_;refine Qb hP (Ra ha hb bD dJ Oz) ?_;refine Sz0 ?_;refine Qb hP (Ao (!m) (val a-val b)) ?_;refine Sz0 ?_;refine cr ?_;refine Sz0 ?_;exact Qc (congrArg PV.zz (by unfold zv;cases m<;>simp<;>omega)) rfl
theorem uO{n m:Bool}{a b:List Nat}(ha:Qk a)(hb:Qk b)(bD:a.length<2^40)(dJ:b.length<2^40):Qd Tryz.prog 173 [PV.zi n a,PV.zi m b] (· =PV.zz (zv n a*zv m b)):=by refine aE Qg Tryz.func173 ai7 fun C hP=>?_;refine Sz0 ?_;refine Qb hP (Hh ha hb bD dJ) ?_;refine Sz0 ?_;refine Qb hP (Ao (!(n==m)) (val a*val b)) ?_;refine Sz0 ?_;refine cr ?_;refine Sz0 ?_;exact Qc (congrArg PV.zz (by unfold zv;cases n<;>cases m<;>simp[Int.neg_mul,Int.mul_neg])) rfl
theorem Hi{a:List Nat}(hl:a.length<2^43):Qd Tryz.prog 175 [PV.nat a] (· = .bool (decide (a=[1]))):=by
 refine aE Qg Tryz.func175 ai8 fun C hP=>?_;refine Sz0 ?_;refine Qa (fun hz=>?_) (fun hz=>?_)
 ·obtain⟨x,xs,rfl⟩:∃x xs,a=x::xs:=by
   match a,hz with
   |x::xs,_=>exact⟨x,xs,rfl⟩
  simp+decide (disch:=first|omega|rfl|(simp+decide only[go_sem,Kba,List.getElem_cons_zero]<;>rfl)|fail) only[go_sem,Kba,List.getElem_cons_zero];refine Qc (congrArg PV.bool ?_) rfl;rw[<-Bool.decide_and];exact decide_eq_decide.2 ⟨fun⟨h1,h2⟩=>by
   have:xs=[]:=KaI.1 Oz;subst this;congr 1;omega,fun h=>by
   injection h with h1 h2;subst h1 h2;simp⟩
 ·have:a=[]:=KaI.1 Oz;subst this;refine Sz0 ?_;exact Qc rfl rfl
theorem Vn(x:Nat):(ao x=[1])↔x=1:=⟨fun h=>by have:=Qy x;rw[h]at this;simpa[val]using this.symm,fun h=>by rw[h,uW]⟩
theorem JI{x:Nat}(hl:(ao x).length<2^43):Qd Tryz.prog 175 [PV.num x] (· = .bool (decide (x=1))):=by
 have:=Hi hl
 rwa[decide_eq_decide.2 (Vn x)]at this
theorem GZ:Qd Tryz.prog 128 [] (· =PV.nat [1]):=by refine aE Qg Tryz.func128 ai9 fun C hP=>?_;refine Sz0 ?_;exact Qc rfl rfl
theorem Wm{x y:Nat}(hx:(ao x).length<2^38)(hy:(ao y).length<2^38)(h0:y≠0):Qd Tryz.prog 192 [PV.num x,PV.num y] (· = .aH [PV.num (x/y),PV.num (x%y),.int .i64 0]):=by
 have:=KW (Qm x) (Qm y) hx hy
 rwa[Qy,Qy,if_neg h0]at this
theorem ajo{x y:Nat}(hx:(ao x).length<2^38)(hy:(ao y).length<2^38):Qd Tryz.prog 186 [PV.num x,PV.num y] (· =PV.num (Nat.gcd x y)):=by
 have:=Rb (Qm x) (Qm y) hx hy
 rwa[Qy,Qy]at this
theorem KJ{n:Bool}{a d:List Nat}(ha:Qk a)(hd:Qk d)(bD:a.length<2^38)(lP:d.length<2^38):Qd Tryz.prog 129 [PV.zi n a,PV.nat d] (· =PV.rat (rv n a d)):=by
 have iq:=cq ha;have vR:=cq hd;rw[<-kJ n a]at iq;unfold rv;unfold nl at iq vR;refine aE Qg Tryz.func129 aja fun C hP=>?_;refine Sz0 ?_;refine Qb hP (CK hd Oz) ?_;refine Sz0 ?_;refine Qb hP (Q9z ha Oz) ?_;refine Sz0 ?_;generalize zv n a=z at *
 generalize val d=D at *
 have hlen:∀x:Nat,((ao x).length:Int)=0↔x=0:=fun x=>by rw[<-mL,<-List.length_eq_zero_iff];omega
 have W4:∀ {fr:Fr} {hp:HP},(D=0∨z=0)->Ae (· =PV.rat (mkRat z D)) (.agg [.bool false,.au,PV.nat [1]]):=fun h=>by rw[Vh h];exact pg Sl rfl
 refine fb (fun hz=>?_) (fun hz=>?_)
 ·refine Sz0 ?_;refine Qb hP GZ ?_;refine Sz0 ?_;refine cr ?_;refine Sz0 ?_;exact W4 (fr:=bU) (hp:=aA) (.inl ((hlen _).1 hz))
 refine Sz0 ?_;refine Qa (fun BU=>?_) (fun BU=>?_)
 ·refine Sz0 ?_;refine Qb hP GZ ?_;refine Sz0 ?_;refine cr ?_;refine Sz0 ?_;exact W4 (fr:=bU) (hp:=aA) (.inr (Int.natAbs_eq_zero.1 ((hlen _).1 BU)))
 have hD:D≠0:=fun h=>hz ((hlen _).2 h);refine Sz0 ?_;refine Qb hP (JI Oz) ?_;refine Sz0 ?_;refine Qa (fun h1=>?_) (fun h1=>?_)
 ·subst h1;refine Sz0 ?_;refine cr ?_;refine Sz0 ?_;exact Qc (by rw[<-aoh];simp only[uW]) rfl
 refine Sz0 ?_;refine Qb hP (ajo Oz Oz) ?_;have rT:Nat.gcd z.natAbs D≠0:=fun h=>hD (Nat.eq_zero_of_gcd_eq_zero_right h);have xD:(ao (Nat.gcd z.natAbs D)).length<2^38:=by have:=iL (Kdj z.natAbs (Kbg hD));unfold nl at this;omega
 have fS:=Tq (z:=z) hD;generalize Nat.gcd z.natAbs D=g at *
 refine Sz0 ?_;refine Qb hP (JI Oz) ?_;refine Sz0 ?_;refine CD (fun h2=>?_) (fun h2=>?_)
 ·refine Sz0 ?_;refine Qb hP (Wm Oz xD rT) ?_;refine Sz0 ?_;refine Qb hP (Wm Oz xD rT) ?_;refine Sz0 ?_;refine cr ?_;refine Sz0 ?_;exact Qc fS rfl
 ·have:g=1:=by simpa using h2
  subst this;rw[Nat.div_one,Nat.div_one]at fS;refine Sz0 ?_;refine cr ?_;refine Sz0 ?_;exact Qc fS rfl
theorem wA(a:List Nat):Qd Tryz.prog 177 [PV.nat a] (· =PV.zi false a):=by refine aE Qg Tryz.func177 ajc fun C hP=>?_;refine Sz0 ?_;refine cr ?_;refine Sz0 ?_;exact Qc rfl rfl
def amU(k:Nat)(q:Rat)(r:PV):Prop:=∃n a d,r= .aH [PV.zi n a,PV.nat d]/\Qk a/\Qk d/\a.length<=k/\d.length<=k/\val d≠0/\rv n a d=q
theorem tF{n:Bool}{a d:List Nat}{k:Nat}(ha:Qk a)(hd:Qk d)(hk:1<=k)(bD:a.length<=k)(lP:d.length<=k)(qT:k<2^38):Qd Tryz.prog 108 [PV.rr n a d] (amU k (rv n a d)):=by
 refine aE Qg Tryz.func108 ajb fun C hP=>?_;refine Sz0 ?_;refine nu hP (Po hd Oz) rfl rfl rfl ?_;rintro _ ⟨b,rfl,hb⟩;refine Sz0 ?_;refine Qa (fun hz=>?_) (fun hz=>?_)
 ·have h0:val d=0:=hb.1 Oz;refine Sz0 ?_;refine Qb hP GZ ?_;refine Sz0 ?_;refine mO ?_;refine Sz0 ?_;refine⟨⟨rfl,rfl⟩,.aH [PV.zi false [],PV.nat [1]],⟨⟨rfl,trivial,trivial⟩,Ql _,trivial⟩,false,[],[1],rfl,qq,by intro x hx;simp at hx;omega,by simp,by simpa using hk,by simp[val],?_⟩;unfold rv;rw[h0,Rat.mkRat_zero];rfl
 ·have h0:val d≠0:=fun h=>hz (by rw[hb.2 h];rfl);refine Sz0 ?_;refine lk ?_ ?_
  all_goals
   refine Sz0 ?_;refine mO ?_;refine Sz0 ?_;exact⟨⟨rfl,rfl⟩,.aH [PV.zi n a,PV.nat d],⟨Ql _,Ql _,trivial⟩,n,a,d,rfl,ha,hd,bD,lP,h0,rfl⟩
theorem agX{z:Int}{m:Bool}{b:List Nat}(hb:Qk b)(bD:nl z.natAbs<2^40)(dJ:b.length<2^40):Qd Tryz.prog 213 [PV.zz z,PV.zi m b] (· =PV.zz (z+zv m b)):=by
 have:=Wl (n:=decide (z<0)) (a:=ao z.natAbs) (m:=m) (Qm _) hb bD dJ
 rwa[ow]at this
theorem Rc{n m:Bool}{a b:List Nat}(ha:Qk a)(hb:Qk b)(bD:a.length<2^39)(dJ:b.length<2^39):Qd Tryz.prog 176 [.sl 2 [PV.zi n a,PV.zi m b]] (· =PV.zz (zv n a+zv m b)):=by
 have iq:=cq ha;rw[<-kJ n a]at iq;refine aE Qg Tryz.func176 aiG fun C hP=>?_;refine Sz0 ?_;refine Qi dV [(5,5),(8,15)] [5] (fun k J hp=>∃i,k=2-i/\i<=2/\J 8= .int .i64 (i:Nat)/\hp 2=some ⟨2,49,[.agg [.bool false,.au]],false⟩/\hp 3=some ⟨2,49,[if i=0 then .agg [.bool false,.au]else if i=1 then PV.zz (zv n a)else PV.zz (zv n a+zv m b)],false⟩) 2 ?_ ?_
 ·refine⟨0,rfl,by omega,?_⟩;refine Sz0 ?_;simp
 rintro _ J h ⟨i,rfl,hi,h8,dI,cb⟩;refine Sz1 h8 ?_;refine Qa (fun hg=>?_) (fun hg=>?_)
 ·have dZ:i=0∨i=1:=by have:i<2:=Oz;omega
  rcases dZ with rfl|rfl
  ·have Eb:J 8= .int .i64 0:=h8;refine Sz3 Eb dI cb ?_;refine Qb hP ((Wl (n:=false) (a:=[]) (m:=n) (b:=a) qq ha (by simp) Oz).le (args':=[.agg [.bool false,.au],PV.zi n a]) ⟨⟨rfl,trivial,trivial⟩,Ql _,trivial⟩) ?_;refine Sz3 Eb dI cb ?_;refine Qf 1 Oz ⟨1,rfl,by omega,?_⟩;refine Sz2 dI cb ?_;simp[zv,val]
  ·rw[if_neg Oz,if_pos rfl]at cb;have Eb:J 8= .int .i64 1:=h8;refine Sz3 Eb dI cb ?_;refine Qb hP (agX (z:=zv n a) hb Oz Oz) ?_;refine Sz3 Eb dI cb ?_;refine Qf 0 Oz ⟨2,rfl,by omega,?_⟩;refine Sz2 dI cb ?_;simp
 ·obtain rfl:i=2:=by simp at hg;omega
  rw[if_neg Oz,if_neg Oz]at cb;refine Sz3 h8 dI cb ?_;refine cr ?_;refine Sz2 dI cb ?_;exact Qc rfl rfl
theorem GF{z:Int}{d:List Nat}(hd:Qk d)(hz:nl z.natAbs<2^38)(lP:d.length<2^38):Qd Tryz.prog 129 [PV.zz z,PV.nat d] (· =PV.rat (mkRat z (val d))):=by
 have:=KJ (n:=decide (z<0)) (Qm z.natAbs) hd hz lP
 rwa[rv,ow]at this
theorem Tx{x y:Int}(hx:nl x.natAbs<2^39)(hy:nl y.natAbs<2^39):Qd Tryz.prog 176 [.sl 2 [PV.zz x,PV.zz y]] (· =PV.zz (x+y)):=by
 have:=Rc (n:=decide (x<0)) (m:=decide (y<0)) (Qm x.natAbs) (Qm y.natAbs) hx hy
 rwa[ow,ow]at this
theorem agY{x y:Int}(hx:nl x.natAbs<2^40)(hy:nl y.natAbs<2^40):Qd Tryz.prog 224 [PV.zz x,PV.zz y] (· = .int .i64 (ep x y)):=by
 have:=adp (n:=decide (x<0)) (m:=decide (y<0)) (Qm x.natAbs) (Qm y.natAbs) hx hy
 rwa[ow,ow]at this
structure Raw(k:Nat)(n:Bool)(a d:List Nat):Prop where
 la:Qk a
 ld:Qk d
 sa:a.length<=k
 sd:d.length<=k
 k1:1<=k
theorem fO{q:Rat}{k:Nat}(h:rs q<=k):Raw k (decide (q.num<0)) (ao q.num.natAbs) (ao q.den):=by
 have:=J8 q;unfold rs nl at *
 exact⟨Qm _,Qm _,by omega,by omega,by omega⟩
theorem Raw.rs{n:Bool}{a d:List Nat}{k:Nat}(h:Raw k n a d):FW.rs (rv n a d)<=k:=amz (k:=k) (n:=k) h.la h.ld h.sa h.sd h.k1
theorem LC{n m:Bool}{a d b c:List Nat}{k:Nat}(hp:Raw k n a d)(hq:Raw k m b c)(hk:k<2^36):Qd Tryz.prog 107 [PV.rr n a d,PV.rr m b c] (· =PV.rat (rv n a d+rv m b c)):=by
 refine aE Qg Tryz.func107 aiH fun C hP=>?_;refine Sz0 ?_;refine nu hP (tF hp.la hp.ld hp.k1 hp.sa hp.sd Oz) rfl rfl rfl ?_;rintro _ ⟨n',a',d',rfl,g1,g2,g3,g4,g5,g6⟩;refine Sz0 ?_;refine nu hP (tF hq.la hq.ld hq.k1 hq.sa hq.sd Oz) rfl rfl rfl ?_;rintro _ ⟨m',b',c',rfl,e1,e2,e3,e4,e5,e6⟩;refine Sz0 ?_;refine Qb hP (Hi Oz) ?_;have key:=Rat.mkRat_add_mkRat (zv n' a') (zv m' b') g5 e5;have N5:nl (zv n' a').natAbs<=k:=by rw[kJ];exact Kap (cq g1) g3
 have N6:nl (zv m' b').natAbs<=k:=by rw[kJ];exact Kap (cq e1) e3
 have NV:nl (val d')<=k:=Kap (cq g2) g4;have zR:nl (val c')<=k:=Kap (cq e2) e4;rw[<-g6,<-e6];unfold rv;rw[key];refine Sz0 ?_;refine fN (fun h1=>?_) (fun h1=>?_)
 ·refine Sz0 ?_;refine Qb hP (Hi Oz) ?_;refine Sz0 ?_;refine Qa (fun h2=>?_) (fun h2=>?_)
  ·subst h1 h2;refine Sz0 ?_;refine ln hP (Rc (n:=n') (m:=m') g1 e1 Oz Oz) vv rfl ?_;refine ij ?_;have hs:=tE (zv n' a') (zv m' b');refine Qb hP (GF g2 Oz Oz) ?_;refine ij ?_;refine cr ?_;refine ij ?_;exact Qc (congrArg PV.rat (by simp[val])) rfl
  ·refine Sz0 ?_;refine Qb hP (wA _) ?_;refine Sz0 ?_;refine Qb hP (uO (n:=n') (m:=false) g1 e2 Oz Oz) ?_;refine Sz0 ?_;refine Qb hP (wA _) ?_;refine Sz0 ?_;refine Qb hP (uO (n:=m') (m:=false) e1 g2 Oz Oz) ?_;rw[wD,wD];have h3:=js (zv n' a') (val c');have h4:=js (zv m' b') (val d');have h5:=tE (zv n' a'*(val c':Int)) (zv m' b'*(val d':Int));have h6:=rF (val d') (val c');rw[Kbj]at h3 h4;refine Sz0 ?_;refine ln hP (Tx (x:=zv n' a'*(val c':Int)) (y:=zv m' b'*(val d':Int)) Oz Oz) vv rfl ?_;refine ij ?_;refine Qb hP (Hh g2 e2 Oz Oz) ?_;refine ij ?_;refine Qb hP (GF (z:=zv n' a'*(val c':Int)+zv m' b'*(val d':Int)) (Qm _) Oz (by show nl _<_;omega)) ?_;refine ij ?_;refine cr ?_;refine ij ?_;exact Qc (by rw[Qy]) rfl
 · simp+decide (disch:=try exact D0) only[go_sem]
   refine Qb hP (wA _) ?_;refine Sz0 ?_;refine Qb hP (uO (n:=n') (m:=false) g1 e2 Oz Oz) ?_;refine Sz0 ?_;refine Qb hP (wA _) ?_;refine Sz0 ?_;refine Qb hP (uO (n:=m') (m:=false) e1 g2 Oz Oz) ?_;rw[wD,wD];have h3:=js (zv n' a') (val c');have h4:=js (zv m' b') (val d');have h5:=tE (zv n' a'*(val c':Int)) (zv m' b'*(val d':Int));have h6:=rF (val d') (val c');rw[Kbj]at h3 h4;refine Sz0 ?_;refine ln hP (Tx (x:=zv n' a'*(val c':Int)) (y:=zv m' b'*(val d':Int)) Oz Oz) vv rfl ?_;refine ij ?_;refine Qb hP (Hh g2 e2 Oz Oz) ?_;refine ij ?_;refine Qb hP (GF (z:=zv n' a'*(val c':Int)+zv m' b'*(val d':Int)) (Qm _) Oz (by show nl _<_;omega)) ?_;refine ij ?_;refine cr ?_;refine ij ?_;exact Qc (by rw[Qy]) rfl
end Go.Proofs.YtkoclfmjlolkhaaGreat
namespace Go.FW
open Go
variable {C : Ctx} {ρ : Nat -> Option Nat} {fr aG : Fr} {hp hp' : HP} {w w' : World} {K R : Qh}
theorem HZ{P:Program}{pr:Bool}(hP:C.P=P){g:FuncId}{args bx:List PV}{d:Option Nat}{G:Fr}{aA:HP}{aZ:PV->Fr->HP->Prop}(h:gj P g bx G aA aZ)(gv:Nat->Option Nat)(τ:Nat->Nat)(hh:vp C hp aA gv)
  (uF:∀β γ,gv β=some γ->τ γ=β) (cK:args.map (ch τ)=bx) (iq:∀x∈args,∀γ∈x.refs++x.aQ,∃β,gv β=some γ)
  (hG:∀s,1000000<=s->G s= .undef∨∃s',1000000<=s'/\G s=ch τ (fr s')/\∀γ∈(fr s').refs++(fr s').aQ,∃β,gv β=some γ) (aV:bx.length<=1000000) (NF:pr=true->∀β,gn gv β=none)
  (hK:∀(ρ:Nat->Option Nat) (tmps:Array Value) (w:World),Qv C ρ fr hp tmps w->∀r F H,aZ r F H->(∀ns C2 v w',Qv C2 ns (lF r F) H #[v] w'->(∀β,C2.fx β≠none->H β≠none->True)->True)->∃(eo:Nat->Option Nat) (σ:Nat->Nat) (gJ:Fr) (cz:HP),
   (∀γ β,eo γ=some β->H β≠none/\σ β=γ/\bJ γ=true/\((aR β=true/\gn gv β=some γ)∨(aR β=false/\aR γ=false/\(hp γ=none∨∃bA,gn gv bA=some γ))))/\
   (∀β γ,gn gv β=some γ->aR β=true->eo γ=some β)/\
   (∀γ β,eo γ=some β->cz γ=H β)/\(∀γ,eo γ=none->(∃β,gn gv β=some γ)->cz γ=none)/\(∀γ,eo γ=none->(¬∃β,gn gv β=some γ)->cz γ=hp γ)/\
   (∀s,gJ s= .undef∨
    (d≠some s/\gJ s=fr s/\(∀γ∈(fr s).refs++(fr s).aQ,(¬∃β,gn gv β=some γ)∨∃β hb ax,gn gv β=some γ/\aR β=true/\hp γ=some hb/\H β=some ax/\ax.e=hb.e/\hb.xs.length<=ax.xs.length)/\∀γ e ty xs,fr s= .aC γ e ty xs->¬∃β,gn gv β=some γ)∨
    (d=some s/\gJ s=ch σ r/\∀β∈r.refs++r.aQ,eo (σ β)=some β)∨
    (∃s',1000000<=s'/\(∃γ e ty xs,F s'= .aC γ e ty xs)/\gJ s=ch σ (F s')/\∀β∈(F s').refs++(F s').aQ,eo (σ β)=some β))/\
   K gJ cz):gl C pr (.fn g [] []) args d fr hp K:=by
 subst hP;refine⟨h.1,fun ρ tmps w fv cv av s0 hs h1 h2 h3 _ _ oN=>?_⟩;have e1:fv= #[]:=Kb0 (by simpa using h1);have e2:cv= #[]:=Kb0 (by simpa using h2);subst e1;subst e2;simp only[Array.empty_append,Array.append_empty];refine(h.2 (w9 C ρ fr hp aA tmps w gv hs hh bx.length aV) _ av w rfl rfl rfl (adj hs hh uF h3 cK oN iq hG aV)).mono ?_;rintro e w' ⟨v,ρ',r,F,H,rfl,cS,eY⟩;obtain⟨eo,σ,gJ,cz,a1,a2,a3,a4,a5,a6,a7⟩:=hK ρ tmps w hs r F H eY (fun _ _ _ _ _ _=>trivial);exact⟨v,gJ,cz,rfl,ae0 hs hh cS s0 a1 a2 a3 a4 a5 a6,fun hq=>ae1 hs hh cS (NF hq),a7⟩
def oy(r:PV):Prop:=(r.refs=[]/\r.aQ=[])/\∀σ,ch σ r=r
theorem Ty{gv:Nat->Option Nat}(h:∀β γ,gv β=some γ->eH β=false):gn gv=gv:=by
 funext β;cases hr:eH β with
 |false=>exact wS hr
 |true=>
  unfold gn;rw[if_pos hr];cases hq:gv β with
  |none=>rfl
  |some γ=>have:=h β γ hq;rw[hr]at this;cases this
theorem J9{P:Program}(hP:C.P=P){pr:Bool}{g:FuncId}{args bx:List PV}{d:Option Nat}{G:Fr}{aA:HP}{aZ:PV->Fr->HP->Prop}(h:gj P g bx G aA aZ)(gv:Nat->Option Nat)(τ:Nat->Nat)
  (hR:∀β γ,gv β=some γ->eH β=true/\∃hb,hp γ=some hb/\aA β=some ⟨hb.e,hb.ty,hb.xs,true⟩) (ha:∀β,aA β≠none->∃γ,gv β=some γ) (hi:∀β bA γ,gv β=some γ->gv bA=some γ->β=bA)
  (uF:∀β γ,gv β=some γ->τ γ=β) (cK:args.map (ch τ)=bx) (iq:∀x∈args,∀γ∈x.refs++x.aQ,∃β,gv β=some γ)
  (hG:∀s,1000000<=s->G s= .undef∨∃s',1000000<=s'/\G s=ch τ (fr s')/\∀γ∈(fr s').refs++(fr s').aQ,∃β,gv β=some γ) (aV:bx.length<=1000000)
  (hK:∀r F H,aZ r F H->oy r/\K (dv fr d r) hp):gl C pr (.fn g [] []) args d fr hp K:=by
 have g0:∀β,gn gv β=none:=fun β=>by
  unfold gn;split
  ·rfl
  ·rename_i hr;cases hq:gv β with
   |none=>rfl
   |some γ=>exact absurd (hR β γ hq).1 hr
 have Fq:∀γ:Nat,¬∃β,gn gv β=some γ:=fun γ ⟨β,ae⟩=>by rw[g0 β]at ae;cases ae
 refine HZ hP h gv τ ⟨fun β γ hq=>?_,ha,hi⟩ uF cK iq hG aV (fun _=>g0) (fun ρ tmps w hs r F H eY _=>?_)
 ·obtain⟨h1,hb,h2,h3⟩:=hR β γ hq;refine⟨hb,h2,?_,fun _=>h3,fun h=>by rw[h1]at h;cases h⟩;simp[eH]at h1;simp[bJ];omega
 ·obtain⟨⟨⟨p1,p2⟩,p3⟩,hk⟩:=hK r F H eY;refine⟨fun _=>none,id,dv fr d r,hp,(fun _ _ h=>by cases h),(fun β γ h=>by rw[g0 β]at h;cases h),(fun _ _ h=>by cases h),fun γ _ h=>absurd h (Fq γ),fun _ _ _=>rfl,fun s=>?_,hk⟩;cases d with
  |none=>exact .inr (.inl ⟨(by simp),rfl,fun γ _=>.inl (Fq γ),fun γ _ _ _ _=>Fq γ⟩)
  | some d=>
   by_cases e:s=d
   ·subst e;refine .inr (.inr (.inl ⟨rfl,?_,fun β ae=>by rw[p1,p2]at ae;cases ae⟩));rw[p3];simp[dv,af]
   ·exact .inr (.inl ⟨by simp;exact fun h=>e h.symm,by simp[dv,af,e],fun γ _=>.inl (Fq γ),fun γ _ _ _ _=>Fq γ⟩)
def JJ(P:Program)(f:FuncId)(args:List PV)(hb1 hb2:HB)(aZ:PV->List PV->Prop):Prop:=
 gj P f args (fun _=>.undef) (Qj (Qj aA 1000000 hb1) 1500001 ⟨hb2.e,hb2.ty,hb2.xs,true⟩) fun r F H=>oy r/\∃xs,H 1000000=some ⟨hb1.e,hb1.ty,xs,false⟩/\xs.length=hb1.xs.length/\aZ r xs
theorem amV{P:Program}(hP:C.P=P){g:FuncId}{args bx:List PV}{d:Option Nat}{dY ya:Nat}{hb1 hb2:HB}{aZ:PV->List PV->Prop}(h:JJ P g bx hb1 hb2 aZ)(h1:hp dY=some hb1)(h2:hp ya=some hb2)(aJ:dY≠ya)(f1:hb1.fz=false)(n1:hb1.xs≠[])(B1:bJ dY=true)
  (cK:args.map (ch fun x=>if x=dY then 1000000 else if x=ya then 1500001 else x)=bx) (iq:∀γ∈args.flatMap (fun x=>x.refs++x.aQ),γ=dY∨γ=ya) (aV:bx.length<=1000000)
  (hK:∀r xs,xs.length=hb1.xs.length->aZ r xs->K (dv fr d r) (Qj hp dY ⟨hb1.e,hb1.ty,xs,false⟩)):gl C false (.fn g [] []) args d fr hp K:=by
 obtain⟨gv,pN⟩:∃f:Nat->Option Nat,f=fun x=>if x=1000000 then some dY else if x=1500001 then some ya else none:=⟨_,rfl⟩
 have ga:∀β γ,gv β=some γ->(β=1000000/\γ=dY)∨(β=1500001/\γ=ya):=fun β γ hq=>by
  rw[pN]at hq;simp only at hq;split at hq
  ·cases hq;rename_i e;exact .inl ⟨e,rfl⟩
  ·split at hq
   ·cases hq;rename_i e;exact .inr ⟨e,rfl⟩
   ·cases hq
 have g0:gv 1000000=some dY:=by rw[pN];rfl
 have g1:gv 1500001=some ya:=by rw[pN];rfl
 have y0:aR 1000000=true:=by decide
 have r0:eH 1000000=false:=by decide
 have r1:eH 1500001=true:=by decide
 have vG:∀β γ,gn gv β=some γ->β=1000000/\γ=dY:=fun β γ hq=>by
  obtain⟨k1,k2⟩:=AY hq;rcases ga β γ k2 with h|⟨rfl,_⟩
  ·exact h
  ·rw[r1]at k1;cases k1
 have Ea:gn gv 1000000=some dY:=(wS r0).trans g0;refine HZ hP h gv _ ⟨fun β γ hq=>?_,fun β hq=>?_,fun β bA γ q1 q2=>?_⟩ (fun β γ hq=>?_) cK (fun x hx γ aj=>?_) (fun s _=>.inl rfl) aV (fun hq=>by cases hq) (fun ρ tmps w hs r F H aA _=>?_)
 ·rcases ga β γ hq with⟨rfl,rfl⟩|⟨rfl,rfl⟩
  ·exact⟨hb1,h1,by decide,(fun h=>by rw[r0]at h;cases h),fun _=>⟨by simp[Qj],f1,B1,fun h=>by rw[y0]at h;cases h⟩⟩
  ·exact⟨hb2,h2,by decide,(fun _=>by simp[Qj]),fun h=>by rw[r1]at h;cases h⟩
 ·by_cases e:β=1500001
  ·subst e;exact⟨_,g1⟩
  ·by_cases e2:β=1000000
   ·subst e2;exact⟨_,g0⟩
   ·simp[Qj,FW.aA,e,e2]at hq
 ·rcases ga β γ q1 with⟨rfl,rfl⟩|⟨rfl,rfl⟩<;>rcases ga bA _ q2 with⟨rfl,e⟩|⟨rfl,e⟩
  ·rfl
  ·exact absurd e aJ
  ·exact absurd e.symm aJ
  ·rfl
 ·rcases ga β γ hq with⟨rfl,rfl⟩|⟨rfl,rfl⟩
  ·simp
  ·rw[if_neg (fun e=>aJ e.symm),if_pos rfl]
 ·rcases iq γ (Kat.2 ⟨x,hx,aj⟩)with rfl|rfl
  ·exact⟨_,g0⟩
  ·exact⟨_,g1⟩
 ·obtain⟨⟨⟨p1,p2⟩,p3⟩,xs,k1,k2,k4⟩:=aA;obtain⟨eo,pM⟩:∃f:Nat->Option Nat,f=fun γ=>if γ=dY then some 1000000 else none:=⟨_,rfl⟩
  have ea:∀γ β,eo γ=some β->γ=dY/\β=1000000:=fun γ β hq=>by
   rw[pM]at hq;simp only at hq;split at hq
   ·cases hq;rename_i e;exact⟨e,rfl⟩
   ·cases hq
  have y6:eo dY=some 1000000:=by rw[pM];simp
  refine⟨eo,fun x=>dY,dv fr d r,Qj hp dY ⟨hb1.e,hb1.ty,xs,false⟩,fun γ β hq=>?_,fun β γ hq _=>?_,fun γ β hq=>?_,fun γ hq hg=>?_,fun γ hq hg=>?_,fun s=>?_,hK r xs k2 k4⟩
  ·obtain⟨rfl,rfl⟩:=ea γ β hq;exact⟨by simp[k1],rfl,B1,.inl ⟨y0,Ea⟩⟩
  ·obtain⟨rfl,rfl⟩:=vG β γ hq;exact y6
  ·obtain⟨rfl,rfl⟩:=ea γ β hq;rw[k1];simp[Qj]
  ·obtain⟨β,ae⟩:=hg;obtain⟨rfl,rfl⟩:=vG β γ ae;rw[y6]at hq;cases hq
  ·have:γ≠dY:=fun e=>by subst e;rw[y6]at hq;cases hq
   simp[Qj,this]
  ·have bb:=hs.cN s;have hn:∀γ e ty xs,fr s= .aC γ e ty xs->¬∃β,gn gv β=some γ:=fun γ e ty xs e0 ⟨β,ae⟩=>by rw[e0]at bb;obtain⟨_,_,b,hb,_,_,_,l2,l3,_⟩:=bb;obtain⟨rfl,rfl⟩:=vG β γ ae;rw[h1]at l2;cases l2;exact n1 l3
   have ho:∀γ∈(fr s).refs++(fr s).aQ,(¬∃β,gn gv β=some γ)∨∃β hb ax,gn gv β=some γ/\aR β=true/\hp γ=some hb/\H β=some ax/\ax.e=hb.e/\hb.xs.length<=ax.xs.length:=fun γ _=>by
    by_cases e:γ=dY
    ·subst e;exact .inr ⟨_,_,_,Ea,y0,h1,k1,rfl,by simp[k2]⟩
    ·left;rintro⟨β,ae⟩;exact e (vG β γ ae).2
   cases d with
   |none=>exact .inr (.inl ⟨(by simp),rfl,ho,hn⟩)
   | some d=>
    by_cases e:s=d
    ·subst e;refine .inr (.inr (.inl ⟨rfl,?_,fun β ae=>by rw[p1,p2]at ae;cases ae⟩));rw[p3];simp[dv,af]
    ·exact .inr (.inl ⟨by simp;exact fun h=>e h.symm,by simp[dv,af,e],ho,hn⟩)
def vq(nm:Nat->Bool)(p:PV):PV:=if(p.refs++p.aQ).any nm then .undef else p
def gw(nm:Nat->Bool)(fr:Fr):Fr:=fun s=>vq nm (fr s)
def my(nm ex:Nat->Bool)(H hp:HP):HP:=fun x=>if ex x then H x else if nm x then none else hp x
def mw(S:List Nat)(F fr:Fr):Fr:=fun s=>if S.contains s then F s else fr s
theorem TZ(p:PV):dW id p=p:=Tw fun _ _=>rfl
theorem T'{p:PV}(h:∀γ e ty xs,p≠ .aC γ e ty xs):ch id p=p:=by
 have hm:∀l:List PV,l.map (dW id)=l:=fun l=>by
  conv=>rhs;rw[<-List.map_id l]
  exact KaJ fun x _=>TZ x
 cases p with
 |aC γ e ty xs=>exact absurd rfl (h _ _ _ _)
 |fn f a b=>simp only[ch,hm]
 |bo cs=>simp only[ch,hm]
 |dX cs=>simp only[ch,hm]
 |_=>rfl
def Jg(xs:List PV):Prop:=∀x∈xs,fo x.aS=x
theorem St{γ e ty:Nat}{xs:List PV}(h:Jg xs):ch id (.aC γ e ty xs)= .aC γ e ty xs:=by
 simp only[ch,id];congr 1;conv=>rhs;rw[<-List.map_id xs]
 refine KaJ fun x hx=>?_;have:x.aS.map (dW id)=x.aS:=by
  conv=>rhs;rw[<-List.map_id x.aS]
  exact KaJ fun y _=>TZ y
 rw[this];exact h x hx
theorem Bd{P:Program}{pr:Bool}(hP:C.P=P){g:FuncId}{args bx:List PV}{d:Option Nat}{G:Fr}{jn:HP}{aZ:PV->Fr->HP->Prop}(h:gj P g bx G jn aZ)(nm ex:Nat->Bool)(S:List Nat)
  (gM:∀x,nm x=true->∃hb,hp x=some hb/\hb.fz=false/\2000000<=x) (X4:∀x,jn x=if nm x then hp x else none) (cK:args=bx) (aV:bx.length<=1000000)
  (bc:∀x∈args,∀γ e ty xs,x≠ .aC γ e ty xs) (iq:∀γ∈args.flatMap (fun x=>x.refs++x.aQ),nm γ=true)
  (hG:∀s,1000000<=s->G s= .undef∨∃γ e ty xs,G s=fr s/\fr s= .aC γ e ty xs/\Jg xs/\∀γ∈(fr s).refs++(fr s).aQ,nm γ=true)
  (hex:∀x,ex x=true->(hp x=none∨nm x=true)/\2000000<=x) (NF:pr=true->∀x,nm x=false)
  (hK:∀r F H,aZ r F H->(∀x,ex x=true->H x≠none)/\(∀γ e ty xs,r≠ .aC γ e ty xs)/\(∀β∈r.refs++r.aQ,ex β=true)/\(∀s∈S,1000000<=s/\(∃γ e ty xs,F s= .aC γ e ty xs/\Jg xs)/\∀β∈(F s).refs++(F s).aQ,ex β=true)/\K (mw S F (dv (gw nm fr) d r)) (my nm ex H hp)):
  gl C pr (.fn g [] []) args d fr hp K:=by
 obtain⟨gv,pN⟩:∃f:Nat->Option Nat,f=fun x=>if nm x then some x else none:=⟨_,rfl⟩
 have ga:∀β γ,gv β=some γ->β=γ/\nm γ=true:=fun β γ hq=>by
  rw[pN]at hq;simp only at hq;split at hq
  ·cases hq;rename_i e;exact⟨rfl,e⟩
  ·cases hq
 have gb:∀γ,nm γ=true->gv γ=some γ:=fun γ aj=>by rw[pN];simp[aj]
 have gN:∀γ,(∃β,gv β=some γ)->nm γ=true:=fun γ ⟨β,ae⟩=>(ga β γ ae).2;have gr:∀β γ,gv β=some γ->eH β=false:=fun β γ hq=>by obtain⟨rfl,hn⟩:=ga β γ hq;obtain⟨_,_,_,k3⟩:=gM β hn;simp[eH];omega
 refine HZ hP h gv id ⟨fun β γ hq=>?_,fun β hq=>?_,fun β bA γ q1 q2=>?_⟩ (fun β γ hq=>(ga β γ hq).1.symm) ?_ (fun x hx γ aj=>⟨γ,gb γ (iq γ (Kat.2 ⟨x,hx,aj⟩))⟩) (fun s hs=>?_) aV (fun hq β=>by rw[Ty gr,pN];simp only;rw[NF hq β];rfl) (fun ρ tmps w hs r F H eY _=>?_)
 ·obtain⟨rfl,hn⟩:=ga β γ hq;obtain⟨hb,k1,k2,k3⟩:=gM β hn;exact⟨hb,k1,by simp[bJ];omega,(fun h=>by simp[eH]at h;omega),fun _=>⟨by rw[X4,if_pos hn];exact k1,k2,by simp[bJ];omega,fun _=>by simp[aR];omega⟩⟩
 ·refine⟨β,gb β ?_⟩;cases hn:nm β with
  |true=>rfl
  |false=>rw[X4,hn]at hq;simp at hq
 ·rw[(ga β γ q1).1,(ga bA γ q2).1]
 ·rw[<-cK];conv=>rhs;rw[<-List.map_id args]
  exact KaJ fun x hx=>T' (bc x hx)
 ·rcases hG s hs with e|⟨γ,e,ty,xs,e1,e2,e3,e4⟩
  ·exact .inl e
  ·refine .inr ⟨s,hs,?_,fun γ aj=>⟨γ,gb γ (e4 γ aj)⟩⟩;rw[e1,e2,St e3]
 ·rw [Ty gr];obtain⟨a1,a2,a3,a4,a5⟩:=hK r F H eY;obtain⟨eo,pM⟩:∃f:Nat->Option Nat,f=fun x=>if ex x then some x else none:=⟨_,rfl⟩
  have ea:∀γ β,eo γ=some β->γ=β/\ex γ=true:=fun γ β hq=>by
   rw[pM]at hq;simp only at hq;split at hq
   ·cases hq;rename_i e;exact⟨rfl,e⟩
   ·cases hq
  have eb:∀γ,ex γ=true->eo γ=some γ:=fun γ aj=>by rw[pM];simp[aj]
  have en:∀γ,eo γ=none->ex γ=false:=fun γ aj=>by
   cases hq:ex γ with
   |false=>rfl
   |true=>rw[eb γ hq]at aj;cases aj
  refine⟨eo,id,mw S F (dv (gw nm fr) d r),my nm ex H hp,fun γ β hq=>?_,fun β γ hq hy=>?_,fun γ β hq=>?_,fun γ hq hg=>?_,fun γ hq hg=>?_,fun s=>?_,a5⟩
  ·obtain⟨rfl,he⟩:=ea γ β hq;obtain⟨k1,k2⟩:=hex γ he;exact⟨a1 γ he,rfl,by simp[bJ];omega,.inr ⟨by simp[aR];omega,by simp[aR];omega,k1.imp id fun hn=>⟨γ,gb γ hn⟩⟩⟩
  ·obtain⟨rfl,hn⟩:=ga β γ hq;obtain⟨_,_,_,k3⟩:=gM β hn;simp[aR]at hy;omega
  ·obtain⟨rfl,he⟩:=ea γ β hq;simp[my,he]
  ·simp[my,en γ hq,gN γ hg]
  ·have:nm γ=false:=by
    cases hn:nm γ with
    |false=>rfl
    |true=>exact absurd ⟨γ,gb γ hn⟩ hg
   simp[my,en γ hq,this]
  ·unfold mw;by_cases hS:S.contains s=true
   ·rw[if_pos hS];obtain⟨b1,⟨γ,e,ty,xs,b2,b3⟩,b4⟩:=a4 s (by simpa using hS);refine .inr (.inr (.inr ⟨s,b1,⟨γ,e,ty,xs,b2⟩,?_,fun β ae=>eb β (b4 β ae)⟩));rw[b2,St b3]
   ·rw[if_neg hS];have B5:d≠some s->gw nm fr s= .undef∨(d≠some s/\gw nm fr s=fr s/\(∀γ∈(fr s).refs++(fr s).aQ,(¬∃β,gv β=some γ)∨∃β hb ax,gv β=some γ/\aR β=true/\hp γ=some hb/\H β=some ax/\ax.e=hb.e/\hb.xs.length<=ax.xs.length)/\∀γ e ty xs,fr s= .aC γ e ty xs->¬∃β,gv β=some γ):=fun hds=>by
     unfold gw vq;split
     ·exact .inl rfl
     ·rename_i lg;have X3:∀γ∈(fr s).refs++(fr s).aQ,¬∃β,gv β=some γ:=fun γ aj hg=>lg (Ka6.2 ⟨γ,aj,gN γ hg⟩);exact .inr ⟨hds,rfl,fun γ aj=>.inl (X3 γ aj),fun γ e ty xs e0=>X3 γ (by rw[e0];simp[PV.aQ])⟩
    cases d with
    |none=>
     simp only[dv];rcases B5 (by simp)with h|h
     ·exact .inl h
     ·exact .inr (.inl h)
    | some d=>
     by_cases e:s=d
     ·subst e;refine .inr (.inr (.inl ⟨rfl,?_,fun β ae=>eb β (a3 β ae)⟩));rw[T' a2];simp[dv,af]
     ·have e1:dv (gw nm fr) (some d) r s=gw nm fr s:=by simp[dv,af,e]
      rw[e1];rcases B5 (by simp;exact fun h=>e h.symm)with h|h
      ·exact .inl h
      ·exact .inr (.inl h)
end Go.FW
namespace Go.FW
open Go
variable {C : Ctx} {ρ : Nat -> Option Nat} {fr aG : Fr} {hp : HP} {w : World} {K R : Qh}
theorem agZ{B:List Nat}{F:Fr}{β δ:Nat}(ae:B.contains β=true)(h2:β<1000000):tz β δ (dk B F)=dk B F:=ah4 (.inl ae) (.inl h2)
theorem au8:
  (∀(σ:Nat->Nat)(k:IntKind)(n:Int),ch σ (.int k n)= .int k n)/\
  (∀(σ:Nat->Nat)(b:Bool),ch σ (.bool b)= .bool b)/\
  (∀(σ:Nat->Nat)(e:Nat)(xs:List PV),ch σ (.sl e xs)= .sl e xs)/\
  (∀(σ:Nat->Nat)(cs:List PV),ch σ (.agg cs)= .agg cs)/\
  (∀(σ:Nat->Nat)(cs:List PV),ch σ (.aH cs)= .aH cs)/\
  (∀(σ:Nat->Nat)(cs:List PV),ch σ (.pt cs)= .pt cs)/\
  (∀(σ:Nat->Nat),ch σ .au= .au)/\
  (∀(σ:Nat->Nat),ch σ .undef= .undef)/\
  (∀(σ:Nat->Nat)(β o n:Nat),ch σ (.aB β o n)= .aB (σ β) o n)/\
  (∀(σ:Nat->Nat)(β o n:Nat),ch σ (.mp β o n)= .mp (σ β) o n)/\
  (∀(σ:Nat->Nat)(β o n:Nat),ch σ (.aI β o n)= .aI (σ β) o n)/\
  (∀(σ:Nat->Nat)(β o n:Nat),ch σ (.np β o n)= .np (σ β) o n)/\
  (∀(σ:Nat->Nat)(cs:List PV),ch σ (.bo cs)= .bo (cs.map (dW σ))):=by
 refine⟨?_,?_,?_,?_,?_,?_,?_,?_,?_,?_,?_,?_,?_⟩<;>intros<;>rfl
theorem au7:
  (∀(σ:Nat->Nat)(k:IntKind)(n:Int),dW σ (.int k n)= .int k n)/\
  (∀(σ:Nat->Nat)(b:Bool),dW σ (.bool b)= .bool b)/\
  (∀(σ:Nat->Nat)(e:Nat)(xs:List PV),dW σ (.sl e xs)= .sl e xs)/\
  (∀(σ:Nat->Nat),dW σ .au= .au)/\
  (∀(σ:Nat->Nat),dW σ .undef= .undef)/\
  (∀(σ:Nat->Nat)(β o n:Nat),dW σ (.aB β o n)= .aB (σ β) o n)/\
  (∀(σ:Nat->Nat)(β o n:Nat),dW σ (.aI β o n)= .aI (σ β) o n):=by
 refine⟨?_,?_,?_,?_,?_,?_,?_⟩<;>intros<;>rfl
theorem abR:
  (∀(γ:Nat)(k:IntKind)(n:Int),iQ γ (.int k n)= .int k n)/\
  (∀(γ:Nat)(b:Bool),iQ γ (.bool b)= .bool b)/\
  (∀(γ e:Nat)(xs:List PV),iQ γ (.sl e xs)= .sl e xs)/\
  (∀(γ:Nat)(cs:List PV),iQ γ (.agg cs)= .agg cs)/\
  (∀(γ:Nat)(cs:List PV),iQ γ (.aH cs)= .aH cs)/\
  (∀(γ:Nat)(cs:List PV),iQ γ (.pt cs)= .pt cs)/\
  (∀(γ:Nat),iQ γ .au= .au)/\
  (∀(γ:Nat),iQ γ .undef= .undef)/\
  (∀(γ β o n:Nat),iQ γ (.aB β o n)=if β=γ then .aI γ o n else .aB β o n)/\
  (∀(γ β o n:Nat),iQ γ (.mp β o n)=if β=γ then .np γ o n else .mp β o n)/\
  (∀(γ β o n:Nat),iQ γ (.aI β o n)= .aI β o n)/\
  (∀(γ β o n:Nat),iQ γ (.np β o n)= .np β o n):=by
 refine⟨?_,?_,?_,?_,?_,?_,?_,?_,?_,?_,?_,?_⟩<;>intros<;>rfl
theorem ajp{γ s:Nat}{x:PV}:Ji γ x fr s=if s=γ then x else iQ γ (fr s):=rfl
theorem ajq{args:List PV}{G:Fr}{s:Nat}:tY args G s=if s<1000000 then(args[s]?).getD .undef else G s:=rfl
theorem ajr{nm:Nat->Bool}{s:Nat}:gw nm fr s=vq nm (fr s):=rfl
theorem ajs{nm:Nat->Bool}{p:PV}:vq nm p=if(p.refs++p.aQ).any nm then .undef else p:=rfl
theorem amW{nm ex:Nat->Bool}{H:HP}{x:Nat}:my nm ex H hp x=if ex x then H x else if nm x then none else hp x:=rfl
theorem amX{S:List Nat}{F:Fr}{s:Nat}:mw S F fr s=if S.contains s then F s else fr s:=rfl
theorem Ln(l:List (Nat×Nat)):Jg (Qs l):=fun x hx=>by obtain⟨y,_,rfl⟩:=Kaq.1 hx;rfl
theorem abS{d β n ty e:Nat}{xs ys:List PV}(hb:hp β=some ⟨e,ty,xs,false⟩)(he:0<e)(hn:n=xs.length)(hl:ys.length=n):
  sK e (.ms β n) (.sl e ys) d fr hp K=K (af fr d (.int .i64 n)) (Qj hp β ⟨e,ty,ys,false⟩):=by
 rw[afJ hb he hn];have h1:ys.take n=ys:=Kac (by omega);have h2:xs.drop ys.length=[]:=List.drop_eq_nil_of_le (by omega);rw[h1,h2,Kam];congr 2
 ·congr 1;congr 1;omega
attribute [go_sem] aiC aiD amP amQ amO agZ au8 au7 abR ajp ajq ajr ajs amW amX
end Go.FW
namespace Go.FW
open Go
variable {C : Ctx} {ρ : Nat -> Option Nat} {fr aG : Fr} {hp : HP} {w : World} {K R : Qh}
def iR(B i n:Nat)(L:Nat->Nat):List PV:=Qs (rws B i L)++List.replicate (n-i) .au
theorem ae4(B n:Nat)(L:Nat->Nat):List.replicate n PV.au=iR B 0 n L:=by simp[iR,rws,Qs]
theorem ae5(B n:Nat)(L:Nat->Nat):iR B n n L=Qs (rws B n L):=by simp[iR]
theorem UO{B i n:Nat}{L:Nat->Nat}(h:i<=n):(iR B i n L).length=n:=by simp[iR,Qs,rws];omega
theorem ag0{B i n j:Nat}{L:Nat->Nat}(h:j<i):(iR B i n L)[j]? =some (.ms (B+j) (L j)):=by simp[iR,Qs,rws,Ka2,h]
theorem ag1{B i n:Nat}{L:Nat->Nat}(h:i<n):(iR B i n L).set i (.ms (B+i) (L i))=iR B (i+1) n L:=by
 have h1:(Qs (rws B i L)).length=i:=by simp[Qs,rws]
 unfold iR;rw[List.set_append,if_neg (by omega),h1,KbA];have h2:Qs (rws B (i+1) L)=Qs (rws B i L)++[.ms (B+i) (L i)]:=by simp[Qs,rws,Kck]
 rw[h2,Kbt];congr 1;obtain⟨k,hk⟩:∃k,n-i=k+1:=⟨n-i-1,by omega⟩
 rw[hk,show n-(i+1)=k by omega,KbL];rfl
theorem ajt{γ i n ty B m:Nat}{L:Nat->Nat}{e0 ty0:Nat}{xs0:List PV}(aj:fr γ= .aC γ 1 ty (iR B i n L))(hh:hp γ=some ⟨e0,ty0,xs0,false⟩)(h:i<n)(hB:1000000<=B)(hm:L i=m):
  qf 1 (.np γ i 0) (.ms (B+i) m) fr hp K=K (af (iP γ fr) γ (.aC γ 1 ty (iR B (i+1) n L))) hp:=by
 subst hm;have hl:i<(iR B i n L).length:=by rw[UO (by omega)];exact h
 have hb:bJ (B+i)=true:=by simp[bJ];omega
 have h0:(iR B i n L)[i]= .au:=by
  have h1:(Qs (rws B i L)).length=i:=by simp[Qs,rws]
  simp[iR,List.getElem_append,h1]
 simp only[qf,aj,hl,exists_true_left,true_and,Kae,Kbh,fU,hb,if_true,KaT,Kbk,hh,KaH,exists_eq_left',h0];rw[<-ag1 h];simp[fo,qC,PV.aS,PV.cells]
theorem aju{d γ j i n ty B:Nat}{L:Nat->Nat}(aj:fr γ= .aC γ 1 ty (iR B i n L))(h:j<i)(hi:i<=n):kf 1 false (.np γ j 0) d fr hp K=K (af fr d (.ms (B+j) (L j))) hp:=by
 have hl:j<(iR B i n L).length:=by rw[UO hi];omega
 have h0:(iR B i n L)[j]= .ms (B+j) (L j):=by have:=ag0 (B:=B) (n:=n) (L:=L) h;rw[Kag hl]at this;exact KbM this
 simp only[kf,aj,hl,exists_true_left,true_and,Kae,Kbh,implies_true,h0];simp[tv,PV.aS,PV.cells]
theorem HA{σ:Nat->Nat}{p:PV}(h:p= .au∨∃β n,p= .ms β n)(v7:∀β n,p= .ms β n->σ β=β):fo (p.aS.map (dW σ))=p:=by
 rcases h with rfl|⟨β,n,rfl⟩
 ·rfl
 ·have:=v7 β n rfl;simp[PV.aS,PV.cells,dW,fo,this]
theorem ajv{β δ γ e ty B i n:Nat}{L:Nat->Nat}(ae:β<1000000)(hB:2000000<=B)(aj:2000000<=γ):ch (iJ β δ) (.aC γ e ty (iR B i n L))= .aC γ e ty (iR B i n L):=by
 have e1:iJ β δ γ=γ:=by unfold iJ;rw[if_neg (by omega)]
 simp only[ch,e1];congr 1;conv=>rhs;rw[<-List.map_id (iR B i n L)]
 refine KaJ fun x hx=>?_;rcases KaL.1 hx with hx|hx
 ·obtain⟨y,hy,rfl⟩:=Kaq.1 hx;obtain⟨j,hj,rfl⟩:=Kaq.1 hy;refine HA (.inr ⟨_,_,rfl⟩) fun bA n' h=>?_;cases h;unfold iJ;rw[if_neg (by omega)]
 ·obtain rfl:=KcL hx;exact HA (.inl rfl) fun _ _ h=>by cases h
def b5(B n w:Nat)(π:Nat->Nat):List (Nat×Nat):=(List.range n).map fun r=>(B+π r,w)
theorem DN(B n w:Nat):rws B n (fun _=>w)=b5 B n w id:=rfl
theorem Q90(B n w:Nat)(π:Nat->Nat):(b5 B n w π).length=n:=by simp[b5]
theorem Re{B n w r:Nat}{π:Nat->Nat}(h:r<(b5 B n w π).length):(b5 B n w π)[r]=(B+π r,w):=by simp[b5]
theorem Lo{B n w:Nat}{π:Nat->Nat}:∀β∈(Qs (b5 B n w π)).flatMap (fun x=>x.aS.flatMap PV.gU),∃r,r<n/\β=B+π r:=by intro β ae;obtain⟨x,hx,ae⟩:=Kat.1 ae;obtain⟨y,hy,rfl⟩:=Kaq.1 hx;obtain⟨r,hr,rfl⟩:=Kaq.1 hy;exact⟨r,Kbo.1 hr,by simpa[PV.aS,PV.cells,PV.gU]using ae⟩
def Qo{α:Type}(p:α->PV)(f:Nat->α)(w:Nat):List PV:=(List.range w).map fun c=>p (f c)
theorem fl{α:Type}(p:α->PV)(f:Nat->α)(w:Nat):(Qo p f w).length=w:=by simp[Qo]
theorem rC{α:Type}{p:α->PV}{f:Nat->α}{w c:Nat}(h:c<(Qo p f w).length):(Qo p f w)[c]=p (f c):=by simp[Qo]
theorem Rf{α:Type}{p:α->PV}{f g:Nat->α}{w c:Nat}{v:α}(h:∀k,k<w->g k=if k=c then v else f k):(Qo p f w).set c (p v)=Qo p g w:=by
 refine Ka7 (by simp[Qo]) fun j h1 h2=>?_;have hj:j<w:=by simpa[Qo]using h2
 rw[rC,Kc6,rC,h j hj];split
 ·rename_i e;subst e;simp
 ·rename_i e;rw[if_neg fun e2=>e e2.symm]
theorem om{α:Type}{p:α->PV}{f g:Nat->α}{w:Nat}(h:∀k,k<w->f k=g k):Qo p f w=Qo p g w:=
 KaJ fun c hc=>by rw[h c (Kbo.1 hc)]
theorem Dn{α:Type}{p:α->PV}{f:Nat->α}{w:Nat}(h:0<w):Qo p f w≠[]:=by intro e;have:=fl p f w;rw[e]at this;simp at this;omega
theorem abT{by_ ty d:Nat}{k k':IntKind}{n c:Nat}(h2:n<=c)(h3:by_*c<=281474976710656)(h4:c<=9223372036854775807):
  qe 3 by_ ty (.agg [.bool false,.au,.au]) (.int k (n:Int)) (.int k' (c:Int)) d fr hp K=K (af (cP d fr) d (.ms d n)) (Qj hp d ⟨3,ty,List.replicate n (.agg [.bool false,.au,.au]),false⟩):=by
 rw[FX (e:=3) (by omega) rfl (by omega) (by omega) (by omega) (by omega)];rfl
attribute [go_sem] abT
end Go.FW
namespace Go.FW
open Go
def bV(φ:List Int->Rat):List Tm->Rat
 | []=>0
 |t::p=>t.1*φ t.2+bV φ p
theorem lu(φ:List Int->Rat):bV φ []=0:=rfl
theorem fM(φ:List Int->Rat)(t:Tm)(p:List Tm):bV φ (t::p)=t.1*φ t.2+bV φ p:=rfl
theorem Lp(φ:List Int->Rat):∀(p q:List Tm),bV φ (p++q)=bV φ p+bV φ q
 | [],q=>by rw[KaO,lu];grind
 |t::p,q=>by rw[KaW,fM,fM,Lp φ p q];grind
theorem CL{φ ψ:List Int->Rat}:∀ {p:List Tm},(∀t∈p,φ t.2=ψ t.2)->bV φ p=bV ψ p
 | [],_=>rfl
 |t::p,h=>by rw[fM,fM,h t (by simp),CL (p:=p) (fun x hx=>h x (by simp[hx]))]
theorem Su(φ ψ:List Int->Rat):∀(p:List Tm),bV (fun m=>φ m+ψ m) p=bV φ p+bV ψ p
 | []=>by simp only[lu];grind
 |t::p=>by simp only[fM];rw[Su φ ψ p];grind
theorem Rg(c:Rat)(φ:List Int->Rat):∀(p:List Tm),bV (fun m=>c*φ m) p=c*bV φ p
 | []=>by simp only[lu];grind
 |t::p=>by simp only[fM];rw[Rg c φ p];grind
theorem Rh:∀(p:List Tm),bV (fun _=>0) p=0
 | []=>rfl
 |t::p=>by simp only[fM];rw[Rh p];grind
theorem L2(ψ:List Int->List Int->Rat)(q:List Tm):∀(p:List Tm),bV (fun m=>bV (fun n=>ψ m n) q) p=bV (fun n=>bV (fun m=>ψ m n) p) q
 | []=>by simp only[lu];rw[Rh]
 |t::p=>by simp only[fM];rw[L2 ψ q p,Su (fun n=>t.1*ψ t.2 n),Rg]
def Can(p:List Tm):Prop:=∀t∈p,t.2.getLast? ≠some 0
def NZ(p:List Tm):Prop:=∀t∈p,t.1≠0
structure bB(p:List Tm):Prop where
 c:Can p
 z:NZ p
 s:kL p
theorem Can.cons{t:Tm}{p:List Tm}:Can (t::p)↔t.2.getLast? ≠some 0/\Can p:=by simp[Can]
theorem NZ.cons{t:Tm}{p:List Tm}:NZ (t::p)↔t.1≠0/\NZ p:=by simp[NZ]
theorem bB.nil:bB []:=⟨by simp[Can],by simp[NZ],trivial⟩
theorem bB.tail{t:Tm}{p:List Tm}(h:bB (t::p)):bB p:=⟨(Can.cons.1 h.c).2,(NZ.cons.1 h.z).2,h.s.2⟩
theorem bB.one{t:Tm}(h:t.1≠0)(hm:t.2.getLast? ≠some 0):bB [t]:=⟨by simpa[Can]using hm,by simpa[NZ]using h,⟨by simp,trivial⟩⟩
theorem qi.uG{p:List Tm}(h:qi p):bB p:=⟨fun t ht=>yj (h.t t ht).m,fun t ht=>(h.t t ht).c,h.s⟩
theorem LD{E:Nat}{a:List Int}(h:MB E a)(hE:E<=1048576)(hl:a.getLast? ≠some 0):ck a=true:=by simp only[ck,KaC,decide_eq_true_eq,Kax];exact⟨h.len,hl,fun x hx=>⟨h.lo x hx,by have:=h.hi x hx;omega⟩⟩
theorem bB.Fw{K E:Nat}{p:List Tm}(h:bB p)(hb:PB K E p)(hE:E<=1048576):qi p:=
 ⟨fun t ht=>⟨h.z t ht,LD (hb t ht).m hE (hb t ht).l⟩,h.s⟩
theorem Hj{φ:List Int->Rat}:∀ {p q:List Tm},Can p->Can q->bV φ (aW p q)=bV φ p+bV φ q:=by
 intro p q;induction p,q using aW.induct with
 |case1 q=>rw[aW,lu];intros;grind
 |case2 p h=>rw[o9,lu];intros;grind
 |case3 c m p d l q h ih=>intro hp hq;rw[aW,if_pos h,fM,fM,ih (Can.cons.1 hp).2 hq];grind
 |case4 c m p d l q h1 h2 ih=>intro hp hq;rw[aW,if_neg h1,if_pos h2,fM,ih hp (Can.cons.1 hq).2,fM φ (d,l)];grind
 |case5 c m p d l q h1 h2 h3 ih=>
  intro hp hq;have e:=Lk h1 h2 (Can.cons.1 hp).1 (Can.cons.1 hq).1;rw[aW,if_neg h1,if_neg h2,if_pos h3,ih (Can.cons.1 hp).2 (Can.cons.1 hq).2,fM,fM];subst e;have:c*φ m+d*φ m=0:=by rw[<-Rat.add_mul,h3];grind
  grind
 |case6 c m p d l q h1 h2 h3 ih=>intro hp hq;have e:=Lk h1 h2 (Can.cons.1 hp).1 (Can.cons.1 hq).1;rw[aW,if_neg h1,if_neg h2,if_neg h3,fM,ih (Can.cons.1 hp).2 (Can.cons.1 hq).2,fM,fM];subst e;grind
theorem AJ:∀ {p q:List Tm} {t:Tm},t∈aW p q->(∃s∈p,s.2=t.2)∨(∃s∈q,s.2=t.2):=by
 intro p q;induction p,q using aW.induct with
 |case1 q=>rw[aW];intro t ht;exact Or.inr ⟨t,ht,rfl⟩
 |case2 p h=>rw[o9];intro t ht;exact Or.inl ⟨t,ht,rfl⟩
 | case3 c m p d l q h ih=>
  intro t ht;rw[aW,if_pos h]at ht;rcases KaG.1 ht with rfl|ht
  ·exact Or.inl ⟨_,by simp,rfl⟩
  ·rcases ih ht with⟨s,h1,h2⟩|h1
   ·exact Or.inl ⟨s,by simp[h1],h2⟩
   ·exact Or.inr h1
 | case4 c m p d l q h1 h2 ih=>
  intro t ht;rw[aW,if_neg h1,if_pos h2]at ht;rcases KaG.1 ht with rfl|ht
  ·exact Or.inr ⟨_,by simp,rfl⟩
  ·rcases ih ht with h3|⟨s,h3,h4⟩
   ·exact Or.inl h3
   ·exact Or.inr ⟨s,by simp[h3],h4⟩
 |case5 c m p d l q h1 h2 h3 ih=>
  intro t ht;rw[aW,if_neg h1,if_neg h2,if_pos h3]at ht;rcases ih ht with⟨s,h4,h5⟩|⟨s,h4,h5⟩
  ·exact Or.inl ⟨s,by simp[h4],h5⟩
  ·exact Or.inr ⟨s,by simp[h4],h5⟩
 | case6 c m p d l q h1 h2 h3 ih=>
  intro t ht;rw[aW,if_neg h1,if_neg h2,if_neg h3]at ht;rcases KaG.1 ht with rfl|ht
  ·exact Or.inl ⟨(c,m),by simp,rfl⟩
  ·rcases ih ht with⟨s,h4,h5⟩|⟨s,h4,h5⟩
   ·exact Or.inl ⟨s,by simp[h4],h5⟩
   ·exact Or.inr ⟨s,by simp[h4],h5⟩
theorem Ri{p q:List Tm}(hp:Can p)(hq:Can q):Can (aW p q):=fun t ht=>by
 rcases AJ ht with⟨s,h1,h2⟩|⟨s,h1,h2⟩
 ·rw[<-h2];exact hp s h1
 ·rw[<-h2];exact hq s h1
theorem ajw:∀ {p q:List Tm},NZ p->NZ q->NZ (aW p q):=by
 intro p q;induction p,q using aW.induct with
 |case1 q=>rw[aW];exact fun _ h=>h
 |case2 p h=>rw[o9];exact fun h _=>h
 |case3 c m p d l q h ih=>intro hp hq;rw[aW,if_pos h,NZ.cons];exact⟨(NZ.cons.1 hp).1,ih (NZ.cons.1 hp).2 hq⟩
 |case4 c m p d l q h1 h2 ih=>intro hp hq;rw[aW,if_neg h1,if_pos h2,NZ.cons];exact⟨(NZ.cons.1 hq).1,ih hp (NZ.cons.1 hq).2⟩
 |case5 c m p d l q h1 h2 h3 ih=>intro hp hq;rw[aW,if_neg h1,if_neg h2,if_pos h3];exact ih (NZ.cons.1 hp).2 (NZ.cons.1 hq).2
 |case6 c m p d l q h1 h2 h3 ih=>intro hp hq;rw[aW,if_neg h1,if_neg h2,if_neg h3,NZ.cons];exact⟨h3,ih (NZ.cons.1 hp).2 (NZ.cons.1 hq).2⟩
theorem adq{a b c:List Int}(h:bm a b=0)(h2:0<bm b c):0<bm a c:=by
 have e:∀i,eN a i=eN b i:=by
  intro i;have:=(GX a b _).1 h;by_cases hi:i<max a.length b.length
  ·exact this i hi
  ·rw[jh (by omega),jh (by omega)]
 rw[adf e (fun _=>rfl)];exact h2
theorem Q91:∀ {p q:List Tm},kL p->kL q->kL (aW p q):=by
 intro p q;induction p,q using aW.induct with
 |case1 q=>rw[aW];exact fun _ h=>h
 |case2 p h=>rw[o9];exact fun h _=>h
 | case3 c m p d l q h ih=>
  intro hp hq;rw[aW,if_pos h];refine⟨fun t ht=>?_,ih hp.2 hq⟩;rcases AJ ht with⟨s,h1,h2⟩|⟨s,h1,h2⟩
  ·rw[<-h2];exact hp.1 s h1
  ·rw[<-h2];rcases KaG.1 h1 with rfl|h1
   ·exact h
   ·exact Ak h (hq.1 s h1)
 | case4 c m p d l q h1 h2 ih=>
  intro hp hq;rw[aW,if_neg h1,if_pos h2];have oF:0<bm l m:=by have:=AI m l;omega
  refine⟨fun t ht=>?_,ih hp hq.2⟩;rcases AJ ht with⟨s,h3,h4⟩|⟨s,h3,h4⟩
  ·rw[<-h4];rcases KaG.1 h3 with rfl|h3
   ·exact oF
   ·exact Ak oF (hp.1 s h3)
  ·rw[<-h4];exact hq.1 s h3
 |case5 c m p d l q h1 h2 h3 ih=>intro hp hq;rw[aW,if_neg h1,if_neg h2,if_pos h3];exact ih hp.2 hq.2
 |case6 c m p d l q h1 h2 h3 ih=>
  intro hp hq;rw[aW,if_neg h1,if_neg h2,if_neg h3];refine⟨fun t ht=>?_,ih hp.2 hq.2⟩;rcases AJ ht with⟨s,h4,h5⟩|⟨s,h4,h5⟩
  ·rw[<-h5];exact hp.1 s h4
  ·rw[<-h5];exact adq (b:=l) (by show bm m l=0;omega) (hq.1 s h4)
theorem Hk{p q:List Tm}(hp:bB p)(hq:bB q):bB (aW p q):=⟨Ri hp.c hq.c,ajw hp.z hq.z,Q91 hp.s hq.s⟩
def ind(m:List Int):List Int->Rat:=fun n=>if n=m then 1 else 0
theorem Gs{m:List Int}:∀ {p:List Tm},(∀t∈p,t.2≠m)->bV (ind m) p=0
 | [],_=>rfl
 |t::p,h=>by rw[fM,Gs (p:=p) (fun x hx=>h x (by simp[hx])),ind,if_neg (h t (by simp))];grind
theorem DO{a b:List Int}(h:0<bm a b):b≠a:=by rintro rfl;rw[CH]at h;omega
theorem Ap{t:Tm}{p:List Tm}(h:kL (t::p)):bV (ind t.2) (t::p)=t.1:=by rw[fM,Gs (fun s hs=>DO (h.1 s hs)),ind,if_pos rfl];grind
theorem HC:∀ {p q:List Tm},bB p->bB q->(∀φ,bV φ p=bV φ q)->p=q
 | [],[],_,_,_=>rfl
 | [],t::q,_,hq,h=>by have:=h (ind t.2);rw[Ap hq.s,lu]at this;exact absurd this.symm (hq.z t (by simp))
 |t::p,[],hp,_,h=>by have:=h (ind t.2);rw[Ap hp.s,lu]at this;exact absurd this (hp.z t (by simp))
 | s ::p,t::q,hp,hq,h=>by
  by_cases h1:0<bm s.2 t.2
  ·have:=h (ind s.2);rw[Ap hp.s,Gs (fun x hx=>?_)]at this
   ·exact absurd this (hp.z s (by simp))
   ·rcases KaG.1 hx with rfl|hx
    ·exact DO h1
    ·exact DO (Ak h1 (hq.s.1 x hx))
  ·by_cases h2:bm s.2 t.2<0
   ·have oF:0<bm t.2 s.2:=by have:=AI s.2 t.2;omega
    have:=h (ind t.2);rw[Ap hq.s,Gs (fun x hx=>?_)]at this
    ·exact absurd this.symm (hq.z t (by simp))
    ·rcases KaG.1 hx with rfl|hx
     ·exact DO oF
     ·exact DO (Ak oF (hp.s.1 x hx))
   ·have e:=Lk h1 h2 (hp.c s (by simp)) (hq.c t (by simp));have e2:=h (ind s.2);rw[Ap hp.s,e,Ap hq.s]at e2;have e3:s=t:=Prod.ext e2 e;subst e3;rw[HC hp.tail hq.tail (fun φ=>by have:=h φ;rw[fM,fM]at this;grind)]
theorem LG{φ:List Int->Rat}:∀(n:Nat)(l:List (List Tm)),l.length<=n->(∀p∈l,Can p)->Can (fH l)/\bV φ (fH l)=(l.map (bV φ)).sum:=by
 intro n;induction n with
 |zero=>intro l hl _;have:l=[]:=KaI.1 (by omega);subst this;rw[fH];exact⟨bB.nil.c,rfl⟩
 | succ n ih=>
  intro l hl h
  match l,h with
  | [],_=>rw[fH];exact⟨bB.nil.c,rfl⟩
  | [p],h=>rw[fH];exact⟨h p (by simp),by simp;grind⟩
  |p::q::r,h=>
   rw[CI (by simp)];generalize hL:p::q::r=L at *
   have hlen:2<=L.length:=by rw[<-hL];simp
   obtain⟨a1,a2⟩:=ih (L.take (L.length/2)) (by rw[KaF];omega) (fun x hx=>h x (Kbf hx));obtain⟨b1,b2⟩:=ih (L.drop (L.length/2)) (by rw[Kbc];omega) (fun x hx=>h x (KbO hx));refine⟨Ri a1 b1,?_⟩;rw[Hj a1 b1,a2,b2,<-List.sum_append,<-List.map_append,KbB]
theorem Rj:∀(n:Nat)(l:List (List Tm)),l.length<=n->(∀p∈l,bB p)->bB (fH l):=by
 intro n;induction n with
 |zero=>intro l hl _;have:l=[]:=KaI.1 (by omega);subst this;rw[fH];exact bB.nil
 | succ n ih=>
  intro l hl h
  match l,h with
  | [],_=>rw[fH];exact bB.nil
  | [p],h=>rw[fH];exact h p (by simp)
  | p::q::r,h=>
   rw[CI (by simp)];generalize hL:p::q::r=L at *
   have hlen:2<=L.length:=by rw[<-hL];simp
   exact Hk (ih (L.take (L.length/2)) (by rw[KaF];omega) (fun x hx=>h x (Kbf hx)))
    (ih (L.drop (L.length/2)) (by rw[Kbc];omega) (fun x hx=>h x (KbO hx)))
theorem GG(φ:List Int->Rat)(t:Tm):∀(p:List Tm),bV φ (ca p t)=t.1*bV (fun m=>φ (bF m t.2)) p
 | []=>by rw[ca,KcB,lu,lu];grind
 | s::p=>by
  have ih:=GG φ t p;rw[ca]at ih⊢;rw[Kcf];by_cases h:s.1*t.1=0
  ·simp only[h,if_true,fM];rw[ih];have:t.1*(s.1*φ (bF s.2 t.2))=(s.1*t.1)*φ (bF s.2 t.2):=by grind
   rw[Rat.mul_add,this,h];grind
  ·simp only[h,if_false,fM];rw[ih];grind
theorem Lq(p:List Tm)(t:Tm):Can (ca p t):=by
 intro x hx;simp only[ca,Kcc]at hx;obtain⟨y,hy,h⟩:=hx;split at h
 ·cases h
 ·cases h;exact ry _ _
theorem ae6(p:List Tm)(t:Tm):NZ (ca p t):=by
 intro x hx;simp only[ca,Kcc]at hx;obtain⟨y,hy,h⟩:=hx;split at h
 ·cases h
 ·rename_i h0;cases h;exact h0
theorem Ur(t:Tm):∀(p:List Tm),kL p->kL (ca p t)
 | [],_=>trivial
 | s ::p,hp=>by
  have ih:=Ur t p hp.2;rw[ca]at ih⊢;rw[Kcf];split
  ·exact ih
  ·rename_i b hb;split at hb
   ·cases hb
   ·cases hb;refine⟨fun x hx=>?_,ih⟩;simp only[Kcc]at hx;obtain⟨y,hy,h⟩:=hx;split at h
    ·cases h
    ·cases h;simp only[aga];exact hp.1 y hy
theorem Lr{p:List Tm}(t:Tm)(hp:kL p):bB (ca p t):=⟨Lq _ _,ae6 _ _,Ur t p hp⟩
theorem Wn(φ:List Int->Rat)(q:List Tm):∀(p:List Tm),((p.map (ca q)).map (bV φ)).sum=bV (fun m=>bV (fun n=>φ (bF m n)) q) p
 | []=>rfl
 |t::p=>by rw[Kba,Kba,KcZ,Wn φ q p,GG,fM];congr 2;exact CL fun s _=>by rw[AB]
theorem Pp(φ:List Int->Rat)(p q:List Tm):bV φ (tR p q)=bV (fun m=>bV (fun n=>φ (bF m n)) q) p:=by rw[tR,(LG (φ:=φ) _ _ (Kae _) ?_).2,Wn];intro x hx;obtain⟨t,_,rfl⟩:=Kaq.1 hx;exact Lq _ _
theorem Rk(φ:List Int->Rat)(p q:List Tm):bV φ (hO p q)=bV (fun m=>bV (fun n=>φ (bF m n)) q) p:=by
 unfold hO;split
 ·rw[Pp,L2 (fun m n=>φ (bF m n))];exact CL fun s _=>CL fun t _=>by rw[AB]
 ·exact Pp φ p q
theorem Pq{p q:List Tm}(hq:kL q):bB (tR p q):=Rj _ _ (Kae _) fun x hx=>by obtain⟨t,_,rfl⟩:=Kaq.1 hx;exact Lr t hq
theorem L3{p q:List Tm}(hp:kL p)(hq:kL q):bB (hO p q):=by
 unfold hO;split
 ·exact Pq hp
 ·exact Pq hq
theorem adr(φ:List Int->Rat){p:List Tm}(hp:Can p)(a:Rat):bV φ (l7 p a)=a*bV φ p:=by
 unfold l7;split
 ·rename_i h;rw[h,lu];grind
 ·rw[GG];congr 1;exact CL fun s hs=>by rw[P' (hp s hs)]
theorem ads{p:List Tm}(hp:kL p)(a:Rat):bB (l7 p a):=by
 unfold l7;split
 ·exact bB.nil
 ·exact Lr _ hp
def rG(p q:List Tm):List Tm:=q.foldl (fun out t=>aW out (ca p t)) []
theorem Pr(p:List Tm)(hp:bB p):∀(q out:List Tm),bB out->bB (q.foldl (fun out t=>aW out (ca p t)) out)/\
  ∀φ,bV φ (q.foldl (fun out t=>aW out (ca p t)) out)=bV φ out+bV (fun m=>bV (fun n=>φ (bF n m)) p) q
 | [],out,h=>⟨h,fun φ=>by rw[List.foldl_nil,lu];grind⟩
 |t::q,out,h=>by obtain⟨h1,h2⟩:=Pr p hp q (aW out (ca p t)) (Hk h (Lr t hp.s));refine⟨h1,fun φ=>?_⟩;rw[List.foldl_cons,h2,Hj h.c (Lq _ _),GG,fM];grind
theorem Rl{p q:List Tm}(hp:bB p)(hq:bB q):rG p q=hO p q:=by obtain⟨h1,h2⟩:=Pr p hp q [] bB.nil;refine HC h1 (L3 hp.s hq.s) fun φ=>?_;rw[rG,h2,Rk,lu,L2 (fun m n=>φ (bF m n))];grind
variable {C : Ctx} {fr : Fr} {hp : HP} {w : World} {K R : Qh}
theorem Sv{len e β j o d i:Nat}{k:IntKind}(h:i<len):wR len e (.mp β j o) (.int k (i:Int)) d fr hp K=K (af fr d (.mp β j (o+i*e))) hp:=by simp only[wR,Kcq];exact propext ⟨fun h=>h.2.2,fun h'=>⟨by omega,by omega,h'⟩⟩
theorem Q92{e by_ ty d:Nat}(h0:0<e):ia e by_ ty .au (.sl e []) d fr hp K=K (af (cP d fr) d (.ms d 0)) (Qj hp d ⟨e,ty,[],false⟩):=by have:=GB (fr:=fr) (hp:=hp) (K:=K) (e:=e) (by_:=by_) (ty:=ty) (d:=d) (x:=.sl e []) (ys:=[]) rfl h0 (by simp) (by simp);simpa using this
theorem Rm{len d i:Nat}{k:IntKind}{bs:List Bool}(hl:bs.length=len)(h:i<bs.length):wZ len 1 false (.agg (bs.map PV.bool)) (.int k (i:Int)) d fr hp K=K (af fr d (.bool bs[i])) hp:=by
 have e:fB false 1 (i*1) (.agg (bs.map PV.bool))= .bool bs[i]:=by show((bs.map PV.bool).drop (i*1)).headD .undef=_;rw[KbK,KaA (by simpa using h)];simp
 simp only[wZ,Kcq];rw[e];exact propext ⟨fun h=>h.2.2.2.2,fun h'=>⟨by omega,by omega,by simp;omega,by simp,h'⟩⟩
theorem acX{n:Nat}{bs:List Bool}(h:bs.length=n):(bs.map PV.bool).take n=bs.map PV.bool:=Kac (by simp[h])
def mf(n:Nat)(h:Nat->Bool):List Bool:=(List.range n).map h
theorem Gt(n:Nat)(h:Nat->Bool):(mf n h).length=n:=by simp[mf]
theorem ag2{n:Nat}{h:Nat->Bool}{i:Nat}(hi:i<(mf n h).length):(mf n h)[i]=h i:=by simp[mf]
theorem Wo{n:Nat}{h g:Nat->Bool}(e:∀i,i<n->h i=g i):mf n h=mf n g:=KaJ fun i hi=>e i (Kbo.1 hi)
theorem ag3{n j:Nat}{h g:Nat->Bool}(hj:j<n)(e:∀i,i<n->g i=if i=j then true else h i):
  ((mf n h).map PV.bool).take j++(PV.bool true).cells++((mf n h).map PV.bool).drop (j+1)=(mf n g).map PV.bool:=by
 apply Ka7
 ·simp[mf,PV.cells];omega
 ·intro i h1 h2;have hi:i<n:=by simpa[mf]using h2
  have e1:((mf n g).map PV.bool)[i]=PV.bool (g i):=by simp[mf]
  rw[e1,e i hi];simp only[mf,PV.cells];by_cases pQ:i=j
  ·subst pQ;rw[KbF (by simp;omega),Kch (by simp;omega)];simp
  ·rw[if_neg pQ];by_cases aw:i<j
   ·rw[KbF (by simp;omega),KbF (by simp;omega)];simp
   ·rw[Kch (by simp;omega)];simp;congr 1;omega
def fe(p:List Tm)(v:Nat):Bool:=p.any fun t=>decide (eN t.2 v≠0)
def qw(n:Nat)(h:Nat->Bool):List Int:=((List.range n).filter h).map fun(v:Nat)=>(v:Int)
def Km(p:List Tm):List Int:=qw 64 (fe p)
theorem UP(n:Nat)(h:Nat->Bool):qw (n+1) h=qw n h++(if h n=true then [(n:Int)]else []):=by
 unfold qw;rw[Kck,List.filter_append,Ka9];congr 1;by_cases hn:h n=true
 ·simp[hn]
 ·simp[hn]
theorem Us(n:Nat)(h:Nat->Bool):(qw n h).length<=n:=by unfold qw;rw[Kal];exact Kap (List.length_filter_le _ _) (by simp)
theorem Ps{p:List Tm}{i:Nat}(h:i<p.length)(v:Nat):fe (p.take (i+1)) v=(fe (p.take i) v||decide (eN p[i].2 v≠0)):=by rw[Kak h,fe,List.any_append];simp[fe]
def tN(p:List Tm):Bool:=decide (4000<p.length)||p.any fun t=>t.2.any fun x=>decide (1048576<x)
end Go.FW
namespace Go.FW
open Go
theorem JK{m:List Int}{c:Rat}:∀ {u v:List Tm},(∀t∈u,0<bm t.2 m)->(∀t∈v,bm t.2 m<0)->aW (u++v) [(c,m)]=u++(c,m)::v
 | [],[],_,_=>by rw[KaO,yt];rfl
 | [],t::v,_,hv=>by have h1:=hv t (by simp);rw[KaO,CJ,if_neg (by show ¬0<bm t.2 m;omega),if_pos (by exact h1),o9];rfl
 |t::u,v,hu,hv=>by rw[KaW,CJ,if_pos (by exact hu t (by simp)),JK (fun s hs=>hu s (by simp[hs])) hv];rfl
theorem Sw{m:List Int}{c d:Rat}:∀ {u v:List Tm},(∀t∈u,0<bm t.2 m)->aW (u++(d,m)::v) [(c,m)]=u++(if d+c=0 then []else [(d+c,m)])++v
 | [],v,_=>by have h0:=CH m;rw[KaO,CJ,if_neg (by show ¬0<bm m m;omega),if_neg (by show ¬bm m m<0;omega)];show(if d+c=0 then aW v []else(d+c,m)::aW v [])=_;rw[o9];split<;>rfl
 |t::u,v,hu=>by rw[KaW,CJ,if_pos (by exact hu t (by simp)),Sw (fun s hs=>hu s (by simp[hs]))];simp
def lC(p:List Tm)(c:Rat)(m:List Int):List Tm:=aW p (if c=0 then []else [(c,m)])
theorem Q7o{p:List Tm}(hs:kL p):∀ {i:Nat} (h:i<p.length),∀t∈p.take i,0<bm t.2 p[i].2:=by
 induction p with
 |nil=>intro i h;simp at h
 | cons s p ih=>
  intro i h t ht;cases i with
  |zero=>simp at ht
  |succ i=>
   simp only[List.take_succ_cons,KaG]at ht;have hi:i<p.length:=by simpa using h
   show 0<bm t.2 p[i].2;rcases ht with rfl|ht
   ·exact hs.1 _ (Kah hi)
   ·exact ih hs.2 hi t ht
theorem TA{c:Rat}{m:List Int}(hl:m.getLast? ≠some 0):bB (if c=0 then []else [(c,m)]):=by
 split
 ·exact bB.nil
 ·rename_i h;exact bB.one h hl
theorem ae7{p:List Tm}{c:Rat}{m:List Int}(hp:bB p)(hl:m.getLast? ≠some 0):bB (lC p c m):=Hk hp (TA hl)
theorem ae8{φ:List Int->Rat}{p:List Tm}{c:Rat}{m:List Int}(hp:Can p)(hl:m.getLast? ≠some 0):bV φ (lC p c m)=bV φ p+c*φ m:=by
 rw[lC,Hj hp (TA hl).c];split
 ·rename_i h;rw[h,lu];grind
 ·rw[fM,lu];grind
def wT{α:Type}(g:α->Bool)(l:List α):Int:=match l.findIdx? g with
 |some i=>i
 |none=> -1
theorem Pt{α:Type}(g:α->Bool)(l:List α):decide (0<=wT g l)=l.any g:=by
 unfold wT;cases h:l.findIdx? g with
 |none=>rw[List.findIdx?_eq_none_iff]at h;symm;show l.any g=decide ((0:Int)<= -1);rw[show decide ((0:Int)<= -1)=false from rfl,KbU];intro x hx;simp[h x hx]
 |some i=>obtain⟨hi,h1,_⟩:=List.findIdx?_eq_some_iff_getElem.1 h;symm;show l.any g=decide ((0:Int)<=(i:Int));rw[decide_eq_true (by omega),Ka6];exact⟨_,Kah hi,h1⟩
theorem Rn{α:Type}{g:α->Bool}{l:List α}{i:Nat}(hi:i<l.length)(h1:g l[i]=true)(h2:∀j (h:j<l.length),j<i->g l[j]=false):wT g l=i:=by unfold wT;rw[List.findIdx?_eq_some_iff_getElem.2 ⟨hi,h1,fun j hj=>by simp[h2 j (by omega) hj]⟩]
theorem Wp{α:Type}{g:α->Bool}{l:List α}(h2:∀j (h:j<l.length),g l[j]=false):wT g l= -1:=by unfold wT;rw[List.findIdx?_eq_none_iff.2 (fun x hx=>by obtain⟨j,hj,rfl⟩:=KaV hx;exact h2 j hj)]
def AZ(a m:List Int):Bool:=(List.range a.length).all fun i=>decide (eN a i=eN m i)
theorem Gu{a m:List Int}:AZ a m=true↔∀i,i<a.length->eN a i=eN m i:=by simp[AZ,Kax]
theorem Q7q(a:List Int):AZ a (if ck (cQ a)then cQ a else [])=ck (cQ a):=by
 cases h:ck (cQ a)
 ·rw[if_neg (by simp)];cases hz:AZ a []with
  |false=>rfl
  | true=>
   rw[Gu]at hz;have e:cQ a=[]:=tK (GC a) (by simp) fun i=>by
    rw[C5,HY];by_cases hi:i<a.length
    ·rw[hz i hi,HY]
    ·exact jh (by omega)
   rw[e]at h;exact absurd h (by decide)
 ·rw[if_pos rfl,Gu];intro i _;rw[C5]
def vh(t:aP):Option Tm:=if ck (cQ t.m)=true then some (t.q,cQ t.m)else none
def pj(l:List aP):List Tm:=l.filterMap vh
def rH(t:Tm):Option (List Tm):=if t.1=0 then none else some [t]
def kM(l:List aP):List (List Tm):=(pj l).filterMap rH
def wU(l:List aP):List Tm:=fH (kM l)
def sA(l:List aP):List Tm:=(pj l).foldl (fun out t=>lC out t.1 t.2) []
theorem UQ{l:List aP}{i:Nat}(h:i<l.length):pj (l.take (i+1))=pj (l.take i)++(vh l[i]).toList:=by rw[Kak h,pj,List.filterMap_append];congr 1
theorem Q93{l:List aP}{i:Nat}(h:i<l.length):kM (l.take (i+1))=kM (l.take i)++((vh l[i]).toList.filterMap rH):=by rw[kM,UQ h,List.filterMap_append];rfl
theorem Q94{l:List aP}{i:Nat}(h:i<l.length):sA (l.take (i+1))=(vh l[i]).toList.foldl (fun out t=>lC out t.1 t.2) (sA (l.take i)):=by rw[sA,UQ h,Kde];rfl
theorem GH{t:aP}(h:ck (cQ t.m)=true):vh t=some (t.q,cQ t.m):=by rw[vh,if_pos h]
theorem Ls{t:aP}(h:ck (cQ t.m)=false):vh t=none:=by rw[vh,if_neg (by simp[h])]
theorem Lt{l:List aP}{t:Tm}(h:t∈pj l):∃r∈l,t=(r.q,cQ r.m)/\ck (cQ r.m)=true:=by
 simp only[pj,Kcc]at h;obtain⟨r,h1,h2⟩:=h;unfold vh at h2;split at h2
 ·rename_i hm;cases h2;exact⟨r,h1,rfl,hm⟩
 ·cases h2
theorem GI{l:List aP}{p:List Tm}(h:p∈kM l):∃t∈pj l,p=[t]/\t.1≠0:=by
 simp only[kM,Kcc]at h;obtain⟨t,h1,h2⟩:=h;unfold rH at h2;split at h2
 ·cases h2
 ·rename_i hm;cases h2;exact⟨t,h1,rfl,hm⟩
theorem Q48(l:List aP):(pj l).length<=l.length:=Kc7 _ _
theorem Ge(l:List aP):(kM l).length<=l.length:=Kap (Kc7 _ _) (Q48 l)
theorem Lc(l:List aP):∀p∈kM l,bB p:=fun p hp=>by obtain⟨t,h1,rfl,h3⟩:=GI hp;obtain⟨r,_,rfl,h5⟩:=Lt h1;exact bB.one h3 (yj h5)
theorem LH(l:List aP):bB (wU l):=Rj _ _ (Kae _) (Lc l)
theorem Ld:∀(ts:List Tm),(∀t∈ts,t.2.getLast? ≠some 0)->∀out,bB out->bB (ts.foldl (fun out t=>lC out t.1 t.2) out)/\∀φ,bV φ (ts.foldl (fun out t=>lC out t.1 t.2) out)=bV φ out+bV φ ts
 | [],_,out,ho=>⟨ho,fun φ=>by rw[List.foldl_nil,lu];grind⟩
 |t::ts,h,out,ho=>by have hl:=h t (by simp);obtain⟨h1,h2⟩:=Ld ts (fun x hx=>h x (by simp[hx])) (lC out t.1 t.2) (ae7 ho hl);refine⟨h1,fun φ=>?_⟩;rw[List.foldl_cons,h2,ae8 ho.c hl,fM];grind
theorem UR(l:List aP):∀t∈pj l,t.2.getLast? ≠some 0:=fun t ht=>by obtain⟨r,_,rfl,h5⟩:=Lt ht;exact yj h5
theorem Wq(l:List aP):bB (sA l):=(Ld _ (UR l) [] bB.nil).1
theorem Le(φ:List Int->Rat):∀(ts:List Tm),((ts.filterMap rH).map (bV φ)).sum=bV φ ts
 | []=>rfl
 | t::ts=>by
  have ih:=Le φ ts;rw[Kcf,fM];by_cases h:t.1=0
  ·have e:rH t=none:=if_pos h;rw[e];show((ts.filterMap rH).map (bV φ)).sum=_;rw[ih,h];grind
  ·have e:rH t=some [t]:=if_neg h;rw[e];show bV φ [t]+((ts.filterMap rH).map (bV φ)).sum=_;rw[ih,fM,lu];grind
theorem Pu(l:List aP):sA l=wU l:=by refine HC (Wq l) (LH l) fun φ=>?_;rw[sA,(Ld _ (UR l) [] bB.nil).2,lu,wU,(LG (φ:=φ) _ _ (Kae _) (fun p hp=>(Lc l p hp).c)).2,kM,Le];grind
theorem ae9{l:List aP}{k:Nat}(hb:∀t∈l,rs t.q<=k):PB (k+1) 1048576 (pj l):=fun t ht=>by obtain⟨r,h1,rfl,h5⟩:=Lt ht;exact⟨by have:=hb r h1;show rs r.q+1<=k+1;omega,MB.tA h5,yj h5⟩
theorem O0{l:List aP}{k:Nat}(hb:∀t∈l,rs t.q<=k):∀p∈kM l,PB (k+1) 1048576 p:=fun p hp=>by obtain⟨t,h1,rfl,_⟩:=GI hp;intro s hs;simp only[Kau]at hs;subst hs;exact ae9 hb _ h1
theorem US(l:List aP):rK (kM l)<=l.length:=by
 have key:∀L:List (List Tm),(∀p∈L,p.length=1)->rK L=L.length:=by
  intro L;induction L with
  |nil=>intro _;rfl
  |cons p L ih=>
   intro h;have h1:=h p (by simp);have h2:=ih (fun q hq=>h q (by simp[hq]));unfold rK at *
   rw[Kba,KcZ,h1,h2,KaT];omega
 rw[key _ (fun p hp=>by obtain⟨t,_,rfl,_⟩:=GI hp;rfl)];exact Ge l
theorem UT{l:List aP}{k:Nat}(hb:∀t∈l,rs t.q<=k):PB (l.length*(k+1)) 1048576 (wU l)/\(wU l).length<=l.length:=by obtain⟨h1,h2⟩:=GD _ (kM l) (Kae _) (O0 hb);exact⟨h1.mono (Kaj _ (Ge l)) (Kae _),Kap h2 (US l)⟩
theorem AK(q:Rat):lB (decide (q.num<0)) (ao q.num.natAbs) (ao q.den)=true:=by
 simp only[lB,qA,KaC,decide_eq_true_eq];refine⟨?_,⟨?_,C0 _⟩,?_⟩
 ·split
  ·rename_i h;rw[mL]at h;have:¬q.num<0:=by omega
   simp[this]
  ·exact decide_eq_true (C0 _)
 ·rw[ne_eq,mL];exact q.den_nz
 ·rw[Qy,Qy];exact q.reduced
def eM(t:Tm):aP:=⟨decide (t.1.num<0),ao t.1.num.natAbs,ao t.1.den,t.2⟩
theorem TC(t:Tm):(eM t).tm=t:=by show(rv _ _ _,t.2)=t;rw[eM,eA]
theorem yu(p:List Tm):PV.jI (p.map eM)=PV.aL p:=by show PV.sl 4 ((p.map eM).map PV.r8)=PV.sl 4 (p.map PV.term);rw[KbH];rfl
theorem Sx{t:Tm}(h:TV t):gC (eM t)=true:=by
 have e:(eM t).q=t.1:=by show rv _ _ _=_;rw[eM,eA]
 simp only[gC,KaC,decide_eq_true_eq];exact⟨AK t.1,by rw[e];exact h.c,h.m⟩
theorem C7:∀ {p:List Tm},qi p->dz (p.map eM)=true
 | [],_=>rfl
 | [t],h=>by show gC (eM t)=true;exact Sx (h.t t (by simp))
 |s::t::p,h=>by have h1:=Sx (h.t s (by simp));have h2:0<bm (eM s).m (eM t).m:=h.s.1 t (by simp);have h3:=C7 (p:=t::p) ⟨fun x hx=>h.t x (by simp[hx]),h.s.2⟩;show dz (eM s::eM t::p.map eM)=true;rw[dz,h1,decide_eq_true h2];exact h3
theorem yH{t:Tm}{k:Nat}(h:rs t.1<=k)(hm:t.2.length<2^40):RB k (eM t):=by
 have h1:nl t.1.num.natAbs<=k:=by unfold rs at h;omega
 have h2:nl t.1.den<=k:=by unfold rs at h;omega
 exact⟨⟨Qm _,Qm _,h1,h2⟩,hm⟩
def cI(a:Rat):Nat->Rat
 |0=>1
 |n+1=>cI a n*a
theorem CN(a:Rat):cI a 0=1:=rfl
theorem ag4(a:Rat):cI a 1=a:=by show 1*a=a;grind
theorem Ro(a:Rat)(m:Nat):∀n,cI a (m+n)=cI a m*cI a n
 |0=>by rw[KaY,CN];grind
 |n+1=>by
  rw[<-Nat.add_assoc];show cI a (m+n)*a=cI a m*(cI a n*a)
  rw[Ro a m n];grind
theorem JL(a:Rat):∀k,cI (a*a) k=cI a (2*k)
 |0=>rfl
 |k+1=>by show cI (a*a) k*(a*a)=_;rw[JL a k,show 2*(k+1)=2*k+1+1 by omega];show _=cI a (2*k)*a*a;grind
theorem Uo{a:Rat}{n:Nat}(h:n%2=0):cI (a*a) (n/2)=cI a n:=by rw[JL];congr 1;omega
theorem Ut{a:Rat}{n:Nat}(h:n%2=1):cI (a*a) (n/2)*a=cI a n:=by rw[JL,show n=2*(n/2)+1 by omega,show 2*((2*(n/2)+1)/2)=2*(n/2)by omega];rfl
theorem Dp(a:Rat):∀n,rs (cI a n)<=1+rs a*n
 |0=>by have:=mT;show rs 1<=_;omega
 |n+1=>by have:=Dp a n;have:=fD (cI a n) a;rw[Ka4];show rs (cI a n*a)<=_;omega
def eT(vs:List Rat)(m:List Int):Nat->Rat
 |0=>1
 |n+1=>eT vs m n*cI (vs.getD n 0) (eN m n).toNat
def kG(vs:List Rat)(m:List Int):Rat:=eT vs m m.length
theorem ajx(vs:List Rat)(m:List Int)(k:Nat):eT vs m (m.length+k)=kG vs m:=by
 induction k with
 |zero=>rfl
 |succ k ih=>rw[<-Nat.add_assoc];show eT vs m (m.length+k)*cI _ (eN m (m.length+k)).toNat=_;rw[ih,jh (by omega)];show kG vs m*1=_;grind
theorem JM{vs:List Rat}{m:List Int}{n:Nat}(h:m.length<=n):eT vs m n=kG vs m:=by
 obtain⟨k,rfl⟩:∃k,n=m.length+k:=⟨n-m.length,by omega⟩
 exact ajx vs m k
theorem ajy{vs:List Rat}{a b:List Int}{k l:Nat}(ha:MB k a)(hb:MB l b):kG vs (bF a b)=kG vs a*kG vs b:=by
 have hlen:(bF a b).length<=max a.length b.length:=by have:=tD (mc (· + ·) a b);rw[rp]at this;exact this
 rw[<-JM (n:=max a.length b.length) hlen,<-JM (m:=a) (n:=max a.length b.length) (by omega),<-JM (m:=b) (n:=max a.length b.length) (by omega)];generalize max a.length b.length=N;induction N with
 |zero=>show(1:Rat)=1*1;grind
 |succ N ih=>
  have h1:=(ha.eN N).1;have h2:=(hb.eN N).1;show eT vs (bF a b) N*cI _ (eN (bF a b) N).toNat=(eT vs a N*cI _ (eN a N).toNat)*(eT vs b N*cI _ (eN b N).toNat)
  rw[ih,ph,show(eN a N+eN b N).toNat=(eN a N).toNat+(eN b N).toNat by omega,Ro];grind
def iy(vs:List Rat)(p:List Tm):Rat:=bV (kG vs) p
def qJ(vs:List Rat)(p:List Tm):Bool:=p.any fun t=>decide (vs.length<t.2.length)
abbrev PV.bj(vs:List Rat):PV:=.sl 3 (vs.map PV.rat)
def vE(vs:List Rat)(p:List Tm):PV:=if qJ vs p=true then .aH [PV.rr false [] [],.int .i64 2]else .aH [PV.rat (iy vs p),.int .i64 0]
theorem Lf{vs:List Rat}{p:List Tm}{i:Nat}(h:i<p.length):iy vs (p.take (i+1))=iy vs (p.take i)+p[i].1*kG vs p[i].2:=by rw[Kak h,iy,Lp,fM,lu,iy];grind
theorem HD{vs:List Rat}{m:List Int}{E W:Nat}(hm:MB E m)(hv:∀v∈vs,rs v<=W)(hW:1<=W)(c:Rat):∀n,rs (c*eT vs m n)<=rs c+n*(1+W*E)
 |0=>by
  have:c*eT vs m 0=c:=by show c*1=c;grind
  rw[this];omega
 | n+1=>by
  have h1:=HD hm hv hW c n;have h2:=Dp (vs.getD n 0) (eN m n).toNat;have h3:rs (vs.getD n 0)<=W:=by
   by_cases h:n<vs.length
   ·rw[Kad,Kag h];exact hv _ (Kah h)
   ·rw[Kad,Kcj (by omega)];have:=sN;show rs 0<=W;omega
  have h4:(eN m n).toNat<=E:=by have:=(hm.eN n).2;omega
  have h5:rs (vs.getD n 0)*(eN m n).toNat<=W*E:=KaQ h3 h4;have h6:=fD (c*eT vs m n) (cI (vs.getD n 0) (eN m n).toNat);have e:c*eT vs m (n+1)=(c*eT vs m n)*cI (vs.getD n 0) (eN m n).toNat:=by show c*(eT vs m n*_)=_;grind
  rw[e,KaK];omega
theorem C8{vs:List Rat}{p:List Tm}{K E W:Nat}(hp:PB K E p)(hv:∀v∈vs,rs v<=W)(hW:1<=W):∀i,i<=p.length->rs (iy vs (p.take i))<=1+i*(K+64*(1+W*E))
 |0,_=>by have:=sN;show rs 0<=_;omega
 |i+1,h=>by have h1:=C8 hp hv hW i (by omega);have ht:=hp.get (i:=i) (by omega);have h2:=HD (vs:=vs) ht.m hv hW p[i].1 p[i].2.length;have h3:=lz (iy vs (p.take i)) (p[i].1*kG vs p[i].2);have h4:p[i].2.length*(1+W*E)<=64*(1+W*E):=Kaj _ ht.m.len;have h5:=ht.c;rw[Lf (by omega),KaK];have h6:rs (p[i].1*kG vs p[i].2)<=rs p[i].1+p[i].2.length*(1+W*E):=h2;omega
theorem acY{B B':List Nat}{F:Fr}(h:(B'.all B.contains)=true):bO B' (bO B F)=bO B F:=by
 funext s;rw[LP B'];split
 ·rename_i h1;rw[LP B]at h1⊢;split
  ·rfl
  ·rename_i h2;rw[if_neg h2]at h1;exfalso;apply h2;rw[Ka6]at h1⊢;obtain⟨x,hx,hb⟩:=h1;rw[Kax]at h;exact⟨x,hx,h x (Kcy.1 hb)⟩
 ·rfl
theorem acZ{W:List (Nat×Nat)}{B:List Nat}{J F:Fr}:bO B (aY W J F)=aY W (bO B J) (bO B F):=by funext s;unfold bO aY;split<;>rfl
theorem Co{V W:List (Nat×Nat)}{B B':List Nat}{X Z F:Fr}(h:yT V W=true)(hB:(B'.all B.contains)=true):aY V X (bO B' (aY W Z (bO B F)))=aY W (aY V X (bO B' Z)) (bO B F):=by rw[acZ,acY hB,dS h]
section
variable {C : Ctx} {fr : Fr} {hp : HP} {w : World} {K R : Qh}
theorem Ua{ty d β n e' ty':Nat}{xs:List PV}{fz:Bool}(h:hp β=some ⟨e',ty',xs,fz⟩)(hB:bJ β=false:=by decide):
  mu 1 ty [.ms β n] d fr hp K=K (af (cP d fr) d (.ms d 1)) (Qj (bW hp [β]) d ⟨1,ty,[.sl e' (xs.take n)],false⟩):=by
 have e:=Jt hp β n _ _ _ _ h hB;have e2:HF hp 1 [.ms β n]:=fun p hp'=>by simp only[Kau]at hp';subst hp';rw[e];exact⟨rfl,rfl⟩
 apply propext;have M4:nA [.ms β n]=false:=by
  have:β<1000000:=by simpa[bJ]using hB
  simp[nA,ko];omega
 simp only[mu,M4,Kbs,if_false,DU,Kba,Kbu,e,KaT,Kbk];exact⟨fun h=>h.2.2,fun h=>⟨by omega,e2,h⟩⟩
end
def pw(m:List Int)(v:Nat):List Int:=cQ (m.set v 0)
theorem amY(m:List Int)(v i:Nat):eN (m.set v 0) i=if i=v then 0 else eN m i:=by
 by_cases hi:i<m.length
 ·rw[fY (by simpa using hi),Kc6];by_cases h:i=v
  ·rw[if_pos h,if_pos h.symm]
  ·rw[if_neg h,if_neg (fun h'=>h h'.symm),fY hi]
 ·rw[jh (by simpa using hi),jh (by omega)];split<;>rfl
theorem wE(m:List Int)(v i:Nat):eN (pw m v) i=if i=v then 0 else eN m i:=by rw[pw,C5,amY]
theorem Wr(m:List Int)(v:Nat):(pw m v).getLast? ≠some 0:=GC _
theorem C9{E:Nat}{m:List Int}(h:MB E m)(v:Nat):MB E (pw m v):=by
 have hl:(pw m v).length<=64:=by
  have:=tD (m.set v 0);have:=h.len;rw[Kcl]at *
  unfold pw;omega
 refine⟨hl,fun x hx=>?_,fun x hx=>?_⟩
 all_goals
  obtain⟨i,hi,rfl⟩:=KaV hx;rw[<-fY hi,wE];have:=h.eN i;split<;>omega
def DP(p:List Tm)(v:Nat)(n:Int):List Tm:=p.filterMap fun t=>if eN t.2 v=n then some (t.1,pw t.2 v)else none
theorem afa{p:List Tm}{v:Nat}{n:Int}{t:Tm}(h:t∈DP p v n):∃s∈p,eN s.2 v=n/\t=(s.1,pw s.2 v):=by
 simp only[DP,Kcc]at h;obtain⟨s,h1,h2⟩:=h;split at h2
 ·rename_i h3;cases h2;exact⟨s,h1,h3,rfl⟩
 ·cases h2
end Go.FW
namespace Go.FW
open Go
def BJ(p:List Tm)(v:Nat)(q:List Tm)(top:Nat):Nat->List Tm
 |0=>DP p v top
 |k+1=>aW (hO (BJ p v q top k) q) (DP p v ((top:Int)-(k+1)))
def gH(vs:List Rat)(v:Nat)(b:Rat)(n:Int):List Tm->Rat
 | []=>0
 |t::p=>(if n<=eN t.2 v then t.1*kG vs (pw t.2 v)*cI b (eN t.2 v-n).toNat else 0)+gH vs v b n p
def ML(n:Nat)(p:List Tm):Prop:=∀t∈p,t.2.length<=n
theorem ML.au1{n:Nat}{p q:List Tm}(hp:ML n p)(hq:ML n q):ML n (aW p q):=fun t ht=>by
 rcases AJ ht with⟨s,h1,h2⟩|⟨s,h1,h2⟩
 ·rw[<-h2];exact hp s h1
 ·rw[<-h2];exact hq s h1
theorem Rp(a b:List Int):(bF a b).length<=max a.length b.length:=by
 have:=tD (mc (· + ·) a b)
 rwa[rp]at this
theorem ac0{p:List Tm}{t x:Tm}(h:x∈ca p t):∃s∈p,x.2=bF s.2 t.2:=by
 simp only[ca,Kcc]at h;obtain⟨y,hy,h⟩:=h;split at h
 ·cases h
 ·cases h;exact⟨y,hy,rfl⟩
theorem Rq:∀(n:Nat)(l:List (List Tm)),l.length<=n->∀ {t:Tm},t∈fH l->∃p∈l,∃s∈p,s.2=t.2:=by
 intro n;induction n with
 |zero=>intro l hl t ht;have:l=[]:=KaI.1 (by omega);subst this;rw[fH]at ht;cases ht
 | succ n ih=>
  intro l hl t ht
  match l,ht with
  | [],ht=>rw[fH]at ht;cases ht
  | [p],ht=>rw[fH]at ht;exact⟨p,by simp,t,ht,rfl⟩
  | p::q::r,ht=>
   rw[CI (by simp)]at ht;generalize hL:p::q::r=L at *
   have hlen:2<=L.length:=by rw[<-hL];simp
   rcases AJ ht with⟨s,h1,h2⟩|⟨s,h1,h2⟩
   ·obtain⟨p',hp',s',fA,e⟩:=ih _ (by rw[KaF];omega) h1;exact⟨p',Kbf hp',s',fA,e.trans h2⟩
   ·obtain⟨p',hp',s',fA,e⟩:=ih _ (by rw[Kbc];omega) h1;exact⟨p',KbO hp',s',fA,e.trans h2⟩
theorem ag5{p q:List Tm}{t:Tm}(h:t∈hO p q):∃a∈p,∃b∈q,t.2=bF a.2 b.2:=by
 have main:∀ {p q:List Tm},t∈tR p q->∃a∈p,∃b∈q,t.2=bF a.2 b.2:=fun {p q} h=>by obtain⟨x,hx,s,hs,e⟩:=Rq _ _ (Kae _) h;obtain⟨a,ha,rfl⟩:=Kaq.1 hx;obtain⟨b,hb,e2⟩:=ac0 hs;exact⟨a,ha,b,hb,by rw[<-e,e2,AB]⟩
 unfold hO at h;split at h
 ·obtain⟨a,ha,b,hb,e⟩:=main h;exact⟨b,hb,a,ha,by rw[e,AB]⟩
 ·exact main h
theorem ML.au3{n:Nat}{p q:List Tm}(hp:ML n p)(hq:ML n q):ML n (hO p q):=fun t ht=>by obtain⟨a,ha,b,hb,e⟩:=ag5 ht;have:=Rp a.2 b.2;have:=hp a ha;have:=hq b hb;rw[e];omega
theorem ML.WZ{n:Nat}{p:List Tm}(hp:ML n p)(v:Nat)(k:Int):ML n (DP p v k):=fun t ht=>by obtain⟨s,h1,_,rfl⟩:=afa ht;have:=tD (s.2.set v 0);rw[Kcl]at this;exact Kap this (hp s h1)
theorem ML.BJ{n:Nat}{p q:List Tm}(hp:ML n p)(hq:ML n q)(v top:Nat):∀k,ML n (BJ p v q top k)
 |0=>hp.WZ v _
 |k+1=>((ML.BJ hp hq v top k).au3 hq).au1 (hp.WZ v _)
theorem Q7u{p:List Tm}{K E:Nat}(hp:PB K E p)(hE:E<=1048576)(hl:p.length<=4000):tN p=false:=by
 have:(p.any fun t=>t.2.any fun x=>decide (1048576<x))=false:=by rw[KbU];intro t ht;rw[Bool.not_eq_true,KbU];intro x hx;have:=(hp t ht).m.hi x hx;simp;omega
 rw[tN,this,Bool.or_false];exact decide_eq_false (by omega)
def tZ(a:List Int):Nat->Int
 |0=>0
 |n+1=>tZ a n+eN a n
theorem O1(a:List Int):∀n,n<=a.length->tZ a n=(a.take n).sum
 |0,_=>by simp[tZ]
 |n+1,h=>by rw[tZ,O1 a n (by omega),Kak (by omega),List.sum_append,fY (by omega)];simp
theorem ajz(a:List Int)(k:Nat):tZ a (a.length+k)=dT a:=by
 induction k with
 |zero=>rw[KaY,O1 a _ (Kae _),Kaz];rfl
 |succ k ih=>rw[<-Nat.add_assoc,tZ,ih,jh (by omega)];omega
theorem JN{a:List Int}{n:Nat}(h:a.length<=n):tZ a n=dT a:=by
 obtain⟨k,rfl⟩:∃k,n=a.length+k:=⟨n-a.length,by omega⟩
 exact ajz a k
theorem ag6(a b:List Int):dT (bF a b)=dT a+dT b:=by
 rw[<-JN (Rp a b),<-JN (a:=a) (n:=max a.length b.length) (by omega),<-JN (a:=b) (n:=max a.length b.length) (by omega)];generalize max a.length b.length=n;induction n with
 |zero=>rfl
 |succ n ih=>rw[tZ,tZ,tZ,ih,ph];omega
theorem L4:∀(p:List Tm)(d:Int),d<=p.foldl (fun d t=>max d (dT t.2)) d/\(∀t∈p,dT t.2<=p.foldl (fun d t=>max d (dT t.2)) d)/\(p.foldl (fun d t=>max d (dT t.2)) d=d∨∃t∈p,p.foldl (fun d t=>max d (dT t.2)) d=dT t.2)
 | [],d=>⟨Int.le_refl _,by simp,.inl rfl⟩
 | s::p,d=>by
  obtain⟨h1,h2,h3⟩:=L4 p (max d (dT s.2));rw[List.foldl_cons];refine⟨by omega,fun t ht=>?_,?_⟩
  ·rcases KaG.1 ht with rfl|ht
   ·omega
   ·exact h2 t ht
  ·rcases h3 with h3|⟨t,ht,h3⟩
   ·rw[h3];by_cases h:d<=dT s.2
    ·right;exact⟨s,by simp,by omega⟩
    ·left;omega
   ·right;exact⟨t,by simp[ht],h3⟩
theorem Rs(p:List Tm):(∀t∈p,dT t.2<=jz p)/\(jz p= -1∨∃t∈p,jz p=dT t.2):=⟨(L4 p (-1)).2.1,(L4 p (-1)).2.2⟩
def bQ(v n:Nat):List Int:=List.replicate v 0++[(n:Int)]
theorem HE(v n i:Nat):eN (bQ v n) i=if i=v then(n:Int)else 0:=by
 unfold bQ;by_cases h:i<v
 ·rw[if_neg (by omega),fY (by simp;omega),KbF (by simpa using h),List.getElem_replicate]
 ·by_cases h2:i=v
  ·subst h2;rw[if_pos rfl,fY (by simp),Kch (by simp)];simp
  ·rw[if_neg h2,jh (by simp;omega)]
theorem O2{v n:Nat}(h:0<n):(bQ v n).getLast? ≠some 0:=by unfold bQ;rw[List.getLast?_append];simp;omega
theorem Jo{v n:Nat}(hv:v<64):MB n (bQ v n):=by
 refine⟨by simp[bQ];omega,fun x hx=>?_,fun x hx=>?_⟩
 all_goals
  simp only[bQ,KaL,Kc9,Kau]at hx;omega
variable {C : Ctx} {fr : Fr} {hp : HP} {w : World} {K R : Qh}
theorem My{e ty d:Nat}(he:0<e):mu e ty [] d fr hp K=K (af (cP d fr) d (.ms d 0)) (Qj hp d ⟨e,ty,[],false⟩):=Jz (by rfl) (by simp) he
end Go.FW
namespace Go.FW
open Go
variable {C : Ctx} {fr : Fr} {hp : HP} {K : Qh}
end Go.FW
namespace Go.FW
open Go
theorem Ws:∀ {p:List Tm},kL p->∀n,kL (p.take n)
 |_,_,0=>trivial
 | [],_,n+1=>trivial
 |t::p,h,n+1=>⟨fun s hs=>h.1 s (Kbf hs),Ws h.2 n⟩
theorem bB.take{p:List Tm}(h:bB p)(n:Nat):bB (p.take n):=⟨fun t ht=>h.c t (Kbf ht),fun t ht=>h.z t (Kbf ht),Ws h.s n⟩
abbrev PV.a9(r c:Nat)(l:List Rat):PV:=.agg [.int .i64 r,.int .i64 c,PV.bj l]
abbrev MF:=Nat->Nat->Rat
def Qq(l:List Rat)(m:Nat):MF:=fun r c=>l.getD (r*m+c) 0
theorem O3{l:List Rat}{n m r:Nat}(hl:l.length=n*m)(hr:r<n):((l.take ((r+1)*m)).drop (r*m)).map PV.rat=Qo PV.rat (Qq l m r) m:=by
 have h1:(r+1)*m<=n*m:=Kaj _ hr;have h2:(r+1)*m=r*m+m:=by rw[KaK,KcT]
 refine Ka7 (by simp[Qo];omega) fun j h3 h4=>?_;have hj:j<m:=by simpa[Qo]using h4
 simp only[List.getElem_drop,List.getElem_take,Ka8,Qo,List.getElem_range,Qq];rw[Kad,Kag (by omega)];rfl
structure RQ where
 n:Bool
 a:List Nat
 d:List Nat
 deriving Inhabited
abbrev PV.rq(q:RQ):PV:=PV.rr q.n q.a q.d
abbrev PV.rm(l:List RQ):PV:=.sl 3 (l.map PV.rq)
abbrev PV.lj(r c:Int)(l:List RQ):PV:=.agg [.int .i64 r,.int .i64 c,PV.rm l]
def nE(q:RQ):Bool:=lB q.n q.a q.d
def eL(q:RQ):Rat:=rv q.n q.a q.d
def ju(r c:Int)(l:List RQ):Bool:=decide (0<=r/\r<=40/\0<=c/\c<=40/\(l.length:Int)=r*c)&&l.all nE
def qR(q:Rat):RQ:=⟨decide (q.num<0),ao q.num.natAbs,ao q.den⟩
theorem LI{R m:Nat}{l:List Rat}(hl:l.length=R*m)(hR:R<=40)(hm:m<=40):ju R m (l.map qR)=true:=by unfold ju;rw[KaC,decide_eq_true_eq];refine⟨⟨by omega,by omega,by omega,by omega,by rw[Kal,hl,Kb3]⟩,?_⟩;rw[Kax];intro x hx;obtain⟨q,hq,rfl⟩:=Kaq.1 hx;exact AK q
theorem Ka(l:List Rat):PV.bj l=PV.rm (l.map qR):=by unfold PV.rm PV.bj;rw[KbH];rfl
theorem sB(R m:Nat)(l:List Rat):PV.a9 R m l=PV.lj R m (l.map qR):=by unfold PV.a9 PV.lj;rw[Ka]
theorem amZ(q:Rat):eL (qR q)=q:=eA q
theorem Wt(l:List Rat):(l.map qR).map eL=l:=by
 rw[KbH];conv=>rhs;rw[<-List.map_id l]
 exact KaJ fun q _=>amZ q
def pF(M:MF)(k:Nat):Nat->Nat->Nat
 |0,i=>i
 |f+1,i=>if M i k=0 then pF M k f (i+1)else i
theorem AM(M:MF)(k:Nat):∀f i,i<=pF M k f i/\pF M k f i<=i+f
 |0,i=>⟨Kae _,Kae _⟩
 |f+1,i=>by
  unfold pF;split
  ·have:=AM M k f (i+1);omega
  ·omega
theorem Dq(M:MF)(k:Nat):∀f i,pF M k f i<i+f->M (pF M k f i) k≠0
 |0,i,h=>by simp[pF]at h
 |f+1,i,h=>by
  unfold pF at h⊢;split
  ·rename_i h0;rw[if_pos h0]at h;exact Dq M k f (i+1) (by omega)
  ·rename_i h0;exact h0
theorem Pv(M:MF)(k:Nat):∀f i j,i<=j->j<pF M k f i->M j k=0
 |0,i,j,h1,h2=>by simp[pF]at h2;omega
 | f+1,i,j,h1,h2=>by
  unfold pF at h2;split at h2
  ·rename_i h0;by_cases e:j=i
   ·subst e;exact h0
   ·exact Pv M k f (i+1) j (by omega) h2
  ·omega
def eJ(M:MF)(R k n:Nat):Nat:=pF M k (R-n) n
def ct(M:MF)(i n:Nat):MF:=fun r=>if r=n then M i else if r=i then M n else M r
def dm(M:MF)(n:Nat)(p:Rat):MF:=fun r c=>if r=n then M n c/p else M r c
def lD(M:MF)(n k:Nat):MF:=fun r c=>if r=n then M n c else M r c-M r k*M n c
structure qh where
 M:MF
 ak:List Nat
 cG:Rat
def dP(R:Nat)(E:qh)(k:Nat):qh:=
 if eJ E.M R k E.ak.length=R then E else
  ⟨lD (dm (ct E.M (eJ E.M R k E.ak.length) E.ak.length) E.ak.length (E.M (eJ E.M R k E.ak.length) k)) E.ak.length k,E.ak++[k],
   (if eJ E.M R k E.ak.length=E.ak.length then E.cG else -E.cG)*E.M (eJ E.M R k E.ak.length) k⟩
def Qt(R:Nat)(M:MF):Nat->qh
 |0=>⟨M,[],1⟩
 |k+1=>dP R (Qt R M k) k
theorem ll(R:Nat)(M:MF):∀k,(Qt R M k).ak.length<=k/\(Qt R M k).ak.length<=R/\∀x∈(Qt R M k).ak,x<k
 |0=>⟨Kae _,Kbz _,by simp[Qt]⟩
 | k+1=>by
  obtain⟨h1,h2,h3⟩:=ll R M k;show(dP R (Qt R M k) k).ak.length<=k+1/\_;simp only[Qt];unfold dP;split
  ·exact⟨by omega,h2,fun x hx=>by have:=h3 x hx;omega⟩
  ·rename_i h;have:=AM (Qt R M k).M k (R-(Qt R M k).ak.length) (Qt R M k).ak.length;have h4:eJ (Qt R M k).M R k (Qt R M k).ak.length<=R:=by unfold eJ;omega
   have h5:(Qt R M k).ak.length<=eJ (Qt R M k).M R k (Qt R M k).ak.length:=this.1;refine⟨by simp;omega,by simp;omega,fun x hx=>?_⟩;simp only[KaL,Kau]at hx;rcases hx with hx|hx
   ·have:=h3 x hx;omega
   ·omega
def fL(K R w:Nat)(M:MF):Prop:=∀r,r<R->∀c,c<w->rs (M r c)<=K
theorem ajA:PV.le (.agg [.int .i64 0,.int .i64 0,.au]) (PV.lj 0 0 []):=by simp[PV.le,PV.BZ,PV.oa,PV.lj,PV.rm]
def vm(K R w n:Nat)(M:MF):Prop:=∀k,k<=n->fL K R w (Qt R M k).M/\rs (Qt R M k).cG<=K
def oC(p:Nat->Bool):Nat->Nat->Nat
 |0,i=>i
 |f+1,i=>if p i then i else oC p f (i+1)
theorem yA{p:Nat->Bool}:∀ {f i n:Nat},i<=n->n<i+f->p n=true->(∀j,i<=j->j<n->p j=false)->oC p f i=n
 |0,i,n,h1,h2,_,_=>by omega
 | f+1,i,n,h1,h2,h3,h4=>by
  unfold oC;by_cases e:i=n
  ·subst e;rw[if_pos h3]
  ·rw[h4 i (Kae _) (by omega)];exact yA (by omega) (by omega) h3 fun j h5 h6=>h4 j (by omega) h6
theorem uX{p:Nat->Bool}:∀ {f i:Nat},(∀j,i<=j->j<i+f->p j=false)->oC p f i=i+f
 |0,i,_=>rfl
 |f+1,i,h=>by unfold oC;rw[h i (Kae _) (by omega)];have:=uX (p:=p) (f:=f) (i:=i+1) fun j h5 h6=>h j (by omega) (by omega);simp only[Kbs,if_false];omega
def gF(x y:Nat->Rat)(c:Rat):Nat->Rat:=fun i=>x i+c*y i
def eh(M:MF)(R:Nat):Nat:=oC (fun i=>decide (M i i≠0)) R 0
def eU(M:MF)(R i:Nat):Nat:=oC (fun k=>decide (M i k≠0)) R 0
def cF(M:MF)(R:Nat):Nat:=oC (fun i=>decide (eU M R i<R)) R 0
def cd (M:MF) (R:Nat):List (Rat×(Nat->Rat)):=
  if eh M R<R then [(M (eh M R) (eh M R),gF (fun _=>0) (M (eh M R)) (1/M (eh M R) (eh M R)))]
  else if cF M R<R then
    [(1/(M (cF M R) (eU M R (cF M R))+M (cF M R) (eU M R (cF M R))),gF (M (cF M R)) (M (eU M R (cF M R))) 1),
     (-(1/(M (cF M R) (eU M R (cF M R))+M (cF M R) (eU M R (cF M R)))),gF (M (cF M R)) (M (eU M R (cF M R))) (-1))]
  else []
abbrev PV.form(w:Nat)(f:Rat×(Nat->Rat)):PV:=.agg [.bool (decide (f.1.num<0)),PV.num f.1.num.natAbs,PV.num f.1.den,.sl 3 (Qo PV.rat f.2 w)]
end Go.FW
