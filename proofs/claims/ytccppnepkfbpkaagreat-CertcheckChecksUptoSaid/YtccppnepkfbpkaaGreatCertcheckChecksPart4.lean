/- Part 4 of the proof of CertcheckChecks: C1, CI, C1b, N1, N2, N3, N4, N5, N6, N7, N8, N9, N10, N11, N12, N13, N14, N15, I1, R1, R2, FwNG, FwNS, FwNT, FwQA, FwSD, FwSE, FwSF, FwSG, FwSH, FwSI, FwSJ, FwSK, FwSL, FwUA, FwSM, FwUC, FwVA. Own lemmas; no conditions. -/
import Derived.Test.YtccppnepkfbpkaaGreatCertcheckChecksPart3
import Derived.Test.YtccppnepkfbpkaaGreatProg
set_option maxHeartbeats 1000000
set_option linter.unusedSimpArgs false
set_option linter.unusedVariables false
set_option linter.unnecessarySimpa false
set_option maxRecDepth 100000
namespace Go.Proofs.YtccppnepkfbpkaaGreat
open Go Go.FW
theorem Qh:Tryz.prog.follows .mixedOrders=true:=by kernel_rfl
def Rk:ay:=⟨21,[.t 2],Zr (YH 2)<|Zr (Yo 4 0<|
 Zm 3 5 .nil)<| .seq (.block 0<| .loop<| .seq (Zr (YA 6 3 1<|
 Zg 8 true (.ld 13 1 false (.t 12))<|
 Zg 8 true (.bin 14 .eql false (.t 13) (.c (.int .u16 0)))<|
 Yk 15 8 14 .nil)<| .cond (.t 15) .skip (.exit 0))<| .block 1<| .rg (rq 16 3))<|Zr (Yh 18 0 3<|
 Zo (.sl 20 1 (.t 18) none (some (.t 19)) none)<|
 Yc 2 20) .ret⟩
theorem Mc:Qe Tryz.prog Tryz.f151=some Rk:=by kernel_rfl
def akV:ay:=⟨16,[.t 2],Zr (YH 2)<|Zr (YK 4 0 151<|
 Zm 0 5 .nil)<| .seq (Zr (Yo 6 0<|
 ir 8 7 0)<| .cond (.t 8) (Zr (YH 2) .ret) .skip)<|Zr (Yo 9 0<|
 pZ 11 10 10<|
 Zm 3 11 .nil)<|Zr (Yh 12 3 0<|
 Zo (.uk 14 1 (.t 12) (.t 13)) .nil)<|Zr (dh 15 3 2) .ret⟩
theorem ady:Qe Tryz.prog Tryz.f153=some akV:=by kernel_rfl
def ald:ay:=⟨14,[.t 2],Zr (YH 2)<|Zr (YH 3)<| .seq (.block 0<| .loop<| .seq (Zr (Zm 4 0<|
 Zo (.bin 5 .gtr false (.t 4) (.c (.int .u64 0))) .nil)<| .cond (.t 5) .skip (.exit 0))<| .seq (.block 1<| .rg (Yh 8 3 0<|
 Zo (.conv 10 .u16 (.t 9))<|
 YB 11 1 128 10 2 8<|
 Zm 3 12 .nil))<| .rg (ue 6 0<|
 Zm 0 7 .nil))<|Zr (Zm 13 3<|
 Zm 2 13 .nil) .ret⟩
theorem adz:Qe Tryz.prog Tryz.f170=some ald:=by kernel_rfl
def alm:ay:=⟨28,[.t 2,.t 3],Zr (Zo (.mv 2 (.c (.int .u64 0)))<|
 Yd 3)<|Zr (YK 7 0 151<|
 Zm 0 8 .nil)<| .seq (Zr (Yo 9 0<|
 fu 11 10 4)<| .cond (.t 11) (Zr (Zo (.mv 2 (.c (.int .u64 0)))<|
 Yd 3) .ret) .skip)<|Zr (Zo (.mv 4 (.c (.int .u64 0))) .nil)<| .seq (Zr (eZ 12 0)<| .block 0<| .loop<|Zr (Ys 15 14 13)<| .seq (.cond (.t 15) .skip (.exit 0))<| .seq (.block 1<|Zr (Zm 16 14<|
 Ym 17 12 14<|
 Zm 5 16<|
 Zm 6 18 .nil)<| .rg (Yh 19 4 6<|
 lj 21 20<|
 Zm 22 5<|
 Zo (.bin 23 .mul false (.c (Zz 16)) (.t 22))<|
 Zb 24 .shl 21 23<|
 Zb 25 .or 19 24<|
 Yc 4 25))<| .rg (YC 26 14 14))<|Zr (Zm 27 4<|
 Zm 2 27<|
 YG 3) .ret⟩
theorem adA:Qe Tryz.prog Tryz.f178=some alm:=by kernel_rfl
def akj:ay:=⟨20,[.t 2],Zr (Yi 2 0)<|Zr (YK 3 0 151<|
 Zm 0 4 .nil)<| .seq (Zr (Yo 5 0<|
 ir 7 6 0)<| .cond (.t 7) (Zr (Yi 2 0) .ret) .skip)<|Zr (Yo 8 0<|
 Zk 10 .sub 9 1<|
 Zo (.bin 11 .mul false (.c (Zz 16)) (.t 10))<|
 Yh 12 0 0<|
 Zn 14 13<|
 Zk 15 .sub 14 1<|
 Ym 16 12 15<|
 Yn 18 152 17<|
 cT 19 11 18<|
 Yc 2 19) .ret⟩
theorem adB:Qe Tryz.prog Tryz.f107=some akj:=by kernel_rfl
def aln:ay:=⟨45,[.t 4],Zr (Yi 4 0)<|Zr (YK 6 0 151<|
 YK 8 1 151<|
 Zm 0 7<|
 Zm 1 9 .nil)<| .seq (Zr (iO 10<|
 je 14 11 13)<| .cond (.t 14) (.seq (Zr (iO 15<|
 Ys 19 16 18)<| .cond (.t 19) (Zr (jS 4) .ret) .skip)<|Zr (Yi 4 1) .ret) .skip)<| .seq (Zr (Yo 20 0<|
 Zk 22 .sub 21 1<|
 Yc 5 22)<| .block 0<| .loop<| .seq (Zr (Zm 23 5<|
 Zk 24 .geq 23 0 .nil)<| .cond (.t 24) .skip (.exit 0))<| .seq (.block 1<| .seq (Zr (eY 27 0 5<|
 eY 31 1 5<|
 Ys 35 30 34)<| .cond (.t 35) (Zr (jS 4) .ret) .skip)<|Zr (eY 36 0 5<|
 eY 40 1 5<|
 Zb 44 .gtr 39 43 .nil)<| .cond (.t 44) (Zr (Yi 4 1) .ret) .skip)<| .rg (rq 25 5))<|Zr (Yi 4 0) .ret⟩
theorem adC:Qe Tryz.prog Tryz.f179=some aln:=by kernel_rfl
def alu:ay:=⟨64,[.t 4],Zr (YH 4)<|Zr (YK 9 0 151<|
 YK 11 1 151<|
 Zm 0 10<|
 Zm 1 12 .nil)<| .seq (Zr (iO 13<|
 Ys 17 14 16)<| .cond (.t 17) (.rg (Yh 18 1 0<|
 Zm 0 18<|
 Yc 1 19)) .skip)<|Zr (Yo 20 0<|
 Yo 22 0<|
 Zk 24 .add 23 1<|
 pZ 25 21 24<|
 Yc 5 25)<|Zr (Zo (.mv 6 (.c (.int .u32 0))) .nil)<| .seq (Zr (eZ 26 0)<| .block 0<| .loop<|Zr (Ys 29 28 27)<| .seq (.cond (.t 29) .skip (.exit 0))<| .seq (.block 1<|Zr (n8 30 28 26 7 8)<|Zr (Yh 33 6 8<|
 kD 35 34<|
 cT 36 33 35<|
 Yc 6 36)<| .seq (Zr (YI 37 7 1)<| .cond (.t 40) (.rg (cW 41 6 1 7<|
 Ym 44 42 43<|
 kD 46 45<|
 cT 47 41 46<|
 Yc 6 47)) .skip)<|Zr (cW 48 5 7 6<|
 YY 51 50 48 49)<| .rg (ue 53 6<|
 Yc 6 54))<| .rg (Yz 55 28 28))<| .seq (Zr (Zm 56 6<|
 Zo (.bin 57 .gtr false (.t 56) (.c (.int .u32 0))) .nil)<| .cond (.t 57) (.rg (Yh 58 5 6<|
 Zo (.conv 60 .u16 (.t 59))<|
 YB 61 1 128 60 2 58<|
 Yc 5 62)) .skip)<|Zr (dh 63 5 4) .ret⟩
theorem adD:Qe Tryz.prog Tryz.f187=some alu:=by kernel_rfl
def alv:ay:=⟨56,[.t 4,.t 5],Zr (dU 4 0)<| .seq (Zr (YX 11 0 1 179<|
 Zk 14 .lss 13 0 .nil)<| .cond (.t 14) (Zr (dU 4 2) .ret) .skip)<|Zr (YK 15 0 151<|
 YK 17 1 151<|
 Zm 0 16<|
 Yc 1 18)<|Zr (Yo 19 0<|
 pZ 21 20 20<|
 Yc 6 21)<|Zr (Zo (.mv 7 (.c (.int .i32 0))) .nil)<| .seq (Zr (eZ 22 0)<| .block 0<| .loop<|Zr (Ys 25 24 23)<| .seq (.cond (.t 25) .skip (.exit 0))<| .seq (.block 1<|Zr (n8 26 24 22 8 9)<|Zr (Zm 29 9<|
 Zo (.conv 30 .i32 (.t 29))<|
 Zm 31 7<|
 Zb 32 .sub 30 31<|
 Yc 10 32)<| .seq (Zr (YI 33 8 1)<| .cond (.t 36) (.rg (cW 37 10 1 8<|
 Ym 40 38 39<|
 Zo (.conv 42 .i32 (.t 41))<|
 Zb 43 .sub 37 42<|
 Yc 10 43)) .skip)<|Zr (Zo (.mv 7 (.c (.int .i32 0))) .nil)<| .seq (Zr (Zm 44 10<|
 Zo (.bin 45 .lss false (.t 44) (.c (.int .i32 0))) .nil)<| .cond (.t 45) (Zr (Zm 46 10<|
 Zo (.bin 47 .add false (.t 46) (.c (.int .i32 65536)))<|
 Yc 10 47)<| .rg (Zo (.mv 7 (.c (.int .i32 1))) .nil)) .skip)<| .rg (cW 48 6 8 10<|
 YY 51 50 48 49))<| .rg (Yz 53 24 24))<|Zr (YK 54 6 151<|
 Zm 4 55<|
 Yi 5 0) .ret⟩
theorem adE:Qe Tryz.prog Tryz.f188=some alv:=by kernel_rfl
def akm:ay:=⟨79,[.t 4],Zr (YH 4)<|Zr (YK 11 0 151<|
 YK 13 1 151<|
 Zm 0 12<|
 Yc 1 14)<| .seq (Zr (Yo 15 0<|
 Zk 17 .eql 16 0<|
 xV 18 17 1<|
 dm 22 18 21)<| .cond (.t 22) (Zr (YH 4) .ret) .skip)<|Zr (iO 23<|
 cT 27 24 26<|
 pZ 28 27 27<|
 Yc 5 28)<| .seq (Zr (eZ 29 0)<| .block 0<| .loop<|Zr (Ys 32 31 30)<| .seq (.cond (.t 32) .skip (.exit 0))<| .seq (.block 1<|Zr (n8 33 31 29 6 7)<|Zr (Zo (.mv 8 (.c (.int .u32 0))) .nil)<| .seq (Zr (eZ 36 1)<| .block 2<| .loop<|Zr (Ys 39 38 37)<| .seq (.cond (.t 39) .skip (.exit 2))<| .seq (.block 3<|Zr (n8 40 38 36 9 10)<|Zr (Yh 43 8 5<|
 Yh 45 6 9<|
 cT 47 45 46<|
 Ym 48 44 47<|
 kD 50 49<|
 Zm 51 7<|
 kD 52 51<|
 Zm 53 10<|
 kD 54 53<|
 Zb 55 .mul 52 54<|
 cT 56 50 55<|
 cT 57 43 56<|
 Yc 8 57)<|Zr (cW 58 5 6 9<|
 cT 61 59 60<|
 Zm 62 8<|
 YY 63 62 58 61)<| .rg (ue 65 8<|
 Yc 8 66))<| .rg (Yz 67 38 38))<| .rg (Yh 68 5 6<|
 Yo 70 1<|
 cT 72 69 71<|
 Zm 73 8<|
 YY 74 73 68 72))<| .rg (Yz 76 31 31))<|Zr (YK 77 5 151<|
 Yc 4 78) .ret⟩
theorem adF:Qe Tryz.prog Tryz.f111=some akm:=by kernel_rfl
def alo:ay:=⟨43,[.t 4,.t 5],Zr (Yj 4<|
 Zo (.mv 5 (.c (.int .u16 0))) .nil)<|Zr (Yo 9 0<|
 pZ 11 10 10<|
 Zm 6 11 .nil)<|Zr (Zo (.mv 7 (.c (.int .u32 0))) .nil)<| .seq (Zr (Yo 12 0<|
 Zk 14 .sub 13 1<|
 Zm 8 14 .nil)<| .block 0<| .loop<| .seq (Zr (Zm 15 8<|
 Zk 16 .geq 15 0 .nil)<| .cond (.t 16) .skip (.exit 0))<| .seq (.block 1<|Zr (Zm 19 7<|
 Zo (.bin 20 .shl false (.t 19) (.c (.int .u64 16)))<|
 eY 21 0 8<|
 kD 25 24<|
 Zb 26 .or 20 25<|
 Yc 7 26)<|Zr (Yh 27 6 8<|
 Yh 29 7 1<|
 kD 31 30<|
 Zb 32 .quo 29 31<|
 YY 33 32 27 28)<| .rg (Yh 35 7 1<|
 kD 37 36<|
 Zb 38 .rem 35 37<|
 Yc 7 38))<| .rg (Zm 17 8<|
 Zk 18 .sub 17 1<|
 Zm 8 18 .nil))<|Zr (YK 39 6 151<|
 Zm 41 7<|
 Zo (.conv 42 .u16 (.t 41))<|
 Zm 4 40<|
 Yc 5 42) .ret⟩
theorem adG:Qe Tryz.prog Tryz.f180=some alo:=by kernel_rfl
def akY:ay:=⟨71,[.t 4,.t 5,.t 6],Zr (Yj 4<|
 dU 5 0)<|Zr (YK 12 0 151<|
 YK 14 1 151<|
 Zm 0 13<|
 Yc 1 15)<| .seq (.block 0<|Zr (Yo 17 1<|
 Yu 19 18 0 16)<| .cond (.t 16) (Zr (Yj 4<|
 dU 5 3) .ret) (Zr (YX 21 0 1 179<|
 Zk 24 .lss 23 0<|
 Zm 20 24 .nil)<| .cond (.t 20) (Zr (YK 25 0 153<|
 Yj 4<|
 Zm 5 26<|
 Yi 6 0) .ret) (Zr (Yo 28 1<|
 Yu 30 29 1 27)<| .cond (.t 27) (Zr (Yh 32 0 1<|
 Yw 34 33 0<|
 ma 36 180 32 35 31 7 8)<|Zr (Yh 39 7 8<|
 lj 41 40<|
 Yn 42 170 41<|
 Yh 4 39 42<|
 Yi 6 0) .ret) .skip)))<|Zr (Yh 43 1 1<|
 Zn 45 44<|
 Zk 46 .sub 45 1<|
 Ym 47 43 46<|
 Yn 49 181 48<|
 Yc 9 49)<|Zr (YX 50 0 9 182<|
 Zo (.bs 53 1 128 [.c (.int .u16 0),.c (.int .u16 0)])<|
 Zo (.app 54 1 2 128 (.t 52) (.t 53))<|
 Yo 55 0<|
 Zk 57 .add 56 1<|
 Zo (.sl 58 1 (.t 54) none (some (.t 57)) none)<|
 Yc 10 58)<|Zr (YX 59 1 9 182<|
 Yc 11 61)<|Zr (YX 62 10 11 183<|
 Yc 4 64)<|Zr (Yh 65 4 10<|
 Yn 67 151 66<|
 Zm 68 9<|
 Zo (.un 69 .neg (.t 68))<|
 Yl 70 182 67 69<|
 Yh 4 65 70<|
 Yi 6 0) .ret⟩
theorem adH:Qe Tryz.prog Tryz.f156=some akY:=by kernel_rfl
def aly:ay:=⟨31,[.t 6],Zr (Yd 6)<|Zr (Zl 7 1 0<|
 Zo (.bin 8 .geq false (.t 7) (.c (.int .u64 65536)))<|
 Zm 9 8<|
 Zg 9 false (.ld 10 1 false (.t 0))<|
 Zg 9 false (.ld 11 1 false (.t 1))<|
 Zg 9 false (.ld 12 1 false (.t 2))<|
 Zg 9 false (.bin 13 .sub false (.t 12) (.c (Zz 2)))<|
 Zg 9 false (.idx 14 1 (.t 11) (.t 13))<|
 Zg 9 false (.ld 15 1 false (.t 14))<|
 Zg 9 false (.conv 16 .u64 (.t 15))<|
 Zg 9 false (.bin 17 .mul false (.t 10) (.t 16))<|
 Zg 9 false (.ld 18 1 false (.t 3))<|
 Zg 9 false (.bin 19 .shl false (.t 18) (.c (.int .u64 16)))<|
 Zg 9 false (.ld 20 1 false (.t 4))<|
 Zg 9 false (.ld 21 1 false (.t 5))<|
 Zg 9 false (.ld 22 1 false (.t 2))<|
 Zg 9 false (.bin 23 .add false (.t 21) (.t 22))<|
 Zg 9 false (.bin 24 .sub false (.t 23) (.c (Zz 2)))<|
 Zg 9 false (.idx 25 1 (.t 20) (.t 24))<|
 Zg 9 false (.ld 26 1 false (.t 25))<|
 Zg 9 false (.conv 27 .u64 (.t 26))<|
 Zg 9 false (.bin 28 .or false (.t 19) (.t 27))<|
 Zg 9 false (.bin 29 .gtr false (.t 17) (.t 28))<|
 Yf 30 9 29<|
 Yc 6 30) .ret⟩
theorem adI:Qe Tryz.prog Tryz.f190=some aly:=by kernel_rfl
def Ro:ay:=⟨54,[.t 6],Zr (Yd 6)<|Zr (Zo (.mv 7 (.c (.int .u32 0))) .nil)<|Zr (Zo (.mv 8 (.c (.int .i32 0))) .nil)<| .seq (Zr (eZ 11 0)<| .block 0<| .loop<|Zr (Ys 14 13 12)<| .seq (.cond (.t 14) .skip (.exit 0))<| .seq (.block 1<|Zr (Zm 15 13<|
 Zm 9 15 .nil)<| .seq (Zr (YI 16 9 1)<| .cond (.t 19) (.rg (Yh 20 7 2<|
 eY 22 1 9<|
 kD 26 25<|
 Zb 27 .mul 21 26<|
 cT 28 20 27<|
 Yc 7 28)) .skip)<|Zr (eY 29 0 9<|
 Zo (.conv 33 .i32 (.t 32))<|
 Zm 34 7<|
 Zo (.conv 35 .u16 (.t 34))<|
 Zo (.conv 36 .i32 (.t 35))<|
 Zb 37 .sub 33 36<|
 Zm 38 8<|
 Zb 39 .sub 37 38<|
 Yc 10 39)<|Zr (ue 40 7<|
 Yc 7 41)<|Zr (Zo (.mv 8 (.c (.int .i32 0))) .nil)<| .seq (Zr (Zm 42 10<|
 Zo (.bin 43 .lss false (.t 42) (.c (.int .i32 0))) .nil)<| .cond (.t 43) (Zr (Zm 44 10<|
 Zo (.bin 45 .add false (.t 44) (.c (.int .i32 65536)))<|
 Yc 10 45)<| .rg (Zo (.mv 8 (.c (.int .i32 1))) .nil)) .skip)<| .rg (cW 46 0 9 10<|
 YY 49 48 46 47))<| .rg (Yz 51 13 13))<|Zr (Zm 52 8<|
 Zo (.bin 53 .gtr false (.t 52) (.c (.int .i32 0)))<|
 Yc 6 53) .ret⟩
theorem adJ:Qe Tryz.prog Tryz.f191=some Ro:=by kernel_rfl
def Rp:ay:=⟨37,[],Zr (Zo (.mv 4 (.c (.int .u32 0))) .nil)<|Zr (eZ 6 0)<| .block 0<| .loop<|Zr (Ys 9 8 7)<| .seq (.cond (.t 9) .skip (.exit 0))<| .seq (.block 1<|Zr (Zm 10 8<|
 Zm 5 10 .nil)<|Zr (cW 11 4 0 5<|
 Ym 14 12 13<|
 kD 16 15<|
 cT 17 11 16<|
 Yc 4 17)<| .seq (Zr (YI 18 5 1)<| .cond (.t 21) (.rg (cW 22 4 1 5<|
 Ym 25 23 24<|
 kD 27 26<|
 cT 28 22 27<|
 Yc 4 28)) .skip)<|Zr (cW 29 0 5 4<|
 YY 32 31 29 30)<| .rg (ue 34 4<|
 Yc 4 35))<| .rg (Yz 36 8 8)⟩
theorem adK:Qe Tryz.prog Tryz.f192=some Rp:=by kernel_rfl
def akX:ay:=⟨51,[.t 4],Zr (YH 4)<|Zr (YK 12 0 153<|
 YK 14 1 153<|
 Zm 0 13<|
 Yc 1 15)<| .seq (.block 0<| .loop<| .seq (Zr (Yo 16 1<|
 fu 18 17 0)<| .cond (.t 18) .skip (.exit 0))<| .block 1<|Zr (YK 20 0 178<|
 Zm 19 21<|
 Ye 22 19<|
 Zm 5 22<|
 Yc 6 23)<|Zr (YK 25 1 178<|
 Zm 24 26<|
 Ye 27 24<|
 Zm 7 27<|
 Yc 8 28)<| .seq (Zr (Zm 29 6<|
 YL 30 29 8<|
 Yk 32 30 31 .nil)<| .cond (.t 32) (.seq (.block 2<| .loop<| .seq (Zr (Zm 33 7<|
 Zo (.bin 34 .gtr false (.t 33) (.c (.int .u64 0))) .nil)<| .cond (.t 34) .skip (.exit 2))<| .block 3<| .rg (cW 35 7 5 7<|
 Zb 38 .rem 36 37<|
 Zm 5 35<|
 Yc 7 38))<|Zr (YK 39 5 170<|
 Yc 4 40) .ret) .skip)<|Zr (YX 42 0 1 156<|
 Zm 41 44<|
 Ye 45 41<|
 Zo (.ext 47 (.t 41) 2)<|
 Yh 9 45 46<|
 Yc 11 47)<| .rg (Yh 48 1 10<|
 Zm 0 48<|
 Yc 1 49))<|Zr (dh 50 0 4) .ret⟩
theorem adL:Qe Tryz.prog Tryz.f155=some akX:=by kernel_rfl
def Rm:ay:=⟨78,[.t 4],Zr (YH 4)<|Zr (YK 11 0 151<|
 Zm 0 12 .nil)<| .seq (Zr (Zm 13 1<|
 Zk 14 .lss 13 (-1048576)<|
 rm 15 14 1 1048576<|
 Yf 18 15 17<|
 xV 19 18 0<|
 dm 23 19 22)<| .cond (.t 23) (Zr (YH 4) .ret) .skip)<| .seq (Zr (jd 24 1 .nil)<| .cond (.t 25) (Zr (Yh 26 0 1<|
 Zo (.un 28 .neg (.t 27))<|
 Yl 29 189 26 28<|
 Yc 4 29) .ret) .skip)<|Zr (Zm 30 1<|
 Zk 31 .quo 30 16<|
 Zm 32 1<|
 Zk 33 .rem 32 16<|
 Zm 5 31<|
 Yc 6 33)<|Zr (Yo 34 0<|
 Zm 36 5<|
 cT 37 35 36<|
 Zk 38 .add 37 1<|
 Yo 39 0<|
 Zm 41 5<|
 cT 42 40 41<|
 Zk 43 .add 42 3<|
 pZ 44 38 43<|
 Yc 7 44)<| .seq (Zr (eZ 45 0)<| .block 0<| .loop<|Zr (Ys 48 47 46)<| .seq (.cond (.t 48) .skip (.exit 0))<| .seq (.block 1<|Zr (n8 49 47 45 8 9)<|Zr (Zm 52 9<|
 kD 53 52<|
 Zm 54 6<|
 Zb 55 .shl 53 54<|
 Yc 10 55)<|Zr (cW 56 7 8 5<|
 cT 59 57 58<|
 Ym 60 56 59<|
 Zm 62 10<|
 Zo (.conv 63 .u16 (.t 62))<|
 Zb 64 .or 61 63<|
 Zi 65 1 56 59<|
 Zs 1 65 64 .nil)<| .rg (cW 66 7 8 5<|
 cT 69 67 68<|
 Zk 70 .add 69 1<|
 ue 71 10<|
 YY 73 72 66 70))<| .rg (Yz 75 47 47))<|Zr (YK 76 7 151<|
 Yc 4 77) .ret⟩
theorem Ig:Qe Tryz.prog Tryz.f182=some Rm:=by kernel_rfl
def alw:ay:=⟨63,[.t 4],Zr (YH 4)<|Zr (Zm 10 1<|
 Zk 11 .quo 10 16<|
 Zm 12 1<|
 Zk 13 .rem 12 16<|
 Zm 5 11<|
 Zm 6 13 .nil)<| .seq (Zr (Yh 14 5 0<|
 Zn 16 15<|
 Zb 17 .geq 14 16 .nil)<| .cond (.t 17) (Zr (YH 4) .ret) .skip)<|Zr (Yo 18 0<|
 Zm 20 5<|
 Zb 21 .sub 19 20<|
 pZ 22 21 21<|
 Yc 7 22)<| .seq (Zr (eZ 23 7)<| .block 0<| .loop<|Zr (Ys 26 25 24)<| .seq (.cond (.t 26) .skip (.exit 0))<| .seq (.block 1<|Zr (dh 27 25 8)<|Zr (cW 28 0 8 5<|
 cT 31 29 30<|
 Ym 32 28 31<|
 kD 34 33<|
 Yc 9 34)<| .seq (Zr (Yh 35 8 5<|
 cT 37 35 36<|
 Zk 38 .add 37 1<|
 Yo 39 0<|
 Ys 41 38 40)<| .cond (.t 41) (.rg (Yh 42 9 0<|
 Yh 44 8 5<|
 cT 46 44 45<|
 Zk 47 .add 46 1<|
 Ym 48 43 47<|
 kD 50 49<|
 Zo (.bin 51 .shl false (.t 50) (.c (.int .u64 16)))<|
 Zb 52 .or 42 51<|
 Yc 9 52)) .skip)<| .rg (Yh 53 7 8<|
 Yh 55 9 6<|
 Zb 57 .shr 55 56<|
 YY 58 57 53 54))<| .rg (Yz 60 25 25))<|Zr (YK 61 7 151<|
 Yc 4 62) .ret⟩
theorem adM:Qe Tryz.prog Tryz.f189=some alw:=by kernel_rfl
def alp:ay:=⟨6,[.t 2],Zr (Yi 2 0)<|Zr (YK 3 0 152<|
 Zo (.bin 5 .sub false (.c (Zz 16)) (.t 4))<|
 Zm 2 5 .nil) .ret⟩
theorem adN:Qe Tryz.prog Tryz.f181=some alp:=by kernel_rfl
def alk:ay:=⟨15,[.cell 4 2 true],Zr (rp 4)<|Zr (YK 5 1 153<|
 Zm 1 6 .nil)<|Zr (Av 7<|
 Zs 2 4 14 .nil) .ret⟩
theorem adO:Qe Tryz.prog Tryz.f177=some alk:=by kernel_rfl
def akl:ay:=⟨13,[.cell 4 2 true],Zr (rp 4)<|Zr (Av 5<|
 Zs 2 4 12 .nil) .ret⟩
theorem adP:Qe Tryz.prog Tryz.f110=some akl:=by kernel_rfl
def alf:ay:=⟨27,[.t 2],Zr (YZ 1 51 0<|
 Yd 2)<|Zr (YP 4 1 1<|
 Zm 3 6 .nil)<|Zr (Zm 7 3<|
 Zk 8 .eql 7 0<|
 Zm 9 8<|
 YJ 9 0 1<|
 Zg 9 true (.un 12 .not (.t 11))<|
 Yk 13 9 12<|
 rm 14 13 3 0<|
 Zg 14 false (.mv 17 (.t 16))<|
 YJ 17 1 1<|
 Zg 17 true (.mv 20 (.t 3))<|
 Zg 17 true (.bin 21 .sub false (.t 20) (.c (Zz 1)))<|
 Zg 17 true (.idx 22 1 (.t 19) (.t 21))<|
 ru 17<|
 Zg 17 true (.bin 24 .neq false (.t 23) (.c (.int .u16 0)))<|
 Zg 14 false (.pick 25 (.t 17) (.t 24) (.c (.bool false)))<|
 Yf 26 14 25<|
 Yc 2 26) .ret⟩
theorem adQ:Qe Tryz.prog Tryz.f172=some alf:=by kernel_rfl
def akW:ay:=⟨8,[.cell 2 2 true],Zr (YZ 1 51 0<|
 sO 2)<|Zr (cA 3 0 1 1 1<|
 Yl 7 177 4 6<|
 Zs 2 2 7 .nil) .ret⟩
theorem adR:Qe Tryz.prog Tryz.f154=some akW:=by kernel_rfl
def ID:ay:=⟨16,[.cell 2 2 true],Zr (sO 2)<| .seq (Zr (jd 3 0 .nil)<| .cond (.t 4) (Zr (Zm 5 0<|
 Zk 6 .add 5 1<|
 Zo (.un 7 .neg (.t 6))<|
 lj 8 7<|
 Zo (.bin 9 .add false (.t 8) (.c (.int .u64 1)))<|
 Yn 10 170 9<|
 Zq 11 false 110 [.c (.bool true),.t 10]<|
 Zs 2 2 11 .nil) .ret) .skip)<|Zr (Zm 12 0<|
 lj 13 12<|
 Yn 14 170 13<|
 Zq 15 false 110 [.c (.bool false),.t 14]<|
 Zs 2 2 15 .nil) .ret⟩
theorem adS:Qe Tryz.prog Tryz.f143=some ID:=by kernel_rfl
def c94:ay:=⟨11,[.t 2],Zr (YZ 1 51 0<|
 Yi 2 0)<| .seq (.block 0<|Zr (Yb 4 1 1<|
 Yn 6 107 5<|
 Yu 7 6 0 3)<| .cond (.t 3) (Zr (Yi 2 0) .ret) (Zr (Yb 9 0 1<|
 Zm 8 10 .nil)<| .cond (.t 8) (Zr (jS 2) .ret) .skip))<|Zr (Yi 2 1) .ret⟩
theorem agp:Qe Tryz.prog Tryz.f94=some c94:=by kernel_rfl
def ak0:ay:=⟨35,[.t 4],Zr (fJ 2 51 0<|
 YM 3 51 1<|
 Yi 4 0)<|Zr (Zh 8 2 2<|
 Zh 10 2 3<|
 eu 9 94 8<|
 eu 11 94 10<|
 Zm 5 9<|
 Zm 6 11 .nil)<|Zr (Zo (.mv 7 (.c (.fn 185 [] []))) .nil)<| .seq (.block 0<|Zr (Yh 13 5 6<|
 Zb 15 .lss 13 14<|
 Zm 12 15 .nil)<| .cond (.t 12) (Zr (jS 4) .ret) (Zr (Yh 17 5 6<|
 Zb 19 .gtr 17 18<|
 Zm 16 19 .nil)<| .cond (.t 16) (Zr (Yi 4 1) .ret) (Zr (jd 21 5<|
 Zm 20 22 .nil)<| .cond (.t 20) (Zr (Zm 23 7<|
 cA 24 1 3 1 2<|
 Zo (.call (some 28) false (.t 23) [.t 25,.t 27])<|
 Yc 4 28) .ret) .skip)))<|Zr (Zm 29 7<|
 cA 30 1 2 1 3<|
 Zo (.call (some 34) false (.t 29) [.t 31,.t 33])<|
 Yc 4 34) .ret⟩
theorem adT:Qe Tryz.prog Tryz.f158=some ak0:=by kernel_rfl
def alr:ay:=⟨8,[.t 4],Zr (Yi 4 0)<|Zr (YX 5 0 1 179<|
 Zm 4 7 .nil) .ret⟩
theorem adU:Qe Tryz.prog Tryz.f185=some alr:=by kernel_rfl
def ale:ay:=⟨40,[.cell 4 2 true],Zr (fJ 2 51 0<|
 YM 3 51 1<|
 rp 4)<| .seq (Zr (cA 7 0 2 0 3<|
 Zo (.bin 11 .eql true (.t 8) (.t 10)) .nil)<| .cond (.t 11) (Zr (cA 12 0 2 1 2<|
 Yb 16 1 3<|
 eG 18 187 15 17 110 13<|
 Zs 2 4 19 .nil) .ret) .skip)<| .seq (Zr (cA 20 1 2 1 3<|
 Yl 24 179 21 23<|
 Zk 25 .lss 24 0 .nil)<| .cond (.t 25) (.rg (YO 26 3 2<|
 Zs 2 2 26<|
 Zs 2 3 27 .nil)) .skip)<|Zr (cA 29 1 2 1 3<|
 ma 33 188 30 32 28 5 6)<|Zr (dN 36 0 2 5<|
 Yl 39 110 37 38<|
 Zs 2 4 39 .nil) .ret⟩
theorem adl:Qe Tryz.prog Tryz.f171=some ale:=by kernel_rfl
def c60:ay:=⟨16,[.cell 4 2 true],Zr (fJ 2 51 0<|
 YM 3 51 1<|
 rp 4)<|Zr (cA 5 0 2 0 3<|
 Zo (.bin 9 .neq true (.t 6) (.t 8))<|
 cA 10 1 2 1 3<|
 eG 14 111 11 13 110 9<|
 Zs 2 4 15 .nil) .ret⟩
theorem agq:Qe Tryz.prog Tryz.f60=some c60:=by kernel_rfl
def akO:ay:=⟨17,[.t 2],Zr (Yd 2)<|Zr (Yo 4 0<|
 Zo (.ej 6 [Zz 0,.int .u16 0] [(0,1,.t 5)])<|
 Zo (.alloc 3 2 196 (.agg [Zz 0,.int .u16 0]))<|
 Zs 2 3 6 .nil)<| .seq (Zr (Yo 7 0<|
 fu 9 8 0)<| .cond (.t 9) (.rg (Zm 10 0<|
 Yw 11 10 0<|
 Zf 13 1 3<|
 Zs 1 13 12 .nil)) .skip)<|Zr (Zh 14 2 3<|
 Zo (.ej 15 [Zz 0,.int .u16 0] [(0,1,.c (Zz 1)),(1,1,.c (.int .u16 1))])<|
 Zo (.eqs 16 false (.t 14) (.t 15))<|
 Yc 2 16) .ret⟩
theorem adm:Qe Tryz.prog Tryz.f144=some akO:=by kernel_rfl
def akk:ay:=⟨2,[.t 0],Zr (YH 0)<|Zr (Zo (.bs 1 1 128 [.c (.int .u16 1)])<|
 Zm 0 1 .nil) .ret⟩
theorem adn:Qe Tryz.prog Tryz.f108=some akk:=by kernel_rfl
def IA:ay:=⟨52,[.cell 4 3 true],Zr (fJ 2 51 0<|
 Yy 4 .nil)<|Zr (YK 6 1 153<|
 Zm 1 7 .nil)<|Zr (gf 8 2 2 154<|
 Zs 2 2 9 .nil)<| .seq (Zr (Yo 10 1<|
 Zk 12 .eql 11 0<|
 Yr 13 12 1 2<|
 o7 13<|
 Zg 13 false (.bin 17 .eql false (.t 16) (.c (Zz 0)))<|
 dm 18 13 17)<| .cond (.t 18) (Zr (Zq 19 false 108 []<|
 Zo (.ej 20 [.bool false,.aa,.aa] [(2,1,.t 19)])<|
 Zs 3 4 20 .nil) .ret) .skip)<| .seq (Zr (YK 21 1 144 .nil)<| .cond (.t 22) (Zr (fL 23 2 2 1<|
 xZ 25 23 24 4) .ret) .skip)<|Zr (dN 26 1 2 1<|
 Yl 29 155 27 28<|
 Yc 5 29)<| .seq (Zr (YK 30 5 144<|
 Zu 32 31 .nil)<| .cond (.t 32) (Zr (dN 34 1 2 5<|
 Yl 37 156 35 36<|
 Zm 33 37<|
 Ye 38 33<|
 Zo (.ext 40 (.t 33) 2)<|
 Zf 41 1 2<|
 Zs 1 41 38 .nil)<| .rg (YX 43 1 5 156<|
 Zm 42 45<|
 Ye 46 42<|
 Zo (.ext 48 (.t 42) 2)<|
 Yc 1 46)) .skip)<|Zr (fL 49 2 2 1<|
 xZ 51 49 50 4) .ret⟩
theorem ado:Qe Tryz.prog Tryz.f109=some IA:=by kernel_rfl
def c58:ay:=⟨14,[.cell 2 2 true,.t 3],Zr (Zo (.box 1 3 53 (.t 0))<|
 Zo (.alloc 2 2 51 (.agg [.bool false,.aa]))<|
 YH 3)<| .seq (Zr (Yb 4 2 1<|
 Yn 6 107 5<|
 ir 7 6 0)<| .cond (.t 7) (Zr (Zo (.ej 8 [.bool false,.aa] [])<|
 Zq 9 false 108 []<|
 Zs 2 2 8<|
 Zm 3 9 .nil) .ret) .skip)<|Zr (eF 10 1 2<|
 Zf 12 2 1<|
 .br (Zl 13 1 12<|
 Zs 2 2 11<|
 Zm 3 13 .nil) (Zs 2 2 11<|
 Zl 13 1 12<|
 Zm 3 13 .nil)) .ret⟩
theorem agr:Qe Tryz.prog Tryz.f58=some c58:=by kernel_rfl
def c61:ay:=⟨5,[.cell 2 2 true],Zr (sO 2)<|Zr (Zm 3 0<|
 Zo (.ej 4 [.bool false,.aa] [(1,1,.t 3)])<|
 Zs 2 2 4 .nil) .ret⟩
theorem ags:Qe Tryz.prog Tryz.f61=some c61:=by kernel_rfl
def IE:ay:=⟨36,[.t 2],Zr (Zo (.box 1 3 53 (.t 0))<|
 Yd 2)<|Zr (YP 4 2 1<|
 Zm 3 6 .nil)<| .seq (Zr (eF 7 1 2<|
 Yn 9 172 8<|
 Zu 10 9<|
 Yv 11 10 3<|
 Zg 11 false (.bin 13 .eql false (.t 12) (.c (Zz 0)))<|
 Yf 14 11 13<|
 Yr 15 14 2 1<|
 Zg 15 false (.mv 18 (.t 3))<|
 Zg 15 false (.bin 19 .sub false (.t 18) (.c (Zz 1)))<|
 Zg 15 false (.idx 20 1 (.t 17) (.t 19))<|
 Zg 15 false (.ld 21 1 false (.t 20))<|
 Zg 15 false (.bin 22 .eql false (.t 21) (.c (.int .u16 0)))<|
 dm 23 15 22)<| .cond (.t 23) (Zr (Yd 2) .ret) .skip)<|Zr (Yb 24 2 1<|
 Yn 26 144 25<|
 Zm 27 26<|
 Zg 27 false (.bY 28 0 (.t 1))<|
 Zg 27 false (.bY 29 1 (.t 28))<|
 Zg 27 false (.ld 30 1 false (.t 29))<|
 Zg 27 false (.bY 31 2 (.t 1))<|
 Zg 27 false (.ld 32 1 false (.t 31))<|
 Zg 27 false (.call (some 33) false (.c (.fn 155 [] [])) [.t 30,.t 32])<|
 Zg 27 false (.call (some 34) false (.c (.fn 144 [] [])) [.t 33])<|
 Yf 35 27 34<|
 Yc 2 35) .ret⟩
theorem adp:Qe Tryz.prog Tryz.f146=some IE:=by kernel_rfl
def c90:ay:=⟨7,[.cell 2 3 true],Zr (Zo (.alloc 2 3 53 (.agg [.bool false,.aa,.aa])) .nil)<|Zr (YK 3 0 143<|
 Zq 5 false 108 []<|
 xZ 6 4 5 2) .ret⟩
theorem agt:Qe Tryz.prog Tryz.f90=some c90:=by kernel_rfl
def c49:ay:=⟨12,[.t 2],Zr (Zo (.box 1 3 53 (.t 0))<|
 Yi 2 0)<|Zr (YD 6 1 5 3<|
 Zm 4 9 .nil)<|Zr (gf 10 2 3 94<|
 Zm 2 11 .nil) .ret⟩
theorem agu:Qe Tryz.prog Tryz.f49=some c49:=by kernel_rfl
def akp:ay:=⟨40,[.t 4],Zr (YZ 2 53 0<|
 fJ 3 53 1<|
 Yi 4 0)<|Zr (Zh 11 3 2<|
 Zh 13 3 3<|
 eu 12 49 11<|
 eu 14 49 13<|
 Zm 5 12<|
 Zm 6 14 .nil)<| .seq (Zr (Yh 15 5 6<|
 je 17 15 16)<| .cond (.t 17) (.seq (Zr (Yh 18 5 6<|
 Ys 20 18 19)<| .cond (.t 20) (Zr (jS 4) .ret) .skip)<|Zr (Yi 4 1) .ret) .skip)<|Zr (YD 22 2 21 7<|
 Yc 8 25)<|Zr (YD 27 3 26 9<|
 Yc 10 30)<|Zr (fL 31 2 7 10<|
 fL 35 2 9 8<|
 eu 33 61 32<|
 Yp 34 60 31 33<|
 eu 37 61 36<|
 eG 38 60 35 37 158 34<|
 Yc 4 39) .ret⟩
theorem adq:Qe Tryz.prog Tryz.f114=some akp:=by kernel_rfl
def akP:ay:=⟨17,[.cell 2 2 true],Zr (sO 2)<|Zr (rp 3)<| .seq (Zr (eZ 6 0)<| .block 0<| .loop<|Zr (Ys 9 8 7)<| .seq (.cond (.t 9) .skip (.exit 0))<| .seq (.block 1<|Zr (YN 10 2 6 8<|
 Zo (.alloc 5 2 51 (.agg [.bool false,.aa]))<|
 Zs 2 5 11 .nil)<| .rg (YO 12 3 5<|
 Yl 14 171 12 13<|
 Zs 2 3 14 .nil))<| .rg (YC 15 8 8))<|Zr (Zh 16 2 3<|
 Zs 2 2 16 .nil) .ret⟩
theorem adr:Qe Tryz.prog Tryz.f145=some akP:=by kernel_rfl
def II:ay:=⟨45,[.cell 4 3 true],Zr (YZ 2 53 0<|
 fJ 3 53 1<|
 Yy 4 .nil)<|Zr (YD 10 2 9 5<|
 Zm 6 13 .nil)<|Zr (YD 15 3 14 7<|
 Zm 8 18 .nil)<| .seq (Zr (YK 19 6 144<|
 YL 21 20 8<|
 vK 21 144<|
 Yk 24 21 23 .nil)<| .cond (.t 24) (Zr (YO 25 5 7<|
 Zo (.bs 27 2 51 [.t 25,.t 26])<|
 Yn 28 145 27<|
 Zm 29 6<|
 Yl 30 109 28 29<|
 Zs 3 4 30 .nil) .ret) .skip)<|Zr (fL 31 2 5 8<|
 fL 35 2 7 6<|
 Yh 41 6 8<|
 eu 33 61 32<|
 Yp 34 60 31 33<|
 eu 37 61 36<|
 Yp 38 60 35 37<|
 Zo (.bs 39 2 51 [.t 34,.t 38])<|
 eu 40 145 39<|
 eG 43 111 41 42 109 40<|
 Zs 3 4 44 .nil) .ret⟩
theorem agv:Qe Tryz.prog Tryz.f93=some II:=by kernel_rfl
def IH:ay:=⟨26,[.cell 4 3 true],Zr (YZ 2 53 0<|
 fJ 3 53 1<|
 Yy 4 .nil)<|Zr (YD 10 2 9 5<|
 Zm 6 13 .nil)<|Zr (YD 15 3 14 7<|
 Zm 8 18 .nil)<|Zr (YO 19 5 7<|
 Yl 21 60 19 20<|
 YX 22 6 8 111<|
 Yl 25 109 21 24<|
 Zs 3 4 25 .nil) .ret⟩
theorem agw:Qe Tryz.prog Tryz.f91=some IH:=by kernel_rfl
def c59:ay:=⟨21,[.cell 4 3 true,.t 5],Zr (fJ 2 51 0<|
 YM 3 51 1<|
 Yy 4<|
 Yi 5 0)<| .seq (Zr (gf 6 2 3 94<|
 ir 8 7 0)<| .cond (.t 8) (Zr (Zo (.ej 9 [.bool false,.aa,.aa] [])<|
 Zs 3 4 9<|
 Yi 5 3) .ret) .skip)<|Zr (cA 10 0 2 0 3<|
 Zo (.bin 14 .neq true (.t 11) (.t 13))<|
 Yb 15 1 2<|
 Zo (.ej 17 [.bool false,.aa] [(0,1,.t 14),(1,1,.t 16)])<|
 Yb 18 1 3<|
 Yl 20 109 17 19<|
 Zs 3 4 20<|
 Yi 5 0) .ret⟩
theorem agx:Qe Tryz.prog Tryz.f59=some c59:=by kernel_rfl
def c27:ay:=⟨31,[.cell 4 3 true,.t 5],Zr (YZ 2 53 0<|
 fJ 3 53 1<|
 Yy 4<|
 Yi 5 0)<|Zr (YD 11 2 10 6<|
 Zm 7 14 .nil)<|Zr (YD 16 3 15 8<|
 Zm 9 19 .nil)<|Zr (fL 20 2 6 9<|
 fL 24 2 8 7<|
 eu 22 61 21<|
 Yp 23 60 20 22<|
 eu 26 61 25<|
 eG 27 60 24 26 59 23<|
 Ye 29 28<|
 Zs 3 4 29<|
 Yc 5 30) .ret⟩
theorem agy:Qe Tryz.prog Tryz.f27=some c27:=by kernel_rfl
def Rn:ay:=⟨108,[.t 4],Zr (Zo (.box 2 1 49 (.t 0))<|
 Zo (.box 3 1 49 (.t 1))<|
 YH 4)<|Zr (Zl 12 1 3<|
 Zn 13 12<|
 Zo (.alloc 5 1 3 (Zz 0))<|
 Zs 1 5 13 .nil)<|Zr (Zl 14 1 2<|
 Zn 15 14<|
 Zl 16 1 5<|
 Zb 17 .sub 15 16<|
 pZ 18 17 17<|
 Zm 6 18 .nil)<| .seq (Zr (Zl 19 1 2<|
 Zn 20 19<|
 Zl 21 1 5<|
 Zb 22 .sub 20 21<|
 Zk 23 .sub 22 1<|
 Zo (.alloc 7 1 3 (Zz 0))<|
 Zs 1 7 23 .nil)<| .block 0<| .loop<| .seq (Zr (Zl 24 1 7<|
 Zk 25 .geq 24 0 .nil)<| .cond (.t 25) .skip (.exit 0))<| .seq (.block 1<|Zr (Zl 28 1 2<|
 Zl 29 1 7<|
 Zl 30 1 5<|
 cT 31 29 30<|
 Ym 32 28 31<|
 lj 34 33<|
 Zo (.bin 35 .shl false (.t 34) (.c (.int .u64 16)))<|
 Zl 36 1 2<|
 Zl 37 1 7<|
 Zl 38 1 5<|
 cT 39 37 38<|
 Zk 40 .sub 39 1<|
 Ym 41 36 40<|
 lj 43 42<|
 Zb 44 .or 35 43<|
 Yc 8 44)<|Zr (Zm 45 8<|
 Zl 46 1 3<|
 Zl 47 1 5<|
 Zk 48 .sub 47 1<|
 Ym 49 46 48<|
 lj 51 50<|
 Zb 52 .quo 45 51<|
 Zm 53 8<|
 .br (Zl 54 1 3<|
 .br (YE 55<|
 .br (Ya 58<|
 .br (Yq 9<|
 Yq 10<|
 YS 1) (Yq 10<|
 Yq 9<|
 YS 1)) (.br (Yq 9<|
 .br (Ya 58<|
 Yq 10<|
 YS 1) (Yq 10<|
 .br (fK 58) (YW 1))) (Yq 10<|
 .br (Ya 58<|
 Yq 9<|
 YS 1) (Yq 9<|
 .br (fK 58) (YW 1))))) (.br (Yq 9<|
 .br (YE 55<|
 .br (Ya 58<|
 Yq 10<|
 YS 1) (Yq 10<|
 .br (fK 58) (YW 1))) (Yq 10<|
 .br (YE 55<|
 .br (fK 58) (YW 1)) (Zs 1 9 52<|
 YE 55<|
 Ya 58<|
 Yx 1))) (Yq 10<|
 .br (YE 55<|
 .br (Ya 58<|
 Yq 9<|
 YS 1) (Yq 9<|
 .br (fK 58) (YW 1))) (Yq 9<|
 .br (YE 55<|
 .br (fK 58) (YW 1)) (Zs 1 9 52<|
 YE 55<|
 Ya 58<|
 Yx 1))))) (.br (Zl 55 1 5<|
 Zk 56 .sub 55 1<|
 .br (iP 54<|
 .br (Ya 58<|
 .br (Yq 9<|
 Yq 10<|
 YS 1) (Yq 10<|
 Yq 9<|
 YS 1)) (.br (Yq 9<|
 .br (Ya 58<|
 Yq 10<|
 YS 1) (Yq 10<|
 .br (fK 58) (YW 1))) (Yq 10<|
 .br (Ya 58<|
 Yq 9<|
 YS 1) (Yq 9<|
 .br (fK 58) (YW 1))))) (.br (Yq 9<|
 .br (iP 54<|
 .br (Ya 58<|
 Yq 10<|
 YS 1) (Yq 10<|
 .br (fK 58) (YW 1))) (Yq 10<|
 .br (iP 54<|
 .br (fK 58) (YW 1)) (Zs 1 9 52<|
 iP 54<|
 Ya 58<|
 Yx 1))) (Yq 10<|
 .br (iP 54<|
 .br (Ya 58<|
 Yq 9<|
 YS 1) (Yq 9<|
 .br (fK 58) (YW 1))) (Yq 9<|
 .br (iP 54<|
 .br (fK 58) (YW 1)) (Zs 1 9 52<|
 iP 54<|
 Ya 58<|
 Yx 1))))) (.br (Yq 9<|
 .br (Zl 54 1 3<|
 .br (YE 55<|
 .br (Ya 58<|
 Yq 10<|
 YS 1) (Yq 10<|
 .br (fK 58) (YW 1))) (Yq 10<|
 .br (YE 55<|
 .br (fK 58) (YW 1)) (Zs 1 9 52<|
 YE 55<|
 Ya 58<|
 Yx 1))) (.br (Zl 55 1 5<|
 Zk 56 .sub 55 1<|
 .br (iP 54<|
 .br (Ya 58<|
 Yq 10<|
 YS 1) (Yq 10<|
 .br (fK 58) (YW 1))) (Yq 10<|
 .br (iP 54<|
 .br (fK 58) (YW 1)) (Zs 1 9 52<|
 iP 54<|
 Ya 58<|
 Yx 1))) (Yq 10<|
 .br (Zl 54 1 3<|
 .br (YE 55<|
 .br (fK 58) (YW 1)) (Zs 1 9 52<|
 YE 55<|
 Ya 58<|
 Yx 1)) (.br (Zl 55 1 5<|
 Zk 56 .sub 55 1<|
 .br (iP 54<|
 .br (fK 58) (YW 1)) (Zs 1 9 52<|
 iP 54<|
 Ya 58<|
 Yx 1)) (Zs 1 9 52<|
 .br (Zl 54 1 3<|
 YE 55<|
 Ya 58<|
 Yx 1) (Zl 55 1 5<|
 Zk 56 .sub 55 1<|
 iP 54<|
 Ya 58<|
 Yx 1)))))) (Yq 10<|
 .br (Zl 54 1 3<|
 .br (YE 55<|
 .br (Ya 58<|
 Yq 9<|
 YS 1) (Yq 9<|
 .br (fK 58) (YW 1))) (Yq 9<|
 .br (YE 55<|
 .br (fK 58) (YW 1)) (Zs 1 9 52<|
 YE 55<|
 Ya 58<|
 Yx 1))) (.br (Zl 55 1 5<|
 Zk 56 .sub 55 1<|
 .br (iP 54<|
 .br (Ya 58<|
 Yq 9<|
 YS 1) (Yq 9<|
 .br (fK 58) (YW 1))) (Yq 9<|
 .br (iP 54<|
 .br (fK 58) (YW 1)) (Zs 1 9 52<|
 iP 54<|
 Ya 58<|
 Yx 1))) (Yq 9<|
 .br (Zl 54 1 3<|
 .br (YE 55<|
 .br (fK 58) (YW 1)) (Zs 1 9 52<|
 YE 55<|
 Ya 58<|
 Yx 1)) (.br (Zl 55 1 5<|
 Zk 56 .sub 55 1<|
 .br (iP 54<|
 .br (fK 58) (YW 1)) (Zs 1 9 52<|
 iP 54<|
 Ya 58<|
 Yx 1)) (Zs 1 9 52<|
 .br (Zl 54 1 3<|
 YE 55<|
 Ya 58<|
 Yx 1) (Zl 55 1 5<|
 Zk 56 .sub 55 1<|
 iP 54<|
 Ya 58<|
 Yx 1)))))))))<|Zr (Zo (.fn 61 190 [] [.t 9,.t 3,.t 5,.t 10,.t 2,.t 7])<|
 Yc 11 61)<| .seq (.block 2<| .loop<| .seq (Zr (Zl 62 1 10<|
 Zo (.bin 63 .lss false (.t 62) (.c (.int .u64 65536)))<|
 YL 64 63 11<|
 Zg 64 true (.call (some 66) false (.t 65) [])<|
 Yk 67 64 66 .nil)<| .cond (.t 67) .skip (.exit 2))<| .block 3<|Zr (Zl 68 1 9<|
 Zo (.bin 69 .sub false (.t 68) (.c (.int .u64 1)))<|
 Zs 1 9 69 .nil)<| .rg (Zl 70 1 10<|
 Zl 71 1 3<|
 Zl 72 1 5<|
 Zk 73 .sub 72 1<|
 Ym 74 71 73<|
 lj 76 75<|
 cT 77 70 76<|
 Zs 1 10 77 .nil))<| .seq (Zr (Zl 78 1 2<|
 Zl 79 1 7<|
 Zl 80 1 7<|
 Zl 81 1 5<|
 cT 82 80 81<|
 Zk 83 .add 82 1<|
 Zo (.sl 84 1 (.t 78) (some (.t 79)) (some (.t 83)) none)<|
 Zl 85 1 3<|
 Zl 86 1 9<|
 kD 87 86<|
 Zq 88 false 191 [.t 84,.t 85,.t 87] .nil)<| .cond (.t 88) (Zr (Zl 89 1 9<|
 Zo (.bin 90 .sub false (.t 89) (.c (.int .u64 1)))<|
 Zs 1 9 90 .nil)<| .rg (Zl 91 1 2<|
 Zl 92 1 7<|
 Zl 93 1 7<|
 Zl 94 1 5<|
 cT 95 93 94<|
 Zk 96 .add 95 1<|
 Zo (.sl 97 1 (.t 91) (some (.t 92)) (some (.t 96)) none)<|
 Zl 98 1 3<|
 Yl 99 192 97 98 .nil)) .skip)<| .rg (Zm 100 6<|
 Zl 101 1 7<|
 Zl 102 1 9<|
 YY 103 102 100 101))<| .seq (Zr (Zl 105 1 7 .nil)<| .rg (Zo (.alloc 7 1 3 (Zz 0))<|
 Zs 1 7 105 .nil))<| .rg (Zl 26 1 7<|
 Zk 27 .sub 26 1<|
 Zs 1 7 27 .nil))<|Zr (YK 106 6 151<|
 Yc 4 107) .ret⟩
theorem ads:Qe Tryz.prog Tryz.f183=some Rn:=by kernel_rfl
theorem hZ{l:List Nat}(hv:Qj l)(hl:l.length<2^42):Qd Tryz.prog 151 [PV.nat l] (· =PV.num (val l)):=by
 refine aB Qh Tryz.func151 Mc fun C hP=>?_;refine Sz0 ?_;refine qM (fun m fr hp=>m<=l.length/\cut l m=ak (val l)/\fr 0=PV.nat l/\fr 3= .int .i64 m/\hp=ax) l.length ?_ ?_
 ·exact⟨Kae _,zP hv,rfl,rfl,rfl⟩
 rintro n fr _ ⟨hn,hc,h0,h3,rfl⟩;refine Sz2 h0 h3 ?_;refine Q5 (fun hg=>?_) (fun hg=>?_)
 ·simp+decide (disch:=first|omega|rfl|(simp+decide only[go_sem,h0,h3,ve,oO]<;>rfl)|fail) only[go_sem,h0,h3,ve,oO];obtain _|n:=n
  ·omega
  have e:((n+1:Nat):Int)-1=n:=by omega
  simp only[cut]at hc;refine Qb (fun hz=>?_) (fun hz=>?_)
  ·rw[if_pos (by grind)]at hc;simp+decide (disch:=try exact D3 h0 h3 e) only[go_sem,h0,h3,e];refine nI (m:=n) (by omega) ⟨by omega,hc,?_⟩;exact Tz3 h0 @true_and @and_true
  ·refine Sz3 h0 h3 @Hn ?_;rw[if_neg (by grind)]at hc;exact Qc (by simp[hc]) rfl
 ·obtain rfl:n=0:=by omega
  refine Sz3 h0 h3 @Hn ?_;exact Qc (by simp[<-hc,cut]) rfl
theorem ze{l:List Nat}(hv:Qj l)(hl:l.length<2^42):Qd Tryz.prog 153 [PV.nat l] (· =PV.num (val l)):=by
 have hd:=bF hv;unfold nl at hd;refine aB Qh Tryz.func153 ady fun C hP=>?_;refine Sz0 ?_;refine Qa hP (hZ hv hl) rfl rfl rfl ?_;refine Sz0 ?_;refine Qb (fun hz=>?_) (fun hz=>?_)
 ·refine Sz0 ?_;have:ak (val l)=[]:=Kat.1 (by omega);exact oL (by rw[PV.num,this];exact ae9) rfl
 ·refine Sz0 ?_;rw[acA rfl (by simp)];refine Sz0 ?_;exact gy rfl (by simp[Kai])
theorem DM{n:Nat}(hn:n<18446744073709551616):Qd Tryz.prog 170 [.int .u64 n] (· =PV.num n):=by
 have hlen:=sg hn;unfold nl at hlen;refine aB Qh Tryz.func170 adz fun C hP=>?_;refine Sz0 ?_;refine zn (fun m fr hp=>∃done:List Nat,ak n=done++ak m/\m<=n/\fr 0= .int .u64 m/\fr 3= .ms 12 done.length/\hp 12=some ⟨1,128,done.map fun(x:Nat)=>.int .u16 x,false⟩) n (MG 3 12 1 128 (by omega) ?_) ?_ ?_
 ·exact Tz0
 ·refine⟨[],?_⟩;simp+decide (disch:=first|omega|rfl|(simp+decide only[go_sem,KaH,Kby,Kbn,true_and,and_true,Kae]<;>rfl)|fail) only[go_sem,KaH,Kby,Kbn,true_and,and_true,Kae]
 rintro m fr hp ⟨done,hd,hm,h0,h3,hh⟩;rw[hd,Kax]at hlen;refine Sz1 h0 ?_;refine Qb (fun hz=>?_) (fun hz=>?_)
 ·have aQ:m≠0:=by omega
  have oe:ak n=(done++[m%65536])++ak (m/65536):=by rw[hd,tJ aQ];simp
  refine Sz2 h0 h3 ?_;rw[HJ (xs:=done.map fun(x:Nat)=>.int .u16 x) (Tz1 hh) rfl (by omega) (by simp) (by omega) (by omega)];refine Sz4 h0 h3 @NR @PO ?_;refine nI (m:=m/65536) (by omega) ⟨done++[m%65536],oe,by omega,?_⟩;refine Sz3 h0 h3 hh ?_;simp
 ·obtain rfl:m=0:=by omega
  refine Sz1 h3 ?_;exact gy hh (by simp[PV.num,PV.nat,hd,fk,Kai])
theorem Dt{a b:List Nat}(ha:Qj a)(hb:Qj b)(bu:a.length<2^40)(dz:b.length<2^40):Qd Tryz.prog 179 [PV.nat a,PV.nat b] (· = .int .i64 (gA (val a) (val b))):=by
 have gj:=bF ha;have iR:=bF hb;have SH:= @K3 (val a) (val b);have SI:= @K3 (val b) (val a);have aob:=Qn (val a);have aoc:=Qn (val b);have hva:=Qu (val a);have hvb:=Qu (val b);unfold nl at gj iR SH SI;refine aB Qh Tryz.func179 adC fun C hP=>?_;refine Sz0 ?_;refine Qa hP (hZ ha (by omega)) rfl rfl rfl ?_;refine Sz0 ?_;refine Qa hP (hZ hb (by omega)) rfl rfl rfl ?_;refine Sz0 ?_;generalize val a=x at *
 generalize val b=y at *
 refine Qb (fun hz=>?_) (fun hz=>?_)
 ·refine Sz0 ?_;refine Qb (fun hz=>?_) (fun hz=>?_)
  ·refine Sz0 ?_;exact Qc (by rw[H3 (SH (by omega))]) rfl
  ·refine Sz0 ?_;exact Qc (by rw[H4 (SI (by omega))]) rfl
 refine Sz0 ?_;refine qM (fun m fr hp=>m<=(ak x).length/\val ((ak x).drop m)=val ((ak y).drop m)/\fr 0=PV.num x/\fr 1=PV.num y/\fr 5= .int .i64 ((m:Int)-1)/\hp=ax) (ak x).length ?_ ?_
 ·refine⟨Kae _,?_,?_⟩
  ·rw[Kal (Kae _),Kal (by omega)]
  ·exact Tz2 @true_and @and_true
 rintro m fr _ ⟨hm,hd,h0,h1,h5,rfl⟩;refine Sz3 h0 h1 h5 ?_;refine Qb (fun hg=>?_) (fun hg=>?_)
 ·obtain _|m:=m
  ·omega
  have e:((m+1:Nat):Int)-1=m:=by omega
  have qu:m<(ak x).length:=by omega
  have pk:m<(ak y).length:=by omega
  simp+decide (disch:=try exact D4 h0 h1 h5 e) only[go_sem,h0,h1,h5,e];refine Qb (fun hq=>?_) (fun hq=>?_)
  ·refine Sz0 ?_;exact Qc (by rw[H3];have:=PT aob qu pk (by omega) hd;omega) rfl
  simp+decide (disch:=try exact D4 h0 h1 h5 e) only[go_sem,h0,h1,h5,e];refine Qb (fun pq=>?_) (fun pq=>?_)
  ·refine Sz0 ?_;exact Qc (by rw[H4];have:=PT aoc pk qu (by omega) hd.symm;omega) rfl
  refine Sz4 h0 h1 h5 e ?_;refine nI (m:=m) (by omega) ⟨by omega,?_,?_⟩
  ·rw[lO qu,lO pk,hd];omega
  ·exact Tz4 h0 h1 @true_and @and_true
 ·obtain rfl:m=0:=by omega
  refine Sz0 ?_;refine Qc ?_ rfl;rw[LY];simp at hd;omega
theorem abD{a b:List Nat}(ha:Qj a)(hb:Qj b)(bu:a.length<2^40)(dz:b.length<2^40):Qd Tryz.prog 187 [PV.nat a,PV.nat b] (· =PV.num (val a+val b)):=by
 have gj:=bF ha;have iR:=bF hb;unfold nl at gj iR;refine aB Qh Tryz.func187 adD fun C hP=>?_;refine Sz0 ?_;refine Qa hP (hZ ha (by omega)) rfl rfl rfl ?_;refine Sz0 ?_;refine Qa hP (hZ hb (by omega)) rfl rfl rfl ?_;refine Sz0 ?_;generalize val a=x0 at *
 generalize val b=y0 at *
 refine zp (fun fr hp=>∃x y,x+y=x0+y0/\(ak x).length<2^40/\(ak y).length<=(ak x).length/\fr 0=PV.num x/\fr 1=PV.num y/\hp=ax) ?_ ?_
 ·refine Qb (fun hz=>?_) (fun hz=>?_)
  ·refine Sz0 ?_;refine⟨y0,x0,by omega,by omega,by omega,?_⟩;exact Tz2 @true_and @and_true
  ·refine Sz0 ?_;refine⟨x0,y0,by omega,by omega,by omega,?_⟩;exact Tz2 @true_and @and_true
 rintro fr _ ⟨x,y,qx,hx,hy,h0,h1,rfl⟩;rw[<-qx];clear qx gj iR;have eC:=Qn x;have jZ:=Qn y;refine Sz2 h0 h1 ?_;refine qM (fun m fr hp=>∃i c done,m=(ak x).length-i/\i<=(ak x).length/\c<=1/\done.length=i/\done++ja ((ak x).drop i) ((ak y).drop i) c=ak (x+y)/\
  fr 1=PV.num y/\fr 5= .ms 25 (ak x).length/\fr 6= .int .u32 c/\fr 26=PV.num x/\fr 27= .int .i64 (ak x).length/\fr 28= .int .i64 i/\hp=Qk ax 25 ⟨1,128,bV (done++List.replicate ((ak x).length-i) 0),false⟩) (ak x).length ?_ ?_
 ·refine⟨0,0,[],rfl,by omega,by omega,rfl,by simpa using aaY hy,?_⟩;simp+decide (disch:=first|omega|rfl|(simp+decide only[go_sem,h0,h1,true_and,and_true,Kca,KaH]<;>rfl)|fail) only[go_sem,h0,h1,true_and,and_true,Kca,KaH];simp
 rintro _ fr _ ⟨i,c,done,rfl,hi,hc,e9,hd,h1,h5,h6,ln,uq,ur,rfl⟩;refine Sz3 ln uq ur ?_;refine Qb (fun hg=>?_) (fun hg=>?_)
 ·have az:i<(ak x).length:=by omega
  have fj:=eg eC az;rw[W6 az]at hd;have hlen:=HL (n:=(ak x).length-i) e9 (by omega:_=(ak x).length);simp+decide (disch:=try exact D6 h1 h5 h6 ln uq ur) only[go_sem,h1,h5,h6,ln,uq,ur];refine Qb (fun hq=>?_) (fun hq=>?_)
  ·have jA:i<(ak y).length:=by omega
   have uL:=eg jZ jA;rw[fU jA]at hd;simp+decide (disch:=try exact D6 h1 h5 h6 ln uq ur) only[go_sem,h1,h5,h6,ln,uq,ur];refine nI (m:=(ak x).length-(i+1)) (by omega) ⟨i+1,_,_,rfl,by omega,?_,?_,(KbH ..).symm.trans hd,?_⟩
   ·omega
   ·simp[e9]
   ·exact Tz10 h1 h5 h6 ln uq ur @true_and @and_true @zD @Nat.sub_sub
  ·rw[fV (by omega)]at hd;refine Sz6 h1 h5 h6 ln uq ur ?_;refine nI (m:=(ak x).length-(i+1)) (by omega) ⟨i+1,_,_,rfl,by omega,?_,?_,(KbH ..).symm.trans hd,?_⟩
   ·omega
   ·simp[e9]
   ·exact Tz11 h1 h5 h6 ln uq ur @true_and @and_true @zD @Nat.sub_sub @Nat.add_zero
 ·obtain rfl:i=(ak x).length:=by omega
  rw[Kal (Kae _),Kal hy]at hd;simp+decide (disch:=first|omega|rfl|(simp+decide only[go_sem,h5,h6,Kbx,Ka3,Kar]<;>rfl)|fail) only[go_sem,h5,h6,Kbx,Ka3,Kar];refine Qb (fun hq=>?_) (fun hq=>?_)
  ·refine Sz2 h5 h6 ?_;rw[HJ (xs:=bV done) Tz0 rfl (by omega) (by simp[e9]) (by omega) (by omega)];refine Sz1 h5 ?_;refine gy rfl ?_;rw[ja,if_neg (by omega)]at hd;rw[PV.num,<-hd];simp[bV,e9,Kai];omega
  ·refine Sz1 h5 ?_;refine gy rfl ?_;rw[ja,if_pos (by omega)]at hd;rw[PV.num,<-hd];simp[bV,e9,Kai]
theorem Ll{a b:List Nat}(ha:Qj a)(hb:Qj b)(bu:a.length<2^40)(dz:b.length<2^40)(hle:val b<=val a):Qd Tryz.prog 188 [PV.nat a,PV.nat b] (· = .aI [PV.num (val a-val b),.int .i64 0]):=by
 have gj:=bF ha;have iR:=bF hb;have mu:=fG hle;unfold nl at gj iR mu;refine aB Qh Tryz.func188 adE fun C hP=>?_;refine Sz0 ?_;refine Qa hP (Dt ha hb bu dz) rfl rfl rfl ?_;have anu:¬gA (val a) (val b)<0:=by unfold gA;split<;>(try split)<;>omega
 refine Sz0 ?_;refine Qb (fun hz=>absurd hz anu) (fun hz=>?_);refine Sz0 ?_;refine Qa hP (hZ ha (by omega)) rfl rfl rfl ?_;refine Sz0 ?_;refine Qa hP (hZ hb (by omega)) rfl rfl rfl ?_;refine Sz0 ?_;generalize val a=x at *
 generalize val b=y at *
 have eC:=Qn x;have jZ:=Qn y;have dT:=K5 (ak x) (ak y) 0 (by omega) eC jZ mu (by rw[Qu,Qu];exact hle);rw[Qu,Qu,KaM]at dT;have jB:=OA (ak x) (ak y) 0;have EX:=Od (ak x) (ak y) 0;refine qM (fun m fr hp=>∃i c done,m=(ak x).length-i/\i<=(ak x).length/\c<=1/\done.length=i/\done++l7 ((ak x).drop i) ((ak y).drop i) c=l7 (ak x) (ak y) 0/\
  fr 1=PV.num y/\fr 6= .ms 21 (ak x).length/\fr 7= .int .i32 (c:Nat)/\fr 22=PV.num x/\fr 23= .int .i64 (ak x).length/\fr 24= .int .i64 i/\hp=Qk ax 21 ⟨1,128,bV (done++List.replicate ((ak x).length-i) 0),false⟩) (ak x).length ?_ ?_
 ·refine⟨0,0,[],rfl,by omega,by omega,rfl,rfl,?_⟩;simp+decide (disch:=first|omega|rfl|(simp+decide only[go_sem,true_and,and_true,Kca,KaH]<;>rfl)|fail) only[go_sem,true_and,and_true,Kca,KaH];simp
 rintro _ fr _ ⟨i,c,done,rfl,hi,hc,e9,hd,h1,h6,h7,me,mf,gT,rfl⟩;refine Sz3 me mf gT ?_;refine Qb (fun hg=>?_) (fun hg=>?_)
 ·have az:i<(ak x).length:=by omega
  have fj:=eg eC az;rw[W7 az]at hd;have hlen:=HL (n:=(ak x).length-i) e9 (by omega:_=(ak x).length);simp+decide (disch:=try exact D6 h1 h6 h7 me mf gT) only[go_sem,h1,h6,h7,me,mf,gT];refine zp (fun fr hp=>fr 1=PV.num y/\fr 6= .ms 21 (ak x).length/\fr 8= .int .i64 i/\fr 10= .int .i32 ((ak x)[i]-(c:Int)-((ak y).getD i 0:Nat))/\(ak y).getD i 0<65536/\fr 22=PV.num x/\fr 23= .int .i64 (ak x).length/\fr 24= .int .i64 i/\hp=Qk ax 21 ⟨1,128,bV (done++List.replicate ((ak x).length-i) 0),false⟩) ?_ ?_
  ·refine Qb (fun hq=>?_) (fun hq=>?_)
   ·have jA:i<(ak y).length:=by omega
    have uL:=eg jZ jA;simp+decide (disch:=first|omega|rfl|(simp+decide only[go_sem,h1,h6,h7,me,mf,gT,fU jA,true_and,and_true]<;>rfl)|fail) only[go_sem,h1,h6,h7,me,mf,gT,fU jA,true_and,and_true];exact uL
   ·simp+decide (disch:=first|omega|rfl|(simp+decide only[go_sem,h1,h6,h7,me,mf,gT,true_and,and_true,fV (by omega:¬i<(ak y).length)]<;>rfl)|fail) only[go_sem,h1,h6,h7,me,mf,gT,true_and,and_true,fV (by omega:¬i<(ak y).length)];simp
  clear h1 h6 me mf gT;rintro fr _ ⟨h1,h6,h8,bh,uL,me,mf,gT,rfl⟩;generalize hw:(ak y).getD i 0=yi at *
  refine Sz1 bh ?_;refine zp (fun fr hp=>fr 1=PV.num y/\fr 6= .ms 21 (ak x).length/\fr 8= .int .i64 i/\fr 10= .int .i32 (((ak x)[i]+65536-c-yi)%65536:Nat)/\fr 7= .int .i32 ((if(ak x)[i]<c+yi then 1 else 0):Nat)/\fr 22=PV.num x/\fr 23= .int .i64 (ak x).length/\fr 24= .int .i64 i/\hp=Qk ax 21 ⟨1,128,bV (done++List.replicate ((ak x).length-i) 0),false⟩) ?_ ?_
  ·refine Qb (fun hq=>?_) (fun hq=>?_)
   ·rw[if_pos (by omega)];refine Sz9 h1 h6 h8 bh me mf gT @true_and @and_true ?_;simp;omega
   ·rw[if_neg (by omega)];refine Sz9 h1 h6 h8 bh me mf gT @true_and @and_true ?_;simp;omega
  clear h1 h6 h8 bh me mf gT;rintro fr _ ⟨h1,h6,h8,bh,h7,me,mf,gT,rfl⟩;refine Sz8 h1 h6 h7 h8 bh me mf gT ?_;refine nI (m:=(ak x).length-(i+1)) (by omega) ⟨i+1,_,_,rfl,by omega,?_,?_,(KbH ..).symm.trans hd,?_⟩
  ·split<;>omega
  ·simp[e9]
  ·exact Tz13 h1 h6 h7 h8 bh me mf gT @true_and @and_true @zD @Nat.sub_sub @Nat.mod_mod
 ·obtain rfl:i=(ak x).length:=by omega
  rw[Kal (Kae _),l7,Kar]at hd;simp+decide (disch:=first|omega|rfl|(simp+decide only[go_sem,h6,Kbx,Ka3,Kar]<;>rfl)|fail) only[go_sem,h6,Kbx,Ka3,Kar];rw[hd];refine u7 hP (hZ jB (by omega)) (zE rfl EX.symm) rfl fun hp'=>?_;refine Sz0 ?_;exact cG rfl rfl rfl (tF (by rw[show val (l7 (ak x) (ak y) 0)=x-y by omega])) (Qf _)
theorem Du{a b:List Nat}(ha:Qj a)(hb:Qj b)(bu:a.length<2^40)(dz:b.length<2^40):Qd Tryz.prog 111 [PV.nat a,PV.nat b] (· =PV.num (val a*val b)):=by
 have gj:=bF ha;have iR:=bF hb;unfold nl at gj iR;refine aB Qh Tryz.func111 adF fun C hP=>?_;refine Sz0 ?_;refine Qa hP (hZ ha (by omega)) rfl rfl rfl ?_;refine Sz0 ?_;refine Qa hP (hZ hb (by omega)) rfl rfl rfl ?_;refine Sz0 ?_;generalize val a=x at *
 generalize val b=y at *
 have eC:=Qn x;have jZ:=Qn y;refine Qo (fun hz=>?_) (fun hz=>?_)
 ·refine Sz0 ?_;have:=pH (by omega:(ak x).length=0);rw[lK]at this;exact oL (zS (by simp[this])) rfl
 refine Sz0 ?_;refine Qb (fun Fw=>?_) (fun Fw=>?_)
 ·refine Sz0 ?_;have:=pH (by omega:(ak y).length=0);rw[lK]at this;exact oL (zS (by simp[this])) rfl
 refine Sz0 ?_;refine qM (fun m fr hp=>∃i lo,m=(ak x).length-i/\i<=(ak x).length/\Qj lo/\lo.length=i+(ak y).length/\val lo=val ((ak x).take i)*val (ak y)/\
  fr 1=PV.num y/\fr 5= .ms 28 ((ak x).length+(ak y).length)/\fr 29=PV.num x/\fr 30= .int .i64 (ak x).length/\fr 31= .int .i64 i/\hp=Qk ax 28 ⟨1,128,bV (lo++List.replicate ((ak x).length-i) 0),false⟩) (ak x).length ?_ ?_
 ·refine⟨0,List.replicate (ak y).length 0,rfl,by omega,?_,by simp,by simp[PR,val],?_⟩
  ·intro z hz;rw[List.eq_of_mem_replicate hz];omega
  ·refine Sz3 @true_and @and_true @Nat.sub_zero ?_;simp[KbR]
 rintro _ fr _ ⟨i,lo,rfl,hi,rF,Jx,hv,h1,h5,qf,ni,nj,rfl⟩;refine Sz3 qf ni nj ?_;refine Qb (fun hg=>?_) (fun hg=>?_)
 ·have az:i<(ak x).length:=by omega
  have fj:=eg eC az;have mA:=aaZ az Jx hv;have Bc:Qj (lo.take i++jM (lo.drop i) (ak y) (ak x)[i] 0):=nJ.2 ⟨wW rF i,OC _ _ _ _ (by omega) fj (zb rF i) jZ⟩;have aqr:(lo.take i++jM (lo.drop i) (ak y) (ak x)[i] 0).length=i+(ak y).length+1:=by rw[Kax,Oe _ _ _ _ (by simp[Jx])];simp;omega
  generalize dB:(ak x)[i]=xi at *
  refine Sz6 h1 h5 qf ni nj dB ?_;refine qM (fun m fr hp=>∃k c p rs,m=(ak y).length-k/\k<=(ak y).length/\c<65536/\Qj rs/\p.length=i+k/\rs.length=(ak y).length-k/\p++jM rs ((ak y).drop k) xi c=lo.take i++jM (lo.drop i) (ak y) xi 0/\
   fr 1=PV.num y/\fr 5= .ms 28 ((ak x).length+(ak y).length)/\fr 6= .int .i64 i/\fr 7= .int .u16 xi/\fr 8= .int .u32 c/\fr 29=PV.num x/\fr 30= .int .i64 (ak x).length/\fr 31= .int .i64 i/\fr 36=PV.num y/\fr 37= .int .i64 (ak y).length/\fr 38= .int .i64 k/\
   hp=Qk ax 28 ⟨1,128,bV (p++(rs++List.replicate ((ak x).length-i) 0)),false⟩) (ak y).length ?_ ?_
  ·refine⟨0,0,lo.take i,lo.drop i,rfl,by omega,by omega,zb rF i,by simp;omega,by simp;omega,rfl,?_⟩;refine Sz7 h1 h5 qf ni nj @true_and @and_true ?_;rw[<-List.append_assoc,Kbe];simp
  clear h1 h5 qf ni nj;rintro _ fr _ ⟨k,c,p,rs,rfl,hk,hc,cN,cQ,wq,hinv,h1,h5,h6,h7,h8,qf,ni,nj,Er,Es,Et,rfl⟩;refine Sz3 Er Es Et ?_;refine Qb (fun hq=>?_) (fun hq=>?_)
  ·have cI:k<(ak y).length:=by omega
   have hyk:=eg jZ cI;rw[Kau cI]at hinv;generalize Tq:(ak y)[k]=yk at *
   obtain _|⟨r,rs⟩:=rs
   ·simp at wq;omega
   rw[gH]at cN;have Bj:=cN.1;have Bv:=tB fj hyk;rw[jM]at hinv;have aq:i+k<(p++r::(rs++List.replicate ((ak x).length-i) 0)).length:=by simp;omega
   have ez:=DE cQ aq;simp+decide (disch:=first|omega|rfl|(simp+decide only[go_sem,h1,h5,h6,h7,h8,Er,Es,Et,Tq,KaJ,ez]<;>rfl)|fail) only[go_sem,h1,h5,h6,h7,h8,Er,Es,Et,Tq,KaJ,ez];refine nI (m:=(ak y).length-(k+1)) (by omega) ⟨k+1,_,_,_,rfl,by omega,?_,cN.2,?_,?_,(KbH ..).symm.trans hinv,?_⟩
   ·omega
   ·simp[cQ];omega
   ·simp at wq;omega
   ·refine Sz14 h1 h5 h6 h7 h8 qf ni nj Er Es Et @true_and @and_true @nN ?_;simp
  ·obtain rfl:k=(ak y).length:=by omega
   obtain rfl:rs=[]:=Kat.1 (by omega);rw[Kal (Kae _),jM]at hinv
   rotate_left
   ·intros;simp_all
   obtain⟨z,hz⟩:∃z,(ak x).length-i=z+1:=⟨(ak x).length-i-1,by omega⟩
   have aq:i+(ak y).length<(p++0::(List.replicate z 0)).length:=by simp;omega
   simp+decide (disch:=first|omega|rfl|(simp+decide only[go_sem,h1,h5,h6,h8,qf,ni,nj,KaH,hz,KbB]<;>rfl)|fail) only[go_sem,h1,h5,h6,h8,qf,ni,nj,KaH,hz,KbB];refine nI (m:=(ak x).length-(i+1)) (by omega) ⟨i+1,lo.take i++jM (lo.drop i) (ak y) xi 0,rfl,by omega,Bc,by omega,?_,?_⟩
   ·rw[mA]
   ·refine Sz8 h1 h5 qf ni nj @true_and @and_true @nN ?_;rw[<-hinv,show(ak x).length-(i+1)=z by omega,KaI hc];simp
 ·obtain rfl:i=(ak x).length:=by omega
  rw[KaT,Qu,Qu]at hv;simp+decide (disch:=first|omega|rfl|(simp+decide only[go_sem,h5,Kbx,Ka3,Kar]<;>rfl)|fail) only[go_sem,h5,Kbx,Ka3,Kar];refine u7 hP (hZ rF (by omega)) (zE rfl Jx.symm) rfl fun hp'=>?_;refine Sz0 ?_;exact Qc (by rw[hv]) rfl
theorem Uy{pre w post v:List Nat}{j m:Nat}(hw:Qj w)(hv:Qj v)(hj:pre.length=j)(hm:w.length=m)(hle:v.length<=w.length)(hlen:(pre++(w++post)).length<2^43):
  xl Tryz.prog 192 [.aw B0 j m,PV.nat v] 128 (bV (pre++(w++post))) (fun r xs'=>r= .aI []/\xs'=bV (pre++(kA w v 0++post))):=by
 simp only[Kax]at hlen;refine CX Qh Tryz.func192 rfl adK Nz fun C hP=>?_;simp only[Rp];refine dO ?_;refine Sz0 ?_;refine qM (fun k fr hp=>∃i c done,k=w.length-i/\i<=w.length/\c<=1/\done.length=i/\done++kA (w.drop i) (v.drop i) c=kA w v 0/\
  fr 0= .aw 1000000 j m/\fr 1=PV.nat v/\fr 4= .int .u32 c/\fr 7= .int .i64 m/\fr 8= .int .i64 i/\hp=Qk ax 1000000 ⟨1,128,bV ((pre++done)++(w.drop i++post)),false⟩) w.length ?_ ?_
 ·refine⟨0,0,[],rfl,by omega,by omega,rfl,rfl,?_⟩;simp+decide (disch:=first|omega|rfl|(simp+decide only[go_sem,true_and,and_true,Kar,Kbw]<;>rfl)|fail) only[go_sem,true_and,and_true,Kar,Kbw];simp
 rintro _ fr _ ⟨i,c,done,rfl,hi,hc,e9,hd,h0,h1,h4,h7,h8,rfl⟩;refine Sz2 h7 h8 ?_;refine Qb (fun hg=>?_) (fun hg=>?_)
 ·have az:i<w.length:=by omega
  have hwi:=eg hw az;rw[XJ az]at hd;have cQ:(pre++done).length=j+i:=by simp[hj,e9]
  rw[Kau az];generalize hww:w[i]=wi at *
  have aq:j+i<((pre++done)++wi::(w.drop (i+1)++post)).length:=by simp;omega
  have ez:=DE cQ aq;simp+decide (disch:=first|omega|rfl|(simp+decide only[go_sem,h0,h1,h4,h7,h8,KaJ,ez]<;>rfl)|fail) only[go_sem,h0,h1,h4,h7,h8,KaJ,ez];refine Qb (fun hq=>?_) (fun hq=>?_)
  ·have jA:i<v.length:=by omega
   have Ti:=eg hv jA;rw[fU jA]at hd;simp+decide (disch:=first|omega|rfl|(simp+decide only[go_sem,h0,h1,h4,h7,h8,nN]<;>rfl)|fail) only[go_sem,h0,h1,h4,h7,h8,nN];refine nI (m:=w.length-(i+1)) (by omega) ⟨i+1,_,_,rfl,by omega,?_,?_,(KbH ..).symm.trans hd,?_⟩
   ·omega
   ·simp[e9]
   ·refine Sz8 h0 h1 h4 h7 h8 @true_and @and_true @nN ?_;simp
  ·rw[fV (by omega)]at hd;refine Sz6 h0 h1 h4 h7 h8 @nN ?_;refine nI (m:=w.length-(i+1)) (by omega) ⟨i+1,_,_,rfl,by omega,?_,?_,(KbH ..).symm.trans hd,?_⟩
   ·omega
   ·simp[e9]
   ·refine Sz8 h0 h1 h4 h7 h8 @true_and @and_true @nN ?_;simp
 ·obtain rfl:i=w.length:=by omega
  rw[Kal (Kae _),kA,Kar]at hd;refine Sz0 ?_;refine afS rfl (qN _) ?_ ⟨rfl,?_⟩
  ·simp[e9]
  ·rw[Kal (Kae _),hd];simp
theorem Qz2{pre w post v:List Nat}{j m q:Nat}(hw:Qj w)(hv:Qj v)(hq:q<65536)(hj:pre.length=j)(hm:w.length=m)(hle:v.length<=w.length)(hlen:(pre++(w++post)).length<2^43):
  xl Tryz.prog 191 [.aw B0 j m,PV.nat v,.int .u32 q] 128 (bV (pre++(w++post))) (fun r xs'=>r= .bool (decide (0<(eV w v q 0 0).2.2))/\xs'=bV (pre++((eV w v q 0 0).1++post))):=by
 simp only[Kax]at hlen;refine CX Qh Tryz.func191 rfl adJ Nz fun C hP=>?_;simp only[Ro];refine dO ?_;refine Sz0 ?_;refine qM (fun k fr hp=>∃i c b done,k=w.length-i/\i<=w.length/\c<65536/\b<=1/\done.length=i/\done++(eV (w.drop i) (v.drop i) q c b).1=(eV w v q 0 0).1/\(eV (w.drop i) (v.drop i) q c b).2=(eV w v q 0 0).2/\
  fr 0= .aw 1000000 j m/\fr 1=PV.nat v/\fr 2= .int .u32 q/\fr 7= .int .u32 c/\fr 8= .int .i32 (b:Nat)/\fr 12= .int .i64 m/\fr 13= .int .i64 i/\hp=Qk ax 1000000 ⟨1,128,bV ((pre++done)++(w.drop i++post)),false⟩) w.length ?_ ?_
 ·refine⟨0,0,0,[],rfl,by omega,by omega,by omega,rfl,rfl,rfl,?_⟩;simp+decide (disch:=first|omega|rfl|(simp+decide only[go_sem,true_and,and_true,Kar,Kbw]<;>rfl)|fail) only[go_sem,true_and,and_true,Kar,Kbw];simp
 rintro _ fr _ ⟨i,c,b,done,rfl,hi,hc,hb,e9,hd,oe,h0,h1,h2,h7,h8,iw,e7,rfl⟩;refine Sz2 iw e7 ?_;refine Qb (fun hg=>?_) (fun hg=>?_)
 ·have az:i<w.length:=by omega
  have hwi:=eg hw az;rw[XK az]at hd oe;simp only at hd oe;have cQ:(pre++done).length=j+i:=by simp[hj,e9]
  rw[Kau az];generalize hww:w[i]=wi at *
  have aq:j+i<((pre++done)++wi::(w.drop (i+1)++post)).length:=by simp;omega
  have ez:=DE cQ aq;simp+decide (disch:=first|omega|rfl|(simp+decide only[go_sem,h0,h1,h2,h7,h8,iw,e7,KaJ,ez]<;>rfl)|fail) only[go_sem,h0,h1,h2,h7,h8,iw,e7,KaJ,ez];refine zp (fun fr hp=>c+q*v.getD i 0<=4294967295/\fr 0= .aw 1000000 j m/\fr 1=PV.nat v/\fr 2= .int .u32 q/\fr 7= .int .u32 (c+q*v.getD i 0:Nat)/\fr 8= .int .i32 (b:Nat)/\fr 9= .int .i64 i/\fr 12= .int .i64 m/\fr 13= .int .i64 i/\hp=Qk ax 1000000 ⟨1,128,bV ((pre++done)++wi::(w.drop (i+1)++post)),false⟩) ?_ ?_
  ·refine Qb (fun rL=>?_) (fun rL=>?_)
   ·have jA:i<v.length:=by omega
    have Ti:=eg hv jA;have rL:=tB hq Ti;simp+decide (disch:=first|omega|rfl|(simp+decide only[go_sem,h0,h1,h2,h7,h8,iw,e7,fU jA,true_and,and_true]<;>rfl)|fail) only[go_sem,h0,h1,h2,h7,h8,iw,e7,fU jA,true_and,and_true];omega
   ·simp+decide (disch:=first|omega|rfl|(simp+decide only[go_sem,h0,h1,h2,h7,h8,iw,e7,true_and,and_true,fV (by omega:¬i<v.length),KbS,KaM]<;>rfl)|fail) only[go_sem,h0,h1,h2,h7,h8,iw,e7,true_and,and_true,fV (by omega:¬i<v.length),KbS,KaM];omega
  clear h0 h1 h2 h7 h8 iw e7;rintro fr _ ⟨nn,h0,h1,h2,h7,h8,h9,iw,e7,rfl⟩;generalize c+q*v.getD i 0=c1 at *
  refine Sz9 h0 h1 h2 h7 h8 h9 iw e7 ez ?_;refine zp (fun fr hp=>fr 0= .aw 1000000 j m/\fr 1=PV.nat v/\fr 2= .int .u32 q/\fr 7= .int .u32 (c1/65536:Nat)/\fr 8= .int .i32 ((if wi<c1%65536+b then 1 else 0):Nat)/\fr 9= .int .i64 i/\fr 10= .int .i32 ((wi+65536-c1%65536-b)%65536:Nat)/\fr 12= .int .i64 m/\fr 13= .int .i64 i/\hp=Qk ax 1000000 ⟨1,128,bV ((pre++done)++wi::(w.drop (i+1)++post)),false⟩) ?_ ?_
  ·refine Qb (fun hq=>?_) (fun hq=>?_)
   ·rw[if_pos (by omega)];refine yS h0 h1 h2 h7 h8 h9 iw e7 @true_and @and_true ?_;simp;omega
   ·rw[if_neg (by omega)];refine yS h0 h1 h2 h7 h8 h9 iw e7 @true_and @and_true ?_;simp;omega
  clear h0 h1 h2 h7 h8 h9 iw e7;rintro fr _ ⟨h0,h1,h2,h7,h8,h9,bh,iw,e7,rfl⟩;refine yS h0 h1 h2 h7 h8 h9 bh iw e7 @nN ?_;refine nI (m:=w.length-(i+1)) (by omega) ⟨i+1,c1/65536,_,_,rfl,by omega,by omega,?_,?_,(KbH ..).symm.trans hd,oe,?_⟩
  ·split<;>omega
  ·simp[e9]
  ·refine Sz13 h0 h1 h2 h7 h8 h9 bh iw e7 @true_and @and_true @nN @Nat.mod_mod ?_;simp
 ·obtain rfl:i=w.length:=by omega
  rw[Kal (Kae _),eV]at hd oe;simp only[Kar]at hd;refine Sz1 h8 ?_;refine MM (p:=.bool (decide (0<(b:Int)))) rfl (qN _) ?_ Tz0 rfl ⟨?_,?_⟩
  ·simp[e9]
  ·rw[<-oe];simp
  ·rw[Kal (Kae _),hd];simp
theorem Qz3{v u:List Nat}{dg n r j:Nat}(hv:Qj v)(hu:Qj u)(hn:2<=n)(gU:n=v.length)(hju:j+n<u.length)(hd:dg<4294967296)(hr:r<65536)(JW:u.length<2^43):
  Qd Tryz.prog 190 [.pt [.int .u64 dg],.pt [PV.nat v],.pt [.int .i64 n],.pt [.int .u64 r],.pt [PV.nat u],.pt [.int .i64 j]]
   (· = .bool (decide (65536<=dg∨r*65536+u.getD (j+n-2) 0<dg*v.getD (n-2) 0))):=by
 have h1:n-2<v.length:=by omega
 have h2:j+n-2<u.length:=by omega
 have tg:=eg hv h1;have Th:=eg hu h2;rw[fU h1,fU h2];refine aB Qh Tryz.func190 adI fun C hP=>?_;refine Sz0 ?_;refine Qo (fun hz=>?_) (fun hz=>?_)
 ·refine Sz0 ?_;exact Qc (by simp;omega) rfl
 ·have sW:dg<65536:=by omega
  have e1:(n:Int)-2=((n-2:Nat):Int):=by omega
  have e2:((j+n:Nat):Int)-2=((j+n-2:Nat):Int):=by omega
  generalize hvv:v[n-2]=vi at *
  generalize huu:u[j+n-2]=ui at *
  have hm:=tB sW tg;refine Sz6 e1 e2 hvv huu @Hf @HN ?_;exact Qc (congrArg PV.bool (decide_eq_decide.2 ⟨fun h=>.inr (by omega),fun h=>by rcases h with h|h<;>omega⟩)) rfl
theorem VU{l post:List Nat}(hv:Qj l)(hl:(l++post).length<2^43)(hlen:0<l.length):
  xl Tryz.prog 151 [.aw B0 0 l.length] 128 (bV (l++post)) (fun r xs'=>r= .aw B0 0 (nl (val l))/\xs'=bV (l++post)):=by
 simp only[Kax]at hl;have aqq:l.length<=(l++post).length:=by simp
 refine CX Qh Tryz.func151 rfl Mc Nz fun C hP=>?_;simp only[Rk];refine dO ?_;refine Sz0 ?_;refine qM (fun m fr hp=>m<=l.length/\cut l m=ak (val l)/\fr 0= .aw 1000000 0 l.length/\fr 3= .int .i64 m/\hp=Qk ax 1000000 ⟨1,128,bV (l++post),false⟩) l.length ?_ ?_
 ·exact⟨Kae _,zP hv,rfl,rfl,rfl⟩
 rintro n fr _ ⟨hn,hc,h0,h3,rfl⟩;refine Sz2 h0 h3 ?_;refine Q5 (fun hg=>?_) (fun hg=>?_)
 ·obtain _|n:=n
  ·omega
  have e:((n+1:Nat):Int)-1=n:=by omega
  have aq:n<(l++post).length:=by simp;omega
  have ez:(l++post)[n]=l[n]:=by simp[List.getElem_append,show n<l.length by omega]
  refine Sz4 h0 h3 e ez ?_;simp only[cut]at hc;refine Qb (fun hz=>?_) (fun hz=>?_)
  ·rw[if_pos (by grind)]at hc;refine Sz3 h0 h3 e ?_;refine nI (m:=n) (by omega) ⟨by omega,hc,?_⟩;exact Tz3 h0 @true_and @and_true
  ·rw[if_neg (by grind)]at hc;have mu:nl (val l)=n+1:=by rw[nl,<-hc];simp;omega
   refine Sz2 h0 h3 ?_;exact LZ rfl (qN _) (by simp) (Tz1 mu) ⟨rfl,rfl⟩
 ·obtain rfl:n=0:=by omega
  have mu:nl (val l)=0:=by rw[nl,<-hc,cut];rfl
  refine Sz2 h0 h3 ?_;exact LZ rfl (qN _) (by simp) (Tz1 mu) ⟨rfl,rfl⟩
theorem GN{a:List Nat}{s:Nat}(ha:Qj a)(bu:a.length<2^40)(hs:s<=15)(aQ:val a≠0):zT Tryz.prog 182 [PV.nat a,.int .i64 s] 128 (fun ys=>ys=bV (ak (val a*2^s))):=by
 have gj:=bF ha;unfold nl at gj;have ot:(ak (val a)).length≠0:=by intro h;exact aQ (lK.1 (pH h))
 refine XH Qh Tryz.func182 rfl Ig Nz fun C hP=>?_;simp only[Rm];refine dO ?_;refine Sz0 ?_;refine Qa hP (hZ ha (by omega)) rfl rfl rfl ?_;refine Sz0 ?_;generalize val a=x at *
 have eC:=Qn x;have e1:s/16=0:=Kcl (by omega);have e2:s%16=s:=KaI (by omega);refine Qo (fun hz=>by omega) (fun hz=>?_);refine Sz0 ?_;refine Qo (fun hz=>by omega) (fun hz=>?_);refine Sz0 ?_;refine Qb (fun hz=>by omega) (fun hz=>?_);refine Sz0 ?_;refine Qb (fun hz=>by omega) (fun hz=>?_);refine Sz4 @PX @PY e1 e2 ?_;refine qM (fun k fr hp=>∃i c done,k=(ak x).length-i/\i<=(ak x).length/\c<2^s/\done.length=i/\done++nY s ((ak x).drop i) c=nY s (ak x) 0/\
  fr 5= .int .i64 (0:Nat)/\fr 6= .int .i64 s/\fr 7= .ms 44 ((ak x).length+1)/\fr 45=PV.num x/\fr 46= .int .i64 (ak x).length/\fr 47= .int .i64 i/\
  hp=Qk ax 44 ⟨1,128,bV (done++c::List.replicate ((ak x).length-i) 0),false⟩) (ak x).length ?_ ?_
 ·refine⟨0,0,[],rfl,by omega,KbM (by omega),rfl,rfl,?_⟩;simp+decide (disch:=first|omega|rfl|(simp+decide only[go_sem,true_and,and_true,KaH,Kca]<;>rfl)|fail) only[go_sem,true_and,and_true,KaH,Kca];simp[KbB]
 rintro _ fr _ ⟨i,c,done,rfl,hi,hc,e9,hd,h5,h6,h7,Eu,Ev,Ew,rfl⟩;refine Sz3 Eu Ev Ew ?_;have aqy:2^s<=2^15:=Kbu (by omega) hs;refine Qb (fun hg=>?_) (fun hg=>?_)
 ·have az:i<(ak x).length:=by omega
  have fj:=eg eC az;rw[Kau az,nY]at hd;generalize dB:(ak x)[i]=xi at *
  obtain⟨z,hz⟩:∃z,(ak x).length-i=z+1:=⟨(ak x).length-i-1,by omega⟩
  have aq:i<(done++c::List.replicate (z+1) 0).length:=by simp;omega
  have ez:=DE e9 aq;have iC:=La (x:=xi) (show s<=16 by omega) hc;have di:=PZ (show s<=16 by omega) fj;have hl:=afU hs fj;refine Sz13 h5 h6 h7 Eu Ev Ew dB hz ez @L1 @afT iC.2 @nN ?_;have lE:∀v u,(done++v::List.replicate (z+1) 0).set (i+1) u=(done++[v])++u::List.replicate z 0:=fun v u=>by rw[KbH,KbB,nN (by simp[e9])]
  rw[MD (by simp;omega),lE,KaI (by omega:xi*2^s/65536<65536)];refine Sz6 h5 h6 h7 Eu Ev Ew ?_;refine nI (m:=(ak x).length-(i+1)) (by omega) ⟨i+1,xi*2^s/65536,done++[xi*2^s%65536+c],rfl,by omega,di,by simp[e9],(KbH ..).symm.trans hd,?_⟩;refine Sz8 h5 h6 h7 Eu Ev Ew @true_and @and_true ?_;rw[show(ak x).length-(i+1)=z by omega]
 ·obtain rfl:i=(ak x).length:=by omega
  rw[Kal (Kae _),nY]at hd;have qt:=OX hs (ak x) 0 eC (KbM (by omega));have kL:=K9 s (ak x) 0;have EX:=Oh s (ak x) 0;rw[Qu,KaM]at kL;rw[<-hd]at qt kL EX;have aqw:x*2^s≠0:=Nat.mul_ne_zero aQ (Nat.ne_of_gt (KbM (by omega)));simp+decide (disch:=first|omega|rfl|(simp+decide only[go_sem,h7,Kbx,Ka3]<;>rfl)|fail) only[go_sem,h7,Kbx,Ka3];have ht:=VU (l:=done++[c]) (post:=[]) qt (by simp[e9];omega) (by simp);rw[Kar,kL]at ht;refine DR hP ht (β:=44) Tz0 (qN _) (by simp) (by simp[jq,EX]) rfl ?_;rintro r xs' _ _ ⟨rfl,rfl⟩;simp+decide (disch:=first|omega|rfl|(simp+decide only[go_sem,nR]<;>rfl)|fail) only[go_sem,nR];refine⟨4,44,nl (x*2^s),_,rfl,by simp+decide (disch:=try exact D0) only[go_sem],rfl,by simp+decide (disch:=try exact D0) only[go_sem];rfl,qN _,?_,?_⟩
  ·have:= @wX (x*2^s);omega
  ·rw[<-kL,<-List.map_take,aa1 qt]
theorem VV{a:List Nat}{s:Nat}(ha:Qj a)(bu:a.length<2^42)(hs:s<=15):Qd Tryz.prog 189 [PV.nat a,.int .i64 s] (· =PV.num (val a/2^s)):=by
 have e1:s/16=0:=Kcl (by omega);have e2:s%16=s:=KaI (by omega);refine aB Qh Tryz.func189 adM fun C hP=>?_;refine Sz4 @PX @PY e1 e2 ?_;refine Qb (fun hz=>?_) (fun hz=>?_)
 ·have:a=[]:=Kat.1 (by omega);subst this;refine Sz0 ?_;exact oL (zS (by simp[val])) rfl
 have e3:((a.length:Int)-((0:Nat):Int))=((a.length:Nat):Int):=by omega
 refine Sz1 e3 ?_;refine Ql ep [(8,9),(25,60)] [] (fun k J hp=>∃i done,k=a.length-i/\i<=a.length/\done.length=i/\done++m8 s (a.drop i)=m8 s a/\J 25= .int .i64 i/\
  hp=Qk ax 22 ⟨1,128,bV (done++List.replicate (a.length-i) 0),false⟩) a.length ?_ ?_
 ·refine⟨0,[],rfl,by omega,rfl,rfl,?_⟩;simp+decide (disch:=first|omega|rfl|(simp+decide only[go_sem,true_and,and_true,KaH,Kca]<;>rfl)|fail) only[go_sem,true_and,and_true,KaH,Kca];simp
 rintro _ J _ ⟨i,done,rfl,hi,e9,hd,vN,rfl⟩;refine Sz1 vN ?_;refine Qb (fun hg=>?_) (fun hg=>?_)
 ·have az:i<a.length:=by omega
  have EI:=eg ha az;rw[XO az]at hd;generalize dB:a[i]=xi at *
  have hlen:=HL (n:=a.length-i) e9 (by omega:_=a.length);refine Sz2 vN dB ?_;refine Qb (fun hq=>?_) (fun hq=>?_)
  ·have jA:i+1<a.length:=by omega
   have haj:=eg ha jA;rw[fU jA]at hd;simp+decide (disch:=first|omega|rfl|(simp+decide only[go_sem,vN,Hg,PW,H5]<;>rfl)|fail) only[go_sem,vN,Hg,PW,H5];refine Qg (a.length-(i+1)) (by omega) ⟨i+1,_,rfl,by omega,by simp[e9],(KbH ..).symm.trans hd,?_⟩;exact Tz5 vN @true_and @and_true @zD @Nat.sub_sub
  ·rw[fV (by omega),KbG,Ka5]at hd;refine Sz2 vN @H5 ?_;refine Qg (a.length-(i+1)) (by omega) ⟨i+1,_,rfl,by omega,by simp[e9],(KbH ..).symm.trans hd,?_⟩;exact Tz5 vN @true_and @and_true @zD @Nat.sub_sub
 ·obtain rfl:i=a.length:=by omega
  rw[Kal (Kae _),m8,Kar]at hd;simp+decide (disch:=first|omega|rfl|(simp+decide only[go_sem,Kbx,Ka3,Kar]<;>rfl)|fail) only[go_sem,Kbx,Ka3,Kar];rw[hd];refine u7 hP (hZ (OY s a) (by rw[GL];exact bu)) (zE rfl (GL s a).symm) rfl fun hp'=>?_;refine Sz0 ?_;exact Qc (by rw[Lc (by omega) a ha]) rfl
theorem Vi{x V d q:Nat}(hd:0<d)(h:q=V/d):(V%d*65536+x)/d+65536*q=(x+65536*V)/d/\(V%d*65536+x)%d=(x+65536*V)%d:=by
 subst h;have e:x+65536*V=(V%d*65536+x)+d*(65536*(V/d)):=by
  have:=Kbi V d
  calc x+65536*V=x+65536*(d*(V/d)+V%d):=by rw[this]
   _=_:=by rw[KaW,KbE];omega
 rw[e,Kce _ _ hd,Kcd];exact⟨rfl,rfl⟩
theorem Vj{a:List Nat}{d:Nat}(ha:Qj a)(bu:a.length<2^42)(hd:0<d)(oe:d<65536):Qd Tryz.prog 180 [PV.nat a,.int .u16 d] (· = .aI [PV.num (val a/d),.int .u16 (val a%d:Nat)]):=by
 refine aB Qh Tryz.func180 adG fun C hP=>?_;refine Sz0 ?_;refine Ql ep [(7,8),(15,38)] [] (fun k J hp=>∃qs,k<=a.length/\qs.length=a.length-k/\Qj qs/\val qs=val (a.drop k)/d/\J 7= .int .u32 (val (a.drop k)%d:Nat)/\J 8= .int .i64 ((k:Int)-1)/\
  hp=Qk ax 11 ⟨1,128,bV (List.replicate k 0++qs),false⟩) a.length ?_ ?_
 ·refine⟨[],Kae _,by simp,nL,by simp[val],?_⟩;refine Sz2 @true_and @and_true ?_;simp[val]
 rintro k J _ ⟨qs,hk,yz,pw,hv,h7,h8,rfl⟩;refine Sz2 h7 h8 ?_;have hr:=Kbs (val (a.drop k)) hd;refine Qb (fun hg=>?_) (fun hg=>?_)
 ·obtain _|n:=k
  ·omega
  have hn:n<a.length:=by omega
  have I8:=eg ha hn;have e:((n+1:Nat):Int)-1=n:=by omega
  have aH:=Vi (x:=a[n]) hd hv;rw[<-lO hn]at aH;have aq:(val (a.drop (n+1))%d*65536+a[n])/d<65536:=by rw[Kbd hd];have:(val (a.drop (n+1))%d+1)*65536<=d*65536:=Kam _ hr;omega
  generalize dB:a[n]=xn at *
  generalize val (a.drop (n+1))%d=r at *
  have hlen:n<(List.replicate (n+1) 0++qs).length:=by simp;omega
  refine Sz8 h7 h8 e dB @Hg @aa0 @acY @pL ?_;refine Qg n (by omega) ⟨(r*65536+xn)/d::qs,by omega,?_,?_,?_,?_⟩
  ·simp;omega
  ·rw[gH];exact⟨aq,pw⟩
  ·rw[val,aH.1]
  ·refine Sz5 h7 h8 @true_and @and_true aH.2 ?_;rw[KaI aq,List.replicate_succ',Kbv,List.singleton_append,nN (by simp)]
 ·obtain rfl:k=0:=by omega
  rw[Kbw]at hv h7;have aq:=Kbs (val a) hd;simp+decide (disch:=first|omega|rfl|(simp+decide only[go_sem,h7,h8,Ka3,KaH]<;>rfl)|fail) only[go_sem,h7,h8,Ka3,KaH];refine u7 hP (hZ pw (by omega)) (zE rfl (by omega)) rfl fun hp'=>?_;refine Sz1 h7 ?_;refine cG rfl rfl rfl (tF (by rw[hv])) (tF ?_);rw[KaI (by omega)]
theorem O7{x:Nat}(h:x<65536):Qd Tryz.prog 152 [.int .u16 x] (· = .int .i64 (Lib.bitLen x:Nat)):=
 Vd (by simp[oZ];exact⟨rfl,by decide⟩) (fun w=>Vk x w (by omega) (by omega)) (fun _ _=>Qp.int _ _)
theorem GO{x:Nat}(h:x<65536):Lib.bitLen x<=16:=Lib.bitLen_le x 16 (by omega) (by omega)
theorem He{x:Nat}(h:x<65536)(h0:x≠0):1<=Lib.bitLen x:=by have:=Lib.bitLen_half x h0 (by omega);omega
theorem Vl:Lib.bitLen 0=0:=by decide
theorem VW:∀(n x:Nat),Lib.bitLen x=n->x≠0->x<65536->2^n<=2*x/\x<2^n:=by
 intro n;induction n with
 |zero=>intro x h h0 hx;have:=He hx h0;omega
 | succ n ih=>
  intro x h h0 hx;have e:=Lib.bitLen_half x h0 (by omega);by_cases h2:x/2=0
  ·have:x=1:=by omega
   subst this;have:n=0:=by rw[h]at e;simp[Vl]at e;exact e
   subst this;simp
  ·have:=ih (x/2) (by omega) h2 (by omega);rw[Kbz];omega
theorem Qqi{x:Nat}(h:x<65536):Qd Tryz.prog 181 [.int .u16 x] (· = .int .i64 (16-Lib.bitLen x:Nat)):=by have:=GO h;refine aB Qh Tryz.func181 adN fun C hP=>?_;refine Sz0 ?_;refine Qa hP (O7 h) rfl rfl rfl ?_;refine Sz0 ?_;exact Qc (by congr 1;omega) rfl
theorem PF{a:List Nat}(ha:Qj a)(bu:a.length<2^40):Qd Tryz.prog 107 [PV.nat a] (fun r=>∃n:Nat,r= .int .i64 n/\(n=0↔val a=0)):=by
 have hd:=bF ha;unfold nl at hd;refine aB Qh Tryz.func107 adB fun C hP=>?_;refine Sz0 ?_;refine Qa hP (hZ ha (by omega)) rfl rfl rfl ?_;refine Sz0 ?_;refine Qb (fun hz=>?_) (fun hz=>?_)
 ·refine Sz0 ?_;have:val a=0:=lK.1 (Kat.1 (by omega));exact⟨rfl,_,Qf _,0,rfl,by simp[this]⟩
 ·have aQ:val a≠0:=fun h=>by rw[h,fk]at hz;simp at hz
  have jn:=HK (val a);have pj:=Qn (val a);generalize val a=x at *
  obtain⟨k,hk⟩:∃k,(ak x).length=k+1:=⟨(ak x).length-1,by omega⟩
  have aq:k<(ak x).length:=by omega
  have tj:=eg pj aq;have ot:(ak x)[k]≠0:=by intro h;apply jn;rw[Kbf,hk,Nat.add_sub_cancel,Kag aq,h]
  have e:((k+1:Nat):Int)-1=k:=by omega
  generalize dB:(ak x)[k]=xi at *
  have hb:=GO tj;have aN:=He tj ot;refine Sz3 hk e dB ?_;refine Qa hP (O7 tj) rfl rfl rfl ?_;have e2:(16:Int)*(k:Int)=((16*k:Nat):Int):=by omega
  refine Sz1 e2 ?_;exact⟨rfl,_,Qf _,16*k+Lib.bitLen xi,rfl,by omega⟩
theorem ais(i:Nat):2^(16*i)=65536^i:=by rw[Nat.pow_mul]
theorem Hp{a:List Nat}(ha:Qj a)(bu:a.length<2^40):Qd Tryz.prog 178 [PV.nat a] (· =if nl (val a)<=4 then .aI [.int .u64 (val a),.bool true]else .aI [.int .u64 0,.bool false]):=by
 have hd:=bF ha;unfold nl at hd;refine aB Qh Tryz.func178 adA fun C hP=>?_;refine Sz0 ?_;refine Qa hP (hZ ha (by omega)) rfl rfl rfl ?_;refine Sz0 ?_;have pj:=Qn (val a);have dT:=Qu (val a);unfold nl;generalize val a=x at *
 refine Qb (fun hz=>?_) (fun hz=>?_)
 ·refine Sz0 ?_;rw[if_neg (by omega)];exact cG rfl rfl rfl (Qf _) (Qf _)
 ·refine Sz0 ?_;rw[if_pos (by omega)];refine Ql ep [(4,6),(14,26)] [] (fun k J hp=>∃i,k=(ak x).length-i/\i<=(ak x).length/\J 14= .int .i64 i/\J 4= .int .u64 (val ((ak x).take i))/\hp=ax) (ak x).length ?_ ?_
  ·refine⟨0,rfl,by omega,?_⟩;simp+decide (disch:=first|omega|rfl|(simp+decide only[go_sem,true_and,and_true,Kb5]<;>rfl)|fail) only[go_sem,true_and,and_true,Kb5];simp[val]
  rintro _ J _ ⟨i,rfl,hi,gh,h4,rfl⟩;refine Sz2 gh h4 ?_;refine Qb (fun hg=>?_) (fun hg=>?_)
  ·have az:i<(ak x).length:=by omega
   have fj:=eg pj az;have lF:=yZ az;have uK:=tw pj i (by omega);generalize dB:(ak x)[i]=xi at *
   have e2:(16:Int)*(i:Int)=((16*i:Nat):Int):=by omega
   have hb:xi*2^(16*i)+2^(16*i)<=18446744073709551616:=by have h3:2^(16*i)<=2^48:=Kbu (by omega) (by omega);have:(xi+1)*2^(16*i)<=65536*2^48:=KbO (by omega) h3;rw[KaD]at this;omega
   have hpp:0<2^(16*i):=KbM (by omega);rw[<-ais]at lF uK;have yw:(val ((ak x).take i)|||xi*2^(16*i))=val ((ak x).take (i+1)):=by rw[Nat.or_comm,z5 uK,lF,KaX,KbR]
   refine Sz7 gh h4 dB e2 @L0 @MN yw ?_;refine Qg ((ak x).length-(i+1)) (by omega) ⟨i+1,rfl,by omega,?_⟩;exact Tz3 gh @true_and @and_true
  ·obtain rfl:i=(ak x).length:=by omega
   rw[KaT,dT]at h4;refine Sz1 h4 ?_;exact cG rfl rfl rfl (Qf _) (Qf _)
set_option maxHeartbeats 2000000 in
theorem Zd{u v ex:List Nat}(hu:Qj u)(hv:Qj v)(hn:2<=v.length)(aq:v.length<u.length)(Tg:32768<=v.getD (v.length-1) 0)(anZ:val (u.drop (u.length-v.length))<val v)(JW:u.length+ex.length<2^42):
  xl Tryz.prog 183 [.aw B0 0 u.length,PV.nat v] 128 (bV (u++ex)) (fun r xs'=>r=PV.num (val u/val v)/\∃l,xs'=bV (l++ex)/\Qj l/\l.length=u.length/\val l=val u%val v):=by
 obtain⟨n,gU⟩:∃n,v.length=n+2:=⟨v.length-2,by omega⟩
 have e1:(u.length:Int)-(v.length:Int)=((u.length-v.length:Nat):Int):=by omega
 have uK:=L5 gU;have wx:=tw hv n (by omega);have aoO:=oP hv;have tg:=eg hv (show n+1<v.length by omega);have th:=eg hv (show n<v.length by omega);have uA:v[n+1]'(by omega)=v.getD (n+1) 0:=(fU _).symm;have dX:v[n]'(by omega)=v.getD n 0:=(fU _).symm;have aoE:32768<=v.getD (n+1) 0:=by rw[gU]at Tg;exact Tg
 rw[uA]at tg;rw[dX]at th;rw[gU]at aoO;have hvp:0<val v:=by rw[uK];have:0<65536^n:=KbM (by omega);have:0<(v.getD (n+1) 0*65536+v.getD n 0)*65536^n:=KcM (by omega) this;omega
 refine CX Qh Tryz.func183 rfl ads Nz fun C hP=>?_;simp only[Rn];refine dO ?_;refine Sz1 e1 ?_;refine Lf ep [(7,11),(24,105)] [7,9,10] (fun k J hp=>∃l qs,k+qs.length=u.length-v.length/\Qj l/\l.length=u.length/\Qj qs/\val (l.drop k)<val v/\val u=val l+val v*(65536^k*val qs)/\J 7= .mp 7 0 0/\
  hp 7=some ⟨1,3,[.int .i64 ((k:Int)-1)],false⟩/\hp 1000000=some ⟨1,128,bV (l++ex),false⟩/\hp 18=some ⟨1,128,bV (List.replicate k 0++qs),false⟩/\
  hp 3=some ⟨1,49,[PV.nat v],false⟩/\hp 5=some ⟨1,3,[.int .i64 v.length],false⟩) (u.length-v.length) ?_ ?_
 ·refine⟨u,[],rfl,hu,rfl,nL,anZ,by simp[val],?_⟩;refine Sz2 @true_and @and_true ?_;simp
 intro F hF;have lu:F 2= .rb 1000000 0 u.length:=by rw[hF];simp+decide (disch:=try exact D0) only[go_sem]
 have jg:F 3= .mp 3 0 0:=by rw[hF];simp+decide (disch:=try exact D0) only[go_sem]
 have jh:F 5= .mp 5 0 0:=by rw[hF];simp+decide (disch:=try exact D0) only[go_sem]
 have lv:F 6= .ms 18 (u.length-v.length):=by rw[hF];simp+decide (disch:=try exact D0) only[go_sem]
 have EU:∀β,[7,9,10].contains β=true->bE β F=F:=fun β h=>by rw[hF];exact Cq h
 have hk9:=EU 9 rfl;have aql:=EU 10 rfl;have ET:=EU 7 rfl;have hkk:Qz [9,10] F=F:=by rw[hF];exact Qz1 rfl
 clear EU hF;rintro k J h ⟨l,qs,qx,hl,jW,pw,Fk,dT,gi,ns,lB,qn,bD,dy⟩;refine yS @gi ns @lB qn bD dy @lu @jg @jh @lv ?_;refine Qb (fun hg=>?_) (fun hg=>?_)
 ·obtain _|j:=k
  ·omega
  have e2:((j+1:Nat):Int)-1=j:=by omega
  have e3:((n+2:Nat):Int)-1=((n+1:Nat):Int):=by omega
  have e4:((j+(n+2):Nat):Int)-1=((j+(n+1):Nat):Int):=by omega
  obtain⟨pre,w,post,Jz,cQ,lG,yy,hw,gV,JN,hdj,Tk,w0,Fp,Ft⟩:=afW (n:=n) hl (by omega) (by omega) Fk;have mm:=eg hl (show j+(n+2)<l.length by omega);have qq:=eg hl (show j+(n+1)<l.length by omega);have qp:=eg hl (show j+n<l.length by omega);have aqp:(l++ex).length=u.length+ex.length:=by rw[Kax,jW]
  have Sl:(l++ex)[j+(n+2)]'(by omega)=l.getD (j+(n+2)) 0:=by rw[KcG (by omega)];exact(fU _).symm
  have Sk:(l++ex)[j+(n+1)]'(by omega)=l.getD (j+(n+1)) 0:=by rw[KcG (by omega)];exact(fU _).symm
  rw[<-fU (by omega)]at mm qq;have aoD:(bV (l++ex)).take u.length=bV l:=by rw[<-List.map_take,<-jW,List.take_left]
  have SA:l++ex=pre++(w++(post++ex)):=by rw[Jz];simp
  generalize l.getD (j+(n+2)) 0=w2 at *
  generalize l.getD (j+(n+1)) 0=w1 at *
  simp+decide (disch:=first|omega|rfl|(simp+decide only[go_sem,gi,ns,lB,qn,bD,dy,lu,jg,jh,lv,gU,e2,e3,e4,Sl,Sk,uA,Hf,HN,zU,pL]<;>rfl)|fail) only[go_sem,gi,ns,lB,qn,bD,dy,lu,jg,jh,lv,gU,e2,e3,e4,Sl,Sk,uA,Hf,HN,zU,pL];have aqL:w.length=n+3:=lG;have anD:=Wi uK Ft Fp (by rw[<-fU (show j+n<l.length by omega)]at qp;omega) (by omega:0<v.getD (n+1) 0);have uB:=abb uK Ft wx Tk (KbM (by omega));have uv:=Kbi (w2*65536+w1) (v.getD (n+1) 0);have aqf:(w2*65536+w1)/v.getD (n+1) 0<131072:=by rw[Kbd (by omega)];omega
  have aqD:=Kbs (w2*65536+w1) (by omega:0<v.getD (n+1) 0);rw[KaX]at uv;generalize hd0:(w2*65536+w1)/v.getD (n+1) 0=d0 at *
  generalize Bj:(w2*65536+w1)%v.getD (n+1) 0=r0 at *
  have Ji:∀(h:HP) v w,Qk (Qk h 10 v) 9 w=Qk (Qk h 9 w) 10 v:=fun h v w=>XQ 10 9 (by decide) h v w;refine ac2 (fun J=>J 7= .mp 7 0 0/\J 52= .int .u64 d0/\J 53= .int .u64 (w2*65536+w1:Nat)) (Tz3 @gi @true_and @and_true) ?_;clear gi;rintro J ⟨gi,IV,IX⟩;refine abc ep [9,10] (fun J2 bI=>J2 7= .mp 7 0 0/\J2 9= .mp 9 0 0/\J2 10= .mp 10 0 0/\bI=Qk (Qk h 9 ⟨1,88,[.int .u64 d0],false⟩) 10 ⟨1,88,[.int .u64 r0],false⟩) ?_ ?_
  ·intro F' AF;have RL:F' 3= .mp 3 0 0:=by rw[AF];simp+decide (disch:=try exact D1 jg) only[go_sem,jg]
   have RM:F' 5= .mp 5 0 0:=by rw[AF];simp+decide (disch:=try exact D1 jh) only[go_sem,jh]
   have Sx:bE 9 F'=F':=by rw[AF];exact Cq rfl
   have Sv:bE 10 F'=F':=by rw[AF];exact Cq rfl
   clear AF
   repeat' (first|refine dI ?_ ?_|simp+decide (disch:=first|omega|rfl|(simp+decide only[go_sem,gi,IV,IX,bD,dy,RL,RM,Sx,Sv,gU,e3,uA,pL]<;>rfl)|fail) only[go_sem,gi,IV,IX,bD,dy,RL,RM,Sx,Sv,gU,e3,uA,pL])
   all_goals refine DG (J:=_) ?_
   all_goals simp+decide (disch:=try exact D5 gi Bj Ji true_and and_true) only[go_sem,gi,Bj,Ji,true_and,and_true]
  clear gi IV IX J;rintro J _ ⟨gi,oc,ob,rfl⟩;simp+decide (disch:=first|omega|rfl|(simp+decide only[go_sem,gi,oc,ob,lu,jg,jh,lv,Rv,List.all_cons,List.all_nil,KaJ,KaH,true_and]<;>rfl)|fail) only[go_sem,gi,oc,ob,lu,jg,jh,lv,Rv,List.all_cons,List.all_nil,KaJ,KaH,true_and];refine Lf ep [(62,77)] [] (fun m J hp=>∃d r,m=d/\d*v.getD (n+1) 0+r=w2*65536+w1/\val w<(d+1)*val v/\hp=Qk (Qk h 9 ⟨1,88,[.int .u64 d],false⟩) 10 ⟨1,88,[.int .u64 r],false⟩) d0 ?_ ?_
  ·exact⟨d0,r0,rfl,uv,anD,rfl⟩
  intro F1 yf;have EC:F1 9= .mp 9 0 0:=by rw[yf,iT];simp+decide (disch:=try exact D1 oc) only[go_sem,oc]
  have EB:F1 10= .mp 10 0 0:=by rw[yf,iT];simp+decide (disch:=try exact D1 ob) only[go_sem,ob]
  have IS:F1 11= .fn 190 [] [.mp 9 0 0,.mp 3 0 0,.mp 5 0 0,.mp 10 0 0,.rb 1000000 0 u.length,.mp 7 0 0]:=by rw[yf,iT];simp+decide (disch:=try exact D0) only[go_sem]
  have hE3:F1 3= .mp 3 0 0:=by rw[yf,iT];simp+decide (disch:=try exact D1 jg) only[go_sem,jg]
  have hE5:F1 5= .mp 5 0 0:=by rw[yf,iT];simp+decide (disch:=try exact D1 jh) only[go_sem,jh]
  rintro d J2 _ ⟨_,r,rfl,uw,Jj,rfl⟩;have aqd:d<131072:=by have:d*32768<=d*v.getD (n+1) 0:=Ka9 _ aoE;omega
  refine Sz3 @EC @EB @IS ?_;refine Ve ep [(62,67)] [] (fun J hp=>J 67= .bool (decide (r<65536/\(65536<=d∨r*65536+l.getD (j+n) 0<d*v.getD n 0)))/\hp=Qk (Qk h 9 ⟨1,88,[.int .u64 d],false⟩) 10 ⟨1,88,[.int .u64 r],false⟩) ?_ ?_
  ·refine Q5 (fun hr=>?_) (fun hr=>?_)
   ·refine Sz3 @EC @EB @IS ?_;refine XI hP (Qz3 (dg:=d) (r:=r) (j:=j) hv hl hn rfl (by omega) (by omega) (by omega) (by omega)) (by simp+decide (disch:=first|omega|rfl|(simp+decide only[go_sem,fg,lB,bD,dy,ns,e2,Kar,KaH,List.getElem?_cons_zero,Kbw,Kai]<;>rfl)|fail) only[go_sem,fg,lB,bD,dy,ns,e2,Kar,KaH,List.getElem?_cons_zero,Kbw,Kai];simp only[Kbw,aoD]) rfl rfl ?_;refine Sz1 gU ?_;refine DG ⟨?_,rfl⟩;refine Sz0 ?_;rw[show j+(n+2)-2=j+n by omega,show n+2-2=n by omega];exact congrArg PV.bool (decide_eq_decide.2 ⟨fun h=>⟨by omega,h⟩,fun h=>h.2⟩)
   ·refine Sz3 @EC @EB @IS ?_;refine DG ⟨?_,rfl⟩;refine Sz0 ?_;simp;omega
  rintro J3 _ ⟨IP,rfl⟩;simp (disch:=decide) only[iT,nO];refine Sz1 IP ?_;refine Qb (fun ht=>?_) (fun ht=>?_)
  ·obtain⟨hr,ht⟩:=ht;have wb:val w<d*val v:=by
    rcases ht with ht|ht
    ·exact Kbh Tk (Kam _ ht)
    ·exact aa9 uK Ft Fp uw ht
   obtain _|d:=d
   ·omega
   have e5:((d+1:Nat):Int)-1=(d:Nat):=by omega
   refine B9 @EC @EB @hE3 @hE5 bD dy gU e3 e5 uA Ji ?_;refine Qg d (by omega) ⟨d,r+v.getD (n+1) 0,rfl,?_,wb,rfl⟩;rw[KaD]at uw;omega
  have vV:d<65536:=by apply Decidable.byContradiction;intro jm;apply ht;refine⟨?_,.inl (by omega)⟩;have:65536*v.getD (n+1) 0<=d*v.getD (n+1) 0:=Kam _ (by omega);omega
  have aoC:¬r*65536+l.getD (j+n) 0<d*v.getD n 0:=by
   intro aoe;by_cases hr:r<65536
   ·exact ht ⟨hr,.inr aoe⟩
   ·have:=tB vV th;omega
  have e5:j+(n+2)+1-j=n+3:=by omega
  subst yf;simp (disch:=decide) only[iT,hkk,nO];refine Sz14 @gi @oc @ob @lu @jg @jh @lv bD dy ns @lB e2 gU e5 ?_;have Bq:=K8 w v d 0 0 hw (by omega) (by omega);have EL:=O0 w v d 0 0 (by omega) (by omega) vV hv;have ba:=OG w v d 0 0;have Tb:=Og w v d 0 0;have Fq:=oP hw;rw[lG]at Bq Fq;refine DR hP (Qz2 (pre:=pre) (w:=w) (post:=post++ex) (j:=j) (m:=n+3) (q:=d) hw hv vV cQ lG (by omega) (by rw[<-SA];omega)) (β:=1000000) (Tz2 @lB SA) (qN _) (by simp;omega) (by simp[jq,B0]) rfl ?_;rintro _ _ _ _ ⟨rfl,rfl⟩;generalize eV w v d 0 0=sq at *
  obtain⟨⟨Bq,aN⟩,EL⟩:=And.intro Bq EL;have RS:=oP ba;rw[Tb,lG]at RS;have aqz:pre.length+(w.length+post.length)=u.length:=by rw[<-jW,Jz];simp
  have aqG:j<(List.replicate (j+1) 0++qs).length:=by simp;omega
  have Tj:val l=val pre+65536^j*val w:=by rw[Jz,mP,mP,JN,cQ,KbS,KaM]
  simp+decide (disch:=first|omega|rfl|(simp+decide only[go_sem,nR,gi,oc,ob,lu,jg,jh,lv]<;>rfl)|fail) only[go_sem,nR,gi,oc,ob,lu,jg,jh,lv];refine Qb (fun hb=>?_) (fun hb=>?_)
  ·have dv:sq.2.2=1:=by omega
   rw[EL,dv]at Bq;obtain _|d:=d
   ·omega
   have Sh:=aba uK Ft wx (by omega) vV uw aoC;obtain⟨k,hk⟩:=K7 sq.1 v 0 (by omega);have wq:=OF sq.1 v 0;have SQ:=Of sq.1 v 0;rw[Tb,lG]at hk SQ;have SO:=oP wq;rw[SQ]at SO;obtain⟨I0,I1⟩:=ac3 (B:=65536^(n+3)) (S:=val sq.1) (e:=d) (by omega) RS Sh (by omega) SO Fq;have e6:((d+1:Nat):Int)-1=(d:Nat):=by omega
   simp+decide (disch:=first|omega|rfl|(simp+decide only[go_sem,gi,oc,ob,lu,jg,jh,lv,bD,dy,ns,lB,e2,e6,gU,e5]<;>rfl)|fail) only[go_sem,gi,oc,ob,lu,jg,jh,lv,bD,dy,ns,lB,e2,e6,gU,e5];refine DR hP (Uy (pre:=pre) (w:=sq.1) (post:=post++ex) (j:=j) (m:=n+3) ba hv cQ (by omega) (by omega) (by simp;omega)) (β:=1000000) Tz0 (qN _) (by simp;omega) (by simp[jq,B0]) rfl ?_;rintro _ _ _ _ ⟨rfl,rfl⟩;have AO:=P3 (q:=d) (R:=kA sq.1 v 0) cQ JN dT Tj I1;simp+decide (disch:=first|omega|rfl|(simp+decide only[go_sem,nR,gi,oc,ob,lu,jg,jh,lv,bD,dy,ns,lB,qn,e2,e6,gU,e5,DI,KaI (by omega:d<65536),ET]<;>rfl)|fail) only[go_sem,nR,gi,oc,ob,lu,jg,jh,lv,bD,dy,ns,lB,qn,e2,e6,gU,e5,DI,KaI (by omega:d<65536),ET];refine Qg j (by omega) ⟨pre++(kA sq.1 v 0++post),d::qs,by simp;omega,?_,?_,?_,?_,AO.2,?_⟩
   ·rw[nJ,nJ];exact⟨yy,wq,gV⟩
   ·simp;omega
   ·rw[gH];exact⟨by omega,pw⟩
   ·rw[AO.1];exact I0
   ·simp+decide (disch:=first|omega|rfl|(simp+decide only[go_sem,bD,dy,true_and,and_true,gU,Kbv]<;>rfl)|fail) only[go_sem,bD,dy,true_and,and_true,gU,Kbv]
  ·have dv:sq.2.2=0:=by omega
   rw[EL,dv]at Bq;obtain⟨I0,I1⟩:=afX (S:=val sq.1) (d:=d) (by omega) Jj;have AO:=P3 (q:=d) (R:=sq.1) cQ JN dT Tj I1;simp+decide (disch:=first|omega|rfl|(simp+decide only[go_sem,nR,gi,oc,ob,lu,jg,jh,lv,bD,dy,ns,lB,qn,e2,gU,e5,DI,KaI vV,ET]<;>rfl)|fail) only[go_sem,nR,gi,oc,ob,lu,jg,jh,lv,bD,dy,ns,lB,qn,e2,gU,e5,DI,KaI vV,ET];refine Qg j (by omega) ⟨pre++(sq.1++post),d::qs,by simp;omega,?_,?_,?_,?_,AO.2,?_⟩
   ·rw[nJ,nJ];exact⟨yy,ba,gV⟩
   ·simp;omega
   ·rw[gH];exact⟨vV,pw⟩
   ·rw[AO.1];exact I0
   ·simp+decide (disch:=first|omega|rfl|(simp+decide only[go_sem,bD,dy,true_and,and_true,gU,Kbv]<;>rfl)|fail) only[go_sem,bD,dy,true_and,and_true,gU,Kbv]
 ·obtain rfl:k=0:=by omega
  rw[Kbw]at Fk;rw[Nat.pow_zero,Kcu]at dT;have hdiv:val u/val v=val qs:=by rw[dT,Kce _ _ hvp,Kcl Fk,Ka5]
  have Bf:val u%val v=val l:=by rw[dT,Kcd,KaI Fk]
  simp+decide (disch:=first|omega|rfl|(simp+decide only[go_sem,gi,ns,lB,qn,bD,dy,lu,jg,jh,lv,Ka3,KaH]<;>rfl)|fail) only[go_sem,gi,ns,lB,qn,bD,dy,lu,jg,jh,lv,Ka3,KaH];refine nM hP (hZ pw (by omega)) (zE (ty:=128) (fz:=false) (by simp+decide (disch:=first|omega|rfl|(simp+decide only[go_sem,qn,Ka3,KaH]<;>rfl)|fail) only[go_sem,qn,Ka3,KaH]) (by omega)) rfl ?_;refine Sz0 ?_;refine MM (xs':=bV (l++ex)) (p:=PV.num (val qs)) ?_ (qN _) (by simp;omega) Tz0 rfl ⟨by rw[hdiv],l,rfl,hl,jW,Bf.symm⟩;show FW.Qy h [18] 1000000=_;simp only[FW.Qy];rw[if_neg (by decide),lB]
theorem VX{a:List Nat}{s:Nat}(ha:Qj a)(bu:a.length<2^40)(hs:s<=15):Qd Tryz.prog 182 [PV.nat a,.int .i64 (-(s:Int))] (· =PV.num (val a/2^s)):=by
 have gj:=bF ha;unfold nl at gj;by_cases h0:val a=0
 ·refine aB Qh Tryz.func182 Ig fun C hP=>?_;refine Sz0 ?_;refine Qa hP (hZ ha (by omega)) rfl rfl rfl ?_;refine Sz0 ?_;refine Qo (fun hz=>by omega) (fun hz=>?_);refine Sz0 ?_;refine Qo (fun hz=>by omega) (fun hz=>?_);refine Sz0 ?_;refine Qb (fun hz=>?_) (fun hz=>absurd (by rw[h0,fk];rfl) hz);refine Sz0 ?_;exact oL (zS (by simp[h0])) rfl
 by_cases wu:s=0
 ·subst wu;have:=(GN (s:=0) ha bu (by omega) h0).TR;rw[Nat.pow_zero,KbV]at this;rw[Nat.pow_zero,Nat.div_one];exact this
 have ot:(ak (val a)).length≠0:=fun h=>h0 (lK.1 (pH h));refine aB Qh Tryz.func182 Ig fun C hP=>?_;refine Sz0 ?_;refine Qa hP (hZ ha (by omega)) rfl rfl rfl ?_;refine Sz0 ?_;refine Qo (fun hz=>by omega) (fun hz=>?_);refine Sz0 ?_;refine Qo (fun hz=>by omega) (fun hz=>?_);refine Sz0 ?_;refine Qb (fun hz=>by omega) (fun hz=>?_);refine Sz0 ?_;refine Qb (fun hz=>?_) (fun hz=>by omega);have e:(0:Int)- -(s:Int)=(s:Nat):=by omega
 refine Sz1 e ?_;refine Qa hP (VV (Qn (val a)) (by omega) hs) rfl rfl rfl ?_;refine Sz1 @Qu ?_;exact Qc rfl rfl
theorem VY{x d:Nat}(hx:(ak x).length<2^42)(hd:0<d)(oe:d<65536):Qd Tryz.prog 180 [PV.num x,.int .u16 d] (· = .aI [PV.num (x/d),.int .u16 (x%d:Nat)]):=by
 have:=Vj (Qn x) hx hd oe
 rwa[Qu]at this
theorem GP{a b:List Nat}(ha:Qj a)(hb:Qj b)(bu:a.length<2^38)(dz:b.length<2^38):Qd Tryz.prog 156 [PV.nat a,PV.nat b]
  (· =if val b=0 then .aI [PV.num 0,PV.num 0,.int .i64 3]else .aI [PV.num (val a/val b),PV.num (val a%val b),.int .i64 0]):=by
 have gj:=bF ha;have iR:=bF hb;unfold nl at gj iR;refine aB Qh Tryz.func156 adH fun C hP=>?_;refine Sz0 ?_;refine Qa hP (hZ ha (by omega)) rfl rfl rfl ?_;refine Sz0 ?_;refine Qa hP (hZ hb (by omega)) rfl rfl rfl ?_;refine Sz0 ?_;have eC:=Qn (val a);have jZ:=Qn (val b);have qz:=Qu (val a);have wz:=Qu (val b);have ao6:=HK (val b);generalize val a=x at *
 generalize val b=y at *
 refine Qb (fun hz=>?_) (fun hz=>?_)
 ·have cU:y=0:=lK.1 (pH (by omega));refine Sz0 ?_;rw[if_pos cU];exact tY rfl rfl rfl rfl xf xf (Qf _)
 have cU:y≠0:=fun h=>by rw[h,fk]at hz;simp at hz
 rw[if_neg cU];refine Sz0 ?_;refine Qa hP (Dt eC jZ (by omega) (by omega)) rfl rfl rfl ?_;refine Sz2 qz wz ?_;refine Qb (fun hc=>?_) (fun hc=>?_)
 ·have aq:x<y:=by
   unfold gA at hc;split at hc
   ·assumption
   ·split at hc<;>omega
  refine Sz0 ?_;refine Qa hP (ze eC (by omega)) rfl rfl rfl ?_;refine Sz1 qz ?_;exact tY rfl rfl rfl rfl (zS (Kcl aq)) (tF (by rw[KaI aq])) (Qf _)
 have jm:y<=x:=by unfold gA at hc;split at hc<;>omega
 refine Sz0 ?_;refine Qb (fun h1=>?_) (fun h1=>?_)
 ·obtain⟨d,hd⟩:∃d,ak y=[d]:=by
   match h:ak y,h1 with
   | [d],_=>exact⟨d,rfl⟩
   | [],h1=>simp at h1
   |_::_::_,h1=>simp at h1;omega
  have hyd:y=d:=by rw[<-wz,hd];simp[val]
  have AS:d<65536:=by rw[hd]at jZ;exact jZ d (by simp)
  simp+decide (disch:=first|omega|rfl|(simp+decide only[go_sem,hd,Kbk,Kby,KaQ,Kbn]<;>rfl)|fail) only[go_sem,hd,Kbk,Kby,KaQ,Kbn];refine Qa hP (VY (x:=x) (d:=d) (by omega) (by omega) AS) (by rw[PV.num];rfl) rfl rfl ?_;have hm:x%d<18446744073709551616:=by have:=Kbs x (show 0<d by omega);omega
  refine Sz0 ?_;refine Qa hP (DM hm) rfl rfl rfl ?_;refine Sz0 ?_;rw[hyd];exact tY rfl rfl rfl rfl (Qf _) (Qf _) (Qf _)
 obtain⟨n,hn⟩:∃n,(ak y).length=n+2:=⟨(ak y).length-2,by omega⟩
 obtain⟨m,hm⟩:∃m,(ak x).length=m+2:=by have:=fG jm;unfold nl at this;exact⟨(ak x).length-2,by omega⟩
 have e1:((n+2:Nat):Int)-1=((n+1:Nat):Int):=by omega
 have jn:(ak y)[n+1]'(by omega)≠0:=by
  intro h;apply ao6;have:(ak y).getLast? =some ((ak y)[n+1]'(by omega)):=by rw[Kbf,show(ak y).length-1=n+1 by omega];exact Kag _
  rw[this,h]
 have jY:=eg jZ (show n+1<(ak y).length by omega);have aqg:val (ak y)=y:=Qu y;generalize uL:(ak y)[n+1]'(by omega)=yi at *
 have ym:=GO jY;have hbp:=He jY jn;obtain⟨cO,aoF⟩:=VW _ yi rfl jn jY;obtain⟨s,hs,uJ⟩:∃s,16-Lib.bitLen yi=s/\s<=15:=⟨_,rfl,by omega⟩
 refine Sz3 hn e1 uL ?_;refine Qa hP (Qqi jY) rfl rfl rfl ?_;refine Sz1 hs ?_;have hso:=GN (a:=ak x) (s:=s) eC (by omega) uJ (by rw[qz];omega);refine afR hP hso rfl rfl rfl (by decide) ?_;rintro _ _ rfl;rw[qz];have hDl:(ak (x*2^s)).length<=m+3:=by have h1:=kq x (2^s);have h2:nl (2^s)<=1:=mT.2 (by have:2^s<=2^15:=Kbu (by omega) uJ;omega);unfold nl at h1 h2;omega
 have ap3:m+2<=(ak (x*2^s)).length:=by have:=fG (show x<=x*2^s from Kcj _ (KbM (by omega)));unfold nl at this;omega
 refine Sz1 hm ?_;rw[G2 (ys:=bV [0,0]) (xs:=bV (ak (x*2^s))) (by simp+decide (disch:=first|omega|rfl|(simp+decide only[go_sem,ju]<;>rfl)|fail) only[go_sem,ju];rfl) Tz0 (by omega) (by simp) (by simp;omega) (by simp;omega)];rw[Kai (by simp),<-List.map_append];simp+decide (disch:=first|omega|rfl|(simp+decide only[go_sem,hm,KaQ,Kbn]<;>rfl)|fail) only[go_sem,hm,KaQ,Kbn];have Td:=(GN (a:=ak y) (s:=s) jZ (by omega) uJ (by rw[wz];omega)).TR;rw[wz]at Td;refine Qa hP Td rfl rfl rfl ?_;obtain⟨g1,g2⟩:=XT uJ (by rw[show 16-s=Lib.bitLen yi by omega];exact cO) (by rw[show 16-s=Lib.bitLen yi by omega];exact aoF);obtain⟨RX,hYt,anf⟩:=Vf hn uL g1 g2;have gp:n<=m:=by have:=fG jm;unfold nl at this;omega
 obtain⟨u,ex,Th,JV,hu3,hu4,hu5,hu6⟩:=Vg (s:=s) hm uJ gp anf;have anE:x*2^s/(y*2^s)=x/y:=Nat.mul_div_mul_right _ _ (KbM (by omega));have anF:x*2^s%(y*2^s)=x%y*2^s:=Nat.mul_mod_mul_right _ _ _;rw[Th];refine Sz0 ?_;have Sy:=Zd (u:=u) (v:=ak (y*2^s)) (ex:=ex) hu3 (Qn _) (by omega) (by omega) (by rw[RX];exact hYt) (by rw[RX,JV,Qu];exact hu6) (by omega);rw[JV,hu4,Qu,anE,anF]at Sy;refine DR hP Sy (β:=52) Tz0 (qN _) (by simp;omega) (by simp[jq]) rfl ?_;rintro _ _ _ _ ⟨rfl,l,rfl,qq,mm,yt⟩;have e5:IntKind.i64.wrap (0-(s:Int))= -(s:Int):=by rw[va (by omega) (by omega)];omega
 have bO:(bV (l++ex)).take (m+2+1)=bV l:=by rw[<-List.map_take,show m+2+1=l.length by omega,List.take_left]
 simp+decide (disch:=first|omega|rfl|(simp+decide only[go_sem,nR]<;>rfl)|fail) only[go_sem,nR];refine nM hP (hZ qq (by omega)) (by simp[Qt,cj,aO,Qk,<-List.map_append,bO]) rfl ?_;refine Sz1 e5 ?_;rw[yt];have SX:=VX (a:=ak (x%y*2^s)) (s:=s) (Qn _) (by have:=fG (show x%y*2^s<=x*2^s from Kam _ (Nat.mod_le _ _));unfold nl at this;omega) uJ;rw[Qu,Nat.mul_div_cancel _ (KbM (by omega))]at SX;refine Qa hP SX rfl rfl rfl ?_;refine Sz0 ?_;exact tY rfl rfl rfl rfl (Qf _) (Qf _) (Qf _)
theorem Lm{a b:List Nat}(ha:Qj a)(hb:Qj b)(bu:a.length<2^38)(dz:b.length<2^38):Qd Tryz.prog 155 [PV.nat a,PV.nat b] (· =PV.num (Nat.gcd (val a) (val b))):=by
 have gj:=bF ha;have iR:=bF hb;unfold nl at gj iR;refine aB Qh Tryz.func155 adL fun C hP=>?_;refine Sz0 ?_;refine Qa hP (ze ha (by omega)) rfl rfl rfl ?_;refine Sz0 ?_;refine Qa hP (ze hb (by omega)) rfl rfl rfl ?_;refine Sz0 ?_;refine Ql ep [(0,1),(4,11),(16,49)] [] (fun m J hp=>∃x y,m=y/\Nat.gcd x y=Nat.gcd (val a) (val b)/\(ak x).length<2^38/\(ak y).length<2^38/\J 0=PV.num x/\J 1=PV.num y/\hp=ax) (val b) ?_ ?_
 ·refine⟨val a,val b,rfl,rfl,by omega,by omega,?_⟩;exact Tz2 @true_and @and_true
 rintro y J _ ⟨x,_,rfl,hg,hx,hy,h0,h1,rfl⟩;generalize Nat.gcd (val a) (val b)=g at *
 refine Sz2 h0 h1 ?_;refine Qb (fun hc=>?_) (fun hc=>?_)
 ·have cU:y≠0:=fun h=>by rw[h,fk]at hc;simp at hc
  have Bf:(ak (x%y)).length<2^38:=by have:=fG (Nat.le_of_lt (Kbs x (Ka6 cU)));unfold nl at this;omega
  refine Sz2 h0 h1 ?_;refine Qa hP (Hp (Qn x) (by omega)) rfl rfl rfl ?_;refine Sz2 h0 h1 ?_;rw[Qu];by_cases fi:nl x<=4
  ·have yC:=CV.1 fi;rw[if_pos fi];refine Sz2 h0 h1 ?_;refine Qa hP (Hp (Qn y) (by omega)) rfl rfl rfl ?_;rw[Qu];by_cases dA:nl y<=4
   ·have qA:=CV.1 dA;rw[if_pos dA];refine Sz2 h0 h1 ?_;refine Ql ep [(5,5),(7,7),(33,38)] [] (fun m J hp=>∃p q,m=q/\Nat.gcd p q=g/\p<18446744073709551616/\q<18446744073709551616/\J 5= .int .u64 p/\J 7= .int .u64 q/\hp=ax) y ?_ ?_
    ·refine⟨x,y,rfl,hg,yC,qA,?_⟩;exact Tz2 @true_and @and_true
    rintro q J2 _ ⟨p,_,rfl,dX,fy,bI,h5,h7,rfl⟩;refine Sz2 h5 h7 ?_;refine Qb (fun hq=>?_) (fun hq=>?_)
    ·have kJ:0<q:=by omega
     refine Sz3 h5 h7 @pL ?_;refine Qg (p%q) (Kbs _ kJ) ⟨q,p%q,rfl,?_,bI,?_,?_⟩
     ·rw[<-dX,Kcx p q,Nat.gcd_rec q p,Kcx]
     ·have:=Kbs p kJ;omega
     ·exact Tz2 @true_and @and_true
    ·obtain rfl:q=0:=by omega
     refine Sz2 h5 h7 ?_;refine Qa hP (DM fy) rfl rfl rfl ?_;refine Sz0 ?_;exact Qc (by rw[<-dX,KcI]) rfl
   ·rw[if_neg dA];refine Sz2 h0 h1 ?_;refine Qa hP (GP (Qn x) (Qn y) (by omega) (by omega)) rfl rfl rfl ?_;rw[Qu,Qu,if_neg cU];refine Sz2 h0 h1 ?_;refine Qg (x%y) (Kbs _ (Ka6 cU)) ⟨y,x%y,rfl,?_,hy,Bf,?_⟩
    ·rw[<-hg,Kcx x y,Nat.gcd_rec y x,Kcx]
    ·exact Tz2 @true_and @and_true
  ·rw[if_neg fi];refine Sz2 h0 h1 ?_;refine Qa hP (Hp (Qn y) (by omega)) rfl rfl rfl ?_;obtain⟨r1,r2,hr⟩:∃r1 r2,(if nl (val (ak y))<=4 then PV.aI [.int .u64 (val (ak y)),.bool true]else .aI [.int .u64 0,.bool false])= .aI [.int .u64 r1,.bool r2]:=by split<;>exact⟨_,_,rfl⟩
   rw[hr];refine Sz2 h0 h1 ?_;refine Qa hP (GP (Qn x) (Qn y) (by omega) (by omega)) rfl rfl rfl ?_;rw[Qu,Qu,if_neg cU];refine Sz2 h0 h1 ?_;refine Qg (x%y) (Kbs _ (Ka6 cU)) ⟨y,x%y,rfl,?_,hy,Bf,?_⟩
   ·rw[<-hg,Kcx x y,Nat.gcd_rec y x,Kcx]
   ·exact Tz2 @true_and @and_true
 ·have cU:y=0:=lK.1 (pH (by omega));subst cU;refine Sz1 h0 ?_;exact Qc (by rw[<-hg,KcI]) rfl
theorem wS(n:Bool)(x:Nat):Qd Tryz.prog 110 [.bool n,PV.num x] (· =PV.zz (if n then -(x:Int)else x)):=by
 refine aB Qh Tryz.func110 adP fun C hP=>?_;refine Sz0 ?_;refine wV (fun hn=>?_) (fun hn=>?_)
 all_goals
  refine Sz0 ?_;refine cY ?_;refine Sz0 ?_;exact Qc (by rw[<-H9,hn];simp) rfl
theorem Ze{n:Bool}{a:List Nat}(ha:Qj a)(bu:a.length<2^42):Qd Tryz.prog 177 [.bool n,PV.nat a] (· =PV.zz (zv n a)):=by
 refine aB Qh Tryz.func177 adO fun C hP=>?_;refine Sz0 ?_;refine Qa hP (ze ha bu) rfl rfl rfl ?_;refine Sz0 ?_;refine wV (fun hn=>?_) (fun hn=>?_)
 all_goals
  refine Sz0 ?_;refine cY ?_;refine Sz0 ?_;exact Qc (by have:=H9 n (val a);rw[hn]at this;subst hn;simpa[zv]using this) rfl
theorem Vm{n:Bool}{a:List Nat}(ha:Qj a)(bu:a.length<2^42):Qd Tryz.prog 154 [PV.zi n a] (· =PV.zz (zv n a)):=by refine aB Qh Tryz.func154 adR fun C hP=>?_;refine Sz0 ?_;refine Qa hP (Ze ha bu) rfl rfl rfl ?_;refine Sz0 ?_;refine cY ?_;refine Sz0 ?_;exact Qc rfl rfl
theorem CG{n:Bool}{a:List Nat}(ha:Qj a)(bu:a.length<2^40):Qd Tryz.prog 94 [PV.zi n a] (· = .int .i64 (eS (zv n a))):=by
 refine aB Qh Tryz.func94 agp fun C hP=>?_;refine Sz0 ?_;refine fT hP (PF ha bu) rfl rfl rfl ?_;rintro _ ⟨k,rfl,hk⟩;refine Sz0 ?_;rw[FZ];refine Qb (fun hz=>?_) (fun hz=>?_)
 ·refine Sz0 ?_;rw[if_pos (hk.1 (by omega))];exact Qc rfl rfl
 ·rw[if_neg (fun h=>hz (by rw[hk.2 h];rfl))];refine Sz0 ?_;refine zk (fun hn=>?_) (fun hn=>?_)
  ·refine Sz0 ?_;exact Qc (by simp[hn]) rfl
  ·refine Sz0 ?_;exact Qc (by simp[hn]) rfl
theorem N6{a b:List Nat}(ha:Qj a)(hb:Qj b)(bu:a.length<2^40)(dz:b.length<2^40):Qd Tryz.prog 185 [PV.nat a,PV.nat b] (· = .int .i64 (gA (val a) (val b))):=by refine aB Qh Tryz.func185 adU fun C hP=>?_;refine Sz0 ?_;refine Qa hP (Dt ha hb bu dz) rfl rfl rfl ?_;refine Sz0 ?_;exact Qc rfl rfl
theorem VZ{n m:Bool}{a b:List Nat}(ha:Qj a)(hb:Qj b)(bu:a.length<2^40)(dz:b.length<2^40):Qd Tryz.prog 158 [PV.zi n a,PV.zi m b] (· = .int .i64 (dq (zv n a) (zv m b))):=by
 have hx:=FZ n a;have hy:=FZ m b;refine aB Qh Tryz.func158 adT fun C hP=>?_;refine Sz0 ?_;refine Qa hP (CG ha bu) rfl rfl rfl ?_;refine Sz0 ?_;refine Qa hP (CG hb dz) rfl rfl rfl ?_;refine Sz0 ?_;refine Qb (fun hs=>?_) (fun hs=>?_)
 ·refine Sz0 ?_;exact Qc (by rw[ac7 hs]) rfl
 refine Sz0 ?_;refine Qb (fun dA=>?_) (fun dA=>?_)
 ·refine Sz0 ?_;exact Qc (by rw[ac8 dA]) rfl
 have he:eS (zv n a)=eS (zv m b):=by omega
 refine Sz0 ?_;refine Qb (fun Bn=>?_) (fun Bn=>?_)
 ·refine Sz0 ?_;refine Qa hP (N6 hb ha dz bu) rfl rfl rfl ?_;refine Sz0 ?_;exact Qc (by rw[ac9 (zW.1 Bn) (zW.1 (he▸Bn))]) rfl
 ·refine Sz0 ?_;refine Qa hP (N6 ha hb bu dz) rfl rfl rfl ?_;refine Sz0 ?_;exact Qc (by rw[ada (fun h=>Bn (zW.2 h)) (fun h=>Bn (he▸zW.2 h))]) rfl
theorem O8{n m:Bool}{a b:List Nat}(ha:Qj a)(hb:Qj b)(bu:a.length<2^40)(dz:b.length<2^40):Qd Tryz.prog 171 [PV.zi n a,PV.zi m b] (· =PV.zz (zv n a+zv m b)):=by
 refine aB Qh Tryz.func171 adl fun C hP=>?_;refine Sz0 ?_;refine zk (fun gp=>?_) (fun gp=>?_)
 ·have gp:n=m:=by simpa using gp
  subst gp;refine Sz0 ?_;refine Qa hP (abD ha hb bu dz) rfl rfl rfl ?_;refine Sz0 ?_;refine Qa hP (wS n (val a+val b)) rfl rfl rfl ?_;refine Sz0 ?_;refine cY ?_;refine Sz0 ?_;exact Qc (congrArg PV.zz (by unfold zv;split<;>simp<;>omega)) rfl
 have gp:n= !m:=by cases n<;>cases m<;>simp_all
 subst gp;refine Sz0 ?_;refine Qa hP (Dt ha hb bu dz) rfl rfl rfl ?_;refine Sz0 ?_;refine Qb (fun hc=>?_) (fun hc=>?_)
 ·rw[Dl]at hc;refine Sz0 ?_;refine Qa hP (Ll hb ha dz bu (by omega)) rfl rfl rfl ?_;refine Sz0 ?_;refine Qa hP (wS m (val b-val a)) rfl rfl rfl ?_;refine Sz0 ?_;refine cY ?_;refine Sz0 ?_;exact Qc (congrArg PV.zz (by unfold zv;cases m<;>simp<;>omega)) rfl
 ·rw[Dl]at hc;refine Sz0 ?_;refine Qa hP (Ll ha hb bu dz (by omega)) rfl rfl rfl ?_;refine Sz0 ?_;refine Qa hP (wS (!m) (val a-val b)) rfl rfl rfl ?_;refine Sz0 ?_;refine cY ?_;refine Sz0 ?_;exact Qc (congrArg PV.zz (by unfold zv;cases m<;>simp<;>omega)) rfl
theorem rZ{n m:Bool}{a b:List Nat}(ha:Qj a)(hb:Qj b)(bu:a.length<2^40)(dz:b.length<2^40):Qd Tryz.prog 60 [PV.zi n a,PV.zi m b] (· =PV.zz (zv n a*zv m b)):=by refine aB Qh Tryz.func60 agq fun C hP=>?_;refine Sz0 ?_;refine Qa hP (Du ha hb bu dz) rfl rfl rfl ?_;refine Sz0 ?_;refine Qa hP (wS (!(n==m)) (val a*val b)) rfl rfl rfl ?_;refine Sz0 ?_;refine cY ?_;refine Sz0 ?_;exact Qc (congrArg PV.zz (by unfold zv;cases n<;>cases m<;>simp[Int.neg_mul,Int.mul_neg])) rfl
theorem Dv{a:List Nat}(hl:a.length<2^43):Qd Tryz.prog 144 [PV.nat a] (· = .bool (decide (a=[1]))):=by
 refine aB Qh Tryz.func144 adm fun C hP=>?_;refine Sz0 ?_;refine Qb (fun hz=>?_) (fun hz=>?_)
 ·obtain⟨x,xs,rfl⟩:∃x xs,a=x::xs:=by
   match a,hz with
   |x::xs,_=>exact⟨x,xs,rfl⟩
  simp+decide (disch:=first|omega|rfl|(simp+decide only[go_sem,Kbk,List.getElem_cons_zero]<;>rfl)|fail) only[go_sem,Kbk,List.getElem_cons_zero];refine Qc (congrArg PV.bool ?_) rfl;rw[<-Bool.decide_and];exact decide_eq_decide.2 ⟨fun⟨h1,h2⟩=>by
   have:xs=[]:=Kat.1 (by omega);subst this;congr 1;omega,fun h=>by
   injection h with h1 h2;subst h1 h2;simp⟩
 ·have:a=[]:=Kat.1 (by omega);subst this;refine Sz0 ?_;exact Qc rfl rfl
theorem N7(x:Nat):(ak x=[1])↔x=1:=⟨fun h=>by have:=Qu x;rw[h]at this;simpa[val]using this.symm,fun h=>by rw[h,sn]⟩
theorem Ih{x:Nat}(hl:(ak x).length<2^43):Qd Tryz.prog 144 [PV.num x] (· = .bool (decide (x=1))):=by
 have:=Dv hl
 rwa[decide_eq_decide.2 (N7 x)]at this
theorem C4:Qd Tryz.prog 108 [] (· =PV.nat [1]):=by refine aB Qh Tryz.func108 adn fun C hP=>?_;refine Sz0 ?_;exact Qc rfl rfl
theorem O9{x y:Nat}(hx:(ak x).length<2^38)(hy:(ak y).length<2^38)(h0:y≠0):Qd Tryz.prog 156 [PV.num x,PV.num y] (· = .aI [PV.num (x/y),PV.num (x%y),.int .i64 0]):=by
 have:=GP (Qn x) (Qn y) hx hy
 rwa[Qu,Qu,if_neg h0]at this
theorem adt{x y:Nat}(hx:(ak x).length<2^38)(hy:(ak y).length<2^38):Qd Tryz.prog 155 [PV.num x,PV.num y] (· =PV.num (Nat.gcd x y)):=by
 have:=Lm (Qn x) (Qn y) hx hy
 rwa[Qu,Qu]at this
theorem NU{n:Bool}{a d:List Nat}(ha:Qj a)(hd:Qj d)(bu:a.length<2^38)(s5:d.length<2^38):Qd Tryz.prog 109 [PV.zi n a,PV.nat d] (· =PV.rat (rv n a d)):=by
 have mr:=bF ha;have JE:=bF hd;rw[<-iU n a]at mr;unfold rv;unfold nl at mr JE;refine tE Qh Tryz.func109 rfl ado (by simp[IA]) fun C hP=>?_;simp only[IA];refine dO ?_;refine Sz0 ?_;refine Qa hP (ze hd (by omega)) rfl rfl rfl ?_;refine Sz0 ?_;refine Qa hP (Vm ha (by omega)) rfl rfl rfl ?_;refine Sz0 ?_;generalize zv n a=z at *
 generalize val d=D at *
 have hlen:∀x:Nat,((ak x).length:Int)=0↔x=0:=fun x=>by rw[<-lK,<-List.length_eq_zero_iff];omega
 have RF:∀ {fr:Fr} {hp:HP},(D=0∨z=0)->vC (· =PV.rat (mkRat z D)) (.agg [.bool false,.aa,PV.nat [1]]):=fun h=>by rw[Oi h];exact oL L6 rfl
 refine Qo (fun hz=>?_) (fun hz=>?_)
 ·refine Sz0 ?_;refine Qa hP C4 rfl rfl rfl ?_;refine Sz0 ?_;refine cY ?_;refine Sz0 ?_;exact RF (fr:=aK) (hp:=ax) (.inl ((hlen _).1 hz))
 refine Sz0 ?_;refine Qb (fun Fw=>?_) (fun Fw=>?_)
 ·refine Sz0 ?_;refine Qa hP C4 rfl rfl rfl ?_;refine Sz0 ?_;refine cY ?_;refine Sz0 ?_;exact RF (fr:=aK) (hp:=ax) (.inr (Int.natAbs_eq_zero.1 ((hlen _).1 Fw)))
 have hD:D≠0:=fun h=>hz ((hlen _).2 h);refine Sz0 ?_;refine Qa hP (Ih (by omega)) rfl rfl rfl ?_;refine Sz0 ?_;refine Qb (fun h1=>?_) (fun h1=>?_)
 ·subst h1;refine Sz0 ?_;refine cY ?_;refine Sz0 ?_;exact Qc (by rw[<-ail];simp only[sn]) rfl
 refine Sz0 ?_;refine Qa hP (adt (by omega) (by omega)) rfl rfl rfl ?_;have lA:Nat.gcd z.natAbs D≠0:=fun h=>hD (Nat.eq_zero_of_gcd_eq_zero_right h);have sX:(ak (Nat.gcd z.natAbs D)).length<2^38:=by have:=fG (KcR z.natAbs (Ka6 hD));unfold nl at this;omega
 have dW:=MS (z:=z) hD;generalize Nat.gcd z.natAbs D=g at *
 refine Sz0 ?_;refine Qa hP (Ih (by omega)) rfl rfl rfl ?_;refine Sz0 ?_;refine zk (fun h2=>?_) (fun h2=>?_)
 ·refine Sz0 ?_;refine Qa hP (O9 (by omega) sX lA) rfl rfl rfl ?_;refine Sz0 ?_;refine Qa hP (O9 (by omega) sX lA) rfl rfl rfl ?_;refine Sz0 ?_;refine cY ?_;refine Sz0 ?_;exact Qc dW rfl
 ·have:g=1:=by simpa using h2
  subst this;rw[Nat.div_one,Nat.div_one]at dW;refine Sz0 ?_;refine cY ?_;refine Sz0 ?_;exact Qc dW rfl
theorem tD(a:List Nat):Qd Tryz.prog 61 [PV.nat a] (· =PV.zi false a):=by refine aB Qh Tryz.func61 ags fun C hP=>?_;refine Sz0 ?_;refine cY ?_;refine Sz0 ?_;exact Qc rfl rfl
def agz(k:Nat)(q:Rat)(r:PV):Prop:=∃n a d,r= .aI [PV.zi n a,PV.nat d]/\Qj a/\Qj d/\a.length<=k/\d.length<=k/\val d≠0/\rv n a d=q
theorem r8{n:Bool}{a d:List Nat}{k:Nat}(ha:Qj a)(hd:Qj d)(hk:1<=k)(bu:a.length<=k)(s5:d.length<=k)(ph:k<2^38):Qd Tryz.prog 58 [PV.rr n a d] (agz k (rv n a d)):=by
 refine aB Qh Tryz.func58 agr fun C hP=>?_;refine Sz0 ?_;refine fT hP (PF hd (by omega)) rfl rfl rfl ?_;rintro _ ⟨b,rfl,hb⟩;refine Sz0 ?_;refine Qb (fun hz=>?_) (fun hz=>?_)
 ·have h0:val d=0:=hb.1 (by omega);refine Sz0 ?_;refine Qa hP C4 rfl rfl rfl ?_;refine Sz0 ?_;refine fp ?_;refine Sz0 ?_;refine⟨⟨rfl,rfl⟩,.aI [PV.zi false [],PV.nat [1]],⟨⟨rfl,trivial,trivial⟩,Qf _,trivial⟩,false,[],[1],rfl,nL,by intro x hx;simp at hx;omega,by simp,by simpa using hk,by simp[val],?_⟩;unfold rv;rw[h0,Rat.mkRat_zero];rfl
 ·have h0:val d≠0:=fun h=>hz (by rw[hb.2 h];rfl);refine Sz0 ?_;refine dI ?_ ?_
  all_goals
   refine Sz0 ?_;refine fp ?_;refine Sz0 ?_;exact⟨⟨rfl,rfl⟩,.aI [PV.zi n a,PV.nat d],⟨Qf _,Qf _,trivial⟩,n,a,d,rfl,ha,hd,bu,s5,h0,rfl⟩
theorem abE{z:Int}{m:Bool}{b:List Nat}(hb:Qj b)(bu:nl z.natAbs<2^40)(dz:b.length<2^40):Qd Tryz.prog 171 [PV.zz z,PV.zi m b] (· =PV.zz (z+zv m b)):=by
 have:=O8 (n:=decide (z<0)) (a:=ak z.natAbs) (m:=m) (Qn _) hb bu dz
 rwa[lS]at this
theorem Ln{n m:Bool}{a b:List Nat}(ha:Qj a)(hb:Qj b)(bu:a.length<2^39)(dz:b.length<2^39):Qd Tryz.prog 145 [.sl 2 [PV.zi n a,PV.zi m b]] (· =PV.zz (zv n a+zv m b)):=by
 have mr:=bF ha;rw[<-iU n a]at mr;refine aB Qh Tryz.func145 adr fun C hP=>?_;refine Sz0 ?_;refine Ql ep [(5,5),(8,15)] [5] (fun k J hp=>∃i,k=2-i/\i<=2/\J 8= .int .i64 (i:Nat)/\hp 2=some ⟨2,51,[.agg [.bool false,.aa]],false⟩/\hp 3=some ⟨2,51,[if i=0 then .agg [.bool false,.aa]else if i=1 then PV.zz (zv n a)else PV.zz (zv n a+zv m b)],false⟩) 2 ?_ ?_
 ·refine⟨0,rfl,by omega,?_⟩;refine Sz0 ?_;simp
 rintro _ J h ⟨i,rfl,hi,h8,gC,bD⟩;refine Sz1 h8 ?_;refine Qb (fun hg=>?_) (fun hg=>?_)
 ·have lC:i=0∨i=1:=by have:i<2:=(by omega);omega
  rcases lC with rfl|rfl
  ·have AD:J 8= .int .i64 0:=h8;refine Sz3 AD gC bD ?_;refine Qa hP ((O8 (n:=false) (a:=[]) (m:=n) (b:=a) nL ha (by simp) (by omega)).le (args':=[.agg [.bool false,.aa],PV.zi n a]) ⟨⟨rfl,trivial,trivial⟩,Qf _,trivial⟩) rfl rfl rfl ?_;refine Sz3 AD gC bD ?_;refine Qg 1 (by omega) ⟨1,rfl,by omega,?_⟩;refine Sz2 gC bD ?_;simp[zv,val]
  ·rw[if_neg (by omega),if_pos rfl]at bD;have AD:J 8= .int .i64 1:=h8;refine Sz3 AD gC bD ?_;refine Qa hP (abE (z:=zv n a) hb (by omega) (by omega)) rfl rfl rfl ?_;refine Sz3 AD gC bD ?_;refine Qg 0 (by omega) ⟨2,rfl,by omega,?_⟩;refine Sz2 gC bD ?_;simp
 ·obtain rfl:i=2:=by simp at hg;omega
  rw[if_neg (by omega),if_neg (by omega)]at bD;refine Sz3 h8 gC bD ?_;refine cY ?_;refine Sz2 gC bD ?_;exact Qc rfl rfl
theorem CM{z:Int}{d:List Nat}(hd:Qj d)(hz:nl z.natAbs<2^38)(s5:d.length<2^38):Qd Tryz.prog 109 [PV.zz z,PV.nat d] (· =PV.rat (mkRat z (val d))):=by
 have:=NU (n:=decide (z<0)) (Qn z.natAbs) hd hz s5
 rwa[rv,lS]at this
theorem MW{x y:Int}(hx:nl x.natAbs<2^39)(hy:nl y.natAbs<2^39):Qd Tryz.prog 145 [.sl 2 [PV.zz x,PV.zz y]] (· =PV.zz (x+y)):=by
 have:=Ln (n:=decide (x<0)) (m:=decide (y<0)) (Qn x.natAbs) (Qn y.natAbs) hx hy
 rwa[lS,lS]at this
theorem abF{x y:Int}(hx:nl x.natAbs<2^40)(hy:nl y.natAbs<2^40):Qd Tryz.prog 158 [PV.zz x,PV.zz y] (· = .int .i64 (dq x y)):=by
 have:=VZ (n:=decide (x<0)) (m:=decide (y<0)) (Qn x.natAbs) (Qn y.natAbs) hx hy
 rwa[lS,lS]at this
structure Raw(k:Nat)(n:Bool)(a d:List Nat):Prop where
 la:Qj a
 ld:Qj d
 sa:a.length<=k
 sd:d.length<=k
 k1:1<=k
theorem ic{q:Rat}{k:Nat}(h:rs q<=k):Raw k (decide (q.num<0)) (ak q.num.natAbs) (ak q.den):=by
 have:=FV q;unfold rs nl at *
 exact⟨Qn _,Qn _,by omega,by omega,by omega⟩
theorem Raw.rs{n:Bool}{a d:List Nat}{k:Nat}(h:Raw k n a d):FW.rs (rv n a d)<=k:=af4 (k:=k) (n:=k) h.la h.ld h.sa h.sd h.k1
theorem PG{n m:Bool}{a d b c:List Nat}{k:Nat}(hp:Raw k n a d)(hq:Raw k m b c)(hk:k<2^36):Qd Tryz.prog 93 [PV.rr n a d,PV.rr m b c] (· =PV.rat (rv n a d+rv m b c)):=by
 refine tE Qh Tryz.func93 rfl agv (by simp[II]) fun C hP=>?_;simp only[II];refine dO ?_;refine Sz0 ?_;refine fT hP (r8 hp.la hp.ld hp.k1 hp.sa hp.sd (by omega)) rfl rfl rfl ?_;rintro _ ⟨n',a',d',rfl,g1,g2,g3,g4,g5,g6⟩;refine Sz0 ?_;refine fT hP (r8 hq.la hq.ld hq.k1 hq.sa hq.sd (by omega)) rfl rfl rfl ?_;rintro _ ⟨m',b',c',rfl,e1,e2,e3,e4,e5,e6⟩;refine Sz0 ?_;refine Qa hP (Dv (by omega)) rfl rfl rfl ?_;have key:=Rat.mkRat_add_mkRat (zv n' a') (zv m' b') g5 e5;have J6:nl (zv n' a').natAbs<=k:=by rw[iU];exact KaO (bF g1) g3
 have J7:nl (zv m' b').natAbs<=k:=by rw[iU];exact KaO (bF e1) e3
 have JX:nl (val d')<=k:=KaO (bF g2) g4;have wy:nl (val c')<=k:=KaO (bF e2) e4;rw[<-g6,<-e6];unfold rv;rw[key];refine Sz0 ?_;refine Q5 (fun h1=>?_) (fun h1=>?_)
 ·refine Sz0 ?_;refine Qa hP (Dv (by omega)) rfl rfl rfl ?_;refine Sz0 ?_;refine Qb (fun h2=>?_) (fun h2=>?_)
  ·subst h1 h2;refine Sz0 ?_;refine nM hP (Ln (n:=n') (m:=m') g1 e1 (by omega) (by omega)) gS rfl ?_;refine bp ?_;have hs:=y3 (zv n' a') (zv m' b');refine Qa hP (CM g2 (by omega) (by omega)) rfl rfl rfl ?_;refine bp ?_;refine cY ?_;refine bp ?_;exact Qc (congrArg PV.rat (by simp[val])) rfl
  ·refine Sz0 ?_;refine Qa hP (tD _) rfl rfl rfl ?_;refine Sz0 ?_;refine Qa hP (rZ (n:=n') (m:=false) g1 e2 (by omega) (by omega)) rfl rfl rfl ?_;refine Sz0 ?_;refine Qa hP (tD _) rfl rfl rfl ?_;refine Sz0 ?_;refine Qa hP (rZ (n:=m') (m:=false) e1 g2 (by omega) (by omega)) rfl rfl rfl ?_;rw[tG,tG];have h3:=kk (zv n' a') (val c');have h4:=kk (zv m' b') (val d');have h5:=y3 (zv n' a'*(val c':Int)) (zv m' b'*(val d':Int));have h6:=kq (val d') (val c');rw[Ka7]at h3 h4;refine Sz0 ?_;refine nM hP (MW (x:=zv n' a'*(val c':Int)) (y:=zv m' b'*(val d':Int)) (by omega) (by omega)) gS rfl ?_;refine bp ?_;refine Qa hP (Du g2 e2 (by omega) (by omega)) rfl rfl rfl ?_;refine bp ?_;refine Qa hP (CM (z:=zv n' a'*(val c':Int)+zv m' b'*(val d':Int)) (Qn _) (by omega) (by show nl _<_;omega)) rfl rfl rfl ?_;refine bp ?_;refine cY ?_;refine bp ?_;exact Qc (by rw[Qu]) rfl
 · simp+decide (disch:=try exact D0) only[go_sem]
   refine Qa hP (tD _) rfl rfl rfl ?_;refine Sz0 ?_;refine Qa hP (rZ (n:=n') (m:=false) g1 e2 (by omega) (by omega)) rfl rfl rfl ?_;refine Sz0 ?_;refine Qa hP (tD _) rfl rfl rfl ?_;refine Sz0 ?_;refine Qa hP (rZ (n:=m') (m:=false) e1 g2 (by omega) (by omega)) rfl rfl rfl ?_;rw[tG,tG];have h3:=kk (zv n' a') (val c');have h4:=kk (zv m' b') (val d');have h5:=y3 (zv n' a'*(val c':Int)) (zv m' b'*(val d':Int));have h6:=kq (val d') (val c');rw[Ka7]at h3 h4;refine Sz0 ?_;refine nM hP (MW (x:=zv n' a'*(val c':Int)) (y:=zv m' b'*(val d':Int)) (by omega) (by omega)) gS rfl ?_;refine bp ?_;refine Qa hP (Du g2 e2 (by omega) (by omega)) rfl rfl rfl ?_;refine bp ?_;refine Qa hP (CM (z:=zv n' a'*(val c':Int)+zv m' b'*(val d':Int)) (Qn _) (by omega) (by show nl _<_;omega)) rfl rfl rfl ?_;refine bp ?_;refine cY ?_;refine bp ?_;exact Qc (by rw[Qu]) rfl
end Go.Proofs.YtccppnepkfbpkaaGreat
namespace Go.FW
open Go
variable {C : Ctx} {ρ : Nat -> Option Nat} {fr aA : Fr} {hp hp' : HP} {w w' : World} {K R : Qi}
theorem agA{P:Program}{pr:Bool}(hP:C.P=P){g:FuncId}{args aT:List PV}{d:Option Nat}{G:Fr}{ax:HP}{a9:PV->Fr->HP->Prop}(h:xp P g aT G ax a9)(gv:Nat->Option Nat)(τ:Nat->Nat)(hh:sN C hp ax gv)
  (Bw:∀β γ,gv β=some γ->τ γ=β) (cL:args.map (cC τ)=aT) (mr:∀x∈args,∀γ∈x.refs++x.aR,∃β,gv β=some γ)
  (hG:∀s,1000000<=s->G s= .undef∨∃s',1000000<=s'/\G s=cC τ (fr s')/\∀γ∈(fr s').refs++(fr s').aR,∃β,gv β=some γ) (cQ:aT.length<=1000000) (tc:pr=true->∀β,gn gv β=none)
  (hK:∀(ρ:Nat->Option Nat) (tmps:Array Value) (w:World),Qr C ρ fr hp tmps w->∀r F H,a9 r F H->(∀mH C2 v w',Qr C2 mH (sL r F) H #[v] w'->(∀β,C2.fx β≠none->H β≠none->True)->True)->∃(eo:Nat->Option Nat) (σ:Nat->Nat) (fh:Fr) (bI:HP),
   (∀γ β,eo γ=some β->H β≠none/\σ β=γ/\bC γ=true/\((aO β=true/\gn gv β=some γ)∨(aO β=false/\aO γ=false/\(hp γ=none∨∃bB,gn gv bB=some γ))))/\
   (∀β γ,gn gv β=some γ->aO β=true->eo γ=some β)/\
   (∀γ β,eo γ=some β->bI γ=H β)/\(∀γ,eo γ=none->(∃β,gn gv β=some γ)->bI γ=none)/\(∀γ,eo γ=none->(¬∃β,gn gv β=some γ)->bI γ=hp γ)/\
   (∀s,fh s= .undef∨
    (d≠some s/\fh s=fr s/\(∀γ∈(fr s).refs++(fr s).aR,(¬∃β,gn gv β=some γ)∨∃β hb au,gn gv β=some γ/\aO β=true/\hp γ=some hb/\H β=some au/\au.e=hb.e/\hb.xs.length<=au.xs.length)/\∀γ e ty xs,fr s= .aF γ e ty xs->¬∃β,gn gv β=some γ)∨
    (d=some s/\fh s=cC σ r/\∀β∈r.refs++r.aR,eo (σ β)=some β)∨
    (∃s',1000000<=s'/\(∃γ e ty xs,F s'= .aF γ e ty xs)/\fh s=cC σ (F s')/\∀β∈(F s').refs++(F s').aR,eo (σ β)=some β))/\
   K fh bI):fH C pr (.fn g [] []) args d fr hp K:=by
 subst hP;refine⟨h.1,fun ρ tmps w fv cv av qk hs h1 h2 h3 _ _ qw=>?_⟩;have e1:fv= #[]:=KbJ (by simpa using h1);have e2:cv= #[]:=KbJ (by simpa using h2);subst e1;subst e2;simp only[Array.empty_append,Array.append_empty];refine(h.2 (ua C ρ fr hp ax tmps w gv hs hh aT.length cQ) _ av w rfl rfl rfl (VT hs hh Bw h3 cL qw mr hG cQ)).mono ?_;rintro e w' ⟨v,ρ',r,F,H,rfl,dA,gV⟩;obtain⟨eo,σ,fh,bI,a1,a2,a3,a4,a5,a6,a7⟩:=hK ρ tmps w hs r F H gV (fun _ _ _ _ _ _=>trivial);exact⟨v,fh,bI,rfl,YR hs hh dA qk a1 a2 a3 a4 a5 a6,fun hq=>Za hs hh dA (tc hq),a7⟩
def vv(r:PV):Prop:=(r.refs=[]/\r.aR=[])/\∀σ,cC σ r=r
theorem MX{gv:Nat->Option Nat}(h:∀β γ,gv β=some γ->eI β=false):gn gv=gv:=by
 funext β;cases hr:eI β with
 |false=>exact xF hr
 |true=>
  unfold gn;rw[if_pos hr];cases hq:gv β with
  |none=>rfl
  |some γ=>have:=h β γ hq;rw[hr]at this;cases this
def o6(nm:Nat->Bool)(p:PV):PV:=if(p.refs++p.aR).any nm then .undef else p
def iq(nm:Nat->Bool)(fr:Fr):Fr:=fun s=>o6 nm (fr s)
def um(nm ex:Nat->Bool)(H hp:HP):HP:=fun x=>if ex x then H x else if nm x then none else hp x
def yd(S:List Nat)(F fr:Fr):Fr:=fun s=>if S.contains s then F s else fr s
theorem Nh(p:PV):cX id p=p:=MV fun _ _=>rfl
theorem Ni{p:PV}(h:∀γ e ty xs,p≠ .aF γ e ty xs):cC id p=p:=by
 have hm:∀l:List PV,l.map (cX id)=l:=fun l=>by
  conv=>rhs;rw[<-List.map_id l]
  exact Ka1 fun x _=>Nh x
 cases p with
 |aF γ e ty xs=>exact absurd rfl (h _ _ _ _)
 |fn f a b=>simp only[cC,hm]
 |aM cs=>simp only[cC,hm]
 |dZ cs=>simp only[cC,hm]
 |cP cs q=>simp only[cC,hm]
 |_=>rfl
def Ku(xs:List PV):Prop:=∀x∈xs,ft x.aW=x
theorem Md{γ e ty:Nat}{xs:List PV}(h:Ku xs):cC id (.aF γ e ty xs)= .aF γ e ty xs:=by
 simp only[cC,id];congr 1;conv=>rhs;rw[<-List.map_id xs]
 refine Ka1 fun x hx=>?_;have:x.aW.map (cX id)=x.aW:=by
  conv=>rhs;rw[<-List.map_id x.aW]
  exact Ka1 fun y _=>Nh y
 rw[this];exact h x hx
theorem agB{P:Program}{pr:Bool}(hP:C.P=P){g:FuncId}{args aT:List PV}{d:Option Nat}{G:Fr}{fy:HP}{a9:PV->Fr->HP->Prop}(h:xp P g aT G fy a9)(nm ex:Nat->Bool)(S:List Nat)
  (gp:∀x,nm x=true->∃hb,hp x=some hb/\hb.fz=false/\2000000<=x) (SL:∀x,fy x=if nm x then hp x else none) (cL:args=aT) (cQ:aT.length<=1000000)
  (aH:∀x∈args,∀γ e ty xs,x≠ .aF γ e ty xs) (mr:∀γ∈args.flatMap (fun x=>x.refs++x.aR),nm γ=true)
  (hG:∀s,1000000<=s->G s= .undef∨∃γ e ty xs,G s=fr s/\fr s= .aF γ e ty xs/\Ku xs/\∀γ∈(fr s).refs++(fr s).aR,nm γ=true)
  (hex:∀x,ex x=true->(hp x=none∨nm x=true)/\2000000<=x) (tc:pr=true->∀x,nm x=false)
  (hK:∀r F H,a9 r F H->(∀x,ex x=true->H x≠none)/\(∀γ e ty xs,r≠ .aF γ e ty xs)/\(∀β∈r.refs++r.aR,ex β=true)/\(∀s∈S,1000000<=s/\(∃γ e ty xs,F s= .aF γ e ty xs/\Ku xs)/\∀β∈(F s).refs++(F s).aR,ex β=true)/\K (yd S F (fW (iq nm fr) d r)) (um nm ex H hp)):
  fH C pr (.fn g [] []) args d fr hp K:=by
 obtain⟨gv,Jq⟩:∃f:Nat->Option Nat,f=fun x=>if nm x then some x else none:=⟨_,rfl⟩
 have ga:∀β γ,gv β=some γ->β=γ/\nm γ=true:=fun β γ hq=>by
  rw[Jq]at hq;simp only at hq;split at hq
  ·cases hq;rename_i e;exact⟨rfl,e⟩
  ·cases hq
 have gb:∀γ,nm γ=true->gv γ=some γ:=fun γ ah=>by rw[Jq];simp[ah]
 have gN:∀γ,(∃β,gv β=some γ)->nm γ=true:=fun γ ⟨β,aj⟩=>(ga β γ aj).2;have gr:∀β γ,gv β=some γ->eI β=false:=fun β γ hq=>by obtain⟨rfl,hn⟩:=ga β γ hq;obtain⟨_,_,_,k3⟩:=gp β hn;simp[eI];omega
 refine agA hP h gv id ⟨fun β γ hq=>?_,fun β hq=>?_,fun β bB γ q1 q2=>?_⟩ (fun β γ hq=>(ga β γ hq).1.symm) ?_ (fun x hx γ ah=>⟨γ,gb γ (mr γ (Kaq.2 ⟨x,hx,ah⟩))⟩) (fun s hs=>?_) cQ (fun hq β=>by rw[MX gr,Jq];simp only;rw[tc hq β];rfl) (fun ρ tmps w hs r F H gV _=>?_)
 ·obtain⟨rfl,hn⟩:=ga β γ hq;obtain⟨hb,k1,k2,k3⟩:=gp β hn;exact⟨hb,k1,by simp[bC];omega,(fun h=>by simp[eI]at h;omega),fun _=>⟨by rw[SL,if_pos hn];exact k1,k2,by simp[bC];omega,fun _=>by simp[aO];omega⟩⟩
 ·refine⟨β,gb β ?_⟩;cases hn:nm β with
  |true=>rfl
  |false=>rw[SL,hn]at hq;simp at hq
 ·rw[(ga β γ q1).1,(ga bB γ q2).1]
 ·rw[<-cL];conv=>rhs;rw[<-List.map_id args]
  exact Ka1 fun x hx=>Ni (aH x hx)
 ·rcases hG s hs with e|⟨γ,e,ty,xs,e1,e2,e3,e4⟩
  ·exact .inl e
  ·refine .inr ⟨s,hs,?_,fun γ ah=>⟨γ,gb γ (e4 γ ah)⟩⟩;rw[e1,e2,Md e3]
 ·rw [MX gr];obtain⟨a1,a2,a3,a4,a5⟩:=hK r F H gV;obtain⟨eo,ux⟩:∃f:Nat->Option Nat,f=fun x=>if ex x then some x else none:=⟨_,rfl⟩
  have ea:∀γ β,eo γ=some β->γ=β/\ex γ=true:=fun γ β hq=>by
   rw[ux]at hq;simp only at hq;split at hq
   ·cases hq;rename_i e;exact⟨rfl,e⟩
   ·cases hq
  have eb:∀γ,ex γ=true->eo γ=some γ:=fun γ ah=>by rw[ux];simp[ah]
  have en:∀γ,eo γ=none->ex γ=false:=fun γ ah=>by
   cases hq:ex γ with
   |false=>rfl
   |true=>rw[eb γ hq]at ah;cases ah
  refine⟨eo,id,yd S F (fW (iq nm fr) d r),um nm ex H hp,fun γ β hq=>?_,fun β γ hq hy=>?_,fun γ β hq=>?_,fun γ hq hg=>?_,fun γ hq hg=>?_,fun s=>?_,a5⟩
  ·obtain⟨rfl,he⟩:=ea γ β hq;obtain⟨k1,k2⟩:=hex γ he;exact⟨a1 γ he,rfl,by simp[bC];omega,.inr ⟨by simp[aO];omega,by simp[aO];omega,k1.imp id fun hn=>⟨γ,gb γ hn⟩⟩⟩
  ·obtain⟨rfl,hn⟩:=ga β γ hq;obtain⟨_,_,_,k3⟩:=gp β hn;simp[aO]at hy;omega
  ·obtain⟨rfl,he⟩:=ea γ β hq;simp[um,he]
  ·simp[um,en γ hq,gN γ hg]
  ·have:nm γ=false:=by
    cases hn:nm γ with
    |false=>rfl
    |true=>exact absurd ⟨γ,gb γ hn⟩ hg
   simp[um,en γ hq,this]
  ·unfold yd;by_cases hS:S.contains s=true
   ·rw[if_pos hS];obtain⟨b1,⟨γ,e,ty,xs,b2,b3⟩,b4⟩:=a4 s (by simpa using hS);refine .inr (.inr (.inr ⟨s,b1,⟨γ,e,ty,xs,b2⟩,?_,fun β aj=>eb β (b4 β aj)⟩));rw[b2,Md b3]
   ·rw[if_neg hS];have yJ:d≠some s->iq nm fr s= .undef∨(d≠some s/\iq nm fr s=fr s/\(∀γ∈(fr s).refs++(fr s).aR,(¬∃β,gv β=some γ)∨∃β hb au,gv β=some γ/\aO β=true/\hp γ=some hb/\H β=some au/\au.e=hb.e/\hb.xs.length<=au.xs.length)/\∀γ e ty xs,fr s= .aF γ e ty xs->¬∃β,gv β=some γ):=fun hds=>by
     unfold iq o6;split
     ·exact .inl rfl
     ·rename_i oq;have SJ:∀γ∈(fr s).refs++(fr s).aR,¬∃β,gv β=some γ:=fun γ ah hg=>oq (KaS.2 ⟨γ,ah,gN γ hg⟩);exact .inr ⟨hds,rfl,fun γ ah=>.inl (SJ γ ah),fun γ e ty xs e0=>SJ γ (by rw[e0];simp[PV.aR])⟩
    cases d with
    |none=>
     simp only[fW];rcases yJ (by simp)with h|h
     ·exact .inl h
     ·exact .inr (.inl h)
    | some d=>
     by_cases e:s=d
     ·subst e;refine .inr (.inr (.inl ⟨rfl,?_,fun β aj=>eb β (a3 β aj)⟩));rw[Ni a2];simp[fW,ab]
     ·have e1:fW (iq nm fr) (some d) r s=iq nm fr s:=by simp[fW,ab,e]
      rw[e1];rcases yJ (by simp;exact fun h=>e h.symm)with h|h
      ·exact .inl h
      ·exact .inr (.inl h)
end Go.FW
namespace Go.FW
open Go
variable {C : Ctx} {ρ : Nat -> Option Nat} {fr aA : Fr} {hp : HP} {w : World} {K R : Qi}
theorem abG{B:List Nat}{F:Fr}{β δ:Nat}(aj:B.contains β=true)(h2:β<1000000):qB β δ (eP B F)=eP B F:=adv (.inl aj) (.inl h2)
theorem apt:
  (∀(σ:Nat->Nat)(k:IntKind)(n:Int),cC σ (.int k n)= .int k n)/\
  (∀(σ:Nat->Nat)(b:Bool),cC σ (.bool b)= .bool b)/\
  (∀(σ:Nat->Nat)(e:Nat)(xs:List PV),cC σ (.sl e xs)= .sl e xs)/\
  (∀(σ:Nat->Nat)(cs:List PV),cC σ (.agg cs)= .agg cs)/\
  (∀(σ:Nat->Nat)(cs:List PV),cC σ (.aI cs)= .aI cs)/\
  (∀(σ:Nat->Nat)(cs:List PV),cC σ (.pt cs)= .pt cs)/\
  (∀(σ:Nat->Nat),cC σ .aa= .aa)/\
  (∀(σ:Nat->Nat),cC σ .undef= .undef)/\
  (∀(σ:Nat->Nat)(β o n:Nat),cC σ (.aw β o n)= .aw (σ β) o n)/\
  (∀(σ:Nat->Nat)(β o n:Nat),cC σ (.mp β o n)= .mp (σ β) o n)/\
  (∀(σ:Nat->Nat)(β o n:Nat),cC σ (.aG β o n)= .aG (σ β) o n)/\
  (∀(σ:Nat->Nat)(β o n:Nat),cC σ (.np β o n)= .np (σ β) o n)/\
  (∀(σ:Nat->Nat)(cs:List PV),cC σ (.aM cs)= .aM (cs.map (cX σ))):=by
 refine⟨?_,?_,?_,?_,?_,?_,?_,?_,?_,?_,?_,?_,?_⟩<;>intros<;>rfl
theorem aps:
  (∀(σ:Nat->Nat)(k:IntKind)(n:Int),cX σ (.int k n)= .int k n)/\
  (∀(σ:Nat->Nat)(b:Bool),cX σ (.bool b)= .bool b)/\
  (∀(σ:Nat->Nat)(e:Nat)(xs:List PV),cX σ (.sl e xs)= .sl e xs)/\
  (∀(σ:Nat->Nat),cX σ .aa= .aa)/\
  (∀(σ:Nat->Nat),cX σ .undef= .undef)/\
  (∀(σ:Nat->Nat)(β o n:Nat),cX σ (.aw β o n)= .aw (σ β) o n)/\
  (∀(σ:Nat->Nat)(β o n:Nat),cX σ (.aG β o n)= .aG (σ β) o n):=by
 refine⟨?_,?_,?_,?_,?_,?_,?_⟩<;>intros<;>rfl
theorem ait:
  (∀(γ:Nat)(k:IntKind)(n:Int),dt γ (.int k n)= .int k n)/\
  (∀(γ:Nat)(b:Bool),dt γ (.bool b)= .bool b)/\
  (∀(γ e:Nat)(xs:List PV),dt γ (.sl e xs)= .sl e xs)/\
  (∀(γ:Nat)(cs:List PV),dt γ (.agg cs)= .agg cs)/\
  (∀(γ:Nat)(cs:List PV),dt γ (.aI cs)= .aI cs)/\
  (∀(γ:Nat)(cs:List PV),dt γ (.pt cs)= .pt cs)/\
  (∀(γ:Nat),dt γ .aa= .aa)/\
  (∀(γ:Nat),dt γ .undef= .undef)/\
  (∀(γ β o n:Nat),dt γ (.aw β o n)=if β=γ then .aG γ o n else .aw β o n)/\
  (∀(γ β o n:Nat),dt γ (.mp β o n)=if β=γ then .np γ o n else .mp β o n)/\
  (∀(γ β o n:Nat),dt γ (.aG β o n)= .aG β o n)/\
  (∀(γ β o n:Nat),dt γ (.np β o n)= .np β o n):=by
 refine⟨?_,?_,?_,?_,?_,?_,?_,?_,?_,?_,?_,?_⟩<;>intros<;>rfl
theorem adu{γ s:Nat}{x:PV}:xQ γ x fr s=if s=γ then x else dt γ (fr s):=rfl
theorem ad5{args:List PV}{G:Fr}{s:Nat}:tZ args G s=if s<1000000 then(args[s]?).getD .undef else G s:=rfl
theorem ad6{nm:Nat->Bool}{s:Nat}:iq nm fr s=o6 nm (fr s):=rfl
theorem ad7{nm:Nat->Bool}{p:PV}:o6 nm p=if(p.refs++p.aR).any nm then .undef else p:=rfl
theorem af7{nm ex:Nat->Bool}{H:HP}{x:Nat}:um nm ex H hp x=if ex x then H x else if nm x then none else hp x:=rfl
theorem af8{S:List Nat}{F:Fr}{s:Nat}:yd S F fr s=if S.contains s then F s else fr s:=rfl
attribute [go_sem] acQ acR agm agn agl abG apt aps ait adu ad5 ad6 ad7 af7 af8
end Go.FW
namespace Go.FW
open Go
variable {C : Ctx} {ρ : Nat -> Option Nat} {fr aA : Fr} {hp : HP} {w : World} {K R : Qi}
theorem ad8{σ:Nat->Nat}{p:PV}(h:p= .aa∨∃β n,p= .ms β n)(tn:∀β n,p= .ms β n->σ β=β):ft (p.aW.map (cX σ))=p:=by
 rcases h with rfl|⟨β,n,rfl⟩
 ·rfl
 ·have:=tn β n rfl;simp[PV.aW,PV.cells,cX,ft,this]
def gR(B n w:Nat)(π:Nat->Nat):List (Nat×Nat):=(List.range n).map fun r=>(B+π r,w)
theorem Lo{B n w r:Nat}{π:Nat->Nat}(h:r<(gR B n w π).length):(gR B n w π)[r]=(B+π r,w):=by simp[gR]
def mX{α:Type}(p:α->PV)(f:Nat->α)(w:Nat):List PV:=(List.range w).map fun c=>p (f c)
theorem GQ{α:Type}(p:α->PV)(f:Nat->α)(w:Nat):(mX p f w).length=w:=by simp[mX]
theorem Hx{α:Type}{p:α->PV}{f:Nat->α}{w c:Nat}(h:c<(mX p f w).length):(mX p f w)[c]=p (f c):=by simp[mX]
theorem ai3{by_ ty d:Nat}{k k':IntKind}{n c:Nat}(h2:n<=c)(h3:by_*c<=281474976710656)(h4:c<=9223372036854775807):
  nD 3 by_ ty (.agg [.bool false,.aa,.aa]) (.int k (n:Int)) (.int k' (c:Int)) d fr hp K=K (ab (bE d fr) d (.ms d n)) (Qk hp d ⟨3,ty,List.replicate n (.agg [.bool false,.aa,.aa]),false⟩):=by
 rw[BR (e:=3) (by omega) rfl (by omega) (by omega) (by omega) (by omega)];rfl
attribute [go_sem] ai3
end Go.FW
namespace Go.FW
open Go
def bZ(φ:List Int->Rat):List Tm->Rat
 | []=>0
 |t::p=>t.1*φ t.2+bZ φ p
theorem kt(φ:List Int->Rat):bZ φ []=0:=rfl
theorem fc(φ:List Int->Rat)(t:Tm)(p:List Tm):bZ φ (t::p)=t.1*φ t.2+bZ φ p:=rfl
theorem O'(φ:List Int->Rat):∀(p q:List Tm),bZ φ (p++q)=bZ φ p+bZ φ q
 | [],q=>by rw[KaH,kt];grind
 |t::p,q=>by rw[KaJ,fc,fc,O' φ p q];grind
theorem si{φ ψ:List Int->Rat}:∀ {p:List Tm},(∀t∈p,φ t.2=ψ t.2)->bZ φ p=bZ ψ p
 | [],_=>rfl
 |t::p,h=>by rw[fc,fc,h t (by simp),si (p:=p) (fun x hx=>h x (by simp[hx]))]
theorem LH(φ ψ:List Int->Rat):∀(p:List Tm),bZ (fun m=>φ m+ψ m) p=bZ φ p+bZ ψ p
 | []=>by simp only[kt];grind
 |t::p=>by simp only[fc];rw[LH φ ψ p];grind
theorem Dw(c:Rat)(φ:List Int->Rat):∀(p:List Tm),bZ (fun m=>c*φ m) p=c*bZ φ p
 | []=>by simp only[kt];grind
 |t::p=>by simp only[fc];rw[Dw c φ p];grind
theorem Lp:∀(p:List Tm),bZ (fun _=>0) p=0
 | []=>rfl
 |t::p=>by simp only[fc];rw[Lp p];grind
theorem Dx(ψ:List Int->List Int->Rat)(q:List Tm):∀(p:List Tm),bZ (fun m=>bZ (fun n=>ψ m n) q) p=bZ (fun n=>bZ (fun m=>ψ m n) p) q
 | []=>by simp only[kt];rw[Lp]
 |t::p=>by simp only[fc];rw[Dx ψ q p,LH (fun n=>t.1*ψ t.2 n),Dw]
def Can(p:List Tm):Prop:=∀t∈p,t.2.getLast? ≠some 0
def NZ(p:List Tm):Prop:=∀t∈p,t.1≠0
structure bf(p:List Tm):Prop where
 c:Can p
 z:NZ p
 s:iH p
theorem Can.cons{t:Tm}{p:List Tm}:Can (t::p)↔t.2.getLast? ≠some 0/\Can p:=by simp[Can]
theorem NZ.cons{t:Tm}{p:List Tm}:NZ (t::p)↔t.1≠0/\NZ p:=by simp[NZ]
theorem bf.nil:bf []:=⟨by simp[Can],by simp[NZ],trivial⟩
theorem bf.tail{t:Tm}{p:List Tm}(h:bf (t::p)):bf p:=⟨(Can.cons.1 h.c).2,(NZ.cons.1 h.z).2,h.s.2⟩
theorem bf.one{t:Tm}(h:t.1≠0)(hm:t.2.getLast? ≠some 0):bf [t]:=⟨by simpa[Can]using hm,by simpa[NZ]using h,⟨by simp,trivial⟩⟩
theorem FR.rS{p:List Tm}(h:FR p):bf p:=⟨fun t ht=>N3 (h.t t ht).m,fun t ht=>(h.t t ht).c,h.s⟩
theorem zJ{φ:List Int->Rat}:∀ {p q:List Tm},Can p->Can q->bZ φ (Qq p q)=bZ φ p+bZ φ q:=by
 intro p q;induction p,q using Qq.induct with
 |case1 q=>rw[Qq,kt];intros;grind
 |case2 p h=>rw[kX,kt];intros;grind
 |case3 c m p d l q h ih=>intro hp hq;rw[Qq,if_pos h,fc,fc,ih (Can.cons.1 hp).2 hq];grind
 |case4 c m p d l q h1 h2 ih=>intro hp hq;rw[Qq,if_neg h1,if_pos h2,fc,ih hp (Can.cons.1 hq).2,fc φ (d,l)];grind
 |case5 c m p d l q h1 h2 h3 ih=>
  intro hp hq;have e:=Hc h1 h2 (Can.cons.1 hp).1 (Can.cons.1 hq).1;rw[Qq,if_neg h1,if_neg h2,if_pos h3,ih (Can.cons.1 hp).2 (Can.cons.1 hq).2,fc,fc];subst e;have:c*φ m+d*φ m=0:=by rw[<-Rat.add_mul,h3];grind
  grind
 |case6 c m p d l q h1 h2 h3 ih=>intro hp hq;have e:=Hc h1 h2 (Can.cons.1 hp).1 (Can.cons.1 hq).1;rw[Qq,if_neg h1,if_neg h2,if_neg h3,fc,ih (Can.cons.1 hp).2 (Can.cons.1 hq).2,fc,fc];subst e;grind
theorem xj:∀ {p q:List Tm} {t:Tm},t∈Qq p q->(∃s∈p,s.2=t.2)∨(∃s∈q,s.2=t.2):=by
 intro p q;induction p,q using Qq.induct with
 |case1 q=>rw[Qq];intro t ht;exact Or.inr ⟨t,ht,rfl⟩
 |case2 p h=>rw[kX];intro t ht;exact Or.inl ⟨t,ht,rfl⟩
 | case3 c m p d l q h ih=>
  intro t ht;rw[Qq,if_pos h]at ht;rcases KaC.1 ht with rfl|ht
  ·exact Or.inl ⟨_,by simp,rfl⟩
  ·rcases ih ht with⟨s,h1,h2⟩|h1
   ·exact Or.inl ⟨s,by simp[h1],h2⟩
   ·exact Or.inr h1
 | case4 c m p d l q h1 h2 ih=>
  intro t ht;rw[Qq,if_neg h1,if_pos h2]at ht;rcases KaC.1 ht with rfl|ht
  ·exact Or.inr ⟨_,by simp,rfl⟩
  ·rcases ih ht with h3|⟨s,h3,h4⟩
   ·exact Or.inl h3
   ·exact Or.inr ⟨s,by simp[h3],h4⟩
 |case5 c m p d l q h1 h2 h3 ih=>
  intro t ht;rw[Qq,if_neg h1,if_neg h2,if_pos h3]at ht;rcases ih ht with⟨s,h4,h5⟩|⟨s,h4,h5⟩
  ·exact Or.inl ⟨s,by simp[h4],h5⟩
  ·exact Or.inr ⟨s,by simp[h4],h5⟩
 | case6 c m p d l q h1 h2 h3 ih=>
  intro t ht;rw[Qq,if_neg h1,if_neg h2,if_neg h3]at ht;rcases KaC.1 ht with rfl|ht
  ·exact Or.inl ⟨(c,m),by simp,rfl⟩
  ·rcases ih ht with⟨s,h4,h5⟩|⟨s,h4,h5⟩
   ·exact Or.inl ⟨s,by simp[h4],h5⟩
   ·exact Or.inr ⟨s,by simp[h4],h5⟩
theorem Lq{p q:List Tm}(hp:Can p)(hq:Can q):Can (Qq p q):=fun t ht=>by
 rcases xj ht with⟨s,h1,h2⟩|⟨s,h1,h2⟩
 ·rw[<-h2];exact hp s h1
 ·rw[<-h2];exact hq s h1
theorem ad9:∀ {p q:List Tm},NZ p->NZ q->NZ (Qq p q):=by
 intro p q;induction p,q using Qq.induct with
 |case1 q=>rw[Qq];exact fun _ h=>h
 |case2 p h=>rw[kX];exact fun h _=>h
 |case3 c m p d l q h ih=>intro hp hq;rw[Qq,if_pos h,NZ.cons];exact⟨(NZ.cons.1 hp).1,ih (NZ.cons.1 hp).2 hq⟩
 |case4 c m p d l q h1 h2 ih=>intro hp hq;rw[Qq,if_neg h1,if_pos h2,NZ.cons];exact⟨(NZ.cons.1 hq).1,ih hp (NZ.cons.1 hq).2⟩
 |case5 c m p d l q h1 h2 h3 ih=>intro hp hq;rw[Qq,if_neg h1,if_neg h2,if_pos h3];exact ih (NZ.cons.1 hp).2 (NZ.cons.1 hq).2
 |case6 c m p d l q h1 h2 h3 ih=>intro hp hq;rw[Qq,if_neg h1,if_neg h2,if_neg h3,NZ.cons];exact⟨h3,ih (NZ.cons.1 hp).2 (NZ.cons.1 hq).2⟩
theorem V'{a b c:List Int}(h:aX a b=0)(h2:0<aX b c):0<aX a c:=by
 have e:∀i,eN a i=eN b i:=by
  intro i;have:=(C1 a b _).1 h;by_cases hi:i<max a.length b.length
  ·exact this i hi
  ·rw[lg (by omega),lg (by omega)]
 rw[Wq e (fun _=>rfl)];exact h2
theorem Vn:∀ {p q:List Tm},iH p->iH q->iH (Qq p q):=by
 intro p q;induction p,q using Qq.induct with
 |case1 q=>rw[Qq];exact fun _ h=>h
 |case2 p h=>rw[kX];exact fun h _=>h
 | case3 c m p d l q h ih=>
  intro hp hq;rw[Qq,if_pos h];refine⟨fun t ht=>?_,ih hp.2 hq⟩;rcases xj ht with⟨s,h1,h2⟩|⟨s,h1,h2⟩
  ·rw[<-h2];exact hp.1 s h1
  ·rw[<-h2];rcases KaC.1 h1 with rfl|h1
   ·exact h
   ·exact wQ h (hq.1 s h1)
 | case4 c m p d l q h1 h2 ih=>
  intro hp hq;rw[Qq,if_neg h1,if_pos h2];have ll:0<aX l m:=by have:=xh m l;omega
  refine⟨fun t ht=>?_,ih hp hq.2⟩;rcases xj ht with⟨s,h3,h4⟩|⟨s,h3,h4⟩
  ·rw[<-h4];rcases KaC.1 h3 with rfl|h3
   ·exact ll
   ·exact wQ ll (hp.1 s h3)
  ·rw[<-h4];exact hq.1 s h3
 |case5 c m p d l q h1 h2 h3 ih=>intro hp hq;rw[Qq,if_neg h1,if_neg h2,if_pos h3];exact ih hp.2 hq.2
 |case6 c m p d l q h1 h2 h3 ih=>
  intro hp hq;rw[Qq,if_neg h1,if_neg h2,if_neg h3];refine⟨fun t ht=>?_,ih hp.2 hq.2⟩;rcases xj ht with⟨s,h4,h5⟩|⟨s,h4,h5⟩
  ·rw[<-h5];exact hp.1 s h4
  ·rw[<-h5];exact V' (b:=l) (by show aX m l=0;omega) (hq.1 s h4)
theorem vb{p q:List Tm}(hp:bf p)(hq:bf q):bf (Qq p q):=⟨Lq hp.c hq.c,ad9 hp.z hq.z,Vn hp.s hq.s⟩
def ind(m:List Int):List Int->Rat:=fun n=>if n=m then 1 else 0
theorem CH{m:List Int}:∀ {p:List Tm},(∀t∈p,t.2≠m)->bZ (ind m) p=0
 | [],_=>rfl
 |t::p,h=>by rw[fc,CH (p:=p) (fun x hx=>h x (by simp[hx])),ind,if_neg (h t (by simp))];grind
theorem Ap{a b:List Int}(h:0<aX a b):b≠a:=by rintro rfl;rw[Hj]at h;omega
theorem wT{t:Tm}{p:List Tm}(h:iH (t::p)):bZ (ind t.2) (t::p)=t.1:=by rw[fc,CH (fun s hs=>Ap (h.1 s hs)),ind,if_pos rfl];grind
theorem xq:∀ {p q:List Tm},bf p->bf q->(∀φ,bZ φ p=bZ φ q)->p=q
 | [],[],_,_,_=>rfl
 | [],t::q,_,hq,h=>by have:=h (ind t.2);rw[wT hq.s,kt]at this;exact absurd this.symm (hq.z t (by simp))
 |t::p,[],hp,_,h=>by have:=h (ind t.2);rw[wT hp.s,kt]at this;exact absurd this (hp.z t (by simp))
 | s ::p,t::q,hp,hq,h=>by
  by_cases h1:0<aX s.2 t.2
  ·have:=h (ind s.2);rw[wT hp.s,CH (fun x hx=>?_)]at this
   ·exact absurd this (hp.z s (by simp))
   ·rcases KaC.1 hx with rfl|hx
    ·exact Ap h1
    ·exact Ap (wQ h1 (hq.s.1 x hx))
  ·by_cases h2:aX s.2 t.2<0
   ·have ll:0<aX t.2 s.2:=by have:=xh s.2 t.2;omega
    have:=h (ind t.2);rw[wT hq.s,CH (fun x hx=>?_)]at this
    ·exact absurd this.symm (hq.z t (by simp))
    ·rcases KaC.1 hx with rfl|hx
     ·exact Ap ll
     ·exact Ap (wQ ll (hp.s.1 x hx))
   ·have e:=Hc h1 h2 (hp.c s (by simp)) (hq.c t (by simp));have e2:=h (ind s.2);rw[wT hp.s,e,wT hq.s]at e2;have e3:s=t:=Prod.ext e2 e;subst e3;rw[xq hp.tail hq.tail (fun φ=>by have:=h φ;rw[fc,fc]at this;grind)]
theorem Zj{φ:List Int->Rat}:∀(n:Nat)(l:List (List Tm)),l.length<=n->(∀p∈l,Can p)->Can (cy l)/\bZ φ (cy l)=(l.map (bZ φ)).sum:=by
 intro n;induction n with
 |zero=>intro l hl _;have:l=[]:=Kat.1 (by omega);subst this;rw[cy];exact⟨bf.nil.c,rfl⟩
 | succ n ih=>
  intro l hl h
  match l,h with
  | [],_=>rw[cy];exact⟨bf.nil.c,rfl⟩
  | [p],h=>rw[cy];exact⟨h p (by simp),by simp;grind⟩
  |p::q::r,h=>
   rw[zw (by simp)];generalize hL:p::q::r=L at *
   have hlen:2<=L.length:=by rw[<-hL];simp
   obtain⟨a1,a2⟩:=ih (L.take (L.length/2)) (by rw[Kay];omega) (fun x hx=>h x (Ka4 hx));obtain⟨b1,b2⟩:=ih (L.drop (L.length/2)) (by rw[KaY];omega) (fun x hx=>h x (Kbt hx));refine⟨Lq a1 b1,?_⟩;rw[zJ a1 b1,a2,b2,<-List.sum_append,<-List.map_append,Kbe]
theorem abH:∀(n:Nat)(l:List (List Tm)),l.length<=n->(∀p∈l,bf p)->bf (cy l):=by
 intro n;induction n with
 |zero=>intro l hl _;have:l=[]:=Kat.1 (by omega);subst this;rw[cy];exact bf.nil
 | succ n ih=>
  intro l hl h
  match l,h with
  | [],_=>rw[cy];exact bf.nil
  | [p],h=>rw[cy];exact h p (by simp)
  | p::q::r,h=>
   rw[zw (by simp)];generalize hL:p::q::r=L at *
   have hlen:2<=L.length:=by rw[<-hL];simp
   exact vb (ih (L.take (L.length/2)) (by rw[Kay];omega) (fun x hx=>h x (Ka4 hx)))
    (ih (L.drop (L.length/2)) (by rw[KaY];omega) (fun x hx=>h x (Kbt hx)))
theorem CN(φ:List Int->Rat)(t:Tm):∀(p:List Tm),bZ φ (Qw p t)=t.1*bZ (fun m=>φ (dk m t.2)) p
 | []=>by rw[Qw,List.filterMap_nil,kt,kt];grind
 | s::p=>by
  have ih:=CN φ t p;rw[Qw]at ih⊢;rw[KcD];by_cases h:s.1*t.1=0
  ·simp only[h,if_true,fc];rw[ih];have:t.1*(s.1*φ (dk s.2 t.2))=(s.1*t.1)*φ (dk s.2 t.2):=by grind
   rw[Rat.mul_add,this,h];grind
  ·simp only[h,if_false,fc];rw[ih];grind
theorem G7(p:List Tm)(t:Tm):Can (Qw p t):=by
 intro x hx;simp only[Qw,Kb0]at hx;obtain⟨y,hy,h⟩:=hx;split at h
 ·cases h
 ·cases h;exact zt _ _
theorem Zp(p:List Tm)(t:Tm):NZ (Qw p t):=by
 intro x hx;simp only[Qw,Kb0]at hx;obtain⟨y,hy,h⟩:=hx;split at h
 ·cases h
 ·rename_i h0;cases h;exact h0
theorem NK(t:Tm):∀(p:List Tm),iH p->iH (Qw p t)
 | [],_=>trivial
 | s ::p,hp=>by
  have ih:=NK t p hp.2;rw[Qw]at ih⊢;rw[KcD];split
  ·exact ih
  ·rename_i b hb;split at hb
   ·cases hb
   ·cases hb;refine⟨fun x hx=>?_,ih⟩;simp only[Kb0]at hx;obtain⟨y,hy,h⟩:=hx;split at h
    ·cases h
    ·cases h;simp only[aaQ];exact hp.1 y hy
theorem G8{p:List Tm}(t:Tm)(hp:iH p):bf (Qw p t):=⟨G7 _ _,Zp _ _,NK t p hp⟩
theorem Pa(φ:List Int->Rat)(q:List Tm):∀(p:List Tm),((p.map (Qw q)).map (bZ φ)).sum=bZ (fun m=>bZ (fun n=>φ (dk m n)) q) p
 | []=>rfl
 |t::p=>by rw[Kbk,Kbk,KcU,Pa φ q p,CN,fc];congr 2;exact si fun s _=>by rw[zu]
theorem PH(φ:List Int->Rat)(p q:List Tm):bZ φ (oV p q)=bZ (fun m=>bZ (fun n=>φ (dk m n)) q) p:=by rw[oV,(Zj (φ:=φ) _ _ (Kae _) ?_).2,Pa];intro x hx;obtain⟨t,_,rfl⟩:=KaE.1 hx;exact G7 _ _
theorem zK(φ:List Int->Rat)(p q:List Tm):bZ φ (Q8 p q)=bZ (fun m=>bZ (fun n=>φ (dk m n)) q) p:=by
 unfold Q8;split
 ·rw[PH,Dx (fun m n=>φ (dk m n))];exact si fun s _=>si fun t _=>by rw[zu]
 ·exact PH φ p q
theorem PI{p q:List Tm}(hq:iH q):bf (oV p q):=abH _ _ (Kae _) fun x hx=>by obtain⟨t,_,rfl⟩:=KaE.1 hx;exact G8 t hq
theorem tH{p q:List Tm}(hp:iH p)(hq:iH q):bf (Q8 p q):=by
 unfold Q8;split
 ·exact PI hp
 ·exact PI hq
theorem wY(φ:List Int->Rat){p:List Tm}(hp:Can p)(a:Rat):bZ φ (dS p a)=a*bZ φ p:=by
 unfold dS;split
 ·rename_i h;rw[h,kt];grind
 ·rw[CN];congr 1;exact si fun s hs=>by rw[Dq (hp s hs)]
theorem oI{p:List Tm}(hp:iH p)(a:Rat):bf (dS p a):=by
 unfold dS;split
 ·exact bf.nil
 ·exact G8 _ hp
theorem abI(φ:List Int->Rat){p:List Tm}(hp:Can p):bZ φ (tS p)= -bZ φ p:=by rw[tS,wY φ hp];grind
theorem abJ(φ:List Int->Rat){p q:List Tm}(hp:Can p)(hq:bf q):bZ φ (bK p q)=bZ φ p-bZ φ q:=by rw[bK,zJ hp (show Can (tS q)from(oI hq.s _).c),abI φ hq.c];grind
theorem abK{p q:List Tm}(hp:bf p)(hq:bf q):bf (bK p q):=vb hp (oI hq.s _)
theorem Zt{p q:List Tm}(hp:bf p)(hq:bf q):Q8 p q=Q8 q p:=
 xq (tH hp.s hq.s) (tH hq.s hp.s) fun φ=>by rw[zK,zK,Dx (fun m n=>φ (dk m n))];exact si fun s _=>si fun t _=>by rw[zu]
theorem CO(a:Rat):bf (cD a):=by
 unfold cD;split
 ·exact bf.nil
 ·rename_i h;exact bf.one h (by simp)
theorem WD(φ:List Int->Rat)(a:Rat):bZ φ (cD a)=a*φ []:=by
 unfold cD;split
 ·rename_i h;rw[h,kt];grind
 ·rw[fc,kt];grind
def oW(p q:List Tm):List Tm:=q.foldl (fun out t=>Qq out (Qw p t)) []
theorem QD(p:List Tm)(hp:bf p):∀(q out:List Tm),bf out->bf (q.foldl (fun out t=>Qq out (Qw p t)) out)/\
  ∀φ,bZ φ (q.foldl (fun out t=>Qq out (Qw p t)) out)=bZ φ out+bZ (fun m=>bZ (fun n=>φ (dk n m)) p) q
 | [],out,h=>⟨h,fun φ=>by rw[List.foldl_nil,kt];grind⟩
 |t::q,out,h=>by obtain⟨h1,h2⟩:=QD p hp q (Qq out (Qw p t)) (vb h (G8 t hp.s));refine⟨h1,fun φ=>?_⟩;rw[List.foldl_cons,h2,zJ h.c (G7 _ _),CN,fc];grind
theorem Hy{p q:List Tm}(hp:bf p)(hq:bf q):oW p q=Q8 p q:=by obtain⟨h1,h2⟩:=QD p hp q [] bf.nil;refine xq h1 (tH hp.s hq.s) fun φ=>?_;rw[oW,h2,zK,kt,Dx (fun m n=>φ (dk m n))];grind
variable {C : Ctx} {fr : Fr} {hp : HP} {w : World} {K R : Qi}
theorem qP{len e β j o d i:Nat}{k:IntKind}(h:i<len):jI len e (.mp β j o) (.int k (i:Int)) d fr hp K=K (ab fr d (.mp β j (o+i*e))) hp:=by simp only[jI,Kbg];exact propext ⟨fun h=>h.2.2,fun h'=>⟨by omega,by omega,h'⟩⟩
theorem Vo{e by_ ty d:Nat}(h0:0<e):iL e by_ ty .aa (.sl e []) d fr hp K=K (ab (bE d fr) d (.ms d 0)) (Qk hp d ⟨e,ty,[],false⟩):=by have:=G1 (fr:=fr) (hp:=hp) (K:=K) (e:=e) (by_:=by_) (ty:=ty) (d:=d) (x:=.sl e []) (ys:=[]) rfl h0 (by simp) (by simp);simpa using this
end Go.FW
namespace Go.FW
open Go
theorem Ii{m:List Int}{c:Rat}:∀ {u v:List Tm},(∀t∈u,0<aX t.2 m)->(∀t∈v,aX t.2 m<0)->Qq (u++v) [(c,m)]=u++(c,m)::v
 | [],[],_,_=>by rw[KaH,qO];rfl
 | [],t::v,_,hv=>by have h1:=hv t (by simp);rw[KaH,zx,if_neg (by show ¬0<aX t.2 m;omega),if_pos (by exact h1),kX];rfl
 |t::u,v,hu,hv=>by rw[KaJ,zx,if_pos (by exact hu t (by simp)),Ii (fun s hs=>hu s (by simp[hs])) hv];rfl
theorem LI{m:List Int}{c d:Rat}:∀ {u v:List Tm},(∀t∈u,0<aX t.2 m)->Qq (u++(d,m)::v) [(c,m)]=u++(if d+c=0 then []else [(d+c,m)])++v
 | [],v,_=>by have h0:=Hj m;rw[KaH,zx,if_neg (by show ¬0<aX m m;omega),if_neg (by show ¬aX m m<0;omega)];show(if d+c=0 then Qq v []else(d+c,m)::Qq v [])=_;rw[kX];split<;>rfl
 |t::u,v,hu=>by rw[KaJ,zx,if_pos (by exact hu t (by simp)),LI (fun s hs=>hu s (by simp[hs]))];simp
def nS(p:List Tm)(c:Rat)(m:List Int):List Tm:=Qq p (if c=0 then []else [(c,m)])
theorem UA{p:List Tm}(hs:iH p):∀ {i:Nat} (h:i<p.length),∀t∈p.take i,0<aX t.2 p[i].2:=by
 induction p with
 |nil=>intro i h;simp at h
 | cons s p ih=>
  intro i h t ht;cases i with
  |zero=>simp at ht
  |succ i=>
   simp only[List.take_succ_cons,KaC]at ht;have hi:i<p.length:=by simpa using h
   show 0<aX t.2 p[i].2;rcases ht with rfl|ht
   ·exact hs.1 _ (Kah hi)
   ·exact ih hs.2 hi t ht
def mG(t:Tm):cm:=⟨decide (t.1.num<0),ak t.1.num.natAbs,ak t.1.den,t.2⟩
theorem Lr(p:List Tm):PV.kT (p.map mG)=PV.ao p:=by show PV.sl 4 ((p.map mG).map PV.qE)=PV.sl 4 (p.map PV.term);rw[List.map_map];rfl
theorem af9{t:Tm}{k:Nat}(h:rs t.1<=k)(hm:t.2.length<2^40):RB k (mG t):=by
 have h1:nl t.1.num.natAbs<=k:=by unfold rs at h;omega
 have h2:nl t.1.den<=k:=by unfold rs at h;omega
 exact⟨⟨Qn _,Qn _,h1,h2⟩,hm⟩
def df(a:Rat):Nat->Rat
 |0=>1
 |n+1=>df a n*a
theorem Hq(a:Rat):df a 0=1:=rfl
theorem abL(a:Rat):df a 1=a:=by show 1*a=a;grind
theorem abM(a:Rat)(m:Nat):∀n,df a (m+n)=df a m*df a n
 |0=>by rw[KaM,Hq];grind
 |n+1=>by
  rw[<-Nat.add_assoc];show df a (m+n)*a=df a m*(df a n*a)
  rw[abM a m n];grind
theorem Ij(a:Rat):∀k,df (a*a) k=df a (2*k)
 |0=>rfl
 |k+1=>by show df (a*a) k*(a*a)=_;rw[Ij a k,show 2*(k+1)=2*k+1+1 by omega];show _=df a (2*k)*a*a;grind
theorem Qxk{a:Rat}{n:Nat}(h:n%2=0):df (a*a) (n/2)=df a n:=by rw[Ij];congr 1;omega
theorem Qz4{a:Rat}{n:Nat}(h:n%2=1):df (a*a) (n/2)*a=df a n:=by rw[Ij,show n=2*(n/2)+1 by omega,show 2*((2*(n/2)+1)/2)=2*(n/2)by omega];rfl
theorem Ik(a:Rat):∀n,rs (df a n)<=1+rs a*n
 |0=>by have:=pV;show rs 1<=_;omega
 |n+1=>by have:=Ik a n;have:=vj (df a n) a;rw[KaW];show rs (df a n*a)<=_;omega
def jQ(vs:List Rat)(m:List Int):Nat->Rat
 |0=>1
 |n+1=>jQ vs m n*df (vs.getD n 0) (eN m n).toNat
def uN(vs:List Rat)(m:List Int):Rat:=jQ vs m m.length
def lT(vs:List Rat)(p:List Tm):Rat:=bZ (uN vs) p
def ub(vs:List Rat)(p:List Tm):Bool:=p.any fun t=>decide (vs.length<t.2.length)
abbrev PV.TJ(vs:List Rat):PV:=.sl 3 (vs.map PV.rat)
def Em(vs:List Rat)(p:List Tm):PV:=if ub vs p=true then .aI [PV.rr false [] [],.int .i64 2]else .aI [PV.rat (lT vs p),.int .i64 0]
theorem Pb{vs:List Rat}{p:List Tm}{i:Nat}(h:i<p.length):lT vs (p.take (i+1))=lT vs (p.take i)+p[i].1*uN vs p[i].2:=by rw[Kao h,lT,O',fc,kt,lT];grind
theorem Il{vs:List Rat}{m:List Int}{E W:Nat}(hm:MB E m)(hv:∀v∈vs,rs v<=W)(hW:1<=W)(c:Rat):∀n,rs (c*jQ vs m n)<=rs c+n*(1+W*E)
 |0=>by
  have:c*jQ vs m 0=c:=by show c*1=c;grind
  rw[this];omega
 | n+1=>by
  have h1:=Il hm hv hW c n;have h2:=Ik (vs.getD n 0) (eN m n).toNat;have h3:rs (vs.getD n 0)<=W:=by
   by_cases h:n<vs.length
   ·rw[Kad,Kag h];exact hv _ (Kah h)
   ·rw[Kad,Kcw (by omega)];have:=Ks;show rs 0<=W;omega
  have h4:(eN m n).toNat<=E:=by have:=(hm.eN n).2;omega
  have h5:rs (vs.getD n 0)*(eN m n).toNat<=W*E:=KbO h3 h4;have h6:=vj (c*jQ vs m n) (df (vs.getD n 0) (eN m n).toNat);have e:c*jQ vs m (n+1)=(c*jQ vs m n)*df (vs.getD n 0) (eN m n).toNat:=by show c*(jQ vs m n*_)=_;grind
  rw[e,KaD];omega
theorem Hz{vs:List Rat}{p:List Tm}{K E W:Nat}(hp:PB K E p)(hv:∀v∈vs,rs v<=W)(hW:1<=W):∀i,i<=p.length->rs (lT vs (p.take i))<=1+i*(K+64*(1+W*E))
 |0,_=>by have:=Ks;show rs 0<=_;omega
 |i+1,h=>by have h1:=Hz hp hv hW i (by omega);have ht:=hp.get (i:=i) (by omega);have h2:=Il (vs:=vs) ht.m hv hW p[i].1 p[i].2.length;have h3:=vh (lT vs (p.take i)) (p[i].1*uN vs p[i].2);have h4:p[i].2.length*(1+W*E)<=64*(1+W*E):=Kam _ ht.m.len;have h5:=ht.c;rw[Pb (by omega),KaD];have h6:rs (p[i].1*uN vs p[i].2)<=rs p[i].1+p[i].2.length*(1+W*E):=h2;omega
theorem WE{B B':List Nat}{F:Fr}(h:(B'.all B.contains)=true):Qz B' (Qz B F)=Qz B F:=by
 funext s;rw[Hi B'];split
 ·rename_i h1;rw[Hi B]at h1⊢;split
  ·rfl
  ·rename_i h2;rw[if_neg h2]at h1;exfalso;apply h2;rw[KaS]at h1⊢;obtain⟨x,hx,hb⟩:=h1;rw[Kap]at h;exact⟨x,hx,h x (List.contains_iff_mem.1 hb)⟩
 ·rfl
theorem WG{W:List (Nat×Nat)}{B:List Nat}{J F:Fr}:Qz B (bd W J F)=bd W (Qz B J) (Qz B F):=by funext s;unfold Qz bd;split<;>rfl
theorem Vp{V W:List (Nat×Nat)}{B B':List Nat}{X Z F:Fr}(h:Cb V W=true)(hB:(B'.all B.contains)=true):bd V X (Qz B' (bd W Z (Qz B F)))=bd W (bd V X (Qz B' Z)) (Qz B F):=by rw[WG,WE hB,nO h]
section
variable {C : Ctx} {fr : Fr} {hp : HP} {w : World} {K R : Qi}
end
def Gp(m:List Int)(v:Nat):List Int:=qW (m.set v 0)
def Aq(p:List Tm)(v:Nat)(n:Int):List Tm:=p.filterMap fun t=>if eN t.2 v=n then some (t.1,Gp t.2 v)else none
theorem Zv{p:List Tm}{v:Nat}{n:Int}{t:Tm}(h:t∈Aq p v n):∃s∈p,eN s.2 v=n/\t=(s.1,Gp s.2 v):=by
 simp only[Aq,Kb0]at h;obtain⟨s,h1,h2⟩:=h;split at h2
 ·rename_i h3;cases h2;exact⟨s,h1,h3,rfl⟩
 ·cases h2
end Go.FW
namespace Go.FW
open Go
def yw(p:List Tm)(v:Nat)(q:List Tm)(top:Nat):Nat->List Tm
 |0=>Aq p v top
 |k+1=>Qq (Q8 (yw p v q top k) q) (Aq p v ((top:Int)-(k+1)))
def dT(vs:List Rat)(v:Nat)(b:Rat)(n:Int):List Tm->Rat
 | []=>0
 |t::p=>(if n<=eN t.2 v then t.1*uN vs (Gp t.2 v)*df b (eN t.2 v-n).toNat else 0)+dT vs v b n p
def ML(n:Nat)(p:List Tm):Prop:=∀t∈p,t.2.length<=n
theorem ML.uR{n:Nat}{p q:List Tm}(hp:ML n p)(hq:ML n q):ML n (Qq p q):=fun t ht=>by
 rcases xj ht with⟨s,h1,h2⟩|⟨s,h1,h2⟩
 ·rw[<-h2];exact hp s h1
 ·rw[<-h2];exact hq s h1
theorem abN(a b:List Int):(dk a b).length<=max a.length b.length:=by
 have:=Cr (kB (· + ·) a b)
 rwa[pE]at this
theorem WH{p:List Tm}{t x:Tm}(h:x∈Qw p t):∃s∈p,x.2=dk s.2 t.2:=by
 simp only[Qw,Kb0]at h;obtain⟨y,hy,h⟩:=h;split at h
 ·cases h
 ·cases h;exact⟨y,hy,rfl⟩
theorem abO:∀(n:Nat)(l:List (List Tm)),l.length<=n->∀ {t:Tm},t∈cy l->∃p∈l,∃s∈p,s.2=t.2:=by
 intro n;induction n with
 |zero=>intro l hl t ht;have:l=[]:=Kat.1 (by omega);subst this;rw[cy]at ht;cases ht
 | succ n ih=>
  intro l hl t ht
  match l,ht with
  | [],ht=>rw[cy]at ht;cases ht
  | [p],ht=>rw[cy]at ht;exact⟨p,by simp,t,ht,rfl⟩
  | p::q::r,ht=>
   rw[zw (by simp)]at ht;generalize hL:p::q::r=L at *
   have hlen:2<=L.length:=by rw[<-hL];simp
   rcases xj ht with⟨s,h1,h2⟩|⟨s,h1,h2⟩
   ·obtain⟨p',hp',s',ek,e⟩:=ih _ (by rw[Kay];omega) h1;exact⟨p',Ka4 hp',s',ek,e.trans h2⟩
   ·obtain⟨p',hp',s',ek,e⟩:=ih _ (by rw[KaY];omega) h1;exact⟨p',Kbt hp',s',ek,e.trans h2⟩
theorem abP{p q:List Tm}{t:Tm}(h:t∈Q8 p q):∃a∈p,∃b∈q,t.2=dk a.2 b.2:=by
 have main:∀ {p q:List Tm},t∈oV p q->∃a∈p,∃b∈q,t.2=dk a.2 b.2:=fun {p q} h=>by obtain⟨x,hx,s,hs,e⟩:=abO _ _ (Kae _) h;obtain⟨a,ha,rfl⟩:=KaE.1 hx;obtain⟨b,hb,e2⟩:=WH hs;exact⟨a,ha,b,hb,by rw[<-e,e2,zu]⟩
 unfold Q8 at h;split at h
 ·obtain⟨a,ha,b,hb,e⟩:=main h;exact⟨b,hb,a,ha,by rw[e,zu]⟩
 ·exact main h
theorem ML.tp{n:Nat}{p q:List Tm}(hp:ML n p)(hq:ML n q):ML n (Q8 p q):=fun t ht=>by obtain⟨a,ha,b,hb,e⟩:=abP ht;have:=abN a.2 b.2;have:=hp a ha;have:=hq b hb;rw[e];omega
theorem ML.Rz{n:Nat}{p:List Tm}(hp:ML n p)(v:Nat)(k:Int):ML n (Aq p v k):=fun t ht=>by obtain⟨s,h1,_,rfl⟩:=Zv ht;have:=Cr (s.2.set v 0);rw[List.length_set]at this;exact KaO this (hp s h1)
theorem ML.yw{n:Nat}{p q:List Tm}(hp:ML n p)(hq:ML n q)(v top:Nat):∀k,ML n (yw p v q top k)
 |0=>hp.Rz v _
 |k+1=>((ML.yw hp hq v top k).tp hq).uR (hp.Rz v _)
def gO(v n:Nat):List Int:=List.replicate v 0++[(n:Int)]
theorem QE{v n:Nat}(h:0<n):(gO v n).getLast? ≠some 0:=by unfold gO;rw[List.getLast?_append];simp;omega
theorem LJ{v n:Nat}(hv:v<64):MB n (gO v n):=by
 refine⟨by simp[gO];omega,fun x hx=>?_,fun x hx=>?_⟩
 all_goals
  simp only[gO,KaG,List.mem_replicate,Kaw]at hx;omega
variable {C : Ctx} {fr : Fr} {hp : HP} {w : World} {K R : Qi}
end Go.FW
namespace Go.FW
open Go
variable {C : Ctx} {fr : Fr} {hp : HP} {K : Qi}
end Go.FW
namespace Go.FW
open Go
theorem Pc:∀ {p:List Tm},iH p->∀n,iH (p.take n)
 |_,_,0=>trivial
 | [],_,n+1=>trivial
 |t::p,h,n+1=>⟨fun s hs=>h.1 s (Ka4 hs),Pc h.2 n⟩
theorem bf.take{p:List Tm}(h:bf p)(n:Nat):bf (p.take n):=⟨fun t ht=>h.c t (Ka4 ht),fun t ht=>h.z t (Ka4 ht),Pc h.s n⟩
abbrev MF:=Nat->Nat->Rat
end Go.FW
