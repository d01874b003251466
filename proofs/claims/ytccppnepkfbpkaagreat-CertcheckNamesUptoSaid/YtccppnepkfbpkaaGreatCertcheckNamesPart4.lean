/- Part 4 of the proof of CertcheckNames: C1, CI, C1b, N1, N2, N3, N4, N5, N6, N7, N8, N9, N10, N11, N12, N13, N14, N15, I1, R1, R2, FwNG, FwNS, FwNT, FwQA, FwSD, FwSE, FwSF, FwSG, FwSH, FwSI, FwSJ, FwSK, FwSL, FwUA, FwSM, FwUC, FwVA. Own lemmas; no conditions. -/
import Derived.Test.YtccppnepkfbpkaaGreatCertcheckNamesPart3
import Derived.Test.YtccppnepkfbpkaaGreatProg
set_option maxHeartbeats 1000000
set_option linter.unusedSimpArgs false
set_option linter.unusedVariables false
set_option linter.unnecessarySimpa false
set_option maxRecDepth 100000
namespace Go.Proofs.YtccppnepkfbpkaaGreat
open Go Go.FW
theorem Qg:Tryz.prog.follows .mixedOrders=true:=by kernel_rfl
def Rp:ay:=⟨21,[.t 2],Zr (YG 2)<|Zr (Yq 4 0<|
 Zm 3 5 .nil)<| .seq (.block 0<| .loop<| .seq (Zr (YA 6 3 1<|
 Zg 8 true (.ld 13 1 false (.t 12))<|
 Zg 8 true (.bin 14 .eql false (.t 13) (.c (.int .u16 0)))<|
 Yk 15 8 14 .nil)<| .cond (.t 15) .skip (.exit 0))<| .block 1<| .rg (rm 16 3))<|Zr (Yf 18 0 3<|
 Zo (.sl 20 1 (.t 18) none (some (.t 19)) none)<|
 Yc 2 20) .ret⟩
theorem Mt:Qe Tryz.prog Tryz.f151=some Rp:=by kernel_rfl
def alf:ay:=⟨16,[.t 2],Zr (YG 2)<|Zr (YH 4 0 151<|
 Zm 0 5 .nil)<| .seq (Zr (Yq 6 0<|
 gp 8 7 0)<| .cond (.t 8) (Zr (YG 2) .ret) .skip)<|Zr (Yq 9 0<|
 pZ 11 10 10<|
 Zm 3 11 .nil)<|Zr (Yf 12 3 0<|
 Zo (.uj 14 1 (.t 12) (.t 13)) .nil)<|Zr (dn 15 3 2) .ret⟩
theorem adZ:Qe Tryz.prog Tryz.f153=some alf:=by kernel_rfl
def alx:ay:=⟨14,[.t 2],Zr (YG 2)<|Zr (YG 3)<| .seq (.block 0<| .loop<| .seq (Zr (Zm 4 0<|
 Zo (.bin 5 .gtr false (.t 4) (.c (.int .u64 0))) .nil)<| .cond (.t 5) .skip (.exit 0))<| .seq (.block 1<| .rg (Yf 8 3 0<|
 Zo (.conv 10 .u16 (.t 9))<|
 YB 11 1 128 10 2 8<|
 Zm 3 12 .nil))<| .rg (ue 6 0<|
 Zm 0 7 .nil))<|Zr (Zm 13 3<|
 Zm 2 13 .nil) .ret⟩
theorem ad0:Qe Tryz.prog Tryz.f170=some alx:=by kernel_rfl
def alF:ay:=⟨28,[.t 2,.t 3],Zr (Zo (.mv 2 (.c (.int .u64 0)))<|
 Ye 3)<|Zr (YH 7 0 151<|
 Zm 0 8 .nil)<| .seq (Zr (Yq 9 0<|
 gK 11 10 4)<| .cond (.t 11) (Zr (Zo (.mv 2 (.c (.int .u64 0)))<|
 Ye 3) .ret) .skip)<|Zr (Zo (.mv 4 (.c (.int .u64 0))) .nil)<| .seq (Zr (eT 12 0)<| .block 0<| .loop<|Zr (Yu 15 14 13)<| .seq (.cond (.t 15) .skip (.exit 0))<| .seq (.block 1<|Zr (Zm 16 14<|
 Yo 17 12 14<|
 Zm 5 16<|
 Zm 6 18 .nil)<| .rg (Yf 19 4 6<|
 lg 21 20<|
 Zm 22 5<|
 Zo (.bin 23 .mul false (.c (Zz 16)) (.t 22))<|
 Zb 24 .shl 21 23<|
 Zb 25 .or 19 24<|
 Yc 4 25))<| .rg (YE 26 14 14))<|Zr (Zm 27 4<|
 Zm 2 27<|
 YL 3) .ret⟩
theorem ad1:Qe Tryz.prog Tryz.f178=some alF:=by kernel_rfl
def akD:ay:=⟨20,[.t 2],Zr (Yi 2 0)<|Zr (YH 3 0 151<|
 Zm 0 4 .nil)<| .seq (Zr (Yq 5 0<|
 gp 7 6 0)<| .cond (.t 7) (Zr (Yi 2 0) .ret) .skip)<|Zr (Yq 8 0<|
 Zk 10 .sub 9 1<|
 Zo (.bin 11 .mul false (.c (Zz 16)) (.t 10))<|
 Yf 12 0 0<|
 Zn 14 13<|
 Zk 15 .sub 14 1<|
 Yo 16 12 15<|
 Yn 18 152 17<|
 cT 19 11 18<|
 Yc 2 19) .ret⟩
theorem ad2:Qe Tryz.prog Tryz.f107=some akD:=by kernel_rfl
def alG:ay:=⟨45,[.t 4],Zr (Yi 4 0)<|Zr (YH 6 0 151<|
 YH 8 1 151<|
 Zm 0 7<|
 Zm 1 9 .nil)<| .seq (Zr (jr 10<|
 Zb 14 .neq 11 13 .nil)<| .cond (.t 14) (.seq (Zr (jr 15<|
 Yu 19 16 18)<| .cond (.t 19) (Zr (jT 4) .ret) .skip)<|Zr (Yi 4 1) .ret) .skip)<| .seq (Zr (Yq 20 0<|
 Zk 22 .sub 21 1<|
 Yc 5 22)<| .block 0<| .loop<| .seq (Zr (Zm 23 5<|
 Zk 24 .geq 23 0 .nil)<| .cond (.t 24) .skip (.exit 0))<| .seq (.block 1<| .seq (Zr (fE 27 0 5<|
 fE 31 1 5<|
 Yu 35 30 34)<| .cond (.t 35) (Zr (jT 4) .ret) .skip)<|Zr (fE 36 0 5<|
 fE 40 1 5<|
 Zb 44 .gtr 39 43 .nil)<| .cond (.t 44) (Zr (Yi 4 1) .ret) .skip)<| .rg (rm 25 5))<|Zr (Yi 4 0) .ret⟩
theorem ad3:Qe Tryz.prog Tryz.f179=some alG:=by kernel_rfl
def alM:ay:=⟨64,[.t 4],Zr (YG 4)<|Zr (YH 9 0 151<|
 YH 11 1 151<|
 Zm 0 10<|
 Zm 1 12 .nil)<| .seq (Zr (jr 13<|
 Yu 17 14 16)<| .cond (.t 17) (.rg (Yf 18 1 0<|
 dS 0 18 19)) .skip)<|Zr (Yq 20 0<|
 Yq 22 0<|
 Zk 24 .add 23 1<|
 pZ 25 21 24<|
 Yc 5 25)<|Zr (Zo (.mv 6 (.c (.int .u32 0))) .nil)<| .seq (Zr (eT 26 0)<| .block 0<| .loop<|Zr (Yu 29 28 27)<| .seq (.cond (.t 29) .skip (.exit 0))<| .seq (.block 1<|Zr (qb 30 28 26 7)<|Zr (Yf 33 6 8<|
 kD 35 34<|
 cT 36 33 35<|
 Yc 6 36)<| .seq (Zr (YK 37 7 1)<| .cond (.t 40) (.rg (de 41 6 1 7<|
 Yo 44 42 43<|
 kD 46 45<|
 cT 47 41 46<|
 Yc 6 47)) .skip)<|Zr (de 48 5 7 6<|
 YY 51 50 48 49)<| .rg (ue 53 6<|
 Yc 6 54))<| .rg (Yz 55 28 28))<| .seq (Zr (Zm 56 6<|
 Zo (.bin 57 .gtr false (.t 56) (.c (.int .u32 0))) .nil)<| .cond (.t 57) (.rg (Yf 58 5 6<|
 Zo (.conv 60 .u16 (.t 59))<|
 YB 61 1 128 60 2 58<|
 Yc 5 62)) .skip)<|Zr (dn 63 5 4) .ret⟩
theorem ad4:Qe Tryz.prog Tryz.f187=some alM:=by kernel_rfl
def alN:ay:=⟨56,[.t 4,.t 5],Zr (fo 4 0)<| .seq (Zr (er 11 0 1 179<|
 Zk 14 .lss 13 0 .nil)<| .cond (.t 14) (Zr (fo 4 2) .ret) .skip)<|Zr (YH 15 0 151<|
 YH 17 1 151<|
 dS 0 16 18)<|Zr (Yq 19 0<|
 pZ 21 20 20<|
 Yc 6 21)<|Zr (Zo (.mv 7 (.c (.int .i32 0))) .nil)<| .seq (Zr (eT 22 0)<| .block 0<| .loop<|Zr (Yu 25 24 23)<| .seq (.cond (.t 25) .skip (.exit 0))<| .seq (.block 1<|Zr (qb 26 24 22 8)<|Zr (Zm 29 9<|
 Zo (.conv 30 .i32 (.t 29))<|
 Zm 31 7<|
 Zb 32 .sub 30 31<|
 Yc 10 32)<| .seq (Zr (YK 33 8 1)<| .cond (.t 36) (.rg (de 37 10 1 8<|
 Yo 40 38 39<|
 Zo (.conv 42 .i32 (.t 41))<|
 Zb 43 .sub 37 42<|
 Yc 10 43)) .skip)<|Zr (Zo (.mv 7 (.c (.int .i32 0))) .nil)<| .seq (Zr (Zm 44 10<|
 Zo (.bin 45 .lss false (.t 44) (.c (.int .i32 0))) .nil)<| .cond (.t 45) (Zr (Zm 46 10<|
 Zo (.bin 47 .add false (.t 46) (.c (.int .i32 65536)))<|
 Yc 10 47)<| .rg (Zo (.mv 7 (.c (.int .i32 1))) .nil)) .skip)<| .rg (de 48 6 8 10<|
 YY 51 50 48 49))<| .rg (Yz 53 24 24))<|Zr (YH 54 6 151<|
 Zm 4 55<|
 Yi 5 0) .ret⟩
theorem ad5:Qe Tryz.prog Tryz.f188=some alN:=by kernel_rfl
def akG:ay:=⟨79,[.t 4],Zr (YG 4)<|Zr (YH 11 0 151<|
 YH 13 1 151<|
 Zm 0 12<|
 Yc 1 14)<| .seq (Zr (Yq 15 0<|
 Zk 17 .eql 16 0<|
 Yw 18 17 1<|
 Zg 18 false (.len 20 (.t 19))<|
 Zg 18 false (.bin 21 .eql false (.t 20) (.c (Zz 0)))<|
 ep 22 18 21)<| .cond (.t 22) (Zr (YG 4) .ret) .skip)<|Zr (jr 23<|
 cT 27 24 26<|
 pZ 28 27 27<|
 Yc 5 28)<| .seq (Zr (eT 29 0)<| .block 0<| .loop<|Zr (Yu 32 31 30)<| .seq (.cond (.t 32) .skip (.exit 0))<| .seq (.block 1<|Zr (qb 33 31 29 6)<|Zr (Zo (.mv 8 (.c (.int .u32 0))) .nil)<| .seq (Zr (eT 36 1)<| .block 2<| .loop<|Zr (Yu 39 38 37)<| .seq (.cond (.t 39) .skip (.exit 2))<| .seq (.block 3<|Zr (qb 40 38 36 9)<|Zr (Yf 43 8 5<|
 Yf 45 6 9<|
 cT 47 45 46<|
 Yo 48 44 47<|
 kD 50 49<|
 Zm 51 7<|
 kD 52 51<|
 Zm 53 10<|
 kD 54 53<|
 Zb 55 .mul 52 54<|
 cT 56 50 55<|
 cT 57 43 56<|
 Yc 8 57)<|Zr (de 58 5 6 9<|
 cT 61 59 60<|
 Zm 62 8<|
 YY 63 62 58 61)<| .rg (ue 65 8<|
 Yc 8 66))<| .rg (Yz 67 38 38))<| .rg (Yf 68 5 6<|
 Yq 70 1<|
 cT 72 69 71<|
 Zm 73 8<|
 YY 74 73 68 72))<| .rg (Yz 76 31 31))<|Zr (YH 77 5 151<|
 Yc 4 78) .ret⟩
theorem ad6:Qe Tryz.prog Tryz.f111=some akG:=by kernel_rfl
def alH:ay:=⟨43,[.t 4,.t 5],Zr (Yj 4<|
 Zo (.mv 5 (.c (.int .u16 0))) .nil)<|Zr (Yq 9 0<|
 pZ 11 10 10<|
 Zm 6 11 .nil)<|Zr (Zo (.mv 7 (.c (.int .u32 0))) .nil)<| .seq (Zr (Yq 12 0<|
 Zk 14 .sub 13 1<|
 Zm 8 14 .nil)<| .block 0<| .loop<| .seq (Zr (Zm 15 8<|
 Zk 16 .geq 15 0 .nil)<| .cond (.t 16) .skip (.exit 0))<| .seq (.block 1<|Zr (Zm 19 7<|
 Zo (.bin 20 .shl false (.t 19) (.c (.int .u64 16)))<|
 fE 21 0 8<|
 kD 25 24<|
 Zb 26 .or 20 25<|
 Yc 7 26)<|Zr (Yf 27 6 8<|
 Yf 29 7 1<|
 kD 31 30<|
 Zb 32 .quo 29 31<|
 YY 33 32 27 28)<| .rg (Yf 35 7 1<|
 kD 37 36<|
 Zb 38 .rem 35 37<|
 Yc 7 38))<| .rg (Zm 17 8<|
 Zk 18 .sub 17 1<|
 Zm 8 18 .nil))<|Zr (YH 39 6 151<|
 Zm 41 7<|
 Zo (.conv 42 .u16 (.t 41))<|
 dS 4 40 42) .ret⟩
theorem ad7:Qe Tryz.prog Tryz.f180=some alH:=by kernel_rfl
def ali:ay:=⟨71,[.t 4,.t 5,.t 6],Zr (Yj 4<|
 fo 5 0)<|Zr (YH 12 0 151<|
 YH 14 1 151<|
 dS 0 13 15)<| .seq (.block 0<|Zr (Yq 17 1<|
 Ys 19 18 0 16)<| .cond (.t 16) (Zr (Yj 4<|
 fo 5 3) .ret) (Zr (er 21 0 1 179<|
 Zk 24 .lss 23 0<|
 Zm 20 24 .nil)<| .cond (.t 20) (Zr (YH 25 0 153<|
 Yj 4<|
 Zm 5 26<|
 Yi 6 0) .ret) (Zr (Yq 28 1<|
 Ys 30 29 1 27)<| .cond (.t 27) (Zr (Yf 32 0 1<|
 Yv 34 33 0<|
 YV 36 180 32 35 31<|
 dS 7 37 38)<|Zr (Yf 39 7 8<|
 lg 41 40<|
 Yn 42 170 41<|
 Yf 4 39 42<|
 Yi 6 0) .ret) .skip)))<|Zr (Yf 43 1 1<|
 Zn 45 44<|
 Zk 46 .sub 45 1<|
 Yo 47 43 46<|
 Yn 49 181 48<|
 Yc 9 49)<|Zr (er 50 0 9 182<|
 Zo (.bs 53 1 128 [.c (.int .u16 0),.c (.int .u16 0)])<|
 Zo (.app 54 1 2 128 (.t 52) (.t 53))<|
 Yq 55 0<|
 Zk 57 .add 56 1<|
 Zo (.sl 58 1 (.t 54) none (some (.t 57)) none)<|
 Yc 10 58)<|Zr (er 59 1 9 182<|
 Yc 11 61)<|Zr (er 62 10 11 183<|
 Yc 4 64)<|Zr (Yf 65 4 10<|
 Yn 67 151 66<|
 Zm 68 9<|
 Zo (.un 69 .neg (.t 68))<|
 Yl 70 182 67 69<|
 Yf 4 65 70<|
 Yi 6 0) .ret⟩
theorem ad8:Qe Tryz.prog Tryz.f156=some ali:=by kernel_rfl
def alQ:ay:=⟨31,[.t 6],Zr (Ye 6)<|Zr (Zl 7 1 0<|
 Zo (.bin 8 .geq false (.t 7) (.c (.int .u64 65536)))<|
 Zm 9 8<|
 Zg 9 false (.ld 10 1 false (.t 0))<|
 Zg 9 false (.ld 11 1 false (.t 1))<|
 Zg 9 false (.ld 12 1 false (.t 2))<|
 Zg 9 false (.bin 13 .sub false (.t 12) (.c (Zz 2)))<|
 Zg 9 false (.idx 14 1 (.t 11) (.t 13))<|
 Zg 9 false (.ld 15 1 false (.t 14))<|
 Zg 9 false (.conv 16 .u64 (.t 15))<|
 Zg 9 false (.bin 17 .mul false (.t 10) (.t 16))<|
 Zg 9 false (.ld 18 1 false (.t 3))<|
 Zg 9 false (.bin 19 .shl false (.t 18) (.c (.int .u64 16)))<|
 Zg 9 false (.ld 20 1 false (.t 4))<|
 Zg 9 false (.ld 21 1 false (.t 5))<|
 Zg 9 false (.ld 22 1 false (.t 2))<|
 Zg 9 false (.bin 23 .add false (.t 21) (.t 22))<|
 Zg 9 false (.bin 24 .sub false (.t 23) (.c (Zz 2)))<|
 Zg 9 false (.idx 25 1 (.t 20) (.t 24))<|
 Zg 9 false (.ld 26 1 false (.t 25))<|
 Zg 9 false (.conv 27 .u64 (.t 26))<|
 Zg 9 false (.bin 28 .or false (.t 19) (.t 27))<|
 Zg 9 false (.bin 29 .gtr false (.t 17) (.t 28))<|
 Yh 30 9 29<|
 Yc 6 30) .ret⟩
theorem ad9:Qe Tryz.prog Tryz.f190=some alQ:=by kernel_rfl
def Ru:ay:=⟨54,[.t 6],Zr (Ye 6)<|Zr (Zo (.mv 7 (.c (.int .u32 0))) .nil)<|Zr (Zo (.mv 8 (.c (.int .i32 0))) .nil)<| .seq (Zr (eT 11 0)<| .block 0<| .loop<|Zr (Yu 14 13 12)<| .seq (.cond (.t 14) .skip (.exit 0))<| .seq (.block 1<|Zr (Zm 15 13<|
 Zm 9 15 .nil)<| .seq (Zr (YK 16 9 1)<| .cond (.t 19) (.rg (Yf 20 7 2<|
 fE 22 1 9<|
 kD 26 25<|
 Zb 27 .mul 21 26<|
 cT 28 20 27<|
 Yc 7 28)) .skip)<|Zr (fE 29 0 9<|
 Zo (.conv 33 .i32 (.t 32))<|
 Zm 34 7<|
 Zo (.conv 35 .u16 (.t 34))<|
 Zo (.conv 36 .i32 (.t 35))<|
 Zb 37 .sub 33 36<|
 Zm 38 8<|
 Zb 39 .sub 37 38<|
 Yc 10 39)<|Zr (ue 40 7<|
 Yc 7 41)<|Zr (Zo (.mv 8 (.c (.int .i32 0))) .nil)<| .seq (Zr (Zm 42 10<|
 Zo (.bin 43 .lss false (.t 42) (.c (.int .i32 0))) .nil)<| .cond (.t 43) (Zr (Zm 44 10<|
 Zo (.bin 45 .add false (.t 44) (.c (.int .i32 65536)))<|
 Yc 10 45)<| .rg (Zo (.mv 8 (.c (.int .i32 1))) .nil)) .skip)<| .rg (de 46 0 9 10<|
 YY 49 48 46 47))<| .rg (Yz 51 13 13))<|Zr (Zm 52 8<|
 Zo (.bin 53 .gtr false (.t 52) (.c (.int .i32 0)))<|
 Yc 6 53) .ret⟩
theorem aea:Qe Tryz.prog Tryz.f191=some Ru:=by kernel_rfl
def Rv:ay:=⟨37,[],Zr (Zo (.mv 4 (.c (.int .u32 0))) .nil)<|Zr (eT 6 0)<| .block 0<| .loop<|Zr (Yu 9 8 7)<| .seq (.cond (.t 9) .skip (.exit 0))<| .seq (.block 1<|Zr (Zm 10 8<|
 Zm 5 10 .nil)<|Zr (de 11 4 0 5<|
 Yo 14 12 13<|
 kD 16 15<|
 cT 17 11 16<|
 Yc 4 17)<| .seq (Zr (YK 18 5 1)<| .cond (.t 21) (.rg (de 22 4 1 5<|
 Yo 25 23 24<|
 kD 27 26<|
 cT 28 22 27<|
 Yc 4 28)) .skip)<|Zr (de 29 0 5 4<|
 YY 32 31 29 30)<| .rg (ue 34 4<|
 Yc 4 35))<| .rg (Yz 36 8 8)⟩
theorem adB:Qe Tryz.prog Tryz.f192=some Rv:=by kernel_rfl
def alh:ay:=⟨51,[.t 4],Zr (YG 4)<|Zr (YH 12 0 153<|
 YH 14 1 153<|
 dS 0 13 15)<| .seq (.block 0<| .loop<| .seq (Zr (Yq 16 1<|
 gK 18 17 0)<| .cond (.t 18) .skip (.exit 0))<| .block 1<|Zr (YH 20 0 178<|
 Zm 19 21<|
 Yd 22 19<|
 dS 5 22 23)<|Zr (YH 25 1 178<|
 Zm 24 26<|
 Yd 27 24<|
 dS 7 27 28)<| .seq (Zr (Zm 29 6<|
 YJ 30 29 8<|
 Yk 32 30 31 .nil)<| .cond (.t 32) (.seq (.block 2<| .loop<| .seq (Zr (Zm 33 7<|
 Zo (.bin 34 .gtr false (.t 33) (.c (.int .u64 0))) .nil)<| .cond (.t 34) .skip (.exit 2))<| .block 3<| .rg (de 35 7 5 7<|
 Zb 38 .rem 36 37<|
 Zm 5 35<|
 Yc 7 38))<|Zr (YH 39 5 170<|
 Yc 4 40) .ret) .skip)<|Zr (Yf 42 0 1<|
 YV 44 156 42 43 41<|
 Zo (.ext 47 (.t 41) 2)<|
 Yf 9 45 46<|
 Yc 11 47)<| .rg (Yf 48 1 10<|
 dS 0 48 49))<|Zr (dn 50 0 4) .ret⟩
theorem adC:Qe Tryz.prog Tryz.f155=some alh:=by kernel_rfl
def Rs:ay:=⟨78,[.t 4],Zr (YG 4)<|Zr (YH 11 0 151<|
 Zm 0 12 .nil)<| .seq (Zr (Zm 13 1<|
 Zk 14 .lss 13 (-1048576)<|
 ri 15 14 1 1048576<|
 Yh 18 15 17<|
 Yw 19 18 0<|
 Zg 19 false (.len 21 (.t 20))<|
 Zg 19 false (.bin 22 .eql false (.t 21) (.c (Zz 0)))<|
 ep 23 19 22)<| .cond (.t 23) (Zr (YG 4) .ret) .skip)<| .seq (Zr (iX 24 1 .nil)<| .cond (.t 25) (Zr (Yf 26 0 1<|
 Zo (.un 28 .neg (.t 27))<|
 Yl 29 189 26 28<|
 Yc 4 29) .ret) .skip)<|Zr (Zm 30 1<|
 Zk 31 .quo 30 16<|
 Zm 32 1<|
 Zk 33 .rem 32 16<|
 dS 5 31 33)<|Zr (Yq 34 0<|
 Zm 36 5<|
 cT 37 35 36<|
 Zk 38 .add 37 1<|
 Yq 39 0<|
 Zm 41 5<|
 cT 42 40 41<|
 Zk 43 .add 42 3<|
 pZ 44 38 43<|
 Yc 7 44)<| .seq (Zr (eT 45 0)<| .block 0<| .loop<|Zr (Yu 48 47 46)<| .seq (.cond (.t 48) .skip (.exit 0))<| .seq (.block 1<|Zr (qb 49 47 45 8)<|Zr (Zm 52 9<|
 kD 53 52<|
 Zm 54 6<|
 Zb 55 .shl 53 54<|
 Yc 10 55)<|Zr (de 56 7 8 5<|
 cT 59 57 58<|
 Yo 60 56 59<|
 Zm 62 10<|
 Zo (.conv 63 .u16 (.t 62))<|
 Zb 64 .or 61 63<|
 Zi 65 1 56 59<|
 Zs 1 65 64 .nil)<| .rg (de 66 7 8 5<|
 cT 69 67 68<|
 Zk 70 .add 69 1<|
 ue 71 10<|
 YY 73 72 66 70))<| .rg (Yz 75 47 47))<|Zr (YH 76 7 151<|
 Yc 4 77) .ret⟩
theorem IC:Qe Tryz.prog Tryz.f182=some Rs:=by kernel_rfl
def alO:ay:=⟨63,[.t 4],Zr (YG 4)<|Zr (Zm 10 1<|
 Zk 11 .quo 10 16<|
 Zm 12 1<|
 Zk 13 .rem 12 16<|
 Zm 5 11<|
 Zm 6 13 .nil)<| .seq (Zr (Yf 14 5 0<|
 Zn 16 15<|
 Zb 17 .geq 14 16 .nil)<| .cond (.t 17) (Zr (YG 4) .ret) .skip)<|Zr (Yq 18 0<|
 Zm 20 5<|
 Zb 21 .sub 19 20<|
 pZ 22 21 21<|
 Yc 7 22)<| .seq (Zr (eT 23 7)<| .block 0<| .loop<|Zr (Yu 26 25 24)<| .seq (.cond (.t 26) .skip (.exit 0))<| .seq (.block 1<|Zr (dn 27 25 8)<|Zr (de 28 0 8 5<|
 cT 31 29 30<|
 Yo 32 28 31<|
 kD 34 33<|
 Yc 9 34)<| .seq (Zr (Yf 35 8 5<|
 cT 37 35 36<|
 Zk 38 .add 37 1<|
 Yq 39 0<|
 Yu 41 38 40)<| .cond (.t 41) (.rg (Yf 42 9 0<|
 Yf 44 8 5<|
 cT 46 44 45<|
 Zk 47 .add 46 1<|
 Yo 48 43 47<|
 kD 50 49<|
 Zo (.bin 51 .shl false (.t 50) (.c (.int .u64 16)))<|
 Zb 52 .or 42 51<|
 Yc 9 52)) .skip)<| .rg (Yf 53 7 8<|
 Yf 55 9 6<|
 Zb 57 .shr 55 56<|
 YY 58 57 53 54))<| .rg (Yz 60 25 25))<|Zr (YH 61 7 151<|
 Yc 4 62) .ret⟩
theorem adD:Qe Tryz.prog Tryz.f189=some alO:=by kernel_rfl
def alI:ay:=⟨6,[.t 2],Zr (Yi 2 0)<|Zr (YH 3 0 152<|
 Zo (.bin 5 .sub false (.c (Zz 16)) (.t 4))<|
 Zm 2 5 .nil) .ret⟩
theorem adE:Qe Tryz.prog Tryz.f181=some alI:=by kernel_rfl
def alE:ay:=⟨15,[.cell 4 2 true],Zr (rj 4)<|Zr (YH 5 1 153<|
 Zm 1 6 .nil)<|Zr (AJ 7<|
 Zs 2 4 14 .nil) .ret⟩
theorem adF:Qe Tryz.prog Tryz.f177=some alE:=by kernel_rfl
def akF:ay:=⟨13,[.cell 4 2 true],Zr (rj 4)<|Zr (AJ 5<|
 Zs 2 4 12 .nil) .ret⟩
theorem adG:Qe Tryz.prog Tryz.f110=some akF:=by kernel_rfl
def alz:ay:=⟨27,[.t 2],Zr (YZ 1 51 0<|
 Ye 2)<|Zr (YT 4 1 1<|
 Zm 3 6 .nil)<|Zr (Zm 7 3<|
 Zk 8 .eql 7 0<|
 Zm 9 8<|
 YQ 9 0 1<|
 Zg 9 true (.un 12 .not (.t 11))<|
 Yk 13 9 12<|
 ri 14 13 3 0<|
 Zg 14 false (.mv 17 (.t 16))<|
 YQ 17 1 1<|
 Zg 17 true (.mv 20 (.t 3))<|
 Zg 17 true (.bin 21 .sub false (.t 20) (.c (Zz 1)))<|
 Zg 17 true (.idx 22 1 (.t 19) (.t 21))<|
 rp 17<|
 Zg 17 true (.bin 24 .neq false (.t 23) (.c (.int .u16 0)))<|
 Zg 14 false (.pick 25 (.t 17) (.t 24) (.c (.bool false)))<|
 Yh 26 14 25<|
 Yc 2 26) .ret⟩
theorem adH:Qe Tryz.prog Tryz.f172=some alz:=by kernel_rfl
def alg:ay:=⟨8,[.cell 2 2 true],Zr (YZ 1 51 0<|
 rk 2)<|Zr (cF 3 0 1 1 1<|
 lh 7 177 4 6 2 2) .ret⟩
theorem adI:Qe Tryz.prog Tryz.f154=some alg:=by kernel_rfl
def IS:ay:=⟨16,[.cell 2 2 true],Zr (rk 2)<| .seq (Zr (iX 3 0 .nil)<| .cond (.t 4) (Zr (Zm 5 0<|
 Zk 6 .add 5 1<|
 Zo (.un 7 .neg (.t 6))<|
 lg 8 7<|
 Zo (.bin 9 .add false (.t 8) (.c (.int .u64 1)))<|
 Yn 10 170 9<|
 Zq 11 false 110 [.c (.bool true),.t 10]<|
 Zs 2 2 11 .nil) .ret) .skip)<|Zr (Zm 12 0<|
 lg 13 12<|
 Yn 14 170 13<|
 Zq 15 false 110 [.c (.bool false),.t 14]<|
 Zs 2 2 15 .nil) .ret⟩
theorem adJ:Qe Tryz.prog Tryz.f143=some IS:=by kernel_rfl
def c94:ay:=⟨11,[.t 2],Zr (YZ 1 51 0<|
 Yi 2 0)<| .seq (.block 0<|Zr (Yb 4 1 1<|
 Yn 6 107 5<|
 Ys 7 6 0 3)<| .cond (.t 3) (Zr (Yi 2 0) .ret) (Zr (Yb 9 0 1<|
 Zm 8 10 .nil)<| .cond (.t 8) (Zr (jT 2) .ret) .skip))<|Zr (Yi 2 1) .ret⟩
theorem agR:Qe Tryz.prog Tryz.f94=some c94:=by kernel_rfl
def alj:ay:=⟨35,[.t 4],Zr (fp 2 51 0<|
 YI 3 51 1<|
 Yi 4 0)<|Zr (Zh 8 2 2<|
 Zh 10 2 3<|
 ek 9 94 8<|
 ek 11 94 10<|
 Zm 5 9<|
 Zm 6 11 .nil)<|Zr (Zo (.mv 7 (.c (.fn 185 [] []))) .nil)<| .seq (.block 0<|Zr (Yf 13 5 6<|
 Zb 15 .lss 13 14<|
 Zm 12 15 .nil)<| .cond (.t 12) (Zr (jT 4) .ret) (Zr (Yf 17 5 6<|
 Zb 19 .gtr 17 18<|
 Zm 16 19 .nil)<| .cond (.t 16) (Zr (Yi 4 1) .ret) (Zr (iX 21 5<|
 Zm 20 22 .nil)<| .cond (.t 20) (Zr (Zm 23 7<|
 cF 24 1 3 1 2<|
 Zo (.call (some 28) false (.t 23) [.t 25,.t 27])<|
 Yc 4 28) .ret) .skip)))<|Zr (Zm 29 7<|
 cF 30 1 2 1 3<|
 Zo (.call (some 34) false (.t 29) [.t 31,.t 33])<|
 Yc 4 34) .ret⟩
theorem adK:Qe Tryz.prog Tryz.f158=some alj:=by kernel_rfl
def alK:ay:=⟨8,[.t 4],Zr (Yi 4 0)<|Zr (er 5 0 1 179<|
 Zm 4 7 .nil) .ret⟩
theorem ael:Qe Tryz.prog Tryz.f185=some alK:=by kernel_rfl
def aly:ay:=⟨40,[.cell 4 2 true],Zr (fp 2 51 0<|
 YI 3 51 1<|
 rj 4)<| .seq (Zr (cF 7 0 2 0 3<|
 Zo (.bin 11 .eql true (.t 8) (.t 10)) .nil)<| .cond (.t 11) (Zr (cF 12 0 2 1 2<|
 Yb 16 1 3<|
 eD 18 187 15 17 110 13<|
 Zs 2 4 19 .nil) .ret) .skip)<| .seq (Zr (cF 20 1 2 1 3<|
 Yl 24 179 21 23<|
 Zk 25 .lss 24 0 .nil)<| .cond (.t 25) (.rg (YN 26 3 2<|
 Zs 2 2 26<|
 Zs 2 3 27 .nil)) .skip)<|Zr (cF 29 1 2 1 3<|
 YV 33 188 30 32 28<|
 dS 5 34 35)<|Zr (dC 36 0 2 5<|
 lh 39 110 37 38 2 4) .ret⟩
theorem aem:Qe Tryz.prog Tryz.f171=some aly:=by kernel_rfl
def c60:ay:=⟨16,[.cell 4 2 true],Zr (fp 2 51 0<|
 YI 3 51 1<|
 rj 4)<|Zr (cF 5 0 2 0 3<|
 Zo (.bin 9 .neq true (.t 6) (.t 8))<|
 cF 10 1 2 1 3<|
 eD 14 111 11 13 110 9<|
 Zs 2 4 15 .nil) .ret⟩
theorem agt:Qe Tryz.prog Tryz.f60=some c60:=by kernel_rfl
def ak8:ay:=⟨17,[.t 2],Zr (Ye 2)<|Zr (Yq 4 0<|
 Zo (.dv 6 [Zz 0,.int .u16 0] [(0,1,.t 5)])<|
 Zo (.alloc 3 2 196 (.agg [Zz 0,.int .u16 0]))<|
 Zs 2 3 6 .nil)<| .seq (Zr (Yq 7 0<|
 gK 9 8 0)<| .cond (.t 9) (.rg (Zm 10 0<|
 Yv 11 10 0<|
 Zf 13 1 3<|
 Zs 1 13 12 .nil)) .skip)<|Zr (Zh 14 2 3<|
 Zo (.dv 15 [Zz 0,.int .u16 0] [(0,1,.c (Zz 1)),(1,1,.c (.int .u16 1))])<|
 Zo (.eqs 16 false (.t 14) (.t 15))<|
 Yc 2 16) .ret⟩
theorem aen:Qe Tryz.prog Tryz.f144=some ak8:=by kernel_rfl
def akE:ay:=⟨2,[.t 0],Zr (YG 0)<|Zr (Zo (.bs 1 1 128 [.c (.int .u16 1)])<|
 Zm 0 1 .nil) .ret⟩
theorem aeo:Qe Tryz.prog Tryz.f108=some akE:=by kernel_rfl
def IL:ay:=⟨52,[.cell 4 3 true],Zr (fp 2 51 0<|
 Yr 4 .nil)<|Zr (YH 6 1 153<|
 Zm 1 7 .nil)<|Zr (fm 8 2 2 154<|
 Zs 2 2 9 .nil)<| .seq (Zr (Yq 10 1<|
 Zk 12 .eql 11 0<|
 Yx 13 12 1 2<|
 Zg 13 false (.len 16 (.t 15))<|
 Zg 13 false (.bin 17 .eql false (.t 16) (.c (Zz 0)))<|
 ep 18 13 17)<| .cond (.t 18) (Zr (Zq 19 false 108 []<|
 Zo (.dv 20 [.bool false,.aa,.aa] [(2,1,.t 19)])<|
 Zs 3 4 20 .nil) .ret) .skip)<| .seq (Zr (YH 21 1 144 .nil)<| .cond (.t 22) (Zr (fG 23 2 2 1<|
 ud 25 23 24<|
 Zs 3 4 25 .nil) .ret) .skip)<|Zr (dC 26 1 2 1<|
 Yl 29 155 27 28<|
 Yc 5 29)<| .seq (Zr (YH 30 5 144<|
 Zu 32 31 .nil)<| .cond (.t 32) (Zr (dC 34 1 2 5<|
 YV 37 156 35 36 33<|
 Zo (.ext 40 (.t 33) 2)<|
 Zf 41 1 2<|
 Zs 1 41 38 .nil)<| .rg (Yf 43 1 5<|
 YV 45 156 43 44 42<|
 Zo (.ext 48 (.t 42) 2)<|
 Yc 1 46)) .skip)<|Zr (fG 49 2 2 1<|
 ud 51 49 50<|
 Zs 3 4 51 .nil) .ret⟩
theorem aep:Qe Tryz.prog Tryz.f109=some IL:=by kernel_rfl
def c58:ay:=⟨14,[.cell 2 2 true,.t 3],Zr (Zo (.box 1 3 53 (.t 0))<|
 Zo (.alloc 2 2 51 (.agg [.bool false,.aa]))<|
 YG 3)<| .seq (Zr (Yb 4 2 1<|
 Yn 6 107 5<|
 gp 7 6 0)<| .cond (.t 7) (Zr (Zo (.dv 8 [.bool false,.aa] [])<|
 Zq 9 false 108 []<|
 Zs 2 2 8<|
 Zm 3 9 .nil) .ret) .skip)<|Zr (dY 10 1 2<|
 Zf 12 2 1<|
 .br (Zl 13 1 12<|
 Zs 2 2 11<|
 Zm 3 13 .nil) (Zs 2 2 11<|
 Zl 13 1 12<|
 Zm 3 13 .nil)) .ret⟩
theorem agu:Qe Tryz.prog Tryz.f58=some c58:=by kernel_rfl
def c61:ay:=⟨5,[.cell 2 2 true],Zr (rk 2)<|Zr (Zm 3 0<|
 Zo (.dv 4 [.bool false,.aa] [(1,1,.t 3)])<|
 Zs 2 2 4 .nil) .ret⟩
theorem agv:Qe Tryz.prog Tryz.f61=some c61:=by kernel_rfl
def IT:ay:=⟨36,[.t 2],Zr (Zo (.box 1 3 53 (.t 0))<|
 Ye 2)<|Zr (YT 4 2 1<|
 Zm 3 6 .nil)<| .seq (Zr (dY 7 1 2<|
 Yn 9 172 8<|
 Zu 10 9<|
 Yw 11 10 3<|
 Zg 11 false (.bin 13 .eql false (.t 12) (.c (Zz 0)))<|
 Yh 14 11 13<|
 Yx 15 14 2 1<|
 Zg 15 false (.mv 18 (.t 3))<|
 Zg 15 false (.bin 19 .sub false (.t 18) (.c (Zz 1)))<|
 Zg 15 false (.idx 20 1 (.t 17) (.t 19))<|
 Zg 15 false (.ld 21 1 false (.t 20))<|
 Zg 15 false (.bin 22 .eql false (.t 21) (.c (.int .u16 0)))<|
 ep 23 15 22)<| .cond (.t 23) (Zr (Ye 2) .ret) .skip)<|Zr (Yb 24 2 1<|
 Yn 26 144 25<|
 Zm 27 26<|
 Zg 27 false (.cc 28 0 (.t 1))<|
 Zg 27 false (.cc 29 1 (.t 28))<|
 Zg 27 false (.ld 30 1 false (.t 29))<|
 Zg 27 false (.cc 31 2 (.t 1))<|
 Zg 27 false (.ld 32 1 false (.t 31))<|
 Zg 27 false (.call (some 33) false (.c (.fn 155 [] [])) [.t 30,.t 32])<|
 Zg 27 false (.call (some 34) false (.c (.fn 144 [] [])) [.t 33])<|
 Yh 35 27 34<|
 Yc 2 35) .ret⟩
theorem aeq:Qe Tryz.prog Tryz.f146=some IT:=by kernel_rfl
def c90:ay:=⟨7,[.cell 2 3 true],Zr (Zo (.alloc 2 3 53 (.agg [.bool false,.aa,.aa])) .nil)<|Zr (YH 3 0 143<|
 Zq 5 false 108 []<|
 ud 6 4 5<|
 Zs 3 2 6 .nil) .ret⟩
theorem agw:Qe Tryz.prog Tryz.f90=some c90:=by kernel_rfl
def c49:ay:=⟨12,[.t 2],Zr (Zo (.box 1 3 53 (.t 0))<|
 Yi 2 0)<|Zr (YC 6 1 5 3<|
 Zm 4 9 .nil)<|Zr (fm 10 2 3 94<|
 Zm 2 11 .nil) .ret⟩
theorem agx:Qe Tryz.prog Tryz.f49=some c49:=by kernel_rfl
def akJ:ay:=⟨40,[.t 4],Zr (YZ 2 53 0<|
 fp 3 53 1<|
 Yi 4 0)<|Zr (Zh 11 3 2<|
 Zh 13 3 3<|
 ek 12 49 11<|
 ek 14 49 13<|
 Zm 5 12<|
 Zm 6 14 .nil)<| .seq (Zr (Yf 15 5 6<|
 Zb 17 .neq 15 16 .nil)<| .cond (.t 17) (.seq (Zr (Yf 18 5 6<|
 Yu 20 18 19)<| .cond (.t 20) (Zr (jT 4) .ret) .skip)<|Zr (Yi 4 1) .ret) .skip)<|Zr (YC 22 2 21 7<|
 Yc 8 25)<|Zr (YC 27 3 26 9<|
 Yc 10 30)<|Zr (fG 31 2 7 10<|
 fG 35 2 9 8<|
 ek 33 61 32<|
 Ym 34 60 31 33<|
 ek 37 61 36<|
 eD 38 60 35 37 158 34<|
 Yc 4 39) .ret⟩
theorem aer:Qe Tryz.prog Tryz.f114=some akJ:=by kernel_rfl
def ak9:ay:=⟨17,[.cell 2 2 true],Zr (rk 2)<|Zr (rj 3)<| .seq (Zr (eT 6 0)<| .block 0<| .loop<|Zr (Yu 9 8 7)<| .seq (.cond (.t 9) .skip (.exit 0))<| .seq (.block 1<|Zr (YM 10 2 6 8<|
 Zo (.alloc 5 2 51 (.agg [.bool false,.aa]))<|
 Zs 2 5 11 .nil)<| .rg (YN 12 3 5<|
 lh 14 171 12 13 2 3))<| .rg (YE 15 8 8))<|Zr (Zh 16 2 3<|
 Zs 2 2 16 .nil) .ret⟩
theorem aes:Qe Tryz.prog Tryz.f145=some ak9:=by kernel_rfl
def IZ:ay:=⟨45,[.cell 4 3 true],Zr (YZ 2 53 0<|
 fp 3 53 1<|
 Yr 4 .nil)<|Zr (YC 10 2 9 5<|
 Zm 6 13 .nil)<|Zr (YC 15 3 14 7<|
 Zm 8 18 .nil)<| .seq (Zr (YH 19 6 144<|
 YJ 21 20 8<|
 vL 21 144<|
 Yk 24 21 23 .nil)<| .cond (.t 24) (Zr (YN 25 5 7<|
 Zo (.bs 27 2 51 [.t 25,.t 26])<|
 Yn 28 145 27<|
 Zm 29 6<|
 lh 30 109 28 29 3 4) .ret) .skip)<|Zr (fG 31 2 5 8<|
 fG 35 2 7 6<|
 Yf 41 6 8<|
 ek 33 61 32<|
 Ym 34 60 31 33<|
 ek 37 61 36<|
 Ym 38 60 35 37<|
 Zo (.bs 39 2 51 [.t 34,.t 38])<|
 ek 40 145 39<|
 eD 43 111 41 42 109 40<|
 Zs 3 4 44 .nil) .ret⟩
theorem agy:Qe Tryz.prog Tryz.f93=some IZ:=by kernel_rfl
def IY:ay:=⟨26,[.cell 4 3 true],Zr (YZ 2 53 0<|
 fp 3 53 1<|
 Yr 4 .nil)<|Zr (YC 10 2 9 5<|
 Zm 6 13 .nil)<|Zr (YC 15 3 14 7<|
 Zm 8 18 .nil)<|Zr (YN 19 5 7<|
 Yl 21 60 19 20<|
 er 22 6 8 111<|
 lh 25 109 21 24 3 4) .ret⟩
theorem agz:Qe Tryz.prog Tryz.f91=some IY:=by kernel_rfl
def c59:ay:=⟨21,[.cell 4 3 true,.t 5],Zr (fp 2 51 0<|
 YI 3 51 1<|
 Yr 4<|
 Yi 5 0)<| .seq (Zr (fm 6 2 3 94<|
 gp 8 7 0)<| .cond (.t 8) (Zr (Zo (.dv 9 [.bool false,.aa,.aa] [])<|
 Zs 3 4 9<|
 Yi 5 3) .ret) .skip)<|Zr (cF 10 0 2 0 3<|
 Zo (.bin 14 .neq true (.t 11) (.t 13))<|
 Yb 15 1 2<|
 Zo (.dv 17 [.bool false,.aa] [(0,1,.t 14),(1,1,.t 16)])<|
 Yb 18 1 3<|
 Yl 20 109 17 19<|
 Zs 3 4 20<|
 Yi 5 0) .ret⟩
theorem agA:Qe Tryz.prog Tryz.f59=some c59:=by kernel_rfl
def c27:ay:=⟨31,[.cell 4 3 true,.t 5],Zr (YZ 2 53 0<|
 fp 3 53 1<|
 Yr 4<|
 Yi 5 0)<|Zr (YC 11 2 10 6<|
 Zm 7 14 .nil)<|Zr (YC 16 3 15 8<|
 Zm 9 19 .nil)<|Zr (fG 20 2 6 9<|
 fG 24 2 8 7<|
 ek 22 61 21<|
 Ym 23 60 20 22<|
 ek 26 61 25<|
 eD 27 60 24 26 59 23<|
 Yd 29 28<|
 Zs 3 4 29<|
 Yc 5 30) .ret⟩
theorem agB:Qe Tryz.prog Tryz.f27=some c27:=by kernel_rfl
def Rt:ay:=⟨108,[.t 4],Zr (Zo (.box 2 1 49 (.t 0))<|
 Zo (.box 3 1 49 (.t 1))<|
 YG 4)<|Zr (Zl 12 1 3<|
 Zn 13 12<|
 Zo (.alloc 5 1 3 (Zz 0))<|
 Zs 1 5 13 .nil)<|Zr (Zl 14 1 2<|
 Zn 15 14<|
 Zl 16 1 5<|
 Zb 17 .sub 15 16<|
 pZ 18 17 17<|
 Zm 6 18 .nil)<| .seq (Zr (Zl 19 1 2<|
 Zn 20 19<|
 Zl 21 1 5<|
 Zb 22 .sub 20 21<|
 Zk 23 .sub 22 1<|
 Zo (.alloc 7 1 3 (Zz 0))<|
 Zs 1 7 23 .nil)<| .block 0<| .loop<| .seq (Zr (Zl 24 1 7<|
 Zk 25 .geq 24 0 .nil)<| .cond (.t 25) .skip (.exit 0))<| .seq (.block 1<|Zr (Zl 28 1 2<|
 Zl 29 1 7<|
 Zl 30 1 5<|
 cT 31 29 30<|
 Yo 32 28 31<|
 lg 34 33<|
 Zo (.bin 35 .shl false (.t 34) (.c (.int .u64 16)))<|
 Zl 36 1 2<|
 Zl 37 1 7<|
 Zl 38 1 5<|
 cT 39 37 38<|
 Zk 40 .sub 39 1<|
 Yo 41 36 40<|
 lg 43 42<|
 Zb 44 .or 35 43<|
 Yc 8 44)<|Zr (Zm 45 8<|
 Zl 46 1 3<|
 Zl 47 1 5<|
 Zk 48 .sub 47 1<|
 Yo 49 46 48<|
 lg 51 50<|
 Zb 52 .quo 45 51<|
 Zm 53 8<|
 .br (Zl 54 1 3<|
 .br (YD 55<|
 .br (Ya 58<|
 .br (Yp 9<|
 Yp 10<|
 YP 1) (Yp 10<|
 Yp 9<|
 YP 1)) (.br (Yp 9<|
 .br (Ya 58<|
 Yp 10<|
 YP 1) (Yp 10<|
 .br (fF 58) (YU 1))) (Yp 10<|
 .br (Ya 58<|
 Yp 9<|
 YP 1) (Yp 9<|
 .br (fF 58) (YU 1))))) (.br (Yp 9<|
 .br (YD 55<|
 .br (Ya 58<|
 Yp 10<|
 YP 1) (Yp 10<|
 .br (fF 58) (YU 1))) (Yp 10<|
 .br (YD 55<|
 .br (fF 58) (YU 1)) (Zs 1 9 52<|
 YD 55<|
 Ya 58<|
 Yy 1))) (Yp 10<|
 .br (YD 55<|
 .br (Ya 58<|
 Yp 9<|
 YP 1) (Yp 9<|
 .br (fF 58) (YU 1))) (Yp 9<|
 .br (YD 55<|
 .br (fF 58) (YU 1)) (Zs 1 9 52<|
 YD 55<|
 Ya 58<|
 Yy 1))))) (.br (Zl 55 1 5<|
 Zk 56 .sub 55 1<|
 .br (iI 54<|
 .br (Ya 58<|
 .br (Yp 9<|
 Yp 10<|
 YP 1) (Yp 10<|
 Yp 9<|
 YP 1)) (.br (Yp 9<|
 .br (Ya 58<|
 Yp 10<|
 YP 1) (Yp 10<|
 .br (fF 58) (YU 1))) (Yp 10<|
 .br (Ya 58<|
 Yp 9<|
 YP 1) (Yp 9<|
 .br (fF 58) (YU 1))))) (.br (Yp 9<|
 .br (iI 54<|
 .br (Ya 58<|
 Yp 10<|
 YP 1) (Yp 10<|
 .br (fF 58) (YU 1))) (Yp 10<|
 .br (iI 54<|
 .br (fF 58) (YU 1)) (Zs 1 9 52<|
 iI 54<|
 Ya 58<|
 Yy 1))) (Yp 10<|
 .br (iI 54<|
 .br (Ya 58<|
 Yp 9<|
 YP 1) (Yp 9<|
 .br (fF 58) (YU 1))) (Yp 9<|
 .br (iI 54<|
 .br (fF 58) (YU 1)) (Zs 1 9 52<|
 iI 54<|
 Ya 58<|
 Yy 1))))) (.br (Yp 9<|
 .br (Zl 54 1 3<|
 .br (YD 55<|
 .br (Ya 58<|
 Yp 10<|
 YP 1) (Yp 10<|
 .br (fF 58) (YU 1))) (Yp 10<|
 .br (YD 55<|
 .br (fF 58) (YU 1)) (Zs 1 9 52<|
 YD 55<|
 Ya 58<|
 Yy 1))) (.br (Zl 55 1 5<|
 Zk 56 .sub 55 1<|
 .br (iI 54<|
 .br (Ya 58<|
 Yp 10<|
 YP 1) (Yp 10<|
 .br (fF 58) (YU 1))) (Yp 10<|
 .br (iI 54<|
 .br (fF 58) (YU 1)) (Zs 1 9 52<|
 iI 54<|
 Ya 58<|
 Yy 1))) (Yp 10<|
 .br (Zl 54 1 3<|
 .br (YD 55<|
 .br (fF 58) (YU 1)) (Zs 1 9 52<|
 YD 55<|
 Ya 58<|
 Yy 1)) (.br (Zl 55 1 5<|
 Zk 56 .sub 55 1<|
 .br (iI 54<|
 .br (fF 58) (YU 1)) (Zs 1 9 52<|
 iI 54<|
 Ya 58<|
 Yy 1)) (Zs 1 9 52<|
 .br (Zl 54 1 3<|
 YD 55<|
 Ya 58<|
 Yy 1) (Zl 55 1 5<|
 Zk 56 .sub 55 1<|
 iI 54<|
 Ya 58<|
 Yy 1)))))) (Yp 10<|
 .br (Zl 54 1 3<|
 .br (YD 55<|
 .br (Ya 58<|
 Yp 9<|
 YP 1) (Yp 9<|
 .br (fF 58) (YU 1))) (Yp 9<|
 .br (YD 55<|
 .br (fF 58) (YU 1)) (Zs 1 9 52<|
 YD 55<|
 Ya 58<|
 Yy 1))) (.br (Zl 55 1 5<|
 Zk 56 .sub 55 1<|
 .br (iI 54<|
 .br (Ya 58<|
 Yp 9<|
 YP 1) (Yp 9<|
 .br (fF 58) (YU 1))) (Yp 9<|
 .br (iI 54<|
 .br (fF 58) (YU 1)) (Zs 1 9 52<|
 iI 54<|
 Ya 58<|
 Yy 1))) (Yp 9<|
 .br (Zl 54 1 3<|
 .br (YD 55<|
 .br (fF 58) (YU 1)) (Zs 1 9 52<|
 YD 55<|
 Ya 58<|
 Yy 1)) (.br (Zl 55 1 5<|
 Zk 56 .sub 55 1<|
 .br (iI 54<|
 .br (fF 58) (YU 1)) (Zs 1 9 52<|
 iI 54<|
 Ya 58<|
 Yy 1)) (Zs 1 9 52<|
 .br (Zl 54 1 3<|
 YD 55<|
 Ya 58<|
 Yy 1) (Zl 55 1 5<|
 Zk 56 .sub 55 1<|
 iI 54<|
 Ya 58<|
 Yy 1)))))))))<|Zr (Zo (.fn 61 190 [] [.t 9,.t 3,.t 5,.t 10,.t 2,.t 7])<|
 Yc 11 61)<| .seq (.block 2<| .loop<| .seq (Zr (Zl 62 1 10<|
 Zo (.bin 63 .lss false (.t 62) (.c (.int .u64 65536)))<|
 YJ 64 63 11<|
 Zg 64 true (.call (some 66) false (.t 65) [])<|
 Yk 67 64 66 .nil)<| .cond (.t 67) .skip (.exit 2))<| .block 3<|Zr (Zl 68 1 9<|
 Zo (.bin 69 .sub false (.t 68) (.c (.int .u64 1)))<|
 Zs 1 9 69 .nil)<| .rg (Zl 70 1 10<|
 Zl 71 1 3<|
 Zl 72 1 5<|
 Zk 73 .sub 72 1<|
 Yo 74 71 73<|
 lg 76 75<|
 cT 77 70 76<|
 Zs 1 10 77 .nil))<| .seq (Zr (Zl 78 1 2<|
 Zl 79 1 7<|
 Zl 80 1 7<|
 Zl 81 1 5<|
 cT 82 80 81<|
 Zk 83 .add 82 1<|
 Zo (.sl 84 1 (.t 78) (some (.t 79)) (some (.t 83)) none)<|
 Zl 85 1 3<|
 Zl 86 1 9<|
 kD 87 86<|
 Zq 88 false 191 [.t 84,.t 85,.t 87] .nil)<| .cond (.t 88) (Zr (Zl 89 1 9<|
 Zo (.bin 90 .sub false (.t 89) (.c (.int .u64 1)))<|
 Zs 1 9 90 .nil)<| .rg (Zl 91 1 2<|
 Zl 92 1 7<|
 Zl 93 1 7<|
 Zl 94 1 5<|
 cT 95 93 94<|
 Zk 96 .add 95 1<|
 Zo (.sl 97 1 (.t 91) (some (.t 92)) (some (.t 96)) none)<|
 Zl 98 1 3<|
 Yl 99 192 97 98 .nil)) .skip)<| .rg (Zm 100 6<|
 Zl 101 1 7<|
 Zl 102 1 9<|
 YY 103 102 100 101))<| .seq (Zr (Zl 105 1 7 .nil)<| .rg (Zo (.alloc 7 1 3 (Zz 0))<|
 Zs 1 7 105 .nil))<| .rg (Zl 26 1 7<|
 Zk 27 .sub 26 1<|
 Zs 1 7 27 .nil))<|Zr (YH 106 6 151<|
 Yc 4 107) .ret⟩
theorem aet:Qe Tryz.prog Tryz.f183=some Rt:=by kernel_rfl
theorem gT{l:List Nat}(hv:Qj l)(hl:l.length<2^42):Qd Tryz.prog 151 [PV.nat l] (· =PV.num (val l)):=by
 refine aB Qg Tryz.func151 Mt fun C hP=>?_;refine Sz0 ?_;refine qL (fun m fr hp=>m<=l.length/\cut l m=ak (val l)/\fr 0=PV.nat l/\fr 3= .int .i64 m/\hp=aw) l.length ?_ ?_
 ·exact⟨Kad _,z8 hv,rfl,rfl,rfl⟩
 rintro n fr _ ⟨hn,hc,h0,h3,rfl⟩;refine Sz2 h0 h3 ?_;refine Q4 (fun hg=>?_) (fun hg=>?_)
 ·simp+decide (disch:=first|omega|rfl|(simp+decide only[go_sem,h0,h3,vh,oN]<;>rfl)|fail) only[go_sem,h0,h3,vh,oN];obtain _|n:=n
  ·omega
  have e:((n+1:Nat):Int)-1=n:=by omega
  simp only[cut]at hc;refine Qb (fun hz=>?_) (fun hz=>?_)
  ·rw[if_pos (by grind)]at hc;simp+decide (disch:=try exact D3 h0 h3 e) only[go_sem,h0,h3,e];refine nL (m:=n) (by omega) ⟨by omega,hc,?_⟩;exact Tz3 h0 @true_and @and_true
  ·refine Sz3 h0 h3 @Hr ?_;rw[if_neg (by grind)]at hc;exact Qc (by simp[hc]) rfl
 ·obtain rfl:n=0:=by omega
  refine Sz3 h0 h3 @Hr ?_;exact Qc (by simp[<-hc,cut]) rfl
theorem zx{l:List Nat}(hv:Qj l)(hl:l.length<2^42):Qd Tryz.prog 153 [PV.nat l] (· =PV.num (val l)):=by
 have hd:=bF hv;unfold nl at hd;refine aB Qg Tryz.func153 adZ fun C hP=>?_;refine Sz0 ?_;refine Qa hP (gT hv hl) rfl rfl rfl ?_;refine Sz0 ?_;refine Qb (fun hz=>?_) (fun hz=>?_)
 ·refine Sz0 ?_;have:ak (val l)=[]:=Kar.1 (by omega);exact oK (by rw[PV.num,this];exact af9) rfl
 ·refine Sz0 ?_;rw[adl rfl (by simp)];refine Sz0 ?_;exact gj rfl (by simp[Kai])
theorem Ec{n:Nat}(hn:n<18446744073709551616):Qd Tryz.prog 170 [.int .u64 n] (· =PV.num n):=by
 have hlen:=qM hn;unfold nl at hlen;refine aB Qg Tryz.func170 ad0 fun C hP=>?_;refine Sz0 ?_;refine zD (fun m fr hp=>∃done:List Nat,ak n=done++ak m/\m<=n/\fr 0= .int .u64 m/\fr 3= .ms 12 done.length/\hp 12=some ⟨1,128,done.map fun(x:Nat)=>.int .u16 x,false⟩) n (M1 3 12 1 128 (by omega) ?_) ?_ ?_
 ·exact Tz0
 ·refine⟨[],?_⟩;simp+decide (disch:=first|omega|rfl|(simp+decide only[go_sem,KaI,Kby,Kbo,true_and,and_true,Kad]<;>rfl)|fail) only[go_sem,KaI,Kby,Kbo,true_and,and_true,Kad]
 rintro m fr hp ⟨done,hd,hm,h0,h3,hh⟩;rw[hd,Kaw]at hlen;refine Sz1 h0 ?_;refine Qb (fun hz=>?_) (fun hz=>?_)
 ·have aT:m≠0:=by omega
  have og:ak n=(done++[m%65536])++ak (m/65536):=by rw[hd,tG aT];simp
  refine Sz2 h0 h3 ?_;rw[HU (xs:=done.map fun(x:Nat)=>.int .u16 x) (Tz1 hh) rfl (by omega) (by simp) (by omega) (by omega)];refine Sz4 h0 h3 @NW @P7 ?_;refine nL (m:=m/65536) (by omega) ⟨done++[m%65536],og,by omega,?_⟩;refine Sz3 h0 h3 hh ?_;simp
 ·obtain rfl:m=0:=by omega
  refine Sz1 h3 ?_;exact gj hh (by simp[PV.num,PV.nat,hd,ff,Kai])
theorem Dr{a b:List Nat}(ha:Qj a)(hb:Qj b)(bu:a.length<2^40)(dz:b.length<2^40):Qd Tryz.prog 179 [PV.nat a,PV.nat b] (· = .int .i64 (gm (val a) (val b))):=by
 have fV:=bF ha;have iK:=bF hb;have SX:= @Lh (val a) (val b);have SY:= @Lh (val b) (val a);have aov:=Qk (val a);have aow:=Qk (val b);have hva:=Qt (val a);have hvb:=Qt (val b);unfold nl at fV iK SX SY;refine aB Qg Tryz.func179 ad3 fun C hP=>?_;refine Sz0 ?_;refine Qa hP (gT ha (by omega)) rfl rfl rfl ?_;refine Sz0 ?_;refine Qa hP (gT hb (by omega)) rfl rfl rfl ?_;refine Sz0 ?_;generalize val a=x at *
 generalize val b=y at *
 refine Qb (fun hz=>?_) (fun hz=>?_)
 ·refine Sz0 ?_;refine Qb (fun hz=>?_) (fun hz=>?_)
  ·refine Sz0 ?_;exact Qc (by rw[Ir (SX (by omega))]) rfl
  ·refine Sz0 ?_;exact Qc (by rw[Is (SY (by omega))]) rfl
 refine Sz0 ?_;refine qL (fun m fr hp=>m<=(ak x).length/\val ((ak x).drop m)=val ((ak y).drop m)/\fr 0=PV.num x/\fr 1=PV.num y/\fr 5= .int .i64 ((m:Int)-1)/\hp=aw) (ak x).length ?_ ?_
 ·refine⟨Kad _,?_,?_⟩
  ·rw[Kan (Kad _),Kan (by omega)]
  ·exact Tz2 @true_and @and_true
 rintro m fr _ ⟨hm,hd,h0,h1,h5,rfl⟩;refine Sz3 h0 h1 h5 ?_;refine Qb (fun hg=>?_) (fun hg=>?_)
 ·obtain _|m:=m
  ·omega
  have e:((m+1:Nat):Int)-1=m:=by omega
  have qp:m<(ak x).length:=by omega
  have pg:m<(ak y).length:=by omega
  simp+decide (disch:=try exact D4 h0 h1 h5 e) only[go_sem,h0,h1,h5,e];refine Qb (fun hq=>?_) (fun hq=>?_)
  ·refine Sz0 ?_;exact Qc (by rw[Ir];have:=P9 aov qp pg (by omega) hd;omega) rfl
  simp+decide (disch:=try exact D4 h0 h1 h5 e) only[go_sem,h0,h1,h5,e];refine Qb (fun ph=>?_) (fun ph=>?_)
  ·refine Sz0 ?_;exact Qc (by rw[Is];have:=P9 aow pg qp (by omega) hd.symm;omega) rfl
  refine Sz4 h0 h1 h5 e ?_;refine nL (m:=m) (by omega) ⟨by omega,?_,?_⟩
  ·rw[lI qp,lI pg,hd];omega
  ·exact Tz4 h0 h1 @true_and @and_true
 ·obtain rfl:m=0:=by omega
  refine Sz0 ?_;refine Qc ?_ rfl;rw[Mf];simp at hd;omega
theorem abZ{a b:List Nat}(ha:Qj a)(hb:Qj b)(bu:a.length<2^40)(dz:b.length<2^40):Qd Tryz.prog 187 [PV.nat a,PV.nat b] (· =PV.num (val a+val b)):=by
 have fV:=bF ha;have iK:=bF hb;unfold nl at fV iK;refine aB Qg Tryz.func187 ad4 fun C hP=>?_;refine Sz0 ?_;refine Qa hP (gT ha (by omega)) rfl rfl rfl ?_;refine Sz0 ?_;refine Qa hP (gT hb (by omega)) rfl rfl rfl ?_;refine Sz0 ?_;generalize val a=x0 at *
 generalize val b=y0 at *
 refine zF (fun fr hp=>∃x y,x+y=x0+y0/\(ak x).length<2^40/\(ak y).length<=(ak x).length/\fr 0=PV.num x/\fr 1=PV.num y/\hp=aw) ?_ ?_
 ·refine Qb (fun hz=>?_) (fun hz=>?_)
  ·refine Sz0 ?_;refine⟨y0,x0,by omega,by omega,by omega,?_⟩;exact Tz2 @true_and @and_true
  ·refine Sz0 ?_;refine⟨x0,y0,by omega,by omega,by omega,?_⟩;exact Tz2 @true_and @and_true
 rintro fr _ ⟨x,y,qu,hx,hy,h0,h1,rfl⟩;rw[<-qu];clear qu fV iK;have eM:=Qk x;have kJ:=Qk y;refine Sz2 h0 h1 ?_;refine qL (fun m fr hp=>∃i c done,m=(ak x).length-i/\i<=(ak x).length/\c<=1/\done.length=i/\done++iW ((ak x).drop i) ((ak y).drop i) c=ak (x+y)/\
  fr 1=PV.num y/\fr 5= .ms 25 (ak x).length/\fr 6= .int .u32 c/\fr 26=PV.num x/\fr 27= .int .i64 (ak x).length/\fr 28= .int .i64 i/\hp=Ql aw 25 ⟨1,128,bV (done++List.replicate ((ak x).length-i) 0),false⟩) (ak x).length ?_ ?_
 ·refine⟨0,0,[],rfl,by omega,by omega,rfl,by simpa using abl hy,?_⟩;simp+decide (disch:=first|omega|rfl|(simp+decide only[go_sem,h0,h1,true_and,and_true,Kci,KaI]<;>rfl)|fail) only[go_sem,h0,h1,true_and,and_true,Kci,KaI];simp
 rintro _ fr _ ⟨i,c,done,rfl,hi,hc,eV,hd,h1,h5,h6,o0,um,uo,rfl⟩;refine Sz3 o0 um uo ?_;refine Qb (fun hg=>?_) (fun hg=>?_)
 ·have az:i<(ak x).length:=by omega
  have fe:=dX eM az;rw[XV az]at hd;have hlen:=HW (n:=(ak x).length-i) eV (by omega:_=(ak x).length);simp+decide (disch:=try exact D6 h1 h5 h6 o0 um uo) only[go_sem,h1,h5,h6,o0,um,uo];refine Qb (fun hq=>?_) (fun hq=>?_)
  ·have jz:i<(ak y).length:=by omega
   have uQ:=dX kJ jz;rw[fN jz]at hd;simp+decide (disch:=try exact D6 h1 h5 h6 o0 um uo) only[go_sem,h1,h5,h6,o0,um,uo];refine nL (m:=(ak x).length-(i+1)) (by omega) ⟨i+1,_,_,rfl,by omega,?_,?_,(KbK ..).symm.trans hd,?_⟩
   ·omega
   ·simp[eV]
   ·exact Tz10 h1 h5 h6 o0 um uo @true_and @and_true @zR @Nat.sub_sub
  ·rw[fO (by omega)]at hd;refine Sz6 h1 h5 h6 o0 um uo ?_;refine nL (m:=(ak x).length-(i+1)) (by omega) ⟨i+1,_,_,rfl,by omega,?_,?_,(KbK ..).symm.trans hd,?_⟩
   ·omega
   ·simp[eV]
   ·exact Tz11 h1 h5 h6 o0 um uo @true_and @and_true @zR @Nat.sub_sub @Nat.add_zero
 ·obtain rfl:i=(ak x).length:=by omega
  rw[Kan (Kad _),Kan hy]at hd;simp+decide (disch:=first|omega|rfl|(simp+decide only[go_sem,h5,h6,KbH,Ka7,Kas]<;>rfl)|fail) only[go_sem,h5,h6,KbH,Ka7,Kas];refine Qb (fun hq=>?_) (fun hq=>?_)
  ·refine Sz2 h5 h6 ?_;rw[HU (xs:=bV done) Tz0 rfl (by omega) (by simp[eV]) (by omega) (by omega)];refine Sz1 h5 ?_;refine gj rfl ?_;rw[iW,if_neg (by omega)]at hd;rw[PV.num,<-hd];simp[bV,eV,Kai];omega
  ·refine Sz1 h5 ?_;refine gj rfl ?_;rw[iW,if_pos (by omega)]at hd;rw[PV.num,<-hd];simp[bV,eV,Kai]
theorem LD{a b:List Nat}(ha:Qj a)(hb:Qj b)(bu:a.length<2^40)(dz:b.length<2^40)(hle:val b<=val a):Qd Tryz.prog 188 [PV.nat a,PV.nat b] (· = .aG [PV.num (val a-val b),.int .i64 0]):=by
 have fV:=bF ha;have iK:=bF hb;have mo:=fh hle;unfold nl at fV iK mo;refine aB Qg Tryz.func188 ad5 fun C hP=>?_;refine Sz0 ?_;refine Qa hP (Dr ha hb bu dz) rfl rfl rfl ?_;have anO:¬gm (val a) (val b)<0:=by unfold gm;split<;>(try split)<;>omega
 refine Sz0 ?_;refine Qb (fun hz=>absurd hz anO) (fun hz=>?_);refine Sz0 ?_;refine Qa hP (gT ha (by omega)) rfl rfl rfl ?_;refine Sz0 ?_;refine Qa hP (gT hb (by omega)) rfl rfl rfl ?_;refine Sz0 ?_;generalize val a=x at *
 generalize val b=y at *
 have eM:=Qk x;have kJ:=Qk y;have dH:=Lk (ak x) (ak y) 0 (by omega) eM kJ mo (by rw[Qt,Qt];exact hle);rw[Qt,Qt,KaO]at dH;have jA:=OQ (ak x) (ak y) 0;have Fu:=Oh (ak x) (ak y) 0;refine qL (fun m fr hp=>∃i c done,m=(ak x).length-i/\i<=(ak x).length/\c<=1/\done.length=i/\done++lZ ((ak x).drop i) ((ak y).drop i) c=lZ (ak x) (ak y) 0/\
  fr 1=PV.num y/\fr 6= .ms 21 (ak x).length/\fr 7= .int .i32 (c:Nat)/\fr 22=PV.num x/\fr 23= .int .i64 (ak x).length/\fr 24= .int .i64 i/\hp=Ql aw 21 ⟨1,128,bV (done++List.replicate ((ak x).length-i) 0),false⟩) (ak x).length ?_ ?_
 ·refine⟨0,0,[],rfl,by omega,by omega,rfl,rfl,?_⟩;simp+decide (disch:=first|omega|rfl|(simp+decide only[go_sem,true_and,and_true,Kci,KaI]<;>rfl)|fail) only[go_sem,true_and,and_true,Kci,KaI];simp
 rintro _ fr _ ⟨i,c,done,rfl,hi,hc,eV,hd,h1,h6,h7,me,mf,gO,rfl⟩;refine Sz3 me mf gO ?_;refine Qb (fun hg=>?_) (fun hg=>?_)
 ·have az:i<(ak x).length:=by omega
  have fe:=dX eM az;rw[XW az]at hd;have hlen:=HW (n:=(ak x).length-i) eV (by omega:_=(ak x).length);simp+decide (disch:=try exact D6 h1 h6 h7 me mf gO) only[go_sem,h1,h6,h7,me,mf,gO];refine zF (fun fr hp=>fr 1=PV.num y/\fr 6= .ms 21 (ak x).length/\fr 8= .int .i64 i/\fr 10= .int .i32 ((ak x)[i]-(c:Int)-((ak y).getD i 0:Nat))/\(ak y).getD i 0<65536/\fr 22=PV.num x/\fr 23= .int .i64 (ak x).length/\fr 24= .int .i64 i/\hp=Ql aw 21 ⟨1,128,bV (done++List.replicate ((ak x).length-i) 0),false⟩) ?_ ?_
  ·refine Qb (fun hq=>?_) (fun hq=>?_)
   ·have jz:i<(ak y).length:=by omega
    have uQ:=dX kJ jz;simp+decide (disch:=first|omega|rfl|(simp+decide only[go_sem,h1,h6,h7,me,mf,gO,fN jz,true_and,and_true]<;>rfl)|fail) only[go_sem,h1,h6,h7,me,mf,gO,fN jz,true_and,and_true];exact uQ
   ·simp+decide (disch:=first|omega|rfl|(simp+decide only[go_sem,h1,h6,h7,me,mf,gO,true_and,and_true,fO (by omega:¬i<(ak y).length)]<;>rfl)|fail) only[go_sem,h1,h6,h7,me,mf,gO,true_and,and_true,fO (by omega:¬i<(ak y).length)];simp
  clear h1 h6 me mf gO;rintro fr _ ⟨h1,h6,h8,bp,uQ,me,mf,gO,rfl⟩;generalize hw:(ak y).getD i 0=yi at *
  refine Sz1 bp ?_;refine zF (fun fr hp=>fr 1=PV.num y/\fr 6= .ms 21 (ak x).length/\fr 8= .int .i64 i/\fr 10= .int .i32 (((ak x)[i]+65536-c-yi)%65536:Nat)/\fr 7= .int .i32 ((if(ak x)[i]<c+yi then 1 else 0):Nat)/\fr 22=PV.num x/\fr 23= .int .i64 (ak x).length/\fr 24= .int .i64 i/\hp=Ql aw 21 ⟨1,128,bV (done++List.replicate ((ak x).length-i) 0),false⟩) ?_ ?_
  ·refine Qb (fun hq=>?_) (fun hq=>?_)
   ·rw[if_pos (by omega)];refine Sz9 h1 h6 h8 bp me mf gO @true_and @and_true ?_;simp;omega
   ·rw[if_neg (by omega)];refine Sz9 h1 h6 h8 bp me mf gO @true_and @and_true ?_;simp;omega
  clear h1 h6 h8 bp me mf gO;rintro fr _ ⟨h1,h6,h8,bp,h7,me,mf,gO,rfl⟩;refine Sz8 h1 h6 h7 h8 bp me mf gO ?_;refine nL (m:=(ak x).length-(i+1)) (by omega) ⟨i+1,_,_,rfl,by omega,?_,?_,(KbK ..).symm.trans hd,?_⟩
  ·split<;>omega
  ·simp[eV]
  ·exact Tz13 h1 h6 h7 h8 bp me mf gO @true_and @and_true @zR @Nat.sub_sub @Nat.mod_mod
 ·obtain rfl:i=(ak x).length:=by omega
  rw[Kan (Kad _),lZ,Kas]at hd;simp+decide (disch:=first|omega|rfl|(simp+decide only[go_sem,h6,KbH,Ka7,Kas]<;>rfl)|fail) only[go_sem,h6,KbH,Ka7,Kas];rw[hd];refine vd hP (gT jA (by omega)) (zS rfl Fu.symm) rfl fun hp'=>?_;refine Sz0 ?_;exact cA rfl rfl rfl (tD (by rw[show val (lZ (ak x) (ak y) 0)=x-y by omega])) (Qf _)
theorem Ds{a b:List Nat}(ha:Qj a)(hb:Qj b)(bu:a.length<2^40)(dz:b.length<2^40):Qd Tryz.prog 111 [PV.nat a,PV.nat b] (· =PV.num (val a*val b)):=by
 have fV:=bF ha;have iK:=bF hb;unfold nl at fV iK;refine aB Qg Tryz.func111 ad6 fun C hP=>?_;refine Sz0 ?_;refine Qa hP (gT ha (by omega)) rfl rfl rfl ?_;refine Sz0 ?_;refine Qa hP (gT hb (by omega)) rfl rfl rfl ?_;refine Sz0 ?_;generalize val a=x at *
 generalize val b=y at *
 have eM:=Qk x;have kJ:=Qk y;refine Qo (fun hz=>?_) (fun hz=>?_)
 ·refine Sz0 ?_;have:=pE (by omega:(ak x).length=0);rw[lH]at this;exact oK (z' (by simp[this])) rfl
 refine Sz0 ?_;refine Qb (fun FN=>?_) (fun FN=>?_)
 ·refine Sz0 ?_;have:=pE (by omega:(ak y).length=0);rw[lH]at this;exact oK (z' (by simp[this])) rfl
 refine Sz0 ?_;refine qL (fun m fr hp=>∃i lo,m=(ak x).length-i/\i<=(ak x).length/\Qj lo/\lo.length=i+(ak y).length/\val lo=val ((ak x).take i)*val (ak y)/\
  fr 1=PV.num y/\fr 5= .ms 28 ((ak x).length+(ak y).length)/\fr 29=PV.num x/\fr 30= .int .i64 (ak x).length/\fr 31= .int .i64 i/\hp=Ql aw 28 ⟨1,128,bV (lo++List.replicate ((ak x).length-i) 0),false⟩) (ak x).length ?_ ?_
 ·refine⟨0,List.replicate (ak y).length 0,rfl,by omega,?_,by simp,by simp[P8,val],?_⟩
  ·intro z hz;rw[List.eq_of_mem_replicate hz];omega
  ·refine Sz3 @true_and @and_true @Nat.sub_zero ?_;simp[KbY]
 rintro _ fr _ ⟨i,lo,rfl,hi,rD,JQ,hv,h1,h5,qe,ni,nj,rfl⟩;refine Sz3 qe ni nj ?_;refine Qb (fun hg=>?_) (fun hg=>?_)
 ·have az:i<(ak x).length:=by omega
  have fe:=dX eM az;have mz:=abm az JQ hv;have Bo:Qj (lo.take i++jM (lo.drop i) (ak y) (ak x)[i] 0):=nM.2 ⟨w7 rD i,O7 _ _ _ _ (by omega) fe (zq rD i) kJ⟩;have aqX:(lo.take i++jM (lo.drop i) (ak y) (ak x)[i] 0).length=i+(ak y).length+1:=by rw[Kaw,Oi _ _ _ _ (by simp[JQ])];simp;omega
  generalize dA:(ak x)[i]=xi at *
  refine Sz6 h1 h5 qe ni nj dA ?_;refine qL (fun m fr hp=>∃k c p rs,m=(ak y).length-k/\k<=(ak y).length/\c<65536/\Qj rs/\p.length=i+k/\rs.length=(ak y).length-k/\p++jM rs ((ak y).drop k) xi c=lo.take i++jM (lo.drop i) (ak y) xi 0/\
   fr 1=PV.num y/\fr 5= .ms 28 ((ak x).length+(ak y).length)/\fr 6= .int .i64 i/\fr 7= .int .u16 xi/\fr 8= .int .u32 c/\fr 29=PV.num x/\fr 30= .int .i64 (ak x).length/\fr 31= .int .i64 i/\fr 36=PV.num y/\fr 37= .int .i64 (ak y).length/\fr 38= .int .i64 k/\
   hp=Ql aw 28 ⟨1,128,bV (p++(rs++List.replicate ((ak x).length-i) 0)),false⟩) (ak y).length ?_ ?_
  ·refine⟨0,0,lo.take i,lo.drop i,rfl,by omega,by omega,zq rD i,by simp;omega,by simp;omega,rfl,?_⟩;refine Sz7 h1 h5 qe ni nj @true_and @and_true ?_;rw[<-List.append_assoc,Kbg];simp
  clear h1 h5 qe ni nj;rintro _ fr _ ⟨k,c,p,rs,rfl,hk,hc,cG,df,wu,hinv,h1,h5,h6,h7,h8,qe,ni,nj,EP,ER,ES,rfl⟩;refine Sz3 EP ER ES ?_;refine Qb (fun hq=>?_) (fun hq=>?_)
  ·have cP:k<(ak y).length:=by omega
   have hyk:=dX kJ cP;rw[Kau cP]at hinv;generalize TG:(ak y)[k]=yk at *
   obtain _|⟨r,rs⟩:=rs
   ·simp at wu;omega
   rw[gB]at cG;have Bv:=cG.1;have BG:=tw fe hyk;rw[jM]at hinv;have aq:i+k<(p++r::(rs++List.replicate ((ak x).length-i) 0)).length:=by simp;omega
   have ew:=DT df aq;simp+decide (disch:=first|omega|rfl|(simp+decide only[go_sem,h1,h5,h6,h7,h8,EP,ER,ES,TG,KaK,ew]<;>rfl)|fail) only[go_sem,h1,h5,h6,h7,h8,EP,ER,ES,TG,KaK,ew];refine nL (m:=(ak y).length-(k+1)) (by omega) ⟨k+1,_,_,_,rfl,by omega,?_,cG.2,?_,?_,(KbK ..).symm.trans hinv,?_⟩
   ·omega
   ·simp[df];omega
   ·simp at wu;omega
   ·refine Sz14 h1 h5 h6 h7 h8 qe ni nj EP ER ES @true_and @and_true @nP ?_;simp
  ·obtain rfl:k=(ak y).length:=by omega
   obtain rfl:rs=[]:=Kar.1 (by omega);rw[Kan (Kad _),jM]at hinv
   rotate_left
   ·intros;simp_all
   obtain⟨z,hz⟩:∃z,(ak x).length-i=z+1:=⟨(ak x).length-i-1,by omega⟩
   have aq:i+(ak y).length<(p++0::(List.replicate z 0)).length:=by simp;omega
   simp+decide (disch:=first|omega|rfl|(simp+decide only[go_sem,h1,h5,h6,h8,qe,ni,nj,KaI,hz,KbJ]<;>rfl)|fail) only[go_sem,h1,h5,h6,h8,qe,ni,nj,KaI,hz,KbJ];refine nL (m:=(ak x).length-(i+1)) (by omega) ⟨i+1,lo.take i++jM (lo.drop i) (ak y) xi 0,rfl,by omega,Bo,by omega,?_,?_⟩
   ·rw[mz]
   ·refine Sz8 h1 h5 qe ni nj @true_and @and_true @nP ?_;rw[<-hinv,show(ak x).length-(i+1)=z by omega,KaJ hc];simp
 ·obtain rfl:i=(ak x).length:=by omega
  rw[KaE,Qt,Qt]at hv;simp+decide (disch:=first|omega|rfl|(simp+decide only[go_sem,h5,KbH,Ka7,Kas]<;>rfl)|fail) only[go_sem,h5,KbH,Ka7,Kas];refine vd hP (gT rD (by omega)) (zS rfl JQ.symm) rfl fun hp'=>?_;refine Sz0 ?_;exact Qc (by rw[hv]) rfl
theorem UK{pre w post v:List Nat}{j m:Nat}(hw:Qj w)(hv:Qj v)(hj:pre.length=j)(hm:w.length=m)(hle:v.length<=w.length)(hlen:(pre++(w++post)).length<2^43):
  xw Tryz.prog 192 [.au B0 j m,PV.nat v] 128 (bV (pre++(w++post))) (fun r xs'=>r= .aG []/\xs'=bV (pre++(kA w v 0++post))):=by
 simp only[Kaw]at hlen;refine C9 Qg Tryz.func192 rfl adB Nz fun C hP=>?_;simp only[Rv];refine du ?_;refine Sz0 ?_;refine qL (fun k fr hp=>∃i c done,k=w.length-i/\i<=w.length/\c<=1/\done.length=i/\done++kA (w.drop i) (v.drop i) c=kA w v 0/\
  fr 0= .au 1000000 j m/\fr 1=PV.nat v/\fr 4= .int .u32 c/\fr 7= .int .i64 m/\fr 8= .int .i64 i/\hp=Ql aw 1000000 ⟨1,128,bV ((pre++done)++(w.drop i++post)),false⟩) w.length ?_ ?_
 ·refine⟨0,0,[],rfl,by omega,by omega,rfl,rfl,?_⟩;simp+decide (disch:=first|omega|rfl|(simp+decide only[go_sem,true_and,and_true,Kas,Kbx]<;>rfl)|fail) only[go_sem,true_and,and_true,Kas,Kbx];simp
 rintro _ fr _ ⟨i,c,done,rfl,hi,hc,eV,hd,h0,h1,h4,h7,h8,rfl⟩;refine Sz2 h7 h8 ?_;refine Qb (fun hg=>?_) (fun hg=>?_)
 ·have az:i<w.length:=by omega
  have hwi:=dX hw az;rw[X2 az]at hd;have df:(pre++done).length=j+i:=by simp[hj,eV]
  rw[Kau az];generalize hww:w[i]=wi at *
  have aq:j+i<((pre++done)++wi::(w.drop (i+1)++post)).length:=by simp;omega
  have ew:=DT df aq;simp+decide (disch:=first|omega|rfl|(simp+decide only[go_sem,h0,h1,h4,h7,h8,KaK,ew]<;>rfl)|fail) only[go_sem,h0,h1,h4,h7,h8,KaK,ew];refine Qb (fun hq=>?_) (fun hq=>?_)
  ·have jz:i<v.length:=by omega
   have Tx:=dX hv jz;rw[fN jz]at hd;simp+decide (disch:=first|omega|rfl|(simp+decide only[go_sem,h0,h1,h4,h7,h8,nP]<;>rfl)|fail) only[go_sem,h0,h1,h4,h7,h8,nP];refine nL (m:=w.length-(i+1)) (by omega) ⟨i+1,_,_,rfl,by omega,?_,?_,(KbK ..).symm.trans hd,?_⟩
   ·omega
   ·simp[eV]
   ·refine Sz8 h0 h1 h4 h7 h8 @true_and @and_true @nP ?_;simp
  ·rw[fO (by omega)]at hd;refine Sz6 h0 h1 h4 h7 h8 @nP ?_;refine nL (m:=w.length-(i+1)) (by omega) ⟨i+1,_,_,rfl,by omega,?_,?_,(KbK ..).symm.trans hd,?_⟩
   ·omega
   ·simp[eV]
   ·refine Sz8 h0 h1 h4 h7 h8 @true_and @and_true @nP ?_;simp
 ·obtain rfl:i=w.length:=by omega
  rw[Kan (Kad _),kA,Kas]at hd;refine Sz0 ?_;refine agp rfl (qN _) ?_ ⟨rfl,?_⟩
  ·simp[eV]
  ·rw[Kan (Kad _),hd];simp
theorem Qz6{pre w post v:List Nat}{j m q:Nat}(hw:Qj w)(hv:Qj v)(hq:q<65536)(hj:pre.length=j)(hm:w.length=m)(hle:v.length<=w.length)(hlen:(pre++(w++post)).length<2^43):
  xw Tryz.prog 191 [.au B0 j m,PV.nat v,.int .u32 q] 128 (bV (pre++(w++post))) (fun r xs'=>r= .bool (decide (0<(eR w v q 0 0).2.2))/\xs'=bV (pre++((eR w v q 0 0).1++post))):=by
 simp only[Kaw]at hlen;refine C9 Qg Tryz.func191 rfl aea Nz fun C hP=>?_;simp only[Ru];refine du ?_;refine Sz0 ?_;refine qL (fun k fr hp=>∃i c b done,k=w.length-i/\i<=w.length/\c<65536/\b<=1/\done.length=i/\done++(eR (w.drop i) (v.drop i) q c b).1=(eR w v q 0 0).1/\(eR (w.drop i) (v.drop i) q c b).2=(eR w v q 0 0).2/\
  fr 0= .au 1000000 j m/\fr 1=PV.nat v/\fr 2= .int .u32 q/\fr 7= .int .u32 c/\fr 8= .int .i32 (b:Nat)/\fr 12= .int .i64 m/\fr 13= .int .i64 i/\hp=Ql aw 1000000 ⟨1,128,bV ((pre++done)++(w.drop i++post)),false⟩) w.length ?_ ?_
 ·refine⟨0,0,0,[],rfl,by omega,by omega,by omega,rfl,rfl,rfl,?_⟩;simp+decide (disch:=first|omega|rfl|(simp+decide only[go_sem,true_and,and_true,Kas,Kbx]<;>rfl)|fail) only[go_sem,true_and,and_true,Kas,Kbx];simp
 rintro _ fr _ ⟨i,c,b,done,rfl,hi,hc,hb,eV,hd,og,h0,h1,h2,h7,h8,ig,eU,rfl⟩;refine Sz2 ig eU ?_;refine Qb (fun hg=>?_) (fun hg=>?_)
 ·have az:i<w.length:=by omega
  have hwi:=dX hw az;rw[X3 az]at hd og;simp only at hd og;have df:(pre++done).length=j+i:=by simp[hj,eV]
  rw[Kau az];generalize hww:w[i]=wi at *
  have aq:j+i<((pre++done)++wi::(w.drop (i+1)++post)).length:=by simp;omega
  have ew:=DT df aq;simp+decide (disch:=first|omega|rfl|(simp+decide only[go_sem,h0,h1,h2,h7,h8,ig,eU,KaK,ew]<;>rfl)|fail) only[go_sem,h0,h1,h2,h7,h8,ig,eU,KaK,ew];refine zF (fun fr hp=>c+q*v.getD i 0<=4294967295/\fr 0= .au 1000000 j m/\fr 1=PV.nat v/\fr 2= .int .u32 q/\fr 7= .int .u32 (c+q*v.getD i 0:Nat)/\fr 8= .int .i32 (b:Nat)/\fr 9= .int .i64 i/\fr 12= .int .i64 m/\fr 13= .int .i64 i/\hp=Ql aw 1000000 ⟨1,128,bV ((pre++done)++wi::(w.drop (i+1)++post)),false⟩) ?_ ?_
  ·refine Qb (fun rK=>?_) (fun rK=>?_)
   ·have jz:i<v.length:=by omega
    have Tx:=dX hv jz;have rK:=tw hq Tx;simp+decide (disch:=first|omega|rfl|(simp+decide only[go_sem,h0,h1,h2,h7,h8,ig,eU,fN jz,true_and,and_true]<;>rfl)|fail) only[go_sem,h0,h1,h2,h7,h8,ig,eU,fN jz,true_and,and_true];omega
   ·simp+decide (disch:=first|omega|rfl|(simp+decide only[go_sem,h0,h1,h2,h7,h8,ig,eU,true_and,and_true,fO (by omega:¬i<v.length),KbZ,KaO]<;>rfl)|fail) only[go_sem,h0,h1,h2,h7,h8,ig,eU,true_and,and_true,fO (by omega:¬i<v.length),KbZ,KaO];omega
  clear h0 h1 h2 h7 h8 ig eU;rintro fr _ ⟨nr,h0,h1,h2,h7,h8,h9,ig,eU,rfl⟩;generalize c+q*v.getD i 0=c1 at *
  refine Sz9 h0 h1 h2 h7 h8 h9 ig eU ew ?_;refine zF (fun fr hp=>fr 0= .au 1000000 j m/\fr 1=PV.nat v/\fr 2= .int .u32 q/\fr 7= .int .u32 (c1/65536:Nat)/\fr 8= .int .i32 ((if wi<c1%65536+b then 1 else 0):Nat)/\fr 9= .int .i64 i/\fr 10= .int .i32 ((wi+65536-c1%65536-b)%65536:Nat)/\fr 12= .int .i64 m/\fr 13= .int .i64 i/\hp=Ql aw 1000000 ⟨1,128,bV ((pre++done)++wi::(w.drop (i+1)++post)),false⟩) ?_ ?_
  ·refine Qb (fun hq=>?_) (fun hq=>?_)
   ·rw[if_pos (by omega)];refine y4 h0 h1 h2 h7 h8 h9 ig eU @true_and @and_true ?_;simp;omega
   ·rw[if_neg (by omega)];refine y4 h0 h1 h2 h7 h8 h9 ig eU @true_and @and_true ?_;simp;omega
  clear h0 h1 h2 h7 h8 h9 ig eU;rintro fr _ ⟨h0,h1,h2,h7,h8,h9,bp,ig,eU,rfl⟩;refine y4 h0 h1 h2 h7 h8 h9 bp ig eU @nP ?_;refine nL (m:=w.length-(i+1)) (by omega) ⟨i+1,c1/65536,_,_,rfl,by omega,by omega,?_,?_,(KbK ..).symm.trans hd,og,?_⟩
  ·split<;>omega
  ·simp[eV]
  ·refine Sz13 h0 h1 h2 h7 h8 h9 bp ig eU @true_and @and_true @nP @Nat.mod_mod ?_;simp
 ·obtain rfl:i=w.length:=by omega
  rw[Kan (Kad _),eR]at hd og;simp only[Kas]at hd;refine Sz1 h8 ?_;refine M8 (p:=.bool (decide (0<(b:Int)))) rfl (qN _) ?_ Tz0 rfl ⟨?_,?_⟩
  ·simp[eV]
  ·rw[<-og];simp
  ·rw[Kan (Kad _),hd];simp
theorem Qz7{v u:List Nat}{dg n r j:Nat}(hv:Qj v)(hu:Qj u)(hn:2<=n)(gQ:n=v.length)(hju:j+n<u.length)(hd:dg<4294967296)(hr:r<65536)(Kh:u.length<2^43):
  Qd Tryz.prog 190 [.pt [.int .u64 dg],.pt [PV.nat v],.pt [.int .i64 n],.pt [.int .u64 r],.pt [PV.nat u],.pt [.int .i64 j]]
   (· = .bool (decide (65536<=dg∨r*65536+u.getD (j+n-2) 0<dg*v.getD (n-2) 0))):=by
 have h1:n-2<v.length:=by omega
 have h2:j+n-2<u.length:=by omega
 have tf:=dX hv h1;have Tw:=dX hu h2;rw[fN h1,fN h2];refine aB Qg Tryz.func190 ad9 fun C hP=>?_;refine Sz0 ?_;refine Qo (fun hz=>?_) (fun hz=>?_)
 ·refine Sz0 ?_;exact Qc (by simp;omega) rfl
 ·have sY:dg<65536:=by omega
  have e1:(n:Int)-2=((n-2:Nat):Int):=by omega
  have e2:((j+n:Nat):Int)-2=((j+n-2:Nat):Int):=by omega
  generalize hvv:v[n-2]=vi at *
  generalize huu:u[j+n-2]=ui at *
  have hm:=tw sY tf;refine Sz6 e1 e2 hvv huu @Hs @HY ?_;exact Qc (congrArg PV.bool (decide_eq_decide.2 ⟨fun h=>.inr (by omega),fun h=>by rcases h with h|h<;>omega⟩)) rfl
theorem Wn{l post:List Nat}(hv:Qj l)(hl:(l++post).length<2^43)(hlen:0<l.length):
  xw Tryz.prog 151 [.au B0 0 l.length] 128 (bV (l++post)) (fun r xs'=>r= .au B0 0 (nl (val l))/\xs'=bV (l++post)):=by
 simp only[Kaw]at hl;have aqW:l.length<=(l++post).length:=by simp
 refine C9 Qg Tryz.func151 rfl Mt Nz fun C hP=>?_;simp only[Rp];refine du ?_;refine Sz0 ?_;refine qL (fun m fr hp=>m<=l.length/\cut l m=ak (val l)/\fr 0= .au 1000000 0 l.length/\fr 3= .int .i64 m/\hp=Ql aw 1000000 ⟨1,128,bV (l++post),false⟩) l.length ?_ ?_
 ·exact⟨Kad _,z8 hv,rfl,rfl,rfl⟩
 rintro n fr _ ⟨hn,hc,h0,h3,rfl⟩;refine Sz2 h0 h3 ?_;refine Q4 (fun hg=>?_) (fun hg=>?_)
 ·obtain _|n:=n
  ·omega
  have e:((n+1:Nat):Int)-1=n:=by omega
  have aq:n<(l++post).length:=by simp;omega
  have ew:(l++post)[n]=l[n]:=by simp[List.getElem_append,show n<l.length by omega]
  refine Sz4 h0 h3 e ew ?_;simp only[cut]at hc;refine Qb (fun hz=>?_) (fun hz=>?_)
  ·rw[if_pos (by grind)]at hc;refine Sz3 h0 h3 e ?_;refine nL (m:=n) (by omega) ⟨by omega,hc,?_⟩;exact Tz3 h0 @true_and @and_true
  ·rw[if_neg (by grind)]at hc;have mo:nl (val l)=n+1:=by rw[nl,<-hc];simp;omega
   refine Sz2 h0 h3 ?_;exact Mg rfl (qN _) (by simp) (Tz1 mo) ⟨rfl,rfl⟩
 ·obtain rfl:n=0:=by omega
  have mo:nl (val l)=0:=by rw[nl,<-hc,cut];rfl
  refine Sz2 h0 h3 ?_;exact Mg rfl (qN _) (by simp) (Tz1 mo) ⟨rfl,rfl⟩
theorem G'{a:List Nat}{s:Nat}(ha:Qj a)(bu:a.length<2^40)(hs:s<=15)(aT:val a≠0):Aa Tryz.prog 182 [PV.nat a,.int .i64 s] 128 (fun ys=>ys=bV (ak (val a*2^s))):=by
 have fV:=bF ha;unfold nl at fV;have mr:(ak (val a)).length≠0:=by intro h;exact aT (lH.1 (pE h))
 refine XZ Qg Tryz.func182 rfl IC Nz fun C hP=>?_;simp only[Rs];refine du ?_;refine Sz0 ?_;refine Qa hP (gT ha (by omega)) rfl rfl rfl ?_;refine Sz0 ?_;generalize val a=x at *
 have eM:=Qk x;have e1:s/16=0:=Kcw (by omega);have e2:s%16=s:=KaJ (by omega);refine Qo (fun hz=>by omega) (fun hz=>?_);refine Sz0 ?_;refine Qo (fun hz=>by omega) (fun hz=>?_);refine Sz0 ?_;refine Qb (fun hz=>by omega) (fun hz=>?_);refine Sz0 ?_;refine Qb (fun hz=>by omega) (fun hz=>?_);refine Sz4 @QC @QD e1 e2 ?_;refine qL (fun k fr hp=>∃i c done,k=(ak x).length-i/\i<=(ak x).length/\c<2^s/\done.length=i/\done++n5 s ((ak x).drop i) c=n5 s (ak x) 0/\
  fr 5= .int .i64 (0:Nat)/\fr 6= .int .i64 s/\fr 7= .ms 44 ((ak x).length+1)/\fr 45=PV.num x/\fr 46= .int .i64 (ak x).length/\fr 47= .int .i64 i/\
  hp=Ql aw 44 ⟨1,128,bV (done++c::List.replicate ((ak x).length-i) 0),false⟩) (ak x).length ?_ ?_
 ·refine⟨0,0,[],rfl,by omega,KbS (by omega),rfl,rfl,?_⟩;simp+decide (disch:=first|omega|rfl|(simp+decide only[go_sem,true_and,and_true,KaI,Kci]<;>rfl)|fail) only[go_sem,true_and,and_true,KaI,Kci];simp[KbJ]
 rintro _ fr _ ⟨i,c,done,rfl,hi,hc,eV,hd,h5,h6,h7,ET,EU,EV,rfl⟩;refine Sz3 ET EU EV ?_;have aq5:2^s<=2^15:=Kbu (by omega) hs;refine Qb (fun hg=>?_) (fun hg=>?_)
 ·have az:i<(ak x).length:=by omega
  have fe:=dX eM az;rw[Kau az,n5]at hd;generalize dA:(ak x)[i]=xi at *
  obtain⟨z,hz⟩:∃z,(ak x).length-i=z+1:=⟨(ak x).length-i-1,by omega⟩
  have aq:i<(done++c::List.replicate (z+1) 0).length:=by simp;omega
  have ew:=DT eV aq;have gw:=Lp (x:=xi) (show s<=16 by omega) hc;have cX:=QE (show s<=16 by omega) fe;have hl:=agr hs fe;refine Sz13 h5 h6 h7 ET EU EV dA hz ew @Mi @agq gw.2 @nP ?_;have nA:∀v u,(done++v::List.replicate (z+1) 0).set (i+1) u=(done++[v])++u::List.replicate z 0:=fun v u=>by rw[KbK,KbJ,nP (by simp[eV])]
  rw[M5 (by simp;omega),nA,KaJ (by omega:xi*2^s/65536<65536)];refine Sz6 h5 h6 h7 ET EU EV ?_;refine nL (m:=(ak x).length-(i+1)) (by omega) ⟨i+1,xi*2^s/65536,done++[xi*2^s%65536+c],rfl,by omega,cX,by simp[eV],(KbK ..).symm.trans hd,?_⟩;refine Sz8 h5 h6 h7 ET EU EV @true_and @and_true ?_;rw[show(ak x).length-(i+1)=z by omega]
 ·obtain rfl:i=(ak x).length:=by omega
  rw[Kan (Kad _),n5]at hd;have qo:=Pb hs (ak x) 0 eM (KbS (by omega));have kI:=Lo s (ak x) 0;have Fu:=Ol s (ak x) 0;rw[Qt,KaO]at kI;rw[<-hd]at qo kI Fu;have aq3:x*2^s≠0:=Nat.mul_ne_zero aT (Nat.ne_of_gt (KbS (by omega)));simp+decide (disch:=first|omega|rfl|(simp+decide only[go_sem,h7,KbH,Ka7]<;>rfl)|fail) only[go_sem,h7,KbH,Ka7];have ht:=Wn (l:=done++[c]) (post:=[]) qo (by simp[eV];omega) (by simp);rw[Kas,kI]at ht;refine En hP ht (β:=44) Tz0 (qN _) (by simp) (by simp[jg,Fu]) rfl ?_;rintro r xs' _ _ ⟨rfl,rfl⟩;simp+decide (disch:=first|omega|rfl|(simp+decide only[go_sem,nR]<;>rfl)|fail) only[go_sem,nR];refine⟨4,44,nl (x*2^s),_,rfl,by simp+decide (disch:=try exact D0) only[go_sem],rfl,by simp+decide (disch:=try exact D0) only[go_sem];rfl,qN _,?_,?_⟩
  ·have:= @w9 (x*2^s);omega
  ·rw[<-kI,<-List.map_take,abo qo]
theorem Wo{a:List Nat}{s:Nat}(ha:Qj a)(bu:a.length<2^42)(hs:s<=15):Qd Tryz.prog 189 [PV.nat a,.int .i64 s] (· =PV.num (val a/2^s)):=by
 have e1:s/16=0:=Kcw (by omega);have e2:s%16=s:=KaJ (by omega);refine aB Qg Tryz.func189 adD fun C hP=>?_;refine Sz4 @QC @QD e1 e2 ?_;refine Qb (fun hz=>?_) (fun hz=>?_)
 ·have:a=[]:=Kar.1 (by omega);subst this;refine Sz0 ?_;exact oK (z' (by simp[val])) rfl
 have e3:((a.length:Int)-((0:Nat):Int))=((a.length:Nat):Int):=by omega
 refine Sz1 e3 ?_;refine Qn eH [(8,9),(25,60)] [] (fun k J hp=>∃i done,k=a.length-i/\i<=a.length/\done.length=i/\done++mZ s (a.drop i)=mZ s a/\J 25= .int .i64 i/\
  hp=Ql aw 22 ⟨1,128,bV (done++List.replicate (a.length-i) 0),false⟩) a.length ?_ ?_
 ·refine⟨0,[],rfl,by omega,rfl,rfl,?_⟩;simp+decide (disch:=first|omega|rfl|(simp+decide only[go_sem,true_and,and_true,KaI,Kci]<;>rfl)|fail) only[go_sem,true_and,and_true,KaI,Kci];simp
 rintro _ J _ ⟨i,done,rfl,hi,eV,hd,vO,rfl⟩;refine Sz1 vO ?_;refine Qb (fun hg=>?_) (fun hg=>?_)
 ·have az:i<a.length:=by omega
  have Ff:=dX ha az;rw[X7 az]at hd;generalize dA:a[i]=xi at *
  have hlen:=HW (n:=a.length-i) eV (by omega:_=a.length);refine Sz2 vO dA ?_;refine Qb (fun hq=>?_) (fun hq=>?_)
  ·have jz:i+1<a.length:=by omega
   have haj:=dX ha jz;rw[fN jz]at hd;simp+decide (disch:=first|omega|rfl|(simp+decide only[go_sem,vO,HD,QB,Iu]<;>rfl)|fail) only[go_sem,vO,HD,QB,Iu];refine Qi (a.length-(i+1)) (by omega) ⟨i+1,_,rfl,by omega,by simp[eV],(KbK ..).symm.trans hd,?_⟩;exact Tz5 vO @true_and @and_true @zR @Nat.sub_sub
  ·rw[fO (by omega),KbI,Ka9]at hd;refine Sz2 vO @Iu ?_;refine Qi (a.length-(i+1)) (by omega) ⟨i+1,_,rfl,by omega,by simp[eV],(KbK ..).symm.trans hd,?_⟩;exact Tz5 vO @true_and @and_true @zR @Nat.sub_sub
 ·obtain rfl:i=a.length:=by omega
  rw[Kan (Kad _),mZ,Kas]at hd;simp+decide (disch:=first|omega|rfl|(simp+decide only[go_sem,KbH,Ka7,Kas]<;>rfl)|fail) only[go_sem,KbH,Ka7,Kas];rw[hd];refine vd hP (gT (Pc s a) (by rw[G8];exact bu)) (zS rfl (G8 s a).symm) rfl fun hp'=>?_;refine Sz0 ?_;exact Qc (by rw[Lr (by omega) a ha]) rfl
theorem VB{x V d q:Nat}(hd:0<d)(h:q=V/d):(V%d*65536+x)/d+65536*q=(x+65536*V)/d/\(V%d*65536+x)%d=(x+65536*V)%d:=by
 subst h;have e:x+65536*V=(V%d*65536+x)+d*(65536*(V/d)):=by
  have:=Kbl V d
  calc x+65536*V=x+65536*(d*(V/d)+V%d):=by rw[this]
   _=_:=by rw[Ka1,Kbw];omega
 rw[e,Kcn _ _ hd,Kcm];exact⟨rfl,rfl⟩
theorem VC{a:List Nat}{d:Nat}(ha:Qj a)(bu:a.length<2^42)(hd:0<d)(og:d<65536):Qd Tryz.prog 180 [PV.nat a,.int .u16 d] (· = .aG [PV.num (val a/d),.int .u16 (val a%d:Nat)]):=by
 refine aB Qg Tryz.func180 ad7 fun C hP=>?_;refine Sz0 ?_;refine Qn eH [(7,8),(15,38)] [] (fun k J hp=>∃qs,k<=a.length/\qs.length=a.length-k/\Qj qs/\val qs=val (a.drop k)/d/\J 7= .int .u32 (val (a.drop k)%d:Nat)/\J 8= .int .i64 ((k:Int)-1)/\
  hp=Ql aw 11 ⟨1,128,bV (List.replicate k 0++qs),false⟩) a.length ?_ ?_
 ·refine⟨[],Kad _,by simp,nO,by simp[val],?_⟩;refine Sz2 @true_and @and_true ?_;simp[val]
 rintro k J _ ⟨qs,hk,yF,pj,hv,h7,h8,rfl⟩;refine Sz2 h7 h8 ?_;have hr:=Kbs (val (a.drop k)) hd;refine Qb (fun hg=>?_) (fun hg=>?_)
 ·obtain _|n:=k
  ·omega
  have hn:n<a.length:=by omega
  have Jm:=dX ha hn;have e:((n+1:Nat):Int)-1=n:=by omega
  have aL:=VB (x:=a[n]) hd hv;rw[<-lI hn]at aL;have aq:(val (a.drop (n+1))%d*65536+a[n])/d<65536:=by rw[Kbf hd];have:(val (a.drop (n+1))%d+1)*65536<=d*65536:=Kal _ hr;omega
  generalize dA:a[n]=xn at *
  generalize val (a.drop (n+1))%d=r at *
  have hlen:n<(List.replicate (n+1) 0++qs).length:=by simp;omega
  refine Sz8 h7 h8 e dA @HD @abn @adr @pH ?_;refine Qi n (by omega) ⟨(r*65536+xn)/d::qs,by omega,?_,?_,?_,?_⟩
  ·simp;omega
  ·rw[gB];exact⟨aq,pj⟩
  ·rw[val,aL.1]
  ·refine Sz5 h7 h8 @true_and @and_true aL.2 ?_;rw[KaJ aq,List.replicate_succ',Kbv,List.singleton_append,nP (by simp)]
 ·obtain rfl:k=0:=by omega
  rw[Kbx]at hv h7;have aq:=Kbs (val a) hd;simp+decide (disch:=first|omega|rfl|(simp+decide only[go_sem,h7,h8,Ka7,KaI]<;>rfl)|fail) only[go_sem,h7,h8,Ka7,KaI];refine vd hP (gT pj (by omega)) (zS rfl (by omega)) rfl fun hp'=>?_;refine Sz1 h7 ?_;refine cA rfl rfl rfl (tD (by rw[hv])) (tD ?_);rw[KaJ (by omega)]
theorem Pn{x:Nat}(h:x<65536):Qd Tryz.prog 152 [.int .u16 x] (· = .int .i64 (Lib.bitLen x:Nat)):=
 Vv (by simp[oV];exact⟨rfl,by decide⟩) (fun w=>VD x w (by omega) (by omega)) (fun _ _=>Qp.int _ _)
theorem Ha{x:Nat}(h:x<65536):Lib.bitLen x<=16:=Lib.bitLen_le x 16 (by omega) (by omega)
theorem Hj{x:Nat}(h:x<65536)(h0:x≠0):1<=Lib.bitLen x:=by have:=Lib.bitLen_half x h0 (by omega);omega
theorem VE:Lib.bitLen 0=0:=by decide
theorem Wp:∀(n x:Nat),Lib.bitLen x=n->x≠0->x<65536->2^n<=2*x/\x<2^n:=by
 intro n;induction n with
 |zero=>intro x h h0 hx;have:=Hj hx h0;omega
 | succ n ih=>
  intro x h h0 hx;have e:=Lib.bitLen_half x h0 (by omega);by_cases h2:x/2=0
  ·have:x=1:=by omega
   subst this;have:n=0:=by rw[h]at e;simp[VE]at e;exact e
   subst this;simp
  ·have:=ih (x/2) (by omega) h2 (by omega);rw[Kbz];omega
theorem Qqq{x:Nat}(h:x<65536):Qd Tryz.prog 181 [.int .u16 x] (· = .int .i64 (16-Lib.bitLen x:Nat)):=by have:=Ha h;refine aB Qg Tryz.func181 adE fun C hP=>?_;refine Sz0 ?_;refine Qa hP (Pn h) rfl rfl rfl ?_;refine Sz0 ?_;exact Qc (by congr 1;omega) rfl
theorem QI{a:List Nat}(ha:Qj a)(bu:a.length<2^40):Qd Tryz.prog 107 [PV.nat a] (fun r=>∃n:Nat,r= .int .i64 n/\(n=0↔val a=0)):=by
 have hd:=bF ha;unfold nl at hd;refine aB Qg Tryz.func107 ad2 fun C hP=>?_;refine Sz0 ?_;refine Qa hP (gT ha (by omega)) rfl rfl rfl ?_;refine Sz0 ?_;refine Qb (fun hz=>?_) (fun hz=>?_)
 ·refine Sz0 ?_;have:val a=0:=lH.1 (Kar.1 (by omega));exact⟨rfl,_,Qf _,0,rfl,by simp[this]⟩
 ·have aT:val a≠0:=fun h=>by rw[h,ff]at hz;simp at hz
  have je:=HV (val a);have Fv:=Qk (val a);generalize val a=x at *
  obtain⟨k,hk⟩:∃k,(ak x).length=k+1:=⟨(ak x).length-1,by omega⟩
  have aq:k<(ak x).length:=by omega
  have th:=dX Fv aq;have mr:(ak x)[k]≠0:=by intro h;apply je;rw[Kbh,hk,Nat.add_sub_cancel,Kag aq,h]
  have e:((k+1:Nat):Int)-1=k:=by omega
  generalize dA:(ak x)[k]=xi at *
  have hb:=Ha th;have aZ:=Hj th mr;refine Sz3 hk e dA ?_;refine Qa hP (Pn th) rfl rfl rfl ?_;have e2:(16:Int)*(k:Int)=((16*k:Nat):Int):=by omega
  refine Sz1 e2 ?_;exact⟨rfl,_,Qf _,16*k+Lib.bitLen xi,rfl,by omega⟩
theorem ajt(i:Nat):2^(16*i)=65536^i:=by rw[Nat.pow_mul]
theorem HK{a:List Nat}(ha:Qj a)(bu:a.length<2^40):Qd Tryz.prog 178 [PV.nat a] (· =if nl (val a)<=4 then .aG [.int .u64 (val a),.bool true]else .aG [.int .u64 0,.bool false]):=by
 have hd:=bF ha;unfold nl at hd;refine aB Qg Tryz.func178 ad1 fun C hP=>?_;refine Sz0 ?_;refine Qa hP (gT ha (by omega)) rfl rfl rfl ?_;refine Sz0 ?_;have Fv:=Qk (val a);have dH:=Qt (val a);unfold nl;generalize val a=x at *
 refine Qb (fun hz=>?_) (fun hz=>?_)
 ·refine Sz0 ?_;rw[if_neg (by omega)];exact cA rfl rfl rfl (Qf _) (Qf _)
 ·refine Sz0 ?_;rw[if_pos (by omega)];refine Qn eH [(4,6),(14,26)] [] (fun k J hp=>∃i,k=(ak x).length-i/\i<=(ak x).length/\J 14= .int .i64 i/\J 4= .int .u64 (val ((ak x).take i))/\hp=aw) (ak x).length ?_ ?_
  ·refine⟨0,rfl,by omega,?_⟩;simp+decide (disch:=first|omega|rfl|(simp+decide only[go_sem,true_and,and_true,Kcc]<;>rfl)|fail) only[go_sem,true_and,and_true,Kcc];simp[val]
  rintro _ J _ ⟨i,rfl,hi,fS,h4,rfl⟩;refine Sz2 fS h4 ?_;refine Qb (fun hg=>?_) (fun hg=>?_)
  ·have az:i<(ak x).length:=by omega
   have fe:=dX Fv az;have lC:=za az;have uP:=tv Fv i (by omega);generalize dA:(ak x)[i]=xi at *
   have e2:(16:Int)*(i:Int)=((16*i:Nat):Int):=by omega
   have hb:xi*2^(16*i)+2^(16*i)<=18446744073709551616:=by have h3:2^(16*i)<=2^48:=Kbu (by omega) (by omega);have:(xi+1)*2^(16*i)<=65536*2^48:=KbU (by omega) h3;rw[KaG]at this;omega
   have hpp:0<2^(16*i):=KbS (by omega);rw[<-ajt]at lC uP;have yC:(val ((ak x).take i)|||xi*2^(16*i))=val ((ak x).take (i+1)):=by rw[Nat.or_comm,Ak uP,lC,KaQ,KbY]
   refine Sz7 fS h4 dA e2 @Mh @M9 yC ?_;refine Qi ((ak x).length-(i+1)) (by omega) ⟨i+1,rfl,by omega,?_⟩;exact Tz3 fS @true_and @and_true
  ·obtain rfl:i=(ak x).length:=by omega
   rw[KaE,dH]at h4;refine Sz1 h4 ?_;exact cA rfl rfl rfl (Qf _) (Qf _)
set_option maxHeartbeats 2000000 in
theorem ZJ{u v ex:List Nat}(hu:Qj u)(hv:Qj v)(hn:2<=v.length)(aq:v.length<u.length)(Tv:32768<=v.getD (v.length-1) 0)(aoi:val (u.drop (u.length-v.length))<val v)(Kh:u.length+ex.length<2^42):
  xw Tryz.prog 183 [.au B0 0 u.length,PV.nat v] 128 (bV (u++ex)) (fun r xs'=>r=PV.num (val u/val v)/\∃l,xs'=bV (l++ex)/\Qj l/\l.length=u.length/\val l=val u%val v):=by
 obtain⟨n,gQ⟩:∃n,v.length=n+2:=⟨v.length-2,by omega⟩
 have e1:(u.length:Int)-(v.length:Int)=((u.length-v.length:Nat):Int):=by omega
 have uP:=Ml gQ;have wA:=tv hv n (by omega);have aph:=oO hv;have tf:=dX hv (show n+1<v.length by omega);have tg:=dX hv (show n<v.length by omega);have uB:v[n+1]'(by omega)=v.getD (n+1) 0:=(fN _).symm;have eW:v[n]'(by omega)=v.getD n 0:=(fN _).symm;have ao6:32768<=v.getD (n+1) 0:=by rw[gQ]at Tv;exact Tv
 rw[uB]at tf;rw[eW]at tg;rw[gQ]at aph;have hvp:0<val v:=by rw[uP];have:0<65536^n:=KbS (by omega);have:0<(v.getD (n+1) 0*65536+v.getD n 0)*65536^n:=KcO (by omega) this;omega
 refine C9 Qg Tryz.func183 rfl aet Nz fun C hP=>?_;simp only[Rt];refine du ?_;refine Sz1 e1 ?_;refine Ls eH [(7,11),(24,105)] [7,9,10] (fun k J hp=>∃l qs,k+qs.length=u.length-v.length/\Qj l/\l.length=u.length/\Qj qs/\val (l.drop k)<val v/\val u=val l+val v*(65536^k*val qs)/\J 7= .mp 7 0 0/\
  hp 7=some ⟨1,3,[.int .i64 ((k:Int)-1)],false⟩/\hp 1000000=some ⟨1,128,bV (l++ex),false⟩/\hp 18=some ⟨1,128,bV (List.replicate k 0++qs),false⟩/\
  hp 3=some ⟨1,49,[PV.nat v],false⟩/\hp 5=some ⟨1,3,[.int .i64 v.length],false⟩) (u.length-v.length) ?_ ?_
 ·refine⟨u,[],rfl,hu,rfl,nO,aoi,by simp[val],?_⟩;refine Sz2 @true_and @and_true ?_;simp
 intro F hF;have ll:F 2= .rb 1000000 0 u.length:=by rw[hF];simp+decide (disch:=try exact D0) only[go_sem]
 have iY:F 3= .mp 3 0 0:=by rw[hF];simp+decide (disch:=try exact D0) only[go_sem]
 have iZ:F 5= .mp 5 0 0:=by rw[hF];simp+decide (disch:=try exact D0) only[go_sem]
 have ln:F 6= .ms 18 (u.length-v.length):=by rw[hF];simp+decide (disch:=try exact D0) only[go_sem]
 have Fq:∀β,[7,9,10].contains β=true->bE β F=F:=fun β h=>by rw[hF];exact Cx h
 have hk9:=Fq 9 rfl;have aqR:=Fq 10 rfl;have Fp:=Fq 7 rfl;have hkk:Qy [9,10] F=F:=by rw[hF];exact Qz5 rfl
 clear Fq hF;rintro k J h ⟨l,qs,qu,hl,lA,pj,FF,dH,fT,nt,lz,ql,bz,dy⟩;refine y4 @fT nt @lz ql bz dy @ll @iY @iZ @ln ?_;refine Qb (fun hg=>?_) (fun hg=>?_)
 ·obtain _|j:=k
  ·omega
  have e2:((j+1:Nat):Int)-1=j:=by omega
  have e3:((n+2:Nat):Int)-1=((n+1:Nat):Int):=by omega
  have e4:((j+(n+2):Nat):Int)-1=((j+(n+1):Nat):Int):=by omega
  obtain⟨pre,w,post,JR,df,lD,yE,hw,gR,J8,hdj,TA,w0,FI,FL⟩:=afV (n:=n) hl (by omega) (by omega) FF;have nw:=dX hl (show j+(n+2)<l.length by omega);have qn:=dX hl (show j+(n+1)<l.length by omega);have jy:=dX hl (show j+n<l.length by omega);have aqV:(l++ex).length=u.length+ex.length:=by rw[Kaw,lA]
  have SA:(l++ex)[j+(n+2)]'(by omega)=l.getD (j+(n+2)) 0:=by rw[KcS (by omega)];exact(fN _).symm
  have Sy:(l++ex)[j+(n+1)]'(by omega)=l.getD (j+(n+1)) 0:=by rw[KcS (by omega)];exact(fN _).symm
  rw[<-fN (by omega)]at nw qn;have ao5:(bV (l++ex)).take u.length=bV l:=by rw[<-List.map_take,<-lA,List.take_left]
  have SR:l++ex=pre++(w++(post++ex)):=by rw[JR];simp
  generalize l.getD (j+(n+2)) 0=w2 at *
  generalize l.getD (j+(n+1)) 0=w1 at *
  simp+decide (disch:=first|omega|rfl|(simp+decide only[go_sem,fT,nt,lz,ql,bz,dy,ll,iY,iZ,ln,gQ,e2,e3,e4,SA,Sy,uB,Hs,HY,Ab,pH]<;>rfl)|fail) only[go_sem,fT,nt,lz,ql,bz,dy,ll,iY,iZ,ln,gQ,e2,e3,e4,SA,Sy,uB,Hs,HY,Ab,pH];have arl:w.length=n+3:=lD;have anV:=WA uP FL FI (by rw[<-fN (show j+n<l.length by omega)]at jy;omega) (by omega:0<v.getD (n+1) 0);have uE:=abz uP FL wA TA (KbS (by omega));have uw:=Kbl (w2*65536+w1) (v.getD (n+1) 0);have aqL:(w2*65536+w1)/v.getD (n+1) 0<131072:=by rw[Kbf (by omega)];omega
  have arc:=Kbs (w2*65536+w1) (by omega:0<v.getD (n+1) 0);rw[KaQ]at uw;generalize sZ:(w2*65536+w1)/v.getD (n+1) 0=d0 at *
  generalize Bv:(w2*65536+w1)%v.getD (n+1) 0=r0 at *
  have Jz:∀(h:HP) v w,Ql (Ql h 10 v) 9 w=Ql (Ql h 9 w) 10 v:=fun h v w=>X9 10 9 (by decide) h v w;refine adv (fun J=>J 7= .mp 7 0 0/\J 52= .int .u64 d0/\J 53= .int .u64 (w2*65536+w1:Nat)) (Tz3 @fT @true_and @and_true) ?_;clear fT;rintro J ⟨fT,Ja,Jb⟩;refine abA eH [9,10] (fun J2 bI=>J2 7= .mp 7 0 0/\J2 9= .mp 9 0 0/\J2 10= .mp 10 0 0/\bI=Ql (Ql h 9 ⟨1,88,[.int .u64 d0],false⟩) 10 ⟨1,88,[.int .u64 r0],false⟩) ?_ ?_
  ·intro F' AS;have RU:F' 3= .mp 3 0 0:=by rw[AS];simp+decide (disch:=try exact D1 iY) only[go_sem,iY]
   have RW:F' 5= .mp 5 0 0:=by rw[AS];simp+decide (disch:=try exact D1 iZ) only[go_sem,iZ]
   have SN:bE 9 F'=F':=by rw[AS];exact Cx rfl
   have SL:bE 10 F'=F':=by rw[AS];exact Cx rfl
   clear AS
   repeat' (first|refine dp ?_ ?_|simp+decide (disch:=first|omega|rfl|(simp+decide only[go_sem,fT,Ja,Jb,bz,dy,RU,RW,SN,SL,gQ,e3,uB,pH]<;>rfl)|fail) only[go_sem,fT,Ja,Jb,bz,dy,RU,RW,SN,SL,gQ,e3,uB,pH])
   all_goals refine DV (J:=_) ?_
   all_goals simp+decide (disch:=try exact D5 fT Bv Jz true_and and_true) only[go_sem,fT,Bv,Jz,true_and,and_true]
  clear fT Ja Jb J;rintro J _ ⟨fT,od,oc,rfl⟩;simp+decide (disch:=first|omega|rfl|(simp+decide only[go_sem,fT,od,oc,ll,iY,iZ,ln,RA,List.all_cons,List.all_nil,KaK,KaI,true_and]<;>rfl)|fail) only[go_sem,fT,od,oc,ll,iY,iZ,ln,RA,List.all_cons,List.all_nil,KaK,KaI,true_and];refine Ls eH [(62,77)] [] (fun m J hp=>∃d r,m=d/\d*v.getD (n+1) 0+r=w2*65536+w1/\val w<(d+1)*val v/\hp=Ql (Ql h 9 ⟨1,88,[.int .u64 d],false⟩) 10 ⟨1,88,[.int .u64 r],false⟩) d0 ?_ ?_
  ·exact⟨d0,r0,rfl,uw,anV,rfl⟩
  intro F1 yo;have EZ:F1 9= .mp 9 0 0:=by rw[yo,jG];simp+decide (disch:=try exact D1 od) only[go_sem,od]
  have EY:F1 10= .mp 10 0 0:=by rw[yo,jG];simp+decide (disch:=try exact D1 oc) only[go_sem,oc]
  have I7:F1 11= .fn 190 [] [.mp 9 0 0,.mp 3 0 0,.mp 5 0 0,.mp 10 0 0,.rb 1000000 0 u.length,.mp 7 0 0]:=by rw[yo,jG];simp+decide (disch:=try exact D0) only[go_sem]
  have hE3:F1 3= .mp 3 0 0:=by rw[yo,jG];simp+decide (disch:=try exact D1 iY) only[go_sem,iY]
  have hE5:F1 5= .mp 5 0 0:=by rw[yo,jG];simp+decide (disch:=try exact D1 iZ) only[go_sem,iZ]
  rintro d J2 _ ⟨_,r,rfl,ux,JA,rfl⟩;have aqJ:d<131072:=by have:d*32768<=d*v.getD (n+1) 0:=Kbc _ ao6;omega
  refine Sz3 @EZ @EY @I7 ?_;refine Vw eH [(62,67)] [] (fun J hp=>J 67= .bool (decide (r<65536/\(65536<=d∨r*65536+l.getD (j+n) 0<d*v.getD n 0)))/\hp=Ql (Ql h 9 ⟨1,88,[.int .u64 d],false⟩) 10 ⟨1,88,[.int .u64 r],false⟩) ?_ ?_
  ·refine Q4 (fun hr=>?_) (fun hr=>?_)
   ·refine Sz3 @EZ @EY @I7 ?_;refine X1 hP (Qz7 (dg:=d) (r:=r) (j:=j) hv hl hn rfl (by omega) (by omega) (by omega) (by omega)) (by simp+decide (disch:=first|omega|rfl|(simp+decide only[go_sem,fa,lz,bz,dy,nt,e2,Kas,KaI,List.getElem?_cons_zero,Kbx,Kai]<;>rfl)|fail) only[go_sem,fa,lz,bz,dy,nt,e2,Kas,KaI,List.getElem?_cons_zero,Kbx,Kai];simp only[Kbx,ao5]) rfl rfl ?_;refine Sz1 gQ ?_;refine DV ⟨?_,rfl⟩;refine Sz0 ?_;rw[show j+(n+2)-2=j+n by omega,show n+2-2=n by omega];exact congrArg PV.bool (decide_eq_decide.2 ⟨fun h=>⟨by omega,h⟩,fun h=>h.2⟩)
   ·refine Sz3 @EZ @EY @I7 ?_;refine DV ⟨?_,rfl⟩;refine Sz0 ?_;simp;omega
  rintro J3 _ ⟨I5,rfl⟩;simp (disch:=decide) only[jG,pI];refine Sz1 I5 ?_;refine Qb (fun ht=>?_) (fun ht=>?_)
  ·obtain⟨hr,ht⟩:=ht;have wb:val w<d*val v:=by
    rcases ht with ht|ht
    ·exact Kbi TA (Kal _ ht)
    ·exact abx uP FL FI ux ht
   obtain _|d:=d
   ·omega
   have e5:((d+1:Nat):Int)-1=(d:Nat):=by omega
   refine Ci @EZ @EY @hE3 @hE5 bz dy gQ e3 e5 uB Jz ?_;refine Qi d (by omega) ⟨d,r+v.getD (n+1) 0,rfl,?_,wb,rfl⟩;rw[KaG]at ux;omega
  have vV:d<65536:=by apply Decidable.byContradiction;intro iM;apply ht;refine⟨?_,.inl (by omega)⟩;have:65536*v.getD (n+1) 0<=d*v.getD (n+1) 0:=Kal _ (by omega);omega
  have ao4:¬r*65536+l.getD (j+n) 0<d*v.getD n 0:=by
   intro aoy;by_cases hr:r<65536
   ·exact ht ⟨hr,.inr aoy⟩
   ·have:=tw vV tg;omega
  have e5:j+(n+2)+1-j=n+3:=by omega
  subst yo;simp (disch:=decide) only[jG,hkk,pI];refine Sz14 @fT @od @oc @ll @iY @iZ @ln bz dy nt @lz e2 gQ e5 ?_;have BB:=Ln w v d 0 0 hw (by omega) (by omega);have Fh:=Pd w v d 0 0 (by omega) (by omega) vV hv;have bc:=Pa w v d 0 0;have Tq:=Ok w v d 0 0;have FJ:=oO hw;rw[lD]at BB FJ;refine En hP (Qz6 (pre:=pre) (w:=w) (post:=post++ex) (j:=j) (m:=n+3) (q:=d) hw hv vV df lD (by omega) (by rw[<-SR];omega)) (β:=1000000) (Tz2 @lz SR) (qN _) (by simp;omega) (by simp[jg,B0]) rfl ?_;rintro _ _ _ _ ⟨rfl,rfl⟩;generalize eR w v d 0 0=sq at *
  obtain⟨⟨BB,aZ⟩,Fh⟩:=And.intro BB Fh;have R3:=oO bc;rw[Tq,lD]at R3;have aq7:pre.length+(w.length+post.length)=u.length:=by rw[<-lA,JR];simp
  have are:j<(List.replicate (j+1) 0++qs).length:=by simp;omega
  have Ty:val l=val pre+65536^j*val w:=by rw[JR,mN,mN,J8,df,KbZ,KaO]
  simp+decide (disch:=first|omega|rfl|(simp+decide only[go_sem,nR,fT,od,oc,ll,iY,iZ,ln]<;>rfl)|fail) only[go_sem,nR,fT,od,oc,ll,iY,iZ,ln];refine Qb (fun hb=>?_) (fun hb=>?_)
  ·have dN:sq.2.2=1:=by omega
   rw[Fh,dN]at BB;obtain _|d:=d
   ·omega
   have St:=aby uP FL wA (by omega) vV ux ao4;obtain⟨k,hk⟩:=Lm sq.1 v 0 (by omega);have wu:=O' sq.1 v 0;have Tg:=Oj sq.1 v 0;rw[Tq,lD]at hk Tg;have Te:=oO wu;rw[Tg]at Te;obtain⟨Jg,Jh⟩:=adw (B:=65536^(n+3)) (S:=val sq.1) (e:=d) (by omega) R3 St (by omega) Te FJ;have e6:((d+1:Nat):Int)-1=(d:Nat):=by omega
   simp+decide (disch:=first|omega|rfl|(simp+decide only[go_sem,fT,od,oc,ll,iY,iZ,ln,bz,dy,nt,lz,e2,e6,gQ,e5]<;>rfl)|fail) only[go_sem,fT,od,oc,ll,iY,iZ,ln,bz,dy,nt,lz,e2,e6,gQ,e5];refine En hP (UK (pre:=pre) (w:=sq.1) (post:=post++ex) (j:=j) (m:=n+3) bc hv df (by omega) (by omega) (by simp;omega)) (β:=1000000) Tz0 (qN _) (by simp;omega) (by simp[jg,B0]) rfl ?_;rintro _ _ _ _ ⟨rfl,rfl⟩;have Bc:=PJ (q:=d) (R:=kA sq.1 v 0) df J8 dH Ty Jh;simp+decide (disch:=first|omega|rfl|(simp+decide only[go_sem,nR,fT,od,oc,ll,iY,iZ,ln,bz,dy,nt,lz,ql,e2,e6,gQ,e5,DY,KaJ (by omega:d<65536),Fp]<;>rfl)|fail) only[go_sem,nR,fT,od,oc,ll,iY,iZ,ln,bz,dy,nt,lz,ql,e2,e6,gQ,e5,DY,KaJ (by omega:d<65536),Fp];refine Qi j (by omega) ⟨pre++(kA sq.1 v 0++post),d::qs,by simp;omega,?_,?_,?_,?_,Bc.2,?_⟩
   ·rw[nM,nM];exact⟨yE,wu,gR⟩
   ·simp;omega
   ·rw[gB];exact⟨by omega,pj⟩
   ·rw[Bc.1];exact Jg
   ·simp+decide (disch:=first|omega|rfl|(simp+decide only[go_sem,bz,dy,true_and,and_true,gQ,Kbv]<;>rfl)|fail) only[go_sem,bz,dy,true_and,and_true,gQ,Kbv]
  ·have dN:sq.2.2=0:=by omega
   rw[Fh,dN]at BB;obtain⟨Jg,Jh⟩:=afW (S:=val sq.1) (d:=d) (by omega) JA;have Bc:=PJ (q:=d) (R:=sq.1) df J8 dH Ty Jh;simp+decide (disch:=first|omega|rfl|(simp+decide only[go_sem,nR,fT,od,oc,ll,iY,iZ,ln,bz,dy,nt,lz,ql,e2,gQ,e5,DY,KaJ vV,Fp]<;>rfl)|fail) only[go_sem,nR,fT,od,oc,ll,iY,iZ,ln,bz,dy,nt,lz,ql,e2,gQ,e5,DY,KaJ vV,Fp];refine Qi j (by omega) ⟨pre++(sq.1++post),d::qs,by simp;omega,?_,?_,?_,?_,Bc.2,?_⟩
   ·rw[nM,nM];exact⟨yE,bc,gR⟩
   ·simp;omega
   ·rw[gB];exact⟨vV,pj⟩
   ·rw[Bc.1];exact Jg
   ·simp+decide (disch:=first|omega|rfl|(simp+decide only[go_sem,bz,dy,true_and,and_true,gQ,Kbv]<;>rfl)|fail) only[go_sem,bz,dy,true_and,and_true,gQ,Kbv]
 ·obtain rfl:k=0:=by omega
  rw[Kbx]at FF;rw[Nat.pow_zero,Kck]at dH;have hdiv:val u/val v=val qs:=by rw[dH,Kcn _ _ hvp,Kcw FF,Ka9]
  have Br:val u%val v=val l:=by rw[dH,Kcm,KaJ FF]
  simp+decide (disch:=first|omega|rfl|(simp+decide only[go_sem,fT,nt,lz,ql,bz,dy,ll,iY,iZ,ln,Ka7,KaI]<;>rfl)|fail) only[go_sem,fT,nt,lz,ql,bz,dy,ll,iY,iZ,ln,Ka7,KaI];refine oJ hP (gT pj (by omega)) (zS (ty:=128) (fz:=false) (by simp+decide (disch:=first|omega|rfl|(simp+decide only[go_sem,ql,Ka7,KaI]<;>rfl)|fail) only[go_sem,ql,Ka7,KaI]) (by omega)) rfl ?_;refine Sz0 ?_;refine M8 (xs':=bV (l++ex)) (p:=PV.num (val qs)) ?_ (qN _) (by simp;omega) Tz0 rfl ⟨by rw[hdiv],l,rfl,hl,lA,Br.symm⟩;show FW.Qx h [18] 1000000=_;simp only[FW.Qx];rw[if_neg (by decide),lz]
theorem WU{a:List Nat}{s:Nat}(ha:Qj a)(bu:a.length<2^40)(hs:s<=15):Qd Tryz.prog 182 [PV.nat a,.int .i64 (-(s:Int))] (· =PV.num (val a/2^s)):=by
 have fV:=bF ha;unfold nl at fV;by_cases h0:val a=0
 ·refine aB Qg Tryz.func182 IC fun C hP=>?_;refine Sz0 ?_;refine Qa hP (gT ha (by omega)) rfl rfl rfl ?_;refine Sz0 ?_;refine Qo (fun hz=>by omega) (fun hz=>?_);refine Sz0 ?_;refine Qo (fun hz=>by omega) (fun hz=>?_);refine Sz0 ?_;refine Qb (fun hz=>?_) (fun hz=>absurd (by rw[h0,ff];rfl) hz);refine Sz0 ?_;exact oK (z' (by simp[h0])) rfl
 by_cases wv:s=0
 ·subst wv;have:=(G' (s:=0) ha bu (by omega) h0).Ug;rw[Nat.pow_zero,KbL]at this;rw[Nat.pow_zero,Nat.div_one];exact this
 have mr:(ak (val a)).length≠0:=fun h=>h0 (lH.1 (pE h));refine aB Qg Tryz.func182 IC fun C hP=>?_;refine Sz0 ?_;refine Qa hP (gT ha (by omega)) rfl rfl rfl ?_;refine Sz0 ?_;refine Qo (fun hz=>by omega) (fun hz=>?_);refine Sz0 ?_;refine Qo (fun hz=>by omega) (fun hz=>?_);refine Sz0 ?_;refine Qb (fun hz=>by omega) (fun hz=>?_);refine Sz0 ?_;refine Qb (fun hz=>?_) (fun hz=>by omega);have e:(0:Int)- -(s:Int)=(s:Nat):=by omega
 refine Sz1 e ?_;refine Qa hP (Wo (Qk (val a)) (by omega) hs) rfl rfl rfl ?_;refine Sz1 @Qt ?_;exact Qc rfl rfl
theorem WV{x d:Nat}(hx:(ak x).length<2^42)(hd:0<d)(og:d<65536):Qd Tryz.prog 180 [PV.num x,.int .u16 d] (· = .aG [PV.num (x/d),.int .u16 (x%d:Nat)]):=by
 have:=VC (Qk x) hx hd og
 rwa[Qt]at this
theorem Hb{a b:List Nat}(ha:Qj a)(hb:Qj b)(bu:a.length<2^38)(dz:b.length<2^38):Qd Tryz.prog 156 [PV.nat a,PV.nat b]
  (· =if val b=0 then .aG [PV.num 0,PV.num 0,.int .i64 3]else .aG [PV.num (val a/val b),PV.num (val a%val b),.int .i64 0]):=by
 have fV:=bF ha;have iK:=bF hb;unfold nl at fV iK;refine aB Qg Tryz.func156 ad8 fun C hP=>?_;refine Sz0 ?_;refine Qa hP (gT ha (by omega)) rfl rfl rfl ?_;refine Sz0 ?_;refine Qa hP (gT hb (by omega)) rfl rfl rfl ?_;refine Sz0 ?_;have eM:=Qk (val a);have kJ:=Qk (val b);have qw:=Qt (val a);have wC:=Qt (val b);have apB:=HV (val b);generalize val a=x at *
 generalize val b=y at *
 refine Qb (fun hz=>?_) (fun hz=>?_)
 ·have cU:y=0:=lH.1 (pE (by omega));refine Sz0 ?_;rw[if_pos cU];exact tQ rfl rfl rfl rfl xl xl (Qf _)
 have cU:y≠0:=fun h=>by rw[h,ff]at hz;simp at hz
 rw[if_neg cU];refine Sz0 ?_;refine Qa hP (Dr eM kJ (by omega) (by omega)) rfl rfl rfl ?_;refine Sz2 qw wC ?_;refine Qb (fun hc=>?_) (fun hc=>?_)
 ·have aq:x<y:=by
   unfold gm at hc;split at hc
   ·assumption
   ·split at hc<;>omega
  refine Sz0 ?_;refine Qa hP (zx eM (by omega)) rfl rfl rfl ?_;refine Sz1 qw ?_;exact tQ rfl rfl rfl rfl (z' (Kcw aq)) (tD (by rw[KaJ aq])) (Qf _)
 have iM:y<=x:=by unfold gm at hc;split at hc<;>omega
 refine Sz0 ?_;refine Qb (fun h1=>?_) (fun h1=>?_)
 ·obtain⟨d,hd⟩:∃d,ak y=[d]:=by
   match h:ak y,h1 with
   | [d],_=>exact⟨d,rfl⟩
   | [],h1=>simp at h1
   |_::_::_,h1=>simp at h1;omega
  have hyd:y=d:=by rw[<-wC,hd];simp[val]
  have Bg:d<65536:=by rw[hd]at kJ;exact kJ d (by simp)
  simp+decide (disch:=first|omega|rfl|(simp+decide only[go_sem,hd,Kbe,Kby,KaT,Kbo]<;>rfl)|fail) only[go_sem,hd,Kbe,Kby,KaT,Kbo];refine Qa hP (WV (x:=x) (d:=d) (by omega) (by omega) Bg) (by rw[PV.num];rfl) rfl rfl ?_;have hm:x%d<18446744073709551616:=by have:=Kbs x (show 0<d by omega);omega
  refine Sz0 ?_;refine Qa hP (Ec hm) rfl rfl rfl ?_;refine Sz0 ?_;rw[hyd];exact tQ rfl rfl rfl rfl (Qf _) (Qf _) (Qf _)
 obtain⟨n,hn⟩:∃n,(ak y).length=n+2:=⟨(ak y).length-2,by omega⟩
 obtain⟨m,hm⟩:∃m,(ak x).length=m+2:=by have:=fh iM;unfold nl at this;exact⟨(ak x).length-2,by omega⟩
 have e1:((n+2:Nat):Int)-1=((n+1:Nat):Int):=by omega
 have je:(ak y)[n+1]'(by omega)≠0:=by
  intro h;apply apB;have:(ak y).getLast? =some ((ak y)[n+1]'(by omega)):=by rw[Kbh,show(ak y).length-1=n+1 by omega];exact Kag _
  rw[this,h]
 have qx:=dX kJ (show n+1<(ak y).length by omega);have aqM:val (ak y)=y:=Qt y;generalize uQ:(ak y)[n+1]'(by omega)=yi at *
 have yt:=Ha qx;have hbp:=Hj qx je;obtain⟨cx,ao8⟩:=Wp _ yi rfl je qx;obtain⟨s,hs,uN⟩:∃s,16-Lib.bitLen yi=s/\s<=15:=⟨_,rfl,by omega⟩
 refine Sz3 hn e1 uQ ?_;refine Qa hP (Qqq qx) rfl rfl rfl ?_;refine Sz1 hs ?_;have hso:=G' (a:=ak x) (s:=s) eM (by omega) uN (by rw[qw];omega);refine ago hP hso rfl rfl rfl (by decide) ?_;rintro _ _ rfl;rw[qw];have hDl:(ak (x*2^s)).length<=m+3:=by have h1:=iP x (2^s);have h2:nl (2^s)<=1:=mS.2 (by have:2^s<=2^15:=Kbu (by omega) uN;omega);unfold nl at h1 h2;omega
 have aqy:m+2<=(ak (x*2^s)).length:=by have:=fh (show x<=x*2^s from Kct _ (KbS (by omega)));unfold nl at this;omega
 refine Sz1 hm ?_;rw[Hn (ys:=bV [0,0]) (xs:=bV (ak (x*2^s))) (by simp+decide (disch:=first|omega|rfl|(simp+decide only[go_sem,jj]<;>rfl)|fail) only[go_sem,jj];rfl) Tz0 (by omega) (by simp) (by simp;omega) (by simp;omega)];rw[Kai (by simp),<-List.map_append];simp+decide (disch:=first|omega|rfl|(simp+decide only[go_sem,hm,KaT,Kbo]<;>rfl)|fail) only[go_sem,hm,KaT,Kbo];have Ts:=(G' (a:=ak y) (s:=s) kJ (by omega) uN (by rw[wC];omega)).Ug;rw[wC]at Ts;refine Qa hP Ts rfl rfl rfl ?_;obtain⟨g1,g2⟩:=Za uN (by rw[show 16-s=Lib.bitLen yi by omega];exact cx) (by rw[show 16-s=Lib.bitLen yi by omega];exact ao8);obtain⟨R6,hYt,anA⟩:=Vx hn uQ g1 g2;have fY:n<=m:=by have:=fh iM;unfold nl at this;omega
 obtain⟨u,ex,Tw,Kg,hu3,hu4,hu5,hu6⟩:=Vy (s:=s) hm uN fY anA;have anW:x*2^s/(y*2^s)=x/y:=Nat.mul_div_mul_right _ _ (KbS (by omega));have anX:x*2^s%(y*2^s)=x%y*2^s:=Nat.mul_mod_mul_right _ _ _;rw[Tw];refine Sz0 ?_;have SO:=ZJ (u:=u) (v:=ak (y*2^s)) (ex:=ex) hu3 (Qk _) (by omega) (by omega) (by rw[R6];exact hYt) (by rw[R6,Kg,Qt];exact hu6) (by omega);rw[Kg,hu4,Qt,anW,anX]at SO;refine En hP SO (β:=52) Tz0 (qN _) (by simp;omega) (by simp[jg]) rfl ?_;rintro _ _ _ _ ⟨rfl,l,rfl,qn,nw,JO⟩;have e5:IntKind.i64.wrap (0-(s:Int))= -(s:Int):=by rw[vf (by omega) (by omega)];omega
 have bN:(bV (l++ex)).take (m+2+1)=bV l:=by rw[<-List.map_take,show m+2+1=l.length by omega,List.take_left]
 simp+decide (disch:=first|omega|rfl|(simp+decide only[go_sem,nR]<;>rfl)|fail) only[go_sem,nR];refine oJ hP (gT qn (by omega)) (by simp[Qu,cq,aM,Ql,<-List.map_append,bN]) rfl ?_;refine Sz1 e5 ?_;rw[JO];have wz:=WU (a:=ak (x%y*2^s)) (s:=s) (Qk _) (by have:=fh (show x%y*2^s<=x*2^s from Kal _ (Nat.mod_le _ _));unfold nl at this;omega) uN;rw[Qt,Nat.mul_div_cancel _ (KbS (by omega))]at wz;refine Qa hP wz rfl rfl rfl ?_;refine Sz0 ?_;exact tQ rfl rfl rfl rfl (Qf _) (Qf _) (Qf _)
theorem LG{a b:List Nat}(ha:Qj a)(hb:Qj b)(bu:a.length<2^38)(dz:b.length<2^38):Qd Tryz.prog 155 [PV.nat a,PV.nat b] (· =PV.num (Nat.gcd (val a) (val b))):=by
 have fV:=bF ha;have iK:=bF hb;unfold nl at fV iK;refine aB Qg Tryz.func155 adC fun C hP=>?_;refine Sz0 ?_;refine Qa hP (zx ha (by omega)) rfl rfl rfl ?_;refine Sz0 ?_;refine Qa hP (zx hb (by omega)) rfl rfl rfl ?_;refine Sz0 ?_;refine Qn eH [(0,1),(4,11),(16,49)] [] (fun m J hp=>∃x y,m=y/\Nat.gcd x y=Nat.gcd (val a) (val b)/\(ak x).length<2^38/\(ak y).length<2^38/\J 0=PV.num x/\J 1=PV.num y/\hp=aw) (val b) ?_ ?_
 ·refine⟨val a,val b,rfl,rfl,by omega,by omega,?_⟩;exact Tz2 @true_and @and_true
 rintro y J _ ⟨x,_,rfl,hg,hx,hy,h0,h1,rfl⟩;generalize Nat.gcd (val a) (val b)=g at *
 refine Sz2 h0 h1 ?_;refine Qb (fun hc=>?_) (fun hc=>?_)
 ·have cU:y≠0:=fun h=>by rw[h,ff]at hc;simp at hc
  have Br:(ak (x%y)).length<2^38:=by have:=fh (Nat.le_of_lt (Kbs x (KaU cU)));unfold nl at this;omega
  refine Sz2 h0 h1 ?_;refine Qa hP (HK (Qk x) (by omega)) rfl rfl rfl ?_;refine Sz2 h0 h1 ?_;rw[Qt];by_cases ee:nl x<=4
  ·have yJ:=C8.1 ee;rw[if_pos ee];refine Sz2 h0 h1 ?_;refine Qa hP (HK (Qk y) (by omega)) rfl rfl rfl ?_;rw[Qt];by_cases cL:nl y<=4
   ·have qy:=C8.1 cL;rw[if_pos cL];refine Sz2 h0 h1 ?_;refine Qn eH [(5,5),(7,7),(33,38)] [] (fun m J hp=>∃p q,m=q/\Nat.gcd p q=g/\p<18446744073709551616/\q<18446744073709551616/\J 5= .int .u64 p/\J 7= .int .u64 q/\hp=aw) y ?_ ?_
    ·refine⟨x,y,rfl,hg,yJ,qy,?_⟩;exact Tz2 @true_and @and_true
    rintro q J2 _ ⟨p,_,rfl,eW,ft,bI,h5,h7,rfl⟩;refine Sz2 h5 h7 ?_;refine Qb (fun hq=>?_) (fun hq=>?_)
    ·have kG:0<q:=by omega
     refine Sz3 h5 h7 @pH ?_;refine Qi (p%q) (Kbs _ kG) ⟨q,p%q,rfl,?_,bI,?_,?_⟩
     ·rw[<-eW,Kcr p q,Nat.gcd_rec q p,Kcr]
     ·have:=Kbs p kG;omega
     ·exact Tz2 @true_and @and_true
    ·obtain rfl:q=0:=by omega
     refine Sz2 h5 h7 ?_;refine Qa hP (Ec ft) rfl rfl rfl ?_;refine Sz0 ?_;exact Qc (by rw[<-eW,KcU]) rfl
   ·rw[if_neg cL];refine Sz2 h0 h1 ?_;refine Qa hP (Hb (Qk x) (Qk y) (by omega) (by omega)) rfl rfl rfl ?_;rw[Qt,Qt,if_neg cU];refine Sz2 h0 h1 ?_;refine Qi (x%y) (Kbs _ (KaU cU)) ⟨y,x%y,rfl,?_,hy,Br,?_⟩
    ·rw[<-hg,Kcr x y,Nat.gcd_rec y x,Kcr]
    ·exact Tz2 @true_and @and_true
  ·rw[if_neg ee];refine Sz2 h0 h1 ?_;refine Qa hP (HK (Qk y) (by omega)) rfl rfl rfl ?_;obtain⟨r1,r2,hr⟩:∃r1 r2,(if nl (val (ak y))<=4 then PV.aG [.int .u64 (val (ak y)),.bool true]else .aG [.int .u64 0,.bool false])= .aG [.int .u64 r1,.bool r2]:=by split<;>exact⟨_,_,rfl⟩
   rw[hr];refine Sz2 h0 h1 ?_;refine Qa hP (Hb (Qk x) (Qk y) (by omega) (by omega)) rfl rfl rfl ?_;rw[Qt,Qt,if_neg cU];refine Sz2 h0 h1 ?_;refine Qi (x%y) (Kbs _ (KaU cU)) ⟨y,x%y,rfl,?_,hy,Br,?_⟩
   ·rw[<-hg,Kcr x y,Nat.gcd_rec y x,Kcr]
   ·exact Tz2 @true_and @and_true
 ·have cU:y=0:=lH.1 (pE (by omega));subst cU;refine Sz1 h0 ?_;exact Qc (by rw[<-hg,KcU]) rfl
theorem wW(n:Bool)(x:Nat):Qd Tryz.prog 110 [.bool n,PV.num x] (· =PV.zz (if n then -(x:Int)else x)):=by
 refine aB Qg Tryz.func110 adG fun C hP=>?_;refine Sz0 ?_;refine wZ (fun hn=>?_) (fun hn=>?_)
 all_goals
  refine Sz0 ?_;refine cY ?_;refine Sz0 ?_;exact Qc (by rw[<-Ix,hn];simp) rfl
theorem ZK{n:Bool}{a:List Nat}(ha:Qj a)(bu:a.length<2^42):Qd Tryz.prog 177 [.bool n,PV.nat a] (· =PV.zz (zv n a)):=by
 refine aB Qg Tryz.func177 adF fun C hP=>?_;refine Sz0 ?_;refine Qa hP (zx ha bu) rfl rfl rfl ?_;refine Sz0 ?_;refine wZ (fun hn=>?_) (fun hn=>?_)
 all_goals
  refine Sz0 ?_;refine cY ?_;refine Sz0 ?_;exact Qc (by have:=Ix n (val a);rw[hn]at this;subst hn;simpa[zv]using this) rfl
theorem VF{n:Bool}{a:List Nat}(ha:Qj a)(bu:a.length<2^42):Qd Tryz.prog 154 [PV.zi n a] (· =PV.zz (zv n a)):=by refine aB Qg Tryz.func154 adI fun C hP=>?_;refine Sz0 ?_;refine Qa hP (ZK ha bu) rfl rfl rfl ?_;refine Sz0 ?_;refine cY ?_;refine Sz0 ?_;exact Qc rfl rfl
theorem CN{n:Bool}{a:List Nat}(ha:Qj a)(bu:a.length<2^40):Qd Tryz.prog 94 [PV.zi n a] (· = .int .i64 (eO (zv n a))):=by
 refine aB Qg Tryz.func94 agR fun C hP=>?_;refine Sz0 ?_;refine fM hP (QI ha bu) rfl rfl rfl ?_;rintro _ ⟨k,rfl,hk⟩;refine Sz0 ?_;rw[Gk];refine Qb (fun hz=>?_) (fun hz=>?_)
 ·refine Sz0 ?_;rw[if_pos (hk.1 (by omega))];exact Qc rfl rfl
 ·rw[if_neg (fun h=>hz (by rw[hk.2 h];rfl))];refine Sz0 ?_;refine zC (fun hn=>?_) (fun hn=>?_)
  ·refine Sz0 ?_;exact Qc (by simp[hn]) rfl
  ·refine Sz0 ?_;exact Qc (by simp[hn]) rfl
theorem Ow{a b:List Nat}(ha:Qj a)(hb:Qj b)(bu:a.length<2^40)(dz:b.length<2^40):Qd Tryz.prog 185 [PV.nat a,PV.nat b] (· = .int .i64 (gm (val a) (val b))):=by refine aB Qg Tryz.func185 ael fun C hP=>?_;refine Sz0 ?_;refine Qa hP (Dr ha hb bu dz) rfl rfl rfl ?_;refine Sz0 ?_;exact Qc rfl rfl
theorem WW{n m:Bool}{a b:List Nat}(ha:Qj a)(hb:Qj b)(bu:a.length<2^40)(dz:b.length<2^40):Qd Tryz.prog 158 [PV.zi n a,PV.zi m b] (· = .int .i64 (dk (zv n a) (zv m b))):=by
 have hx:=Gk n a;have hy:=Gk m b;refine aB Qg Tryz.func158 adK fun C hP=>?_;refine Sz0 ?_;refine Qa hP (CN ha bu) rfl rfl rfl ?_;refine Sz0 ?_;refine Qa hP (CN hb dz) rfl rfl rfl ?_;refine Sz0 ?_;refine Qb (fun hs=>?_) (fun hs=>?_)
 ·refine Sz0 ?_;exact Qc (by rw[adA hs]) rfl
 refine Sz0 ?_;refine Qb (fun cL=>?_) (fun cL=>?_)
 ·refine Sz0 ?_;exact Qc (by rw[ac0 cL]) rfl
 have he:eO (zv n a)=eO (zv m b):=by omega
 refine Sz0 ?_;refine Qb (fun wx=>?_) (fun wx=>?_)
 ·refine Sz0 ?_;refine Qa hP (Ow hb ha dz bu) rfl rfl rfl ?_;refine Sz0 ?_;exact Qc (by rw[ac1 (xx.1 wx) (xx.1 (he▸wx))]) rfl
 ·refine Sz0 ?_;refine Qa hP (Ow ha hb bu dz) rfl rfl rfl ?_;refine Sz0 ?_;exact Qc (by rw[ac2 (fun h=>wx (xx.2 h)) (fun h=>wx (he▸xx.2 h))]) rfl
theorem Po{n m:Bool}{a b:List Nat}(ha:Qj a)(hb:Qj b)(bu:a.length<2^40)(dz:b.length<2^40):Qd Tryz.prog 171 [PV.zi n a,PV.zi m b] (· =PV.zz (zv n a+zv m b)):=by
 refine aB Qg Tryz.func171 aem fun C hP=>?_;refine Sz0 ?_;refine zC (fun fY=>?_) (fun fY=>?_)
 ·have fY:n=m:=by simpa using fY
  subst fY;refine Sz0 ?_;refine Qa hP (abZ ha hb bu dz) rfl rfl rfl ?_;refine Sz0 ?_;refine Qa hP (wW n (val a+val b)) rfl rfl rfl ?_;refine Sz0 ?_;refine cY ?_;refine Sz0 ?_;exact Qc (congrArg PV.zz (by unfold zv;split<;>simp<;>omega)) rfl
 have fY:n= !m:=by cases n<;>cases m<;>simp_all
 subst fY;refine Sz0 ?_;refine Qa hP (Dr ha hb bu dz) rfl rfl rfl ?_;refine Sz0 ?_;refine Qb (fun hc=>?_) (fun hc=>?_)
 ·rw[DE]at hc;refine Sz0 ?_;refine Qa hP (LD hb ha dz bu (by omega)) rfl rfl rfl ?_;refine Sz0 ?_;refine Qa hP (wW m (val b-val a)) rfl rfl rfl ?_;refine Sz0 ?_;refine cY ?_;refine Sz0 ?_;exact Qc (congrArg PV.zz (by unfold zv;cases m<;>simp<;>omega)) rfl
 ·rw[DE]at hc;refine Sz0 ?_;refine Qa hP (LD ha hb bu dz (by omega)) rfl rfl rfl ?_;refine Sz0 ?_;refine Qa hP (wW (!m) (val a-val b)) rfl rfl rfl ?_;refine Sz0 ?_;refine cY ?_;refine Sz0 ?_;exact Qc (congrArg PV.zz (by unfold zv;cases m<;>simp<;>omega)) rfl
theorem rZ{n m:Bool}{a b:List Nat}(ha:Qj a)(hb:Qj b)(bu:a.length<2^40)(dz:b.length<2^40):Qd Tryz.prog 60 [PV.zi n a,PV.zi m b] (· =PV.zz (zv n a*zv m b)):=by refine aB Qg Tryz.func60 agt fun C hP=>?_;refine Sz0 ?_;refine Qa hP (Ds ha hb bu dz) rfl rfl rfl ?_;refine Sz0 ?_;refine Qa hP (wW (!(n==m)) (val a*val b)) rfl rfl rfl ?_;refine Sz0 ?_;refine cY ?_;refine Sz0 ?_;exact Qc (congrArg PV.zz (by unfold zv;cases n<;>cases m<;>simp[Int.neg_mul,Int.mul_neg])) rfl
theorem Dt{a:List Nat}(hl:a.length<2^43):Qd Tryz.prog 144 [PV.nat a] (· = .bool (decide (a=[1]))):=by
 refine aB Qg Tryz.func144 aen fun C hP=>?_;refine Sz0 ?_;refine Qb (fun hz=>?_) (fun hz=>?_)
 ·obtain⟨x,xs,rfl⟩:∃x xs,a=x::xs:=by
   match a,hz with
   |x::xs,_=>exact⟨x,xs,rfl⟩
  simp+decide (disch:=first|omega|rfl|(simp+decide only[go_sem,Kbe,List.getElem_cons_zero]<;>rfl)|fail) only[go_sem,Kbe,List.getElem_cons_zero];refine Qc (congrArg PV.bool ?_) rfl;rw[<-Bool.decide_and];exact decide_eq_decide.2 ⟨fun⟨h1,h2⟩=>by
   have:xs=[]:=Kar.1 (by omega);subst this;congr 1;omega,fun h=>by
   injection h with h1 h2;subst h1 h2;simp⟩
 ·have:a=[]:=Kar.1 (by omega);subst this;refine Sz0 ?_;exact Qc rfl rfl
theorem Ox(x:Nat):(ak x=[1])↔x=1:=⟨fun h=>by have:=Qt x;rw[h]at this;simpa[val]using this.symm,fun h=>by rw[h,sr]⟩
theorem ID{x:Nat}(hl:(ak x).length<2^43):Qd Tryz.prog 144 [PV.num x] (· = .bool (decide (x=1))):=by
 have:=Dt hl
 rwa[decide_eq_decide.2 (Ox x)]at this
theorem Di:Qd Tryz.prog 108 [] (· =PV.nat [1]):=by refine aB Qg Tryz.func108 aeo fun C hP=>?_;refine Sz0 ?_;exact Qc rfl rfl
theorem Pp{x y:Nat}(hx:(ak x).length<2^38)(hy:(ak y).length<2^38)(h0:y≠0):Qd Tryz.prog 156 [PV.num x,PV.num y] (· = .aG [PV.num (x/y),PV.num (x%y),.int .i64 0]):=by
 have:=Hb (Qk x) (Qk y) hx hy
 rwa[Qt,Qt,if_neg h0]at this
theorem aeu{x y:Nat}(hx:(ak x).length<2^38)(hy:(ak y).length<2^38):Qd Tryz.prog 155 [PV.num x,PV.num y] (· =PV.num (Nat.gcd x y)):=by
 have:=LG (Qk x) (Qk y) hx hy
 rwa[Qt,Qt]at this
theorem Oa{n:Bool}{a d:List Nat}(ha:Qj a)(hd:Qj d)(bu:a.length<2^38)(s6:d.length<2^38):Qd Tryz.prog 109 [PV.zi n a,PV.nat d] (· =PV.rat (rv n a d)):=by
 have mm:=bF ha;have JV:=bF hd;rw[<-iO n a]at mm;unfold rv;unfold nl at mm JV;refine qK Qg Tryz.func109 rfl aep (by simp[IL]) fun C hP=>?_;simp only[IL];refine du ?_;refine Sz0 ?_;refine Qa hP (zx hd (by omega)) rfl rfl rfl ?_;refine Sz0 ?_;refine Qa hP (VF ha (by omega)) rfl rfl rfl ?_;refine Sz0 ?_;generalize zv n a=z at *
 generalize val d=D at *
 have hlen:∀x:Nat,((ak x).length:Int)=0↔x=0:=fun x=>by rw[<-lH,<-List.length_eq_zero_iff];omega
 have RL:∀ {fr:Fr} {hp:HP},(D=0∨z=0)->vB (· =PV.rat (mkRat z D)) (.agg [.bool false,.aa,PV.nat [1]]):=fun h=>by rw[Om h];exact oK Mm rfl
 refine Qo (fun hz=>?_) (fun hz=>?_)
 ·refine Sz0 ?_;refine Qa hP Di rfl rfl rfl ?_;refine Sz0 ?_;refine cY ?_;refine Sz0 ?_;exact RL (fr:=aJ) (hp:=aw) (.inl ((hlen _).1 hz))
 refine Sz0 ?_;refine Qb (fun FN=>?_) (fun FN=>?_)
 ·refine Sz0 ?_;refine Qa hP Di rfl rfl rfl ?_;refine Sz0 ?_;refine cY ?_;refine Sz0 ?_;exact RL (fr:=aJ) (hp:=aw) (.inr (Int.natAbs_eq_zero.1 ((hlen _).1 FN)))
 have hD:D≠0:=fun h=>hz ((hlen _).2 h);refine Sz0 ?_;refine Qa hP (ID (by omega)) rfl rfl rfl ?_;refine Sz0 ?_;refine Qb (fun h1=>?_) (fun h1=>?_)
 ·subst h1;refine Sz0 ?_;refine cY ?_;refine Sz0 ?_;exact Qc (by rw[<-ajm];simp only[sr]) rfl
 refine Sz0 ?_;refine Qa hP (aeu (by omega) (by omega)) rfl rfl rfl ?_;have iL:Nat.gcd z.natAbs D≠0:=fun h=>hD (Nat.eq_zero_of_gcd_eq_zero_right h);have uD:(ak (Nat.gcd z.natAbs D)).length<2^38:=by have:=fh (Kc0 z.natAbs (KaU hD));unfold nl at this;omega
 have dT:=M3 (z:=z) hD;generalize Nat.gcd z.natAbs D=g at *
 refine Sz0 ?_;refine Qa hP (ID (by omega)) rfl rfl rfl ?_;refine Sz0 ?_;refine zC (fun h2=>?_) (fun h2=>?_)
 ·refine Sz0 ?_;refine Qa hP (Pp (by omega) uD iL) rfl rfl rfl ?_;refine Sz0 ?_;refine Qa hP (Pp (by omega) uD iL) rfl rfl rfl ?_;refine Sz0 ?_;refine cY ?_;refine Sz0 ?_;exact Qc dT rfl
 ·have:g=1:=by simpa using h2
  subst this;rw[Nat.div_one,Nat.div_one]at dT;refine Sz0 ?_;refine cY ?_;refine Sz0 ?_;exact Qc dT rfl
theorem tz(a:List Nat):Qd Tryz.prog 61 [PV.nat a] (· =PV.zi false a):=by refine aB Qg Tryz.func61 agv fun C hP=>?_;refine Sz0 ?_;refine cY ?_;refine Sz0 ?_;exact Qc rfl rfl
def ag2(k:Nat)(q:Rat)(r:PV):Prop:=∃n a d,r= .aG [PV.zi n a,PV.nat d]/\Qj a/\Qj d/\a.length<=k/\d.length<=k/\val d≠0/\rv n a d=q
theorem r8{n:Bool}{a d:List Nat}{k:Nat}(ha:Qj a)(hd:Qj d)(hk:1<=k)(bu:a.length<=k)(s6:d.length<=k)(pd:k<2^38):Qd Tryz.prog 58 [PV.rr n a d] (ag2 k (rv n a d)):=by
 refine aB Qg Tryz.func58 agu fun C hP=>?_;refine Sz0 ?_;refine fM hP (QI hd (by omega)) rfl rfl rfl ?_;rintro _ ⟨b,rfl,hb⟩;refine Sz0 ?_;refine Qb (fun hz=>?_) (fun hz=>?_)
 ·have h0:val d=0:=hb.1 (by omega);refine Sz0 ?_;refine Qa hP Di rfl rfl rfl ?_;refine Sz0 ?_;refine eA ?_;refine Sz0 ?_;refine⟨⟨rfl,rfl⟩,.aG [PV.zi false [],PV.nat [1]],⟨⟨rfl,trivial,trivial⟩,Qf _,trivial⟩,false,[],[1],rfl,nO,by intro x hx;simp at hx;omega,by simp,by simpa using hk,by simp[val],?_⟩;unfold rv;rw[h0,Rat.mkRat_zero];rfl
 ·have h0:val d≠0:=fun h=>hz (by rw[hb.2 h];rfl);refine Sz0 ?_;refine dp ?_ ?_
  all_goals
   refine Sz0 ?_;refine eA ?_;refine Sz0 ?_;exact⟨⟨rfl,rfl⟩,.aG [PV.zi n a,PV.nat d],⟨Qf _,Qf _,trivial⟩,n,a,d,rfl,ha,hd,bu,s6,h0,rfl⟩
theorem ab0{z:Int}{m:Bool}{b:List Nat}(hb:Qj b)(bu:nl z.natAbs<2^40)(dz:b.length<2^40):Qd Tryz.prog 171 [PV.zz z,PV.zi m b] (· =PV.zz (z+zv m b)):=by
 have:=Po (n:=decide (z<0)) (a:=ak z.natAbs) (m:=m) (Qk _) hb bu dz
 rwa[lR]at this
theorem LH{n m:Bool}{a b:List Nat}(ha:Qj a)(hb:Qj b)(bu:a.length<2^39)(dz:b.length<2^39):Qd Tryz.prog 145 [.sl 2 [PV.zi n a,PV.zi m b]] (· =PV.zz (zv n a+zv m b)):=by
 have mm:=bF ha;rw[<-iO n a]at mm;refine aB Qg Tryz.func145 aes fun C hP=>?_;refine Sz0 ?_;refine Qn eH [(5,5),(8,15)] [5] (fun k J hp=>∃i,k=2-i/\i<=2/\J 8= .int .i64 (i:Nat)/\hp 2=some ⟨2,51,[.agg [.bool false,.aa]],false⟩/\hp 3=some ⟨2,51,[if i=0 then .agg [.bool false,.aa]else if i=1 then PV.zz (zv n a)else PV.zz (zv n a+zv m b)],false⟩) 2 ?_ ?_
 ·refine⟨0,rfl,by omega,?_⟩;refine Sz0 ?_;simp
 rintro _ J h ⟨i,rfl,hi,h8,gu,bz⟩;refine Sz1 h8 ?_;refine Qb (fun hg=>?_) (fun hg=>?_)
 ·have nu:i=0∨i=1:=by have:i<2:=(by omega);omega
  rcases nu with rfl|rfl
  ·have AQ:J 8= .int .i64 0:=h8;refine Sz3 AQ gu bz ?_;refine Qa hP ((Po (n:=false) (a:=[]) (m:=n) (b:=a) nO ha (by simp) (by omega)).le (args':=[.agg [.bool false,.aa],PV.zi n a]) ⟨⟨rfl,trivial,trivial⟩,Qf _,trivial⟩) rfl rfl rfl ?_;refine Sz3 AQ gu bz ?_;refine Qi 1 (by omega) ⟨1,rfl,by omega,?_⟩;refine Sz2 gu bz ?_;simp[zv,val]
  ·rw[if_neg (by omega),if_pos rfl]at bz;have AQ:J 8= .int .i64 1:=h8;refine Sz3 AQ gu bz ?_;refine Qa hP (ab0 (z:=zv n a) hb (by omega) (by omega)) rfl rfl rfl ?_;refine Sz3 AQ gu bz ?_;refine Qi 0 (by omega) ⟨2,rfl,by omega,?_⟩;refine Sz2 gu bz ?_;simp
 ·obtain rfl:i=2:=by simp at hg;omega
  rw[if_neg (by omega),if_neg (by omega)]at bz;refine Sz3 h8 gu bz ?_;refine cY ?_;refine Sz2 gu bz ?_;exact Qc rfl rfl
theorem CV{z:Int}{d:List Nat}(hd:Qj d)(hz:nl z.natAbs<2^38)(s6:d.length<2^38):Qd Tryz.prog 109 [PV.zz z,PV.nat d] (· =PV.rat (mkRat z (val d))):=by
 have:=Oa (n:=decide (z<0)) (Qk z.natAbs) hd hz s6
 rwa[rv,lR]at this
theorem Nf{x y:Int}(hx:nl x.natAbs<2^39)(hy:nl y.natAbs<2^39):Qd Tryz.prog 145 [.sl 2 [PV.zz x,PV.zz y]] (· =PV.zz (x+y)):=by
 have:=LH (n:=decide (x<0)) (m:=decide (y<0)) (Qk x.natAbs) (Qk y.natAbs) hx hy
 rwa[lR,lR]at this
theorem ab1{x y:Int}(hx:nl x.natAbs<2^40)(hy:nl y.natAbs<2^40):Qd Tryz.prog 158 [PV.zz x,PV.zz y] (· = .int .i64 (dk x y)):=by
 have:=WW (n:=decide (x<0)) (m:=decide (y<0)) (Qk x.natAbs) (Qk y.natAbs) hx hy
 rwa[lR,lR]at this
structure Raw(k:Nat)(n:Bool)(a d:List Nat):Prop where
 la:Qj a
 ld:Qj d
 sa:a.length<=k
 sd:d.length<=k
 k1:1<=k
theorem gV{q:Rat}{k:Nat}(h:rs q<=k):Raw k (decide (q.num<0)) (ak q.num.natAbs) (ak q.den):=by
 have:=Gl q;unfold rs nl at *
 exact⟨Qk _,Qk _,by omega,by omega,by omega⟩
theorem Raw.rs{n:Bool}{a d:List Nat}{k:Nat}(h:Raw k n a d):FW.rs (rv n a d)<=k:=af3 (k:=k) (n:=k) h.la h.ld h.sa h.sd h.k1
theorem QJ{n m:Bool}{a d b c:List Nat}{k:Nat}(hp:Raw k n a d)(hq:Raw k m b c)(hk:k<2^36):Qd Tryz.prog 93 [PV.rr n a d,PV.rr m b c] (· =PV.rat (rv n a d+rv m b c)):=by
 refine qK Qg Tryz.func93 rfl agy (by simp[IZ]) fun C hP=>?_;simp only[IZ];refine du ?_;refine Sz0 ?_;refine fM hP (r8 hp.la hp.ld hp.k1 hp.sa hp.sd (by omega)) rfl rfl rfl ?_;rintro _ ⟨n',a',d',rfl,g1,g2,g3,g4,g5,g6⟩;refine Sz0 ?_;refine fM hP (r8 hq.la hq.ld hq.k1 hq.sa hq.sd (by omega)) rfl rfl rfl ?_;rintro _ ⟨m',b',c',rfl,e1,e2,e3,e4,e5,e6⟩;refine Sz0 ?_;refine Qa hP (Dt (by omega)) rfl rfl rfl ?_;have key:=Rat.mkRat_add_mkRat (zv n' a') (zv m' b') g5 e5;have yK:nl (zv n' a').natAbs<=k:=by rw[iO];exact KaL (bF g1) g3
 have Km:nl (zv m' b').natAbs<=k:=by rw[iO];exact KaL (bF e1) e3
 have Ki:nl (val d')<=k:=KaL (bF g2) g4;have wB:nl (val c')<=k:=KaL (bF e2) e4;rw[<-g6,<-e6];unfold rv;rw[key];refine Sz0 ?_;refine Q4 (fun h1=>?_) (fun h1=>?_)
 ·refine Sz0 ?_;refine Qa hP (Dt (by omega)) rfl rfl rfl ?_;refine Sz0 ?_;refine Qb (fun h2=>?_) (fun h2=>?_)
  ·subst h1 h2;refine Sz0 ?_;refine oJ hP (LH (n:=n') (m:=m') g1 e1 (by omega) (by omega)) gJ rfl ?_;refine bo ?_;have hs:=zb (zv n' a') (zv m' b');refine Qa hP (CV g2 (by omega) (by omega)) rfl rfl rfl ?_;refine bo ?_;refine cY ?_;refine bo ?_;exact Qc (congrArg PV.rat (by simp[val])) rfl
  ·refine Sz0 ?_;refine Qa hP (tz _) rfl rfl rfl ?_;refine Sz0 ?_;refine Qa hP (rZ (n:=n') (m:=false) g1 e2 (by omega) (by omega)) rfl rfl rfl ?_;refine Sz0 ?_;refine Qa hP (tz _) rfl rfl rfl ?_;refine Sz0 ?_;refine Qa hP (rZ (n:=m') (m:=false) e1 g2 (by omega) (by omega)) rfl rfl rfl ?_;rw[sg,sg];have h3:=kj (zv n' a') (val c');have h4:=kj (zv m' b') (val d');have h5:=zb (zv n' a'*(val c':Int)) (zv m' b'*(val d':Int));have h6:=iP (val d') (val c');rw[KaD]at h3 h4;refine Sz0 ?_;refine oJ hP (Nf (x:=zv n' a'*(val c':Int)) (y:=zv m' b'*(val d':Int)) (by omega) (by omega)) gJ rfl ?_;refine bo ?_;refine Qa hP (Ds g2 e2 (by omega) (by omega)) rfl rfl rfl ?_;refine bo ?_;refine Qa hP (CV (z:=zv n' a'*(val c':Int)+zv m' b'*(val d':Int)) (Qk _) (by omega) (by show nl _<_;omega)) rfl rfl rfl ?_;refine bo ?_;refine cY ?_;refine bo ?_;exact Qc (by rw[Qt]) rfl
 · simp+decide (disch:=try exact D0) only[go_sem]
   refine Qa hP (tz _) rfl rfl rfl ?_;refine Sz0 ?_;refine Qa hP (rZ (n:=n') (m:=false) g1 e2 (by omega) (by omega)) rfl rfl rfl ?_;refine Sz0 ?_;refine Qa hP (tz _) rfl rfl rfl ?_;refine Sz0 ?_;refine Qa hP (rZ (n:=m') (m:=false) e1 g2 (by omega) (by omega)) rfl rfl rfl ?_;rw[sg,sg];have h3:=kj (zv n' a') (val c');have h4:=kj (zv m' b') (val d');have h5:=zb (zv n' a'*(val c':Int)) (zv m' b'*(val d':Int));have h6:=iP (val d') (val c');rw[KaD]at h3 h4;refine Sz0 ?_;refine oJ hP (Nf (x:=zv n' a'*(val c':Int)) (y:=zv m' b'*(val d':Int)) (by omega) (by omega)) gJ rfl ?_;refine bo ?_;refine Qa hP (Ds g2 e2 (by omega) (by omega)) rfl rfl rfl ?_;refine bo ?_;refine Qa hP (CV (z:=zv n' a'*(val c':Int)+zv m' b'*(val d':Int)) (Qk _) (by omega) (by show nl _<_;omega)) rfl rfl rfl ?_;refine bo ?_;refine cY ?_;refine bo ?_;exact Qc (by rw[Qt]) rfl
end Go.Proofs.YtccppnepkfbpkaaGreat
namespace Go.FW
open Go
variable {C : Ctx} {ρ : Nat -> Option Nat} {fr aA : Fr} {hp hp' : HP} {w w' : World} {K R : Qh}
theorem ag3{P:Program}{pr:Bool}(hP:C.P=P){g:FuncId}{args aQ:List PV}{d:Option Nat}{G:Fr}{aw:HP}{bb:PV->Fr->HP->Prop}(h:xq P g aQ G aw bb)(gv:Nat->Option Nat)(τ:Nat->Nat)(hh:sK C hp aw gv)
  (BI:∀β γ,gv β=some γ->τ γ=β) (cN:args.map (cE τ)=aQ) (mm:∀x∈args,∀γ∈x.refs++x.aN,∃β,gv β=some γ)
  (hG:∀s,1000000<=s->G s= .undef∨∃s',1000000<=s'/\G s=cE τ (fr s')/\∀γ∈(fr s').refs++(fr s').aN,∃β,gv β=some γ) (df:aQ.length<=1000000) (rI:pr=true->∀β,gn gv β=none)
  (hK:∀(ρ:Nat->Option Nat) (tmps:Array Value) (w:World),Qr C ρ fr hp tmps w->∀r F H,bb r F H->(∀mH C2 v w',Qr C2 mH (sO r F) H #[v] w'->(∀β,C2.fx β≠none->H β≠none->True)->True)->∃(eo:Nat->Option Nat) (σ:Nat->Nat) (fc:Fr) (bI:HP),
   (∀γ β,eo γ=some β->H β≠none/\σ β=γ/\bB γ=true/\((aM β=true/\gn gv β=some γ)∨(aM β=false/\aM γ=false/\(hp γ=none∨∃bA,gn gv bA=some γ))))/\
   (∀β γ,gn gv β=some γ->aM β=true->eo γ=some β)/\
   (∀γ β,eo γ=some β->bI γ=H β)/\(∀γ,eo γ=none->(∃β,gn gv β=some γ)->bI γ=none)/\(∀γ,eo γ=none->(¬∃β,gn gv β=some γ)->bI γ=hp γ)/\
   (∀s,fc s= .undef∨
    (d≠some s/\fc s=fr s/\(∀γ∈(fr s).refs++(fr s).aN,(¬∃β,gn gv β=some γ)∨∃β hb ax,gn gv β=some γ/\aM β=true/\hp γ=some hb/\H β=some ax/\ax.e=hb.e/\hb.xs.length<=ax.xs.length)/\∀γ e ty xs,fr s= .aF γ e ty xs->¬∃β,gn gv β=some γ)∨
    (d=some s/\fc s=cE σ r/\∀β∈r.refs++r.aN,eo (σ β)=some β)∨
    (∃s',1000000<=s'/\(∃γ e ty xs,F s'= .aF γ e ty xs)/\fc s=cE σ (F s')/\∀β∈(F s').refs++(F s').aN,eo (σ β)=some β))/\
   K fc bI):fC C pr (.fn g [] []) args d fr hp K:=by
 subst hP;refine⟨h.1,fun ρ tmps w fv cv av qi hs h1 h2 h3 _ _ qt=>?_⟩;have e1:fv= #[]:=KbN (by simpa using h1);have e2:cv= #[]:=KbN (by simpa using h2);subst e1;subst e2;simp only[Array.empty_append,Array.append_empty];refine(h.2 (ua C ρ fr hp aw tmps w gv hs hh aQ.length df) _ av w rfl rfl rfl (Wm hs hh BI h3 cN qt mm hG df)).mono ?_;rintro e w' ⟨v,ρ',r,F,H,rfl,cL,gR⟩;obtain⟨eo,σ,fc,bI,a1,a2,a3,a4,a5,a6,a7⟩:=hK ρ tmps w hs r F H gR (fun _ _ _ _ _ _=>trivial);exact⟨v,fc,bI,rfl,ZH hs hh cL qi a1 a2 a3 a4 a5 a6,fun hq=>ZI hs hh cL (rI hq),a7⟩
def vv(r:PV):Prop:=(r.refs=[]/\r.aN=[])/\∀σ,cE σ r=r
theorem Ng{gv:Nat->Option Nat}(h:∀β γ,gv β=some γ->eF β=false):gn gv=gv:=by
 funext β;cases hr:eF β with
 |false=>exact xL hr
 |true=>
  unfold gn;rw[if_pos hr];cases hq:gv β with
  |none=>rfl
  |some γ=>have:=h β γ hq;rw[hr]at this;cases this
def oX(nm:Nat->Bool)(p:PV):PV:=if(p.refs++p.aN).any nm then .undef else p
def ia(nm:Nat->Bool)(fr:Fr):Fr:=fun s=>oX nm (fr s)
def uk(nm ex:Nat->Bool)(H hp:HP):HP:=fun x=>if ex x then H x else if nm x then none else hp x
def yl(S:List Nat)(F fr:Fr):Fr:=fun s=>if S.contains s then F s else fr s
theorem Nx(p:PV):cW id p=p:=Nd fun _ _=>rfl
theorem Ny{p:PV}(h:∀γ e ty xs,p≠ .aF γ e ty xs):cE id p=p:=by
 have hm:∀l:List PV,l.map (cW id)=l:=fun l=>by
  conv=>rhs;rw[<-List.map_id l]
  exact Ka6 fun x _=>Nx x
 cases p with
 |aF γ e ty xs=>exact absurd rfl (h _ _ _ _)
 |fn f a b=>simp only[cE,hm]
 |aK cs=>simp only[cE,hm]
 |dV cs=>simp only[cE,hm]
 |cO cs q=>simp only[cE,hm]
 |_=>rfl
def KN(xs:List PV):Prop:=∀x∈xs,fj x.aX=x
theorem Mu{γ e ty:Nat}{xs:List PV}(h:KN xs):cE id (.aF γ e ty xs)= .aF γ e ty xs:=by
 simp only[cE,id];congr 1;conv=>rhs;rw[<-List.map_id xs]
 refine Ka6 fun x hx=>?_;have:x.aX.map (cW id)=x.aX:=by
  conv=>rhs;rw[<-List.map_id x.aX]
  exact Ka6 fun y _=>Nx y
 rw[this];exact h x hx
theorem ag4{P:Program}{pr:Bool}(hP:C.P=P){g:FuncId}{args aQ:List PV}{d:Option Nat}{G:Fr}{ft:HP}{bb:PV->Fr->HP->Prop}(h:xq P g aQ G ft bb)(nm ex:Nat->Bool)(S:List Nat)
  (fY:∀x,nm x=true->∃hb,hp x=some hb/\hb.fz=false/\2000000<=x) (Tb:∀x,ft x=if nm x then hp x else none) (cN:args=aQ) (df:aQ.length<=1000000)
  (aL:∀x∈args,∀γ e ty xs,x≠ .aF γ e ty xs) (mm:∀γ∈args.flatMap (fun x=>x.refs++x.aN),nm γ=true)
  (hG:∀s,1000000<=s->G s= .undef∨∃γ e ty xs,G s=fr s/\fr s= .aF γ e ty xs/\KN xs/\∀γ∈(fr s).refs++(fr s).aN,nm γ=true)
  (hex:∀x,ex x=true->(hp x=none∨nm x=true)/\2000000<=x) (rI:pr=true->∀x,nm x=false)
  (hK:∀r F H,bb r F H->(∀x,ex x=true->H x≠none)/\(∀γ e ty xs,r≠ .aF γ e ty xs)/\(∀β∈r.refs++r.aN,ex β=true)/\(∀s∈S,1000000<=s/\(∃γ e ty xs,F s= .aF γ e ty xs/\KN xs)/\∀β∈(F s).refs++(F s).aN,ex β=true)/\K (yl S F (fQ (ia nm fr) d r)) (uk nm ex H hp)):
  fC C pr (.fn g [] []) args d fr hp K:=by
 obtain⟨gv,JI⟩:∃f:Nat->Option Nat,f=fun x=>if nm x then some x else none:=⟨_,rfl⟩
 have ga:∀β γ,gv β=some γ->β=γ/\nm γ=true:=fun β γ hq=>by
  rw[JI]at hq;simp only at hq;split at hq
  ·cases hq;rename_i e;exact⟨rfl,e⟩
  ·cases hq
 have gb:∀γ,nm γ=true->gv γ=some γ:=fun γ ah=>by rw[JI];simp[ah]
 have gN:∀γ,(∃β,gv β=some γ)->nm γ=true:=fun γ ⟨β,aj⟩=>(ga β γ aj).2;have gr:∀β γ,gv β=some γ->eF β=false:=fun β γ hq=>by obtain⟨rfl,hn⟩:=ga β γ hq;obtain⟨_,_,_,k3⟩:=fY β hn;simp[eF];omega
 refine ag3 hP h gv id ⟨fun β γ hq=>?_,fun β hq=>?_,fun β bA γ q1 q2=>?_⟩ (fun β γ hq=>(ga β γ hq).1.symm) ?_ (fun x hx γ ah=>⟨γ,gb γ (mm γ (Kap.2 ⟨x,hx,ah⟩))⟩) (fun s hs=>?_) df (fun hq β=>by rw[Ng gr,JI];simp only;rw[rI hq β];rfl) (fun ρ tmps w hs r F H gR _=>?_)
 ·obtain⟨rfl,hn⟩:=ga β γ hq;obtain⟨hb,k1,k2,k3⟩:=fY β hn;exact⟨hb,k1,by simp[bB];omega,(fun h=>by simp[eF]at h;omega),fun _=>⟨by rw[Tb,if_pos hn];exact k1,k2,by simp[bB];omega,fun _=>by simp[aM];omega⟩⟩
 ·refine⟨β,gb β ?_⟩;cases hn:nm β with
  |true=>rfl
  |false=>rw[Tb,hn]at hq;simp at hq
 ·rw[(ga β γ q1).1,(ga bA γ q2).1]
 ·rw[<-cN];conv=>rhs;rw[<-List.map_id args]
  exact Ka6 fun x hx=>Ny (aL x hx)
 ·rcases hG s hs with e|⟨γ,e,ty,xs,e1,e2,e3,e4⟩
  ·exact .inl e
  ·refine .inr ⟨s,hs,?_,fun γ ah=>⟨γ,gb γ (e4 γ ah)⟩⟩;rw[e1,e2,Mu e3]
 ·rw [Ng gr];obtain⟨a1,a2,a3,a4,a5⟩:=hK r F H gR;obtain⟨eo,uy⟩:∃f:Nat->Option Nat,f=fun x=>if ex x then some x else none:=⟨_,rfl⟩
  have ea:∀γ β,eo γ=some β->γ=β/\ex γ=true:=fun γ β hq=>by
   rw[uy]at hq;simp only at hq;split at hq
   ·cases hq;rename_i e;exact⟨rfl,e⟩
   ·cases hq
  have eb:∀γ,ex γ=true->eo γ=some γ:=fun γ ah=>by rw[uy];simp[ah]
  have en:∀γ,eo γ=none->ex γ=false:=fun γ ah=>by
   cases hq:ex γ with
   |false=>rfl
   |true=>rw[eb γ hq]at ah;cases ah
  refine⟨eo,id,yl S F (fQ (ia nm fr) d r),uk nm ex H hp,fun γ β hq=>?_,fun β γ hq hy=>?_,fun γ β hq=>?_,fun γ hq hg=>?_,fun γ hq hg=>?_,fun s=>?_,a5⟩
  ·obtain⟨rfl,he⟩:=ea γ β hq;obtain⟨k1,k2⟩:=hex γ he;exact⟨a1 γ he,rfl,by simp[bB];omega,.inr ⟨by simp[aM];omega,by simp[aM];omega,k1.imp id fun hn=>⟨γ,gb γ hn⟩⟩⟩
  ·obtain⟨rfl,hn⟩:=ga β γ hq;obtain⟨_,_,_,k3⟩:=fY β hn;simp[aM]at hy;omega
  ·obtain⟨rfl,he⟩:=ea γ β hq;simp[uk,he]
  ·simp[uk,en γ hq,gN γ hg]
  ·have:nm γ=false:=by
    cases hn:nm γ with
    |false=>rfl
    |true=>exact absurd ⟨γ,gb γ hn⟩ hg
   simp[uk,en γ hq,this]
  ·unfold yl;by_cases hS:S.contains s=true
   ·rw[if_pos hS];obtain⟨b1,⟨γ,e,ty,xs,b2,b3⟩,b4⟩:=a4 s (by simpa using hS);refine .inr (.inr (.inr ⟨s,b1,⟨γ,e,ty,xs,b2⟩,?_,fun β aj=>eb β (b4 β aj)⟩));rw[b2,Mu b3]
   ·rw[if_neg hS];have yQ:d≠some s->ia nm fr s= .undef∨(d≠some s/\ia nm fr s=fr s/\(∀γ∈(fr s).refs++(fr s).aN,(¬∃β,gv β=some γ)∨∃β hb ax,gv β=some γ/\aM β=true/\hp γ=some hb/\H β=some ax/\ax.e=hb.e/\hb.xs.length<=ax.xs.length)/\∀γ e ty xs,fr s= .aF γ e ty xs->¬∃β,gv β=some γ):=fun hds=>by
     unfold ia oX;split
     ·exact .inl rfl
     ·rename_i oq;have S':∀γ∈(fr s).refs++(fr s).aN,¬∃β,gv β=some γ:=fun γ ah hg=>oq (KaW.2 ⟨γ,ah,gN γ hg⟩);exact .inr ⟨hds,rfl,fun γ ah=>.inl (S' γ ah),fun γ e ty xs e0=>S' γ (by rw[e0];simp[PV.aN])⟩
    cases d with
    |none=>
     simp only[fQ];rcases yQ (by simp)with h|h
     ·exact .inl h
     ·exact .inr (.inl h)
    | some d=>
     by_cases e:s=d
     ·subst e;refine .inr (.inr (.inl ⟨rfl,?_,fun β aj=>eb β (a3 β aj)⟩));rw[Ny a2];simp[fQ,ae]
     ·have e1:fQ (ia nm fr) (some d) r s=ia nm fr s:=by simp[fQ,ae,e]
      rw[e1];rcases yQ (by simp;exact fun h=>e h.symm)with h|h
      ·exact .inl h
      ·exact .inr (.inl h)
end Go.FW
namespace Go.FW
open Go
variable {C : Ctx} {ρ : Nat -> Option Nat} {fr aA : Fr} {hp : HP} {w : World} {K R : Qh}
theorem ab2{B:List Nat}{F:Fr}{β δ:Nat}(aj:B.contains β=true)(h2:β<1000000):qz β δ (eK B F)=eK B F:=adW (.inl aj) (.inl h2)
theorem apZ:
  (∀(σ:Nat->Nat)(k:IntKind)(n:Int),cE σ (.int k n)= .int k n)/\
  (∀(σ:Nat->Nat)(b:Bool),cE σ (.bool b)= .bool b)/\
  (∀(σ:Nat->Nat)(e:Nat)(xs:List PV),cE σ (.sl e xs)= .sl e xs)/\
  (∀(σ:Nat->Nat)(cs:List PV),cE σ (.agg cs)= .agg cs)/\
  (∀(σ:Nat->Nat)(cs:List PV),cE σ (.aG cs)= .aG cs)/\
  (∀(σ:Nat->Nat)(cs:List PV),cE σ (.pt cs)= .pt cs)/\
  (∀(σ:Nat->Nat),cE σ .aa= .aa)/\
  (∀(σ:Nat->Nat),cE σ .undef= .undef)/\
  (∀(σ:Nat->Nat)(β o n:Nat),cE σ (.au β o n)= .au (σ β) o n)/\
  (∀(σ:Nat->Nat)(β o n:Nat),cE σ (.mp β o n)= .mp (σ β) o n)/\
  (∀(σ:Nat->Nat)(β o n:Nat),cE σ (.aH β o n)= .aH (σ β) o n)/\
  (∀(σ:Nat->Nat)(β o n:Nat),cE σ (.np β o n)= .np (σ β) o n)/\
  (∀(σ:Nat->Nat)(cs:List PV),cE σ (.aK cs)= .aK (cs.map (cW σ))):=by
 refine⟨?_,?_,?_,?_,?_,?_,?_,?_,?_,?_,?_,?_,?_⟩<;>intros<;>rfl
theorem apY:
  (∀(σ:Nat->Nat)(k:IntKind)(n:Int),cW σ (.int k n)= .int k n)/\
  (∀(σ:Nat->Nat)(b:Bool),cW σ (.bool b)= .bool b)/\
  (∀(σ:Nat->Nat)(e:Nat)(xs:List PV),cW σ (.sl e xs)= .sl e xs)/\
  (∀(σ:Nat->Nat),cW σ .aa= .aa)/\
  (∀(σ:Nat->Nat),cW σ .undef= .undef)/\
  (∀(σ:Nat->Nat)(β o n:Nat),cW σ (.au β o n)= .au (σ β) o n)/\
  (∀(σ:Nat->Nat)(β o n:Nat),cW σ (.aH β o n)= .aH (σ β) o n):=by
 refine⟨?_,?_,?_,?_,?_,?_,?_⟩<;>intros<;>rfl
theorem aju:
  (∀(γ:Nat)(k:IntKind)(n:Int),dm γ (.int k n)= .int k n)/\
  (∀(γ:Nat)(b:Bool),dm γ (.bool b)= .bool b)/\
  (∀(γ e:Nat)(xs:List PV),dm γ (.sl e xs)= .sl e xs)/\
  (∀(γ:Nat)(cs:List PV),dm γ (.agg cs)= .agg cs)/\
  (∀(γ:Nat)(cs:List PV),dm γ (.aG cs)= .aG cs)/\
  (∀(γ:Nat)(cs:List PV),dm γ (.pt cs)= .pt cs)/\
  (∀(γ:Nat),dm γ .aa= .aa)/\
  (∀(γ:Nat),dm γ .undef= .undef)/\
  (∀(γ β o n:Nat),dm γ (.au β o n)=if β=γ then .aH γ o n else .au β o n)/\
  (∀(γ β o n:Nat),dm γ (.mp β o n)=if β=γ then .np γ o n else .mp β o n)/\
  (∀(γ β o n:Nat),dm γ (.aH β o n)= .aH β o n)/\
  (∀(γ β o n:Nat),dm γ (.np β o n)= .np β o n):=by
 refine⟨?_,?_,?_,?_,?_,?_,?_,?_,?_,?_,?_,?_⟩<;>intros<;>rfl
theorem aev{γ s:Nat}{x:PV}:xU γ x fr s=if s=γ then x else dm γ (fr s):=rfl
theorem aew{args:List PV}{G:Fr}{s:Nat}:tZ args G s=if s<1000000 then(args[s]?).getD .undef else G s:=rfl
theorem aex{nm:Nat->Bool}{s:Nat}:ia nm fr s=oX nm (fr s):=rfl
theorem aey{nm:Nat->Bool}{p:PV}:oX nm p=if(p.refs++p.aN).any nm then .undef else p:=rfl
theorem ag5{nm ex:Nat->Bool}{H:HP}{x:Nat}:uk nm ex H hp x=if ex x then H x else if nm x then none else hp x:=rfl
theorem ag6{S:List Nat}{F:Fr}{s:Nat}:yl S F fr s=if S.contains s then F s else fr s:=rfl
attribute [go_sem] adT adU agO agP agN ab2 apZ apY aju aev aew aex aey ag5 ag6
end Go.FW
namespace Go.FW
open Go
variable {C : Ctx} {ρ : Nat -> Option Nat} {fr aA : Fr} {hp : HP} {w : World} {K R : Qh}
theorem aez{σ:Nat->Nat}{p:PV}(h:p= .aa∨∃β n,p= .ms β n)(tl:∀β n,p= .ms β n->σ β=β):fj (p.aX.map (cW σ))=p:=by
 rcases h with rfl|⟨β,n,rfl⟩
 ·rfl
 ·have:=tl β n rfl;simp[PV.aX,PV.cells,cW,fj,this]
def gH(B n w:Nat)(π:Nat->Nat):List (Nat×Nat):=(List.range n).map fun r=>(B+π r,w)
theorem LI{B n w r:Nat}{π:Nat->Nat}(h:r<(gH B n w π).length):(gH B n w π)[r]=(B+π r,w):=by simp[gH]
def mV{α:Type}(p:α->PV)(f:Nat->α)(w:Nat):List PV:=(List.range w).map fun c=>p (f c)
theorem Hc{α:Type}(p:α->PV)(f:Nat->α)(w:Nat):(mV p f w).length=w:=by simp[mV]
theorem H3{α:Type}{p:α->PV}{f:Nat->α}{w c:Nat}(h:c<(mV p f w).length):(mV p f w)[c]=p (f c):=by simp[mV]
theorem ajv{by_ ty d:Nat}{k k':IntKind}{n c:Nat}(h2:n<=c)(h3:by_*c<=281474976710656)(h4:c<=9223372036854775807):
  nH 3 by_ ty (.agg [.bool false,.aa,.aa]) (.int k (n:Int)) (.int k' (c:Int)) d fr hp K=K (ae (bE d fr) d (.ms d n)) (Ql hp d ⟨3,ty,List.replicate n (.agg [.bool false,.aa,.aa]),false⟩):=by
 rw[B2 (e:=3) (by omega) rfl (by omega) (by omega) (by omega) (by omega)];rfl
attribute [go_sem] ajv
end Go.FW
namespace Go.FW
open Go
def cf(φ:List Int->Rat):List Tm->Rat
 | []=>0
 |t::p=>t.1*φ t.2+cf φ p
theorem kt(φ:List Int->Rat):cf φ []=0:=rfl
theorem eZ(φ:List Int->Rat)(t:Tm)(p:List Tm):cf φ (t::p)=t.1*φ t.2+cf φ p:=rfl
theorem Pq(φ:List Int->Rat):∀(p q:List Tm),cf φ (p++q)=cf φ p+cf φ q
 | [],q=>by rw[KaI,kt];grind
 |t::p,q=>by rw[KaK,eZ,eZ,Pq φ p q];grind
theorem sj{φ ψ:List Int->Rat}:∀ {p:List Tm},(∀t∈p,φ t.2=ψ t.2)->cf φ p=cf ψ p
 | [],_=>rfl
 |t::p,h=>by rw[eZ,eZ,h t (by simp),sj (p:=p) (fun x hx=>h x (by simp[hx]))]
theorem Mv(φ ψ:List Int->Rat):∀(p:List Tm),cf (fun m=>φ m+ψ m) p=cf φ p+cf ψ p
 | []=>by simp only[kt];grind
 |t::p=>by simp only[eZ];rw[Mv φ ψ p];grind
theorem Du(c:Rat)(φ:List Int->Rat):∀(p:List Tm),cf (fun m=>c*φ m) p=c*cf φ p
 | []=>by simp only[kt];grind
 |t::p=>by simp only[eZ];rw[Du c φ p];grind
theorem LJ:∀(p:List Tm),cf (fun _=>0) p=0
 | []=>rfl
 |t::p=>by simp only[eZ];rw[LJ p];grind
theorem Dv(ψ:List Int->List Int->Rat)(q:List Tm):∀(p:List Tm),cf (fun m=>cf (fun n=>ψ m n) q) p=cf (fun n=>cf (fun m=>ψ m n) p) q
 | []=>by simp only[kt];rw[LJ]
 |t::p=>by simp only[eZ];rw[Dv ψ q p,Mv (fun n=>t.1*ψ t.2 n),Du]
def Can(p:List Tm):Prop:=∀t∈p,t.2.getLast? ≠some 0
def NZ(p:List Tm):Prop:=∀t∈p,t.1≠0
structure aR(p:List Tm):Prop where
 c:Can p
 z:NZ p
 s:iz p
theorem Can.cons{t:Tm}{p:List Tm}:Can (t::p)↔t.2.getLast? ≠some 0/\Can p:=by simp[Can]
theorem NZ.cons{t:Tm}{p:List Tm}:NZ (t::p)↔t.1≠0/\NZ p:=by simp[NZ]
theorem aR.nil:aR []:=⟨by simp[Can],by simp[NZ],trivial⟩
theorem aR.tail{t:Tm}{p:List Tm}(h:aR (t::p)):aR p:=⟨(Can.cons.1 h.c).2,(NZ.cons.1 h.z).2,h.s.2⟩
theorem aR.one{t:Tm}(h:t.1≠0)(hm:t.2.getLast? ≠some 0):aR [t]:=⟨by simpa[Can]using hm,by simpa[NZ]using h,⟨by simp,trivial⟩⟩
theorem Gf.rR{p:List Tm}(h:Gf p):aR p:=⟨fun t ht=>Ot (h.t t ht).m,fun t ht=>(h.t t ht).c,h.s⟩
theorem zW{φ:List Int->Rat}:∀ {p q:List Tm},Can p->Can q->cf φ (Qq p q)=cf φ p+cf φ q:=by
 intro p q;induction p,q using Qq.induct with
 |case1 q=>rw[Qq,kt];intros;grind
 |case2 p h=>rw[kW,kt];intros;grind
 |case3 c m p d l q h ih=>intro hp hq;rw[Qq,if_pos h,eZ,eZ,ih (Can.cons.1 hp).2 hq];grind
 |case4 c m p d l q h1 h2 ih=>intro hp hq;rw[Qq,if_neg h1,if_pos h2,eZ,ih hp (Can.cons.1 hq).2,eZ φ (d,l)];grind
 |case5 c m p d l q h1 h2 h3 ih=>
  intro hp hq;have e:=Hp h1 h2 (Can.cons.1 hp).1 (Can.cons.1 hq).1;rw[Qq,if_neg h1,if_neg h2,if_pos h3,ih (Can.cons.1 hp).2 (Can.cons.1 hq).2,eZ,eZ];subst e;have:c*φ m+d*φ m=0:=by rw[<-Rat.add_mul,h3];grind
  grind
 |case6 c m p d l q h1 h2 h3 ih=>intro hp hq;have e:=Hp h1 h2 (Can.cons.1 hp).1 (Can.cons.1 hq).1;rw[Qq,if_neg h1,if_neg h2,if_neg h3,eZ,ih (Can.cons.1 hp).2 (Can.cons.1 hq).2,eZ,eZ];subst e;grind
theorem xf:∀ {p q:List Tm} {t:Tm},t∈Qq p q->(∃s∈p,s.2=t.2)∨(∃s∈q,s.2=t.2):=by
 intro p q;induction p,q using Qq.induct with
 |case1 q=>rw[Qq];intro t ht;exact Or.inr ⟨t,ht,rfl⟩
 |case2 p h=>rw[kW];intro t ht;exact Or.inl ⟨t,ht,rfl⟩
 | case3 c m p d l q h ih=>
  intro t ht;rw[Qq,if_pos h]at ht;rcases KaC.1 ht with rfl|ht
  ·exact Or.inl ⟨_,by simp,rfl⟩
  ·rcases ih ht with⟨s,h1,h2⟩|h1
   ·exact Or.inl ⟨s,by simp[h1],h2⟩
   ·exact Or.inr h1
 | case4 c m p d l q h1 h2 ih=>
  intro t ht;rw[Qq,if_neg h1,if_pos h2]at ht;rcases KaC.1 ht with rfl|ht
  ·exact Or.inr ⟨_,by simp,rfl⟩
  ·rcases ih ht with h3|⟨s,h3,h4⟩
   ·exact Or.inl h3
   ·exact Or.inr ⟨s,by simp[h3],h4⟩
 |case5 c m p d l q h1 h2 h3 ih=>
  intro t ht;rw[Qq,if_neg h1,if_neg h2,if_pos h3]at ht;rcases ih ht with⟨s,h4,h5⟩|⟨s,h4,h5⟩
  ·exact Or.inl ⟨s,by simp[h4],h5⟩
  ·exact Or.inr ⟨s,by simp[h4],h5⟩
 | case6 c m p d l q h1 h2 h3 ih=>
  intro t ht;rw[Qq,if_neg h1,if_neg h2,if_neg h3]at ht;rcases KaC.1 ht with rfl|ht
  ·exact Or.inl ⟨(c,m),by simp,rfl⟩
  ·rcases ih ht with⟨s,h4,h5⟩|⟨s,h4,h5⟩
   ·exact Or.inl ⟨s,by simp[h4],h5⟩
   ·exact Or.inr ⟨s,by simp[h4],h5⟩
theorem LK{p q:List Tm}(hp:Can p)(hq:Can q):Can (Qq p q):=fun t ht=>by
 rcases xf ht with⟨s,h1,h2⟩|⟨s,h1,h2⟩
 ·rw[<-h2];exact hp s h1
 ·rw[<-h2];exact hq s h1
theorem aeA:∀ {p q:List Tm},NZ p->NZ q->NZ (Qq p q):=by
 intro p q;induction p,q using Qq.induct with
 |case1 q=>rw[Qq];exact fun _ h=>h
 |case2 p h=>rw[kW];exact fun h _=>h
 |case3 c m p d l q h ih=>intro hp hq;rw[Qq,if_pos h,NZ.cons];exact⟨(NZ.cons.1 hp).1,ih (NZ.cons.1 hp).2 hq⟩
 |case4 c m p d l q h1 h2 ih=>intro hp hq;rw[Qq,if_neg h1,if_pos h2,NZ.cons];exact⟨(NZ.cons.1 hq).1,ih hp (NZ.cons.1 hq).2⟩
 |case5 c m p d l q h1 h2 h3 ih=>intro hp hq;rw[Qq,if_neg h1,if_neg h2,if_pos h3];exact ih (NZ.cons.1 hp).2 (NZ.cons.1 hq).2
 |case6 c m p d l q h1 h2 h3 ih=>intro hp hq;rw[Qq,if_neg h1,if_neg h2,if_neg h3,NZ.cons];exact⟨h3,ih (NZ.cons.1 hp).2 (NZ.cons.1 hq).2⟩
theorem WX{a b c:List Int}(h:aY a b=0)(h2:0<aY b c):0<aY a c:=by
 have e:∀i,eN a i=eN b i:=by
  intro i;have:=(Df a b _).1 h;by_cases hi:i<max a.length b.length
  ·exact this i hi
  ·rw[kZ (by omega),kZ (by omega)]
 rw[WJ e (fun _=>rfl)];exact h2
theorem VG:∀ {p q:List Tm},iz p->iz q->iz (Qq p q):=by
 intro p q;induction p,q using Qq.induct with
 |case1 q=>rw[Qq];exact fun _ h=>h
 |case2 p h=>rw[kW];exact fun h _=>h
 | case3 c m p d l q h ih=>
  intro hp hq;rw[Qq,if_pos h];refine⟨fun t ht=>?_,ih hp.2 hq⟩;rcases xf ht with⟨s,h1,h2⟩|⟨s,h1,h2⟩
  ·rw[<-h2];exact hp.1 s h1
  ·rw[<-h2];rcases KaC.1 h1 with rfl|h1
   ·exact h
   ·exact wT h (hq.1 s h1)
 | case4 c m p d l q h1 h2 ih=>
  intro hp hq;rw[Qq,if_neg h1,if_pos h2];have lk:0<aY l m:=by have:=xo m l;omega
  refine⟨fun t ht=>?_,ih hp hq.2⟩;rcases xf ht with⟨s,h3,h4⟩|⟨s,h3,h4⟩
  ·rw[<-h4];rcases KaC.1 h3 with rfl|h3
   ·exact lk
   ·exact wT lk (hp.1 s h3)
  ·rw[<-h4];exact hq.1 s h3
 |case5 c m p d l q h1 h2 h3 ih=>intro hp hq;rw[Qq,if_neg h1,if_neg h2,if_pos h3];exact ih hp.2 hq.2
 |case6 c m p d l q h1 h2 h3 ih=>
  intro hp hq;rw[Qq,if_neg h1,if_neg h2,if_neg h3];refine⟨fun t ht=>?_,ih hp.2 hq.2⟩;rcases xf ht with⟨s,h4,h5⟩|⟨s,h4,h5⟩
  ·rw[<-h5];exact hp.1 s h4
  ·rw[<-h5];exact WX (b:=l) (by show aY m l=0;omega) (hq.1 s h4)
theorem vg{p q:List Tm}(hp:aR p)(hq:aR q):aR (Qq p q):=⟨LK hp.c hq.c,aeA hp.z hq.z,VG hp.s hq.s⟩
def ind(m:List Int):List Int->Rat:=fun n=>if n=m then 1 else 0
theorem CO{m:List Int}:∀ {p:List Tm},(∀t∈p,t.2≠m)->cf (ind m) p=0
 | [],_=>rfl
 |t::p,h=>by rw[eZ,CO (p:=p) (fun x hx=>h x (by simp[hx])),ind,if_neg (h t (by simp))];grind
theorem AB{a b:List Int}(h:0<aY a b):b≠a:=by rintro rfl;rw[HG]at h;omega
theorem wX{t:Tm}{p:List Tm}(h:iz (t::p)):cf (ind t.2) (t::p)=t.1:=by rw[eZ,CO (fun s hs=>AB (h.1 s hs)),ind,if_pos rfl];grind
theorem tH:∀ {p q:List Tm},aR p->aR q->(∀φ,cf φ p=cf φ q)->p=q
 | [],[],_,_,_=>rfl
 | [],t::q,_,hq,h=>by have:=h (ind t.2);rw[wX hq.s,kt]at this;exact absurd this.symm (hq.z t (by simp))
 |t::p,[],hp,_,h=>by have:=h (ind t.2);rw[wX hp.s,kt]at this;exact absurd this (hp.z t (by simp))
 | s ::p,t::q,hp,hq,h=>by
  by_cases h1:0<aY s.2 t.2
  ·have:=h (ind s.2);rw[wX hp.s,CO (fun x hx=>?_)]at this
   ·exact absurd this (hp.z s (by simp))
   ·rcases KaC.1 hx with rfl|hx
    ·exact AB h1
    ·exact AB (wT h1 (hq.s.1 x hx))
  ·by_cases h2:aY s.2 t.2<0
   ·have lk:0<aY t.2 s.2:=by have:=xo s.2 t.2;omega
    have:=h (ind t.2);rw[wX hq.s,CO (fun x hx=>?_)]at this
    ·exact absurd this.symm (hq.z t (by simp))
    ·rcases KaC.1 hx with rfl|hx
     ·exact AB lk
     ·exact AB (wT lk (hp.s.1 x hx))
   ·have e:=Hp h1 h2 (hp.c s (by simp)) (hq.c t (by simp));have e2:=h (ind s.2);rw[wX hp.s,e,wX hq.s]at e2;have e3:s=t:=Prod.ext e2 e;subst e3;rw[tH hp.tail hq.tail (fun φ=>by have:=h φ;rw[eZ,eZ]at this;grind)]
theorem ZL{φ:List Int->Rat}:∀(n:Nat)(l:List (List Tm)),l.length<=n->(∀p∈l,Can p)->Can (cB l)/\cf φ (cB l)=(l.map (cf φ)).sum:=by
 intro n;induction n with
 |zero=>intro l hl _;have:l=[]:=Kar.1 (by omega);subst this;rw[cB];exact⟨aR.nil.c,rfl⟩
 | succ n ih=>
  intro l hl h
  match l,h with
  | [],_=>rw[cB];exact⟨aR.nil.c,rfl⟩
  | [p],h=>rw[cB];exact⟨h p (by simp),by simp;grind⟩
  |p::q::r,h=>
   rw[zK (by simp)];generalize hL:p::q::r=L at *
   have hlen:2<=L.length:=by rw[<-hL];simp
   obtain⟨a1,a2⟩:=ih (L.take (L.length/2)) (by rw[Kax];omega) (fun x hx=>h x (Ka8 hx));obtain⟨b1,b2⟩:=ih (L.drop (L.length/2)) (by rw[Ka2];omega) (fun x hx=>h x (Kbt hx));refine⟨LK a1 b1,?_⟩;rw[zW a1 b1,a2,b2,<-List.sum_append,<-List.map_append,Kbg]
theorem ab3:∀(n:Nat)(l:List (List Tm)),l.length<=n->(∀p∈l,aR p)->aR (cB l):=by
 intro n;induction n with
 |zero=>intro l hl _;have:l=[]:=Kar.1 (by omega);subst this;rw[cB];exact aR.nil
 | succ n ih=>
  intro l hl h
  match l,h with
  | [],_=>rw[cB];exact aR.nil
  | [p],h=>rw[cB];exact h p (by simp)
  | p::q::r,h=>
   rw[zK (by simp)];generalize hL:p::q::r=L at *
   have hlen:2<=L.length:=by rw[<-hL];simp
   exact vg (ih (L.take (L.length/2)) (by rw[Kax];omega) (fun x hx=>h x (Ka8 hx)))
    (ih (L.drop (L.length/2)) (by rw[Ka2];omega) (fun x hx=>h x (Kbt hx)))
theorem CX(φ:List Int->Rat)(t:Tm):∀(p:List Tm),cf φ (Qw p t)=t.1*cf (fun m=>φ (di m t.2)) p
 | []=>by rw[Qw,List.filterMap_nil,kt,kt];grind
 | s::p=>by
  have ih:=CX φ t p;rw[Qw]at ih⊢;rw[Kcu];by_cases h:s.1*t.1=0
  ·simp only[h,if_true,eZ];rw[ih];have:t.1*(s.1*φ (di s.2 t.2))=(s.1*t.1)*φ (di s.2 t.2):=by grind
   rw[Rat.mul_add,this,h];grind
  ·simp only[h,if_false,eZ];rw[ih];grind
theorem Hk(p:List Tm)(t:Tm):Can (Qw p t):=by
 intro x hx;simp only[Qw,Kb7]at hx;obtain⟨y,hy,h⟩:=hx;split at h
 ·cases h
 ·cases h;exact zI _ _
theorem ZM(p:List Tm)(t:Tm):NZ (Qw p t):=by
 intro x hx;simp only[Qw,Kb7]at hx;obtain⟨y,hy,h⟩:=hx;split at h
 ·cases h
 ·rename_i h0;cases h;exact h0
theorem N2(t:Tm):∀(p:List Tm),iz p->iz (Qw p t)
 | [],_=>trivial
 | s ::p,hp=>by
  have ih:=N2 t p hp.2;rw[Qw]at ih⊢;rw[Kcu];split
  ·exact ih
  ·rename_i b hb;split at hb
   ·cases hb
   ·cases hb;refine⟨fun x hx=>?_,ih⟩;simp only[Kb7]at hx;obtain⟨y,hy,h⟩:=hx;split at h
    ·cases h
    ·cases h;simp only[abN];exact hp.1 y hy
theorem Hl{p:List Tm}(t:Tm)(hp:iz p):aR (Qw p t):=⟨Hk _ _,ZM _ _,N2 t p hp⟩
theorem Pr(φ:List Int->Rat)(q:List Tm):∀(p:List Tm),((p.map (Qw q)).map (cf φ)).sum=cf (fun m=>cf (fun n=>φ (di m n)) q) p
 | []=>rfl
 |t::p=>by rw[Kbe,Kbe,Kc3,Pr φ q p,CX,eZ];congr 2;exact sj fun s _=>by rw[zJ]
theorem QK(φ:List Int->Rat)(p q:List Tm):cf φ (oT p q)=cf (fun m=>cf (fun n=>φ (di m n)) q) p:=by rw[oT,(ZL (φ:=φ) _ _ (Kad _) ?_).2,Pr];intro x hx;obtain⟨t,_,rfl⟩:=KaF.1 hx;exact Hk _ _
theorem zX(φ:List Int->Rat)(p q:List Tm):cf φ (aV p q)=cf (fun m=>cf (fun n=>φ (di m n)) q) p:=by
 unfold aV;split
 ·rw[QK,Dv (fun m n=>φ (di m n))];exact sj fun s _=>sj fun t _=>by rw[zJ]
 ·exact QK φ p q
theorem QL{p q:List Tm}(hq:iz q):aR (oT p q):=ab3 _ _ (Kad _) fun x hx=>by obtain⟨t,_,rfl⟩:=KaF.1 hx;exact Hl t hq
theorem tE{p q:List Tm}(hp:iz p)(hq:iz q):aR (aV p q):=by
 unfold aV;split
 ·exact QL hp
 ·exact QL hq
theorem qE(φ:List Int->Rat){p:List Tm}(hp:Can p)(a:Rat):cf φ (Q5 p a)=a*cf φ p:=by
 unfold Q5;split
 ·rename_i h;rw[h,kt];grind
 ·rw[CX];congr 1;exact sj fun s hs=>by rw[zT (hp s hs)]
theorem kp{p:List Tm}(hp:iz p)(a:Rat):aR (Q5 p a):=by
 unfold Q5;split
 ·exact aR.nil
 ·exact Hl _ hp
theorem ab4(φ:List Int->Rat){p:List Tm}(hp:Can p):cf φ (tW p)= -cf φ p:=by rw[tW,qE φ hp];grind
theorem ab5(φ:List Int->Rat){p q:List Tm}(hp:Can p)(hq:aR q):cf φ (bQ p q)=cf φ p-cf φ q:=by rw[bQ,zW hp (show Can (tW q)from(kp hq.s _).c),ab4 φ hq.c];grind
theorem ab6{p q:List Tm}(hp:aR p)(hq:aR q):aR (bQ p q):=vg hp (kp hq.s _)
theorem ZN{p q:List Tm}(hp:aR p)(hq:aR q):aV p q=aV q p:=
 tH (tE hp.s hq.s) (tE hq.s hp.s) fun φ=>by rw[zX,zX,Dv (fun m n=>φ (di m n))];exact sj fun s _=>sj fun t _=>by rw[zJ]
theorem CY(a:Rat):aR (cM a):=by
 unfold cM;split
 ·exact aR.nil
 ·rename_i h;exact aR.one h (by simp)
theorem WY(φ:List Int->Rat)(a:Rat):cf φ (cM a)=a*φ []:=by
 unfold cM;split
 ·rename_i h;rw[h,kt];grind
 ·rw[eZ,kt];grind
def oP(p q:List Tm):List Tm:=q.foldl (fun out t=>Qq out (Qw p t)) []
theorem QM(p:List Tm)(hp:aR p):∀(q out:List Tm),aR out->aR (q.foldl (fun out t=>Qq out (Qw p t)) out)/\
  ∀φ,cf φ (q.foldl (fun out t=>Qq out (Qw p t)) out)=cf φ out+cf (fun m=>cf (fun n=>φ (di n m)) p) q
 | [],out,h=>⟨h,fun φ=>by rw[List.foldl_nil,kt];grind⟩
 |t::q,out,h=>by obtain⟨h1,h2⟩:=QM p hp q (Qq out (Qw p t)) (vg h (Hl t hp.s));refine⟨h1,fun φ=>?_⟩;rw[List.foldl_cons,h2,zW h.c (Hk _ _),CX,eZ];grind
theorem LL{p q:List Tm}(hp:aR p)(hq:aR q):oP p q=aV p q:=by obtain⟨h1,h2⟩:=QM p hp q [] aR.nil;refine tH h1 (tE hp.s hq.s) fun φ=>?_;rw[oP,h2,zX,kt,Dv (fun m n=>φ (di m n))];grind
variable {C : Ctx} {fr : Fr} {hp : HP} {w : World} {K R : Qh}
theorem tI{len e β j o d i:Nat}{k:IntKind}(h:i<len):kX len e (.mp β j o) (.int k (i:Int)) d fr hp K=K (ae fr d (.mp β j (o+i*e))) hp:=by simp only[kX,KbF];exact propext ⟨fun h=>h.2.2,fun h'=>⟨by omega,by omega,h'⟩⟩
theorem VH{e by_ ty d:Nat}(h0:0<e):iF e by_ ty .aa (.sl e []) d fr hp K=K (ae (bE d fr) d (.ms d 0)) (Ql hp d ⟨e,ty,[],false⟩):=by have:=Hm (fr:=fr) (hp:=hp) (K:=K) (e:=e) (by_:=by_) (ty:=ty) (d:=d) (x:=.sl e []) (ys:=[]) rfl h0 (by simp) (by simp);simpa using this
end Go.FW
namespace Go.FW
open Go
theorem IE{m:List Int}{c:Rat}:∀ {u v:List Tm},(∀t∈u,0<aY t.2 m)->(∀t∈v,aY t.2 m<0)->Qq (u++v) [(c,m)]=u++(c,m)::v
 | [],[],_,_=>by rw[KaI,sh];rfl
 | [],t::v,_,hv=>by have h1:=hv t (by simp);rw[KaI,zL,if_neg (by show ¬0<aY t.2 m;omega),if_pos (by exact h1),kW];rfl
 |t::u,v,hu,hv=>by rw[KaK,zL,if_pos (by exact hu t (by simp)),IE (fun s hs=>hu s (by simp[hs])) hv];rfl
theorem L0{m:List Int}{c d:Rat}:∀ {u v:List Tm},(∀t∈u,0<aY t.2 m)->Qq (u++(d,m)::v) [(c,m)]=u++(if d+c=0 then []else [(d+c,m)])++v
 | [],v,_=>by have h0:=HG m;rw[KaI,zL,if_neg (by show ¬0<aY m m;omega),if_neg (by show ¬aY m m<0;omega)];show(if d+c=0 then Qq v []else(d+c,m)::Qq v [])=_;rw[kW];split<;>rfl
 |t::u,v,hu=>by rw[KaK,zL,if_pos (by exact hu t (by simp)),L0 (fun s hs=>hu s (by simp[hs]))];simp
def pO(p:List Tm)(c:Rat)(m:List Int):List Tm:=Qq p (if c=0 then []else [(c,m)])
theorem UL{p:List Tm}(hs:iz p):∀ {i:Nat} (h:i<p.length),∀t∈p.take i,0<aY t.2 p[i].2:=by
 induction p with
 |nil=>intro i h;simp at h
 | cons s p ih=>
  intro i h t ht;cases i with
  |zero=>simp at ht
  |succ i=>
   simp only[List.take_succ_cons,KaC]at ht;have hi:i<p.length:=by simpa using h
   show 0<aY t.2 p[i].2;rcases ht with rfl|ht
   ·exact hs.1 _ (Kah hi)
   ·exact ih hs.2 hi t ht
def mG(t:Tm):cS:=⟨decide (t.1.num<0),ak t.1.num.natAbs,ak t.1.den,t.2⟩
theorem LM(p:List Tm):PV.mD (p.map mG)=PV.ao p:=by show PV.sl 4 ((p.map mG).map PV.qC)=PV.sl 4 (p.map PV.term);rw[List.map_map];rfl
theorem ag7{t:Tm}{k:Nat}(h:rs t.1<=k)(hm:t.2.length<2^40):RB k (mG t):=by
 have h1:nl t.1.num.natAbs<=k:=by unfold rs at h;omega
 have h2:nl t.1.den<=k:=by unfold rs at h;omega
 exact⟨⟨Qk _,Qk _,h1,h2⟩,hm⟩
def cZ(a:Rat):Nat->Rat
 |0=>1
 |n+1=>cZ a n*a
theorem HL(a:Rat):cZ a 0=1:=rfl
theorem abD(a:Rat):cZ a 1=a:=by show 1*a=a;grind
theorem abE(a:Rat)(m:Nat):∀n,cZ a (m+n)=cZ a m*cZ a n
 |0=>by rw[KaO,HL];grind
 |n+1=>by
  rw[<-Nat.add_assoc];show cZ a (m+n)*a=cZ a m*(cZ a n*a)
  rw[abE a m n];grind
theorem IF(a:Rat):∀k,cZ (a*a) k=cZ a (2*k)
 |0=>rfl
 |k+1=>by show cZ (a*a) k*(a*a)=_;rw[IF a k,show 2*(k+1)=2*k+1+1 by omega];show _=cZ a (2*k)*a*a;grind
theorem Qxz{a:Rat}{n:Nat}(h:n%2=0):cZ (a*a) (n/2)=cZ a n:=by rw[IF];congr 1;omega
theorem Qz8{a:Rat}{n:Nat}(h:n%2=1):cZ (a*a) (n/2)*a=cZ a n:=by rw[IF,show n=2*(n/2)+1 by omega,show 2*((2*(n/2)+1)/2)=2*(n/2)by omega];rfl
theorem Ib(a:Rat):∀n,rs (cZ a n)<=1+rs a*n
 |0=>by have:=sM;show rs 1<=_;omega
 |n+1=>by have:=Ib a n;have:=vl (cZ a n) a;rw[Ka1];show rs (cZ a n*a)<=_;omega
def jQ(vs:List Rat)(m:List Int):Nat->Rat
 |0=>1
 |n+1=>jQ vs m n*cZ (vs.getD n 0) (eN m n).toNat
def uS(vs:List Rat)(m:List Int):Rat:=jQ vs m m.length
def lS(vs:List Rat)(p:List Tm):Rat:=cf (uS vs) p
def ub(vs:List Rat)(p:List Tm):Bool:=p.any fun t=>decide (vs.length<t.2.length)
abbrev PV.TY(vs:List Rat):PV:=.sl 3 (vs.map PV.rat)
def EL(vs:List Rat)(p:List Tm):PV:=if ub vs p=true then .aG [PV.rr false [] [],.int .i64 2]else .aG [PV.rat (lS vs p),.int .i64 0]
theorem OZ{vs:List Rat}{p:List Tm}{i:Nat}(h:i<p.length):lS vs (p.take (i+1))=lS vs (p.take i)+p[i].1*uS vs p[i].2:=by rw[Kam h,lS,Pq,eZ,kt,lS];grind
theorem Ic{vs:List Rat}{m:List Int}{E W:Nat}(hm:MB E m)(hv:∀v∈vs,rs v<=W)(hW:1<=W)(c:Rat):∀n,rs (c*jQ vs m n)<=rs c+n*(1+W*E)
 |0=>by
  have:c*jQ vs m 0=c:=by show c*1=c;grind
  rw[this];omega
 | n+1=>by
  have h1:=Ic hm hv hW c n;have h2:=Ib (vs.getD n 0) (eN m n).toNat;have h3:rs (vs.getD n 0)<=W:=by
   by_cases h:n<vs.length
   ·rw[Kae,Kag h];exact hv _ (Kah h)
   ·rw[Kae,KcE (by omega)];have:=KK;show rs 0<=W;omega
  have h4:(eN m n).toNat<=E:=by have:=(hm.eN n).2;omega
  have h5:rs (vs.getD n 0)*(eN m n).toNat<=W*E:=KbU h3 h4;have h6:=vl (c*jQ vs m n) (cZ (vs.getD n 0) (eN m n).toNat);have e:c*jQ vs m (n+1)=(c*jQ vs m n)*cZ (vs.getD n 0) (eN m n).toNat:=by show c*(jQ vs m n*_)=_;grind
  rw[e,KaG];omega
theorem H4{vs:List Rat}{p:List Tm}{K E W:Nat}(hp:PB K E p)(hv:∀v∈vs,rs v<=W)(hW:1<=W):∀i,i<=p.length->rs (lS vs (p.take i))<=1+i*(K+64*(1+W*E))
 |0,_=>by have:=KK;show rs 0<=_;omega
 |i+1,h=>by have h1:=H4 hp hv hW i (by omega);have ht:=hp.get (i:=i) (by omega);have h2:=Ic (vs:=vs) ht.m hv hW p[i].1 p[i].2.length;have h3:=vk (lS vs (p.take i)) (p[i].1*uS vs p[i].2);have h4:p[i].2.length*(1+W*E)<=64*(1+W*E):=Kal _ ht.m.len;have h5:=ht.c;rw[OZ (by omega),KaG];have h6:rs (p[i].1*uS vs p[i].2)<=rs p[i].1+p[i].2.length*(1+W*E):=h2;omega
theorem WZ{B B':List Nat}{F:Fr}(h:(B'.all B.contains)=true):Qy B' (Qy B F)=Qy B F:=by
 funext s;rw[HF B'];split
 ·rename_i h1;rw[HF B]at h1⊢;split
  ·rfl
  ·rename_i h2;rw[if_neg h2]at h1;exfalso;apply h2;rw[KaW]at h1⊢;obtain⟨x,hx,hb⟩:=h1;rw[Kaq]at h;exact⟨x,hx,h x (List.contains_iff_mem.1 hb)⟩
 ·rfl
theorem W2{W:List (Nat×Nat)}{B:List Nat}{J F:Fr}:Qy B (bg W J F)=bg W (Qy B J) (Qy B F):=by funext s;unfold Qy bg;split<;>rfl
theorem VI{V W:List (Nat×Nat)}{B B':List Nat}{X Z F:Fr}(h:Cl V W=true)(hB:(B'.all B.contains)=true):bg V X (Qy B' (bg W Z (Qy B F)))=bg W (bg V X (Qy B' Z)) (Qy B F):=by rw[W2,WZ hB,pI h]
section
variable {C : Ctx} {fr : Fr} {hp : HP} {w : World} {K R : Qh}
end
def GJ(m:List Int)(v:Nat):List Int:=qW (m.set v 0)
def Ay(p:List Tm)(v:Nat)(n:Int):List Tm:=p.filterMap fun t=>if eN t.2 v=n then some (t.1,GJ t.2 v)else none
theorem ZO{p:List Tm}{v:Nat}{n:Int}{t:Tm}(h:t∈Ay p v n):∃s∈p,eN s.2 v=n/\t=(s.1,GJ s.2 v):=by
 simp only[Ay,Kb7]at h;obtain⟨s,h1,h2⟩:=h;split at h2
 ·rename_i h3;cases h2;exact⟨s,h1,h3,rfl⟩
 ·cases h2
end Go.FW
namespace Go.FW
open Go
def yC(p:List Tm)(v:Nat)(q:List Tm)(top:Nat):Nat->List Tm
 |0=>Ay p v top
 |k+1=>Qq (aV (yC p v q top k) q) (Ay p v ((top:Int)-(k+1)))
def dH(vs:List Rat)(v:Nat)(b:Rat)(n:Int):List Tm->Rat
 | []=>0
 |t::p=>(if n<=eN t.2 v then t.1*uS vs (GJ t.2 v)*cZ b (eN t.2 v-n).toNat else 0)+dH vs v b n p
def ML(n:Nat)(p:List Tm):Prop:=∀t∈p,t.2.length<=n
theorem ML.uW{n:Nat}{p q:List Tm}(hp:ML n p)(hq:ML n q):ML n (Qq p q):=fun t ht=>by
 rcases xf ht with⟨s,h1,h2⟩|⟨s,h1,h2⟩
 ·rw[<-h2];exact hp s h1
 ·rw[<-h2];exact hq s h1
theorem abF(a b:List Int):(di a b).length<=max a.length b.length:=by
 have:=Cy (kB (· + ·) a b)
 rwa[pA]at this
theorem W3{p:List Tm}{t x:Tm}(h:x∈Qw p t):∃s∈p,x.2=di s.2 t.2:=by
 simp only[Qw,Kb7]at h;obtain⟨y,hy,h⟩:=h;split at h
 ·cases h
 ·cases h;exact⟨y,hy,rfl⟩
theorem abG:∀(n:Nat)(l:List (List Tm)),l.length<=n->∀ {t:Tm},t∈cB l->∃p∈l,∃s∈p,s.2=t.2:=by
 intro n;induction n with
 |zero=>intro l hl t ht;have:l=[]:=Kar.1 (by omega);subst this;rw[cB]at ht;cases ht
 | succ n ih=>
  intro l hl t ht
  match l,ht with
  | [],ht=>rw[cB]at ht;cases ht
  | [p],ht=>rw[cB]at ht;exact⟨p,by simp,t,ht,rfl⟩
  | p::q::r,ht=>
   rw[zK (by simp)]at ht;generalize hL:p::q::r=L at *
   have hlen:2<=L.length:=by rw[<-hL];simp
   rcases xf ht with⟨s,h1,h2⟩|⟨s,h1,h2⟩
   ·obtain⟨p',hp',s',dZ,e⟩:=ih _ (by rw[Kax];omega) h1;exact⟨p',Ka8 hp',s',dZ,e.trans h2⟩
   ·obtain⟨p',hp',s',dZ,e⟩:=ih _ (by rw[Ka2];omega) h1;exact⟨p',Kbt hp',s',dZ,e.trans h2⟩
theorem abH{p q:List Tm}{t:Tm}(h:t∈aV p q):∃a∈p,∃b∈q,t.2=di a.2 b.2:=by
 have main:∀ {p q:List Tm},t∈oT p q->∃a∈p,∃b∈q,t.2=di a.2 b.2:=fun {p q} h=>by obtain⟨x,hx,s,hs,e⟩:=abG _ _ (Kad _) h;obtain⟨a,ha,rfl⟩:=KaF.1 hx;obtain⟨b,hb,e2⟩:=W3 hs;exact⟨a,ha,b,hb,by rw[<-e,e2,zJ]⟩
 unfold aV at h;split at h
 ·obtain⟨a,ha,b,hb,e⟩:=main h;exact⟨b,hb,a,ha,by rw[e,zJ]⟩
 ·exact main h
theorem ML.uX{n:Nat}{p q:List Tm}(hp:ML n p)(hq:ML n q):ML n (aV p q):=fun t ht=>by obtain⟨a,ha,b,hb,e⟩:=abH ht;have:=abF a.2 b.2;have:=hp a ha;have:=hq b hb;rw[e];omega
theorem ML.RH{n:Nat}{p:List Tm}(hp:ML n p)(v:Nat)(k:Int):ML n (Ay p v k):=fun t ht=>by obtain⟨s,h1,_,rfl⟩:=ZO ht;have:=Cy (s.2.set v 0);rw[List.length_set]at this;exact KaL this (hp s h1)
theorem ML.yC{n:Nat}{p q:List Tm}(hp:ML n p)(hq:ML n q)(v top:Nat):∀k,ML n (yC p v q top k)
 |0=>hp.RH v _
 |k+1=>((ML.yC hp hq v top k).uX hq).uW (hp.RH v _)
def mW(v n:Nat):List Int:=List.replicate v 0++[(n:Int)]
theorem ZP{v n:Nat}(h:0<n):(mW v n).getLast? ≠some 0:=by unfold mW;rw[List.getLast?_append];simp;omega
theorem aeB{v n:Nat}(hv:v<64):MB n (mW v n):=by
 refine⟨by simp[mW];omega,fun x hx=>?_,fun x hx=>?_⟩
 all_goals
  simp only[mW,KaM,List.mem_replicate,Kay]at hx;omega
variable {C : Ctx} {fr : Fr} {hp : HP} {w : World} {K R : Qh}
end Go.FW
namespace Go.FW
open Go
variable {C : Ctx} {fr : Fr} {hp : HP} {K : Qh}
end Go.FW
namespace Go.FW
open Go
theorem O0:∀ {p:List Tm},iz p->∀n,iz (p.take n)
 |_,_,0=>trivial
 | [],_,n+1=>trivial
 |t::p,h,n+1=>⟨fun s hs=>h.1 s (Ka8 hs),O0 h.2 n⟩
theorem aR.take{p:List Tm}(h:aR p)(n:Nat):aR (p.take n):=⟨fun t ht=>h.c t (Ka8 ht),fun t ht=>h.z t (Ka8 ht),O0 h.s n⟩
abbrev MF:=Nat->Nat->Rat
end Go.FW
