/- Part 6 of the proof of CertcheckChecks: CS3, CS2, CS, S1, S2, S3, S4, S5, S6, S7, S8, S9, CM, R3, R4, M1, M2, T1, T1b, T1c, T1d, U1, CP, P1, P2, U2, P3, P4, U3, CU, FwNH, FwNI, FwNJ, FwVB, FwVC, FwYA. Own lemmas; no conditions. -/
import Derived.Test.YtccppnepkfbpkaaGreatCertcheckChecksPart5
set_option maxHeartbeats 1000000
set_option linter.unusedSimpArgs false
set_option linter.unusedVariables false
set_option linter.unnecessarySimpa false
set_option maxRecDepth 100000
namespace Go.Proofs.YtccppnepkfbpkaaGreat
open Go Go.FW
def c46:ay:=⟨92,[.t 4],Zr (YH 4)<|Zr (YH 5)<|Zr (Zc 6 0<|
 Yi 7 0)<| .seq (.block 0<| .loop<| .seq (Zr (Aw 10 6 7<|
 dm 19 14 18)<| .cond (.t 19) .skip (.exit 0))<| .block 1<|Zr (Yi 8 1)<| .seq (Zr (Yh 20 6 0<|
 Zn 22 21<|
 Zb 23 .eql 20 22 .nil)<| .cond (.t 23) (.rg (jS 8)) (Zr (YI 24 7 1)<| .cond (.t 27) (.rg (kE 28 0 6<|
 Yb 31 3 30<|
 kE 33 1 7<|
 Yb 36 3 35<|
 Zq 38 false 57 [.t 32,.t 37,.c (Zz 0)]<|
 Yc 8 38)) .skip))<| .block 2<|Zr (Zm 68 8<|
 Zk 69 .gtr 68 0<|
 Zm 67 69 .nil)<| .cond (.t 67) (Zr (cW 70 5 0 6<|
 YN 73 4 71 72<|
 Zo (.bs 75 4 77 [.t 74])<|
 Zo (.app 76 4 80 77 (.t 70) (.t 75))<|
 Yc 5 76)<| .rg (YV 77 6)) (Zr (jd 80 8<|
 Zm 79 81 .nil)<| .cond (.t 79) (Zr (cW 82 5 1 7<|
 YN 85 4 83 84<|
 YB 87 4 77 86 80 82<|
 Yc 5 88)<| .rg (YV 89 7)) (.seq (Zr (kE 39 0 6<|
 eF 42 41 3<|
 kE 44 1 7<|
 eF 47 46 3<|
 .br (Yp 49 87 43 48<|
 Yy 9<|
 Zs 3 9 49 .nil) (Yy 9<|
 Yp 49 87 43 48<|
 Zs 3 9 49 .nil))<|Zr (gf 50 3 9 32<|
 Zk 52 .neq 51 0 .nil)<| .cond (.t 52) (.rg (Zm 53 5<|
 Zh 54 3 9<|
 kE 55 0 6<|
 Yb 58 3 57<|
 rk 60 54 59<|
 YB 61 4 77 60 80 53<|
 Yc 5 62)) .skip)<|Zr (YV 63 6)<| .rg (YV 65 7))))<|Zr (dh 91 5 4) .ret⟩
theorem agd:Qe Tryz.prog Tryz.f46=some c46:=by kernel_rfl
def c69:ay:=⟨58,[.t 4],Zr (Yi 4 0)<| .seq (Zr (Yi 5 0)<| .block 0<| .loop<| .seq (Zr (Yh 8 5 0<|
 Zn 10 9<|
 Zb 11 .lss 8 10<|
 YL 12 11 5<|
 Zg 12 true (.mv 14 (.t 1))<|
 nf 12<|
 Zg 12 true (.bin 16 .lss false (.t 13) (.t 15))<|
 Yk 17 12 16 .nil)<| .cond (.t 17) .skip (.exit 0))<| .seq (.block 1<| .seq (Zr (kE 20 0 5<|
 Yb 23 3 22<|
 kE 25 1 5<|
 Yb 28 3 27<|
 Zq 30 false 57 [.t 24,.t 29,.c (Zz 0)]<|
 Yc 6 30)<|Zr (YT 31 6)<| .cond (.t 32) (Zr (dh 33 6 4) .ret) .skip)<|Zr (kE 34 0 5<|
 eF 37 36 3<|
 kE 39 1 5<|
 eF 42 41 3<|
 Yl 44 122 38 43<|
 Yc 7 44)<|Zr (YT 45 7)<| .cond (.t 46) (Zr (dh 47 7 4) .ret) .skip)<| .rg (YV 18 5))<| .seq (Zr (iO 48<|
 Ys 52 49 51)<| .cond (.t 52) (Zr (jS 4) .ret) .skip)<| .seq (Zr (iO 53<|
 Zb 57 .gtr 54 56 .nil)<| .cond (.t 57) (Zr (Yi 4 1) .ret) .skip)<|Zr (Yi 4 0) .ret⟩
theorem age:Qe Tryz.prog Tryz.f69=some c69:=by kernel_rfl
def c20:ay:=⟨5,[.t 2],Zr (Zo (.box 1 3 53 (.t 0))<|
 YH 2)<|Zr (Zh 3 3 1<|
 Zq 4 false 45 [.c .aa,.t 3,.c .aa]<|
 Zm 2 4 .nil) .ret⟩
theorem agf:Qe Tryz.prog Tryz.f20=some c20:=by kernel_rfl
def c31:ay:=⟨9,[.t 4],Zr (Yd 4)<|Zr (YX 5 0 1 69<|
 Yu 8 7 0 4) .ret⟩
theorem agh:Qe Tryz.prog Tryz.f31=some c31:=by kernel_rfl
def c19:ay:=⟨22,[.t 4],Zr (YH 4)<|Zr (YH 5)<| .seq (Zr (Yi 6 0)<| .block 0<| .loop<| .seq (Zr (YI 7 6 1)<| .cond (.t 10) .skip (.exit 0))<| .seq (.block 1<| .rg (Yh 13 5 0<|
 Yh 15 1 6<|
 YN 17 4 15 16<|
 Yl 19 47 14 18<|
 Yl 20 46 13 19<|
 Yc 5 20))<| .rg (Zm 11 6<|
 YC 12 11 6))<|Zr (dh 21 5 4) .ret⟩
theorem agM:Qe Tryz.prog Tryz.f19=some c19:=by kernel_rfl
def alb:ay:=⟨6,[.t 2],Zr (YH 2)<|Zr (Zm 3 0<|
 Zq 4 false 14 [.c (Zz (-1))]<|
 Zq 5 false 13 [.t 3,.t 4]<|
 Zm 2 5 .nil) .ret⟩
theorem aee:Qe Tryz.prog Tryz.f169=some alb:=by kernel_rfl
def c26:ay:=⟨52,[.t 2],Zr (Yd 2)<| .seq (Zr (Yi 3 0)<| .block 0<| .loop<| .seq (Zr (YI 4 3 0)<| .cond (.t 7) .skip (.exit 0))<| .seq (.block 1<| .seq (Zr (kE 10 0 3<|
 eF 13 12 3<|
 Yn 15 55 14<|
 Zu 16 15<|
 vG 17 16 0<|
 Zg 17 false (.ld 22 3 true (.t 21))<|
 Zg 17 false (.call (some 23) false (.c (.fn 32 [] [])) [.t 22])<|
 Zg 17 false (.bin 24 .eql false (.t 23) (.c (Zz 0)))<|
 Yf 25 17 24<|
 vG 26 25 3<|
 Zg 26 false (.ld 31 1 false (.t 30))<|
 Zg 26 false (.call (some 32) false (.c (.fn 56 [] [])) [.t 31])<|
 Zg 26 false (.un 33 .not (.t 32))<|
 dm 34 26 33)<| .cond (.t 34) (Zr (Yd 2) .ret) .skip)<|Zr (YA 35 3 4<|
 Zg 37 true (.bY 42 3 (.t 41))<|
 ru 37<|
 Zg 37 true (.mv 44 (.t 0))<|
 Zg 37 true (.mv 45 (.t 3))<|
 Zg 37 true (.idx 46 4 (.t 44) (.t 45))<|
 Zg 37 true (.bY 47 3 (.t 46))<|
 Zg 37 true (.ld 48 1 false (.t 47))<|
 Zg 37 true (.call (some 49) false (.c (.fn 57 [] [])) [.t 43,.t 48,.c (Zz 0)])<|
 Zg 37 true (.bin 50 .leq false (.t 49) (.c (Zz 0)))<|
 Yk 51 37 50 .nil)<| .cond (.t 51) (Zr (Yd 2) .ret) .skip)<| .rg (Zm 8 3<|
 YC 9 8 3))<|Zr (YG 2) .ret⟩
theorem agN:Qe Tryz.prog Tryz.f26=some c26:=by kernel_rfl
def IC:ay:=⟨35,[.t 4],Zr (fJ 3 53 1<|
 YH 4)<|Zr (YH 5)<| .seq (Zr (Yi 6 0)<| .block 0<| .loop<| .seq (Zr (Yh 7 6 0<|
 Zn 9 8<|
 Zb 10 .lss 7 9<|
 Zm 11 10<|
 Zg 11 true (.ld 12 3 true (.t 3))<|
 vK 11 32<|
 Zg 11 true (.bin 14 .neq false (.t 13) (.c (Zz 0)))<|
 Yk 15 11 14 .nil)<| .cond (.t 15) .skip (.exit 0))<| .seq (.block 1<| .rg (cW 18 5 0 6<|
 Zi 21 4 19 20<|
 eF 22 21 3<|
 Zh 24 3 3<|
 kE 26 0 6<|
 Yb 29 3 28<|
 Zq 25 true 33 [.t 23,.t 24]<|
 rk 31 25 30<|
 YB 32 4 77 31 80 18<|
 Yc 5 33))<| .rg (Zm 16 6<|
 YC 17 16 6))<|Zr (dh 34 5 4) .ret⟩
theorem agO:Qe Tryz.prog Tryz.f13=some IC:=by kernel_rfl
def akH:ay:=⟨9,[.t 4],Zr (YH 4)<|Zr (Yh 5 0 1<|
 Yn 7 169 6<|
 Yl 8 46 5 7<|
 Zm 4 8 .nil) .ret⟩
theorem aef:Qe Tryz.prog Tryz.f137=some akH:=by kernel_rfl
def c45:ay:=⟨88,[.t 6],Zr (Zo (.box 4 3 53 (.t 1))<|
 YH 6)<|Zr (Yo 10 0<|
 Zm 7 11 .nil)<| .seq (.block 0<| .loop<| .seq (Zr (YA 12 7 4<|
 Zg 14 true (.bY 19 3 (.t 18))<|
 ru 14<|
 Zg 14 true (.mv 21 (.t 2))<|
 Zg 14 true (.call (some 22) false (.c (.fn 57 [] [])) [.t 20,.t 21,.c (Zz 0)])<|
 Zg 14 true (.bin 23 .lss false (.t 22) (.c (Zz 0)))<|
 Yk 24 14 23 .nil)<| .cond (.t 24) .skip (.exit 0))<| .block 1<| .rg (rq 25 7))<|Zr (YH 8)<| .seq (Zr (YA 27 7 4<|
 Zg 29 true (.bY 34 3 (.t 33))<|
 ru 29<|
 Zg 29 true (.mv 36 (.t 2))<|
 Zg 29 true (.call (some 37) false (.c (.fn 57 [] [])) [.t 35,.t 36,.c (Zz 0)])<|
 Zg 29 true (.bin 38 .eql false (.t 37) (.c (Zz 0)))<|
 Yk 39 29 38 .nil)<| .cond (.t 39) (Zr (cW 40 8 0 7<|
 Zk 43 .sub 42 1<|
 Zo (.sl 44 4 (.t 41) none (some (.t 43)) none)<|
 Zo (.app 45 4 80 77 (.t 40) (.t 44))<|
 Yc 8 45)<| .seq (Zr (Yh 46 0 7<|
 Zk 48 .sub 47 1<|
 Zi 49 4 46 48<|
 eF 50 49 3<|
 Zh 52 3 4<|
 .br (Yp 53 87 51 52<|
 Yy 9<|
 Zs 3 9 53 .nil) (Yy 9<|
 Yp 53 87 51 52<|
 Zs 3 9 53 .nil))<|Zr (gf 54 3 9 32<|
 Zk 56 .neq 55 0 .nil)<| .cond (.t 56) (.rg (Zm 57 8<|
 fL 58 3 9 2<|
 rk 60 58 59<|
 YB 61 4 77 60 80 57<|
 Yc 8 62)) .skip)<|Zr (xU 63 8 0 7 6) .ret) .skip)<|Zr (cW 68 8 0 7<|
 Zo (.sl 71 4 (.t 69) none (some (.t 70)) none)<|
 Zo (.app 72 4 80 77 (.t 68) (.t 71))<|
 Yc 8 72)<| .seq (Zr (gf 73 3 4 32<|
 Zk 75 .neq 74 0 .nil)<| .cond (.t 75) (.rg (Zm 76 8<|
 gf 77 3 4 70<|
 Zm 79 2<|
 rk 80 78 79<|
 YB 81 4 77 80 80 76<|
 Yc 8 82)) .skip)<|Zr (xU 83 8 0 7 6) .ret⟩
theorem agP:Qe Tryz.prog Tryz.f45=some c45:=by kernel_rfl
def c47:ay:=⟨34,[.t 4],Zr (YZ 3 77 1<|
 YH 4)<|Zr (YH 5)<| .seq (Zr (Yi 6 0)<| .block 0<| .loop<| .seq (Zr (YI 7 6 0)<| .cond (.t 10) .skip (.exit 0))<| .seq (.block 1<| .rg (cW 13 5 0 6<|
 Zi 16 4 14 15<|
 eF 17 16 3<|
 eF 19 3 3<|
 kE 22 0 6<|
 cA 25 3 24 3 3<|
 Zq 21 true 33 [.t 18,.t 20]<|
 Yp 29 88 26 28<|
 rk 30 21 29<|
 YB 31 4 77 30 80 13<|
 Yc 5 32))<| .rg (Zm 11 6<|
 YC 12 11 6))<|Zr (dh 33 5 4) .ret⟩
theorem agQ:Qe Tryz.prog Tryz.f47=some c47:=by kernel_rfl
def c56:ay:=⟨39,[.t 2],Zr (Yd 2)<| .seq (Zr (Yo 4 0<|
 Zk 6 .gtr 5 64<|
 Yv 7 6 0<|
 Zg 7 false (.len 9 (.t 8))<|
 ug 7 0<|
 Zg 7 false (.mv 11 (.t 10))<|
 uf 11 0 0<|
 nf 11<|
 Zg 11 true (.bin 15 .sub false (.t 14) (.c (Zz 1)))<|
 Zg 11 true (.idx 16 1 (.t 12) (.t 15))<|
 ru 11<|
 Zg 11 true (.bin 18 .eql false (.t 17) (.c (Zz 0)))<|
 Zg 7 false (.pick 19 (.t 11) (.t 18) (.c (.bool false)))<|
 dm 20 7 19)<| .cond (.t 20) (Zr (Yd 2) .ret) .skip)<| .seq (Zr (Yi 3 0)<| .block 0<| .loop<| .seq (Zr (YI 21 3 0)<| .cond (.t 24) .skip (.exit 0))<| .seq (.block 1<|Zr (eY 27 0 3<|
 Zk 31 .lss 30 0<|
 nh 32 31 0 3<|
 Zg 32 false (.idx 35 1 (.t 33) (.t 34))<|
 Zg 32 false (.ld 36 1 false (.t 35))<|
 Zg 32 false (.bin 37 .gtr false (.t 36) (.c (Zz 1048576)))<|
 dm 38 32 37)<| .cond (.t 38) (Zr (Yd 2) .ret) .skip)<| .rg (YV 25 3))<|Zr (YG 2) .ret⟩
theorem agR:Qe Tryz.prog Tryz.f56=some c56:=by kernel_rfl
def akg:ay:=⟨18,[.t 2],Zr (Yi 2 0)<|Zr (Yi 3 0)<| .seq (Zr (Yi 4 0)<| .block 0<| .loop<| .seq (Zr (YI 5 4 0)<| .cond (.t 8) .skip (.exit 0))<| .seq (.block 1<| .rg (cW 11 3 0 4<|
 Ym 14 12 13<|
 cT 16 11 15<|
 Yc 3 16))<| .rg (Zm 9 4<|
 YC 10 9 4))<|Zr (dh 17 3 2) .ret⟩
theorem aeg:Qe Tryz.prog Tryz.f104=some akg:=by kernel_rfl
def aki:ay:=⟨17,[.t 4],Zr (Yi 4 0)<| .seq (Zr (jd 5 1<|
 nh 7 6 1 0<|
 o7 7<|
 Zg 7 false (.bin 11 .geq false (.t 8) (.t 10))<|
 dm 12 7 11)<| .cond (.t 12) (Zr (Yi 4 0) .ret) .skip)<|Zr (eY 13 0 1<|
 Zm 4 16 .nil) .ret⟩
theorem aeh:Qe Tryz.prog Tryz.f106=some aki:=by kernel_rfl
def c88:ay:=⟨30,[.t 4],Zr (YH 4)<|Zr (YH 5)<| .seq (Zr (Yi 6 0)<| .block 0<| .loop<| .seq (Zr (Aw 7 6 6<|
 dm 16 11 15)<| .cond (.t 16) .skip (.exit 0))<| .seq (.block 1<| .rg (cW 19 5 0 6<|
 Yl 22 106 20 21<|
 YX 23 1 6 106<|
 cT 26 22 25<|
 YB 27 1 3 26 8 19<|
 Yc 5 28))<| .rg (Zm 17 6<|
 YC 18 17 6))<|Zr (dh 29 5 4) .ret⟩
theorem agS:Qe Tryz.prog Tryz.f88=some c88:=by kernel_rfl
def c57:ay:=⟨48,[.t 6],Zr (Yi 6 0)<| .seq (Zr (Zm 8 2<|
 Zk 9 .eql 8 1<|
 YL 10 9 0<|
 vK 10 104<|
 Zg 10 true (.mv 13 (.t 1))<|
 Zg 10 true (.call (some 14) false (.c (.fn 104 [] [])) [.t 13])<|
 Zg 10 true (.bin 15 .neq false (.t 12) (.t 14))<|
 Yk 16 10 15 .nil)<| .cond (.t 16) (Zr (YK 17 0 104<|
 YK 19 1 104<|
 Zb 21 .sub 18 20<|
 Yn 22 105 21<|
 Yc 6 22) .ret) .skip)<| .seq (Zr (iO 23<|
 Zo (.mx 27 (.t 24) (.t 26))<|
 Zk 28 .sub 27 1<|
 Yc 7 28)<| .block 0<| .loop<| .seq (Zr (Zm 29 7<|
 Zk 30 .geq 29 0 .nil)<| .cond (.t 30) .skip (.exit 0))<| .seq (.block 1<|Zr (YX 33 0 7 106<|
 YX 36 1 7 106<|
 je 39 35 38)<| .cond (.t 39) (Zr (YX 40 0 7 106<|
 YX 43 1 7 106<|
 Zb 46 .sub 42 45<|
 Yn 47 105 46<|
 Yc 6 47) .ret) .skip)<| .rg (rq 31 7))<|Zr (Yi 6 0) .ret⟩
theorem agT:Qe Tryz.prog Tryz.f57=some c57:=by kernel_rfl
def akh:ay:=⟨7,[.t 2],Zr (Yi 2 0)<| .seq (Zr (jd 3 0 .nil)<| .cond (.t 4) (Zr (jS 2) .ret) .skip)<| .seq (Zr (Zm 5 0<|
 fu 6 5 0)<| .cond (.t 6) (Zr (Yi 2 1) .ret) .skip)<|Zr (Yi 2 0) .ret⟩
theorem aei:Qe Tryz.prog Tryz.f105=some akh:=by kernel_rfl
def c72:ay:=⟨24,[.t 2],Zr (YH 2)<|Zr (Yo 5 0<|
 Zm 3 6 .nil)<| .seq (.block 0<| .loop<| .seq (Zr (YA 7 3 1<|
 Zg 9 true (.ld 14 1 false (.t 13))<|
 Zg 9 true (.bin 15 .eql false (.t 14) (.c (.int .u16 0)))<|
 Yk 16 9 15 .nil)<| .cond (.t 16) .skip (.exit 0))<| .block 1<| .rg (rq 17 3))<|Zr (YH 4)<|Zr (cW 19 4 0 3<|
 Zo (.sl 22 1 (.t 20) none (some (.t 21)) none)<|
 Zo (.app 23 1 2 128 (.t 19) (.t 22))<|
 Yc 2 23) .ret⟩
theorem agU:Qe Tryz.prog Tryz.f72=some c72:=by kernel_rfl
def c36:ay:=⟨15,[.t 2],Zr (YH 2)<|Zr (YH 3)<| .seq (.block 0<| .loop<| .seq (Zr (Zm 4 0<|
 Zo (.bin 5 .gtr false (.t 4) (.c (.int .u64 0))) .nil)<| .cond (.t 5) .skip (.exit 0))<| .block 1<|Zr (Yh 6 3 0<|
 Zo (.bin 8 .rem false (.t 7) (.c (.int .u64 65536)))<|
 Zo (.conv 9 .u16 (.t 8))<|
 YB 10 1 128 9 2 6<|
 Zm 3 11 .nil)<| .rg (Zm 12 0<|
 Zo (.bin 13 .quo false (.t 12) (.c (.int .u64 65536)))<|
 Yc 0 13))<|Zr (Zm 14 3<|
 Zm 2 14 .nil) .ret⟩
theorem agV:Qe Tryz.prog Tryz.f36=some c36:=by kernel_rfl
def aks:ay:=⟨21,[.t 2],Zr (Zo (.mv 2 (.c (.int .u64 0))) .nil)<|Zr (Zo (.mv 3 (.c (.int .u64 0))) .nil)<| .seq (Zr (Yo 5 0<|
 Zk 7 .sub 6 1<|
 Zm 4 7 .nil)<| .block 0<| .loop<| .seq (Zr (Zm 8 4<|
 Zk 9 .geq 8 0 .nil)<| .cond (.t 9) .skip (.exit 0))<| .seq (.block 1<| .rg (Zm 12 3<|
 Zo (.bin 13 .mul false (.t 12) (.c (.int .u64 65536)))<|
 eY 14 0 4<|
 lj 18 17<|
 cT 19 13 18<|
 Yc 3 19))<| .rg (Zm 10 4<|
 Zk 11 .sub 10 1<|
 Zm 4 11 .nil))<|Zr (dh 20 3 2) .ret⟩
theorem aej:Qe Tryz.prog Tryz.f117=some aks:=by kernel_rfl
def akv:ay:=⟨14,[.t 4],Zr (Yi 4 0)<| .seq (Zr (YI 5 1 0)<| .cond (.t 8) (Zr (eY 9 0 1<|
 Zo (.conv 13 .i64 (.t 12))<|
 Zm 4 13 .nil) .ret) .skip)<|Zr (Yi 4 0) .ret⟩
theorem aek:Qe Tryz.prog Tryz.f120=some akv:=by kernel_rfl
def ak3:ay:=⟨30,[.t 4],Zr (Yi 4 0)<| .seq (Zr (iO 6<|
 Zo (.mx 10 (.t 7) (.t 9))<|
 Zk 11 .sub 10 1<|
 Zm 5 11 .nil)<| .block 0<| .loop<| .seq (Zr (Zm 12 5<|
 Zk 13 .geq 12 0 .nil)<| .cond (.t 13) .skip (.exit 0))<| .seq (.block 1<| .seq (Zr (YX 16 0 5 120<|
 YX 19 1 5 120<|
 Ys 22 18 21)<| .cond (.t 22) (Zr (jS 4) .ret) .skip)<|Zr (YX 23 0 5 120<|
 YX 26 1 5 120<|
 Zb 29 .gtr 25 28 .nil)<| .cond (.t 29) (Zr (Yi 4 1) .ret) .skip)<| .rg (Zm 14 5<|
 Zk 15 .sub 14 1<|
 Zm 5 15 .nil))<|Zr (Yi 4 0) .ret⟩
theorem ael:Qe Tryz.prog Tryz.f161=some ak3:=by kernel_rfl
def c75:ay:=⟨44,[.t 4],Zr (YH 4)<|Zr (YH 5)<|Zr (Yi 6 0)<| .seq (Zr (Yi 7 0)<| .block 0<| .loop<| .seq (Zr (Aw 9 7 7<|
 Yf 18 13 17<|
 rm 19 18 6 0<|
 dm 22 19 21)<| .cond (.t 22) .skip (.exit 0))<| .seq (.block 1<|Zr (YX 25 0 7 120<|
 YX 28 1 7 120<|
 cT 31 27 30<|
 Zm 32 6<|
 cT 33 31 32<|
 Yc 8 33)<|Zr (Yh 34 5 8<|
 Zk 36 .rem 35 65536<|
 Zo (.conv 37 .u16 (.t 36))<|
 YB 38 1 128 37 2 34<|
 Yc 5 39)<| .rg (Zm 40 8<|
 Zk 41 .quo 40 65536<|
 Yc 6 41))<| .rg (YV 23 7))<|Zr (YK 42 5 72<|
 Yc 4 43) .ret⟩
theorem agW:Qe Tryz.prog Tryz.f75=some c75:=by kernel_rfl
def aku:ay:=⟨40,[.t 4,.t 5],Zr (dU 4 0)<| .seq (Zr (YX 10 0 1 161<|
 Zk 13 .lss 12 0 .nil)<| .cond (.t 13) (Zr (dU 4 2) .ret) .skip)<|Zr (YH 6)<|Zr (Yi 7 0)<| .seq (Zr (Yi 8 0)<| .block 0<| .loop<| .seq (Zr (YI 14 8 0)<| .cond (.t 17) .skip (.exit 0))<| .seq (.block 1<|Zr (YX 20 0 8 120<|
 YX 23 1 8 120<|
 Zb 26 .sub 22 25<|
 Zm 27 7<|
 Zb 28 .sub 26 27<|
 Yc 9 28)<|Zr (Yi 7 0)<| .seq (Zr (jd 29 9 .nil)<| .cond (.t 30) (Zr (Zm 31 9<|
 Zk 32 .add 31 65536<|
 Yc 9 32)<| .rg (Yi 7 1)) .skip)<| .rg (Yh 33 6 9<|
 Zo (.conv 35 .u16 (.t 34))<|
 YB 36 1 128 35 2 33<|
 Yc 6 37))<| .rg (Zm 18 8<|
 YC 19 18 8))<|Zr (YK 38 6 72<|
 Zm 4 39<|
 Yi 5 0) .ret⟩
theorem aem:Qe Tryz.prog Tryz.f119=some aku:=by kernel_rfl
def c66:ay:=⟨65,[.t 4],Zr (YH 4)<|Zr (iO 10<|
 cT 14 11 13<|
 Zk 15 .add 14 1<|
 pZ 16 15 15<|
 Zm 5 16 .nil)<| .seq (Zr (Yi 6 0)<| .block 0<| .loop<| .seq (Zr (YI 17 6 0)<| .cond (.t 20) .skip (.exit 0))<| .seq (.block 1<|Zr (Zo (.mv 7 (.c (.int .u64 0))) .nil)<|Zr (Yi 8 0)<| .block 2<| .loop<| .seq (Zr (Yh 23 8 1<|
 Zn 25 24<|
 Zb 26 .lss 23 25<|
 Yv 27 26 7<|
 Zg 27 false (.bin 29 .gtr false (.t 28) (.c (.int .u64 0)))<|
 dm 30 27 29)<| .cond (.t 30) .skip (.exit 2))<| .seq (.block 3<|Zr (cW 33 5 6 8<|
 cT 36 34 35<|
 Ym 37 33 36<|
 lj 39 38<|
 eY 40 0 6<|
 lj 44 43<|
 Yh 45 1 8<|
 Zm 51 7<|
 Yp 47 120 45 46<|
 lj 48 47<|
 Zb 49 .mul 44 48<|
 cT 50 39 49<|
 cT 52 50 51<|
 Yc 9 52)<|Zr (cW 53 5 6 8<|
 cT 56 54 55<|
 Zm 57 9<|
 Zo (.bin 58 .rem false (.t 57) (.c (.int .u64 65536)))<|
 YY 59 58 53 56)<| .rg (Zm 61 9<|
 Zo (.bin 62 .quo false (.t 61) (.c (.int .u64 65536)))<|
 Yc 7 62))<| .rg (YV 31 8))<| .rg (YV 21 6))<|Zr (Zm 63 5<|
 Zq 64 false 72 [.t 63]<|
 Yc 4 64) .ret⟩
theorem agX:Qe Tryz.prog Tryz.f66=some c66:=by kernel_rfl
def akt:ay:=⟨27,[.t 4],Zr (Zo (.mv 4 (.c (.int .u64 0))) .nil)<|Zr (Zo (.mv 5 (.c (.int .u64 0)))<|
 Zo (.mv 6 (.c (.int .u64 65535))) .nil)<| .seq (.block 0<| .loop<| .seq (Zr (Yh 8 5 6<|
 Ys 10 8 9)<| .cond (.t 10) .skip (.exit 0))<| .block 1<|Zr (Yh 11 5 6<|
 cT 13 11 12<|
 Zo (.bin 14 .add false (.t 13) (.c (.int .u64 1)))<|
 Zo (.bin 15 .quo false (.t 14) (.c (.int .u64 2)))<|
 Zm 7 15 .nil)<|Zr (Yh 16 1 7<|
 Yn 18 36 17<|
 Yl 19 66 16 18<|
 Zm 20 0<|
 Yl 21 161 19 20<|
 Zk 22 .leq 21 0 .nil)<| .cond (.t 22) (.rg (dh 23 7 5)) (.rg (Zm 24 7<|
 Zo (.bin 25 .sub false (.t 24) (.c (.int .u64 1)))<|
 Yc 6 25)))<|Zr (dh 26 5 4) .ret⟩
theorem aen:Qe Tryz.prog Tryz.f118=some akt:=by kernel_rfl
def c65:ay:=⟨73,[.t 4,.t 5,.t 6],Zr (Yj 4<|
 dU 5 0)<|Zr (YK 11 0 72<|
 YK 13 1 72<|
 Zm 0 12<|
 Yc 1 14)<| .seq (Zr (Yo 15 1<|
 ir 17 16 0)<| .cond (.t 17) (Zr (Yj 4<|
 dU 5 3) .ret) .skip)<| .seq (Zr (Yo 18 0<|
 Zk 20 .leq 19 4<|
 YL 21 20 1<|
 Zg 21 true (.len 23 (.t 22))<|
 Zg 21 true (.bin 24 .leq false (.t 23) (.c (Zz 4)))<|
 Yk 25 21 24 .nil)<| .cond (.t 25) (Zr (YK 26 0 117<|
 YK 28 1 117<|
 Zb 30 .quo 27 29<|
 Zq 31 false 36 [.t 30]<|
 YK 32 0 117<|
 YK 34 1 117<|
 Zb 36 .rem 33 35<|
 Yn 37 36 36<|
 Yh 4 31 37<|
 Yi 6 0) .ret) .skip)<|Zr (Yj 7<|
 YH 8)<| .seq (Zr (Yo 38 0<|
 Zk 40 .sub 39 1<|
 Yc 9 40)<| .block 0<| .loop<| .seq (Zr (Zm 41 9<|
 Zk 42 .geq 41 0 .nil)<| .cond (.t 42) .skip (.exit 0))<| .seq (.block 1<|Zr (eY 45 0 9<|
 Zo (.bs 49 1 128 [.t 48])<|
 Zm 50 8<|
 Zo (.app 51 1 2 128 (.t 49) (.t 50))<|
 Yn 52 72 51<|
 Yc 8 52)<|Zr (YX 53 8 1 118<|
 Yc 10 55)<|Zr (Zm 56 10<|
 Zo (.conv 57 .u16 (.t 56))<|
 Zo (.bs 58 1 128 [.t 57])<|
 Zm 59 7<|
 Zo (.app 60 1 2 128 (.t 58) (.t 59))<|
 Yc 7 60)<| .rg (Yh 62 8 1<|
 YK 64 10 36<|
 Zq 66 false 66 [.t 63,.t 65]<|
 Yl 67 119 62 66<|
 Zm 61 67<|
 Ye 68 61<|
 Yc 8 68))<| .rg (rq 43 9))<|Zr (Zm 70 7<|
 Zq 71 false 72 [.t 70]<|
 Zm 72 8<|
 Yh 4 71 72<|
 Yi 6 0) .ret⟩
theorem agY:Qe Tryz.prog Tryz.f65=some c65:=by kernel_rfl
def c64:ay:=⟨25,[.t 4],Zr (YH 4)<|Zr (YK 8 0 72<|
 YK 10 1 72<|
 Zm 0 9<|
 Zm 1 11 .nil)<| .seq (.block 0<| .loop<| .seq (Zr (Yo 12 1<|
 fu 14 13 0)<| .cond (.t 14) .skip (.exit 0))<| .block 1<|Zr (YX 16 0 1 65<|
 Zm 15 18<|
 Ye 19 15<|
 Zo (.ext 21 (.t 15) 2)<|
 Yh 5 19 20<|
 Yc 7 21)<| .rg (Yh 22 1 6<|
 Zm 0 22<|
 Yc 1 23))<|Zr (dh 24 0 4) .ret⟩
theorem agZ:Qe Tryz.prog Tryz.f64=some c64:=by kernel_rfl
def ake:ay:=⟨15,[.t 2],Zr (Yd 2)<|Zr (Yo 3 0<|
 Zk 5 .eql 4 0<|
 nh 6 5 0 0<|
 o7 6<|
 Zg 6 false (.bin 10 .sub false (.t 9) (.c (Zz 1)))<|
 Zg 6 false (.idx 11 1 (.t 7) (.t 10))<|
 Zg 6 false (.ld 12 1 false (.t 11))<|
 Zg 6 false (.bin 13 .neq false (.t 12) (.c (.int .u16 0)))<|
 Yf 14 6 13<|
 Zm 2 14 .nil) .ret⟩
theorem aeo:Qe Tryz.prog Tryz.f102=some ake:=by kernel_rfl
def akf:ay:=⟨26,[.t 4],Zr (Yd 4)<| .seq (Zr (iO 6<|
 je 10 7 9)<| .cond (.t 10) (Zr (Yd 4) .ret) .skip)<| .seq (Zr (Yi 5 0)<| .block 0<| .loop<| .seq (Zr (YI 11 5 0)<| .cond (.t 14) .skip (.exit 0))<| .seq (.block 1<|Zr (eY 17 0 5<|
 eY 21 1 5<|
 je 25 20 24)<| .cond (.t 25) (Zr (Yd 4) .ret) .skip)<| .rg (Zm 15 5<|
 YC 16 15 5))<|Zr (YG 4) .ret⟩
theorem aep:Qe Tryz.prog Tryz.f103=some akf:=by kernel_rfl
def akd:ay:=⟨17,[.t 2],Zr (YZ 1 51 0<|
 Yd 2)<|Zr (Yb 3 1 1<|
 Yn 5 102 4<|
 Zm 6 5<|
 YJ 6 0 1<|
 Zg 6 true (.mv 9 (.t 8))<|
 YJ 9 1 1<|
 nf 9<|
 Zg 9 true (.bin 13 .eql false (.t 12) (.c (Zz 0)))<|
 Zg 6 true (.pick 14 (.t 9) (.t 13) (.c (.bool false)))<|
 Zg 6 true (.un 15 .not (.t 14))<|
 Yk 16 6 15<|
 Yc 2 16) .ret⟩
theorem aeq:Qe Tryz.prog Tryz.f101=some akd:=by kernel_rfl
def c74:ay:=⟨15,[.cell 4 2 true],Zr (rp 4)<|Zr (YK 5 1 72<|
 Zm 1 6 .nil)<|Zr (Av 7<|
 Zs 2 4 14 .nil) .ret⟩
theorem ag0:Qe Tryz.prog Tryz.f74=some c74:=by kernel_rfl
def c73:ay:=⟨8,[.cell 2 2 true],Zr (YZ 1 51 0<|
 sO 2)<|Zr (cA 3 0 1 1 1<|
 Yl 7 74 4 6<|
 Zs 2 2 7 .nil) .ret⟩
theorem ag1:Qe Tryz.prog Tryz.f73=some c73:=by kernel_rfl
def IF:ay:=⟨17,[.cell 2 2 true],Zr (sO 2)<| .seq (Zr (jd 3 0 .nil)<| .cond (.t 4) (Zr (Zm 5 0<|
 Zk 6 .add 5 1<|
 Zo (.un 7 .neg (.t 6))<|
 lj 8 7<|
 Yn 9 36 8<|
 Zq 10 false 36 [.c (.int .u64 1)]<|
 Yl 11 75 9 10<|
 Zq 12 false 74 [.c (.bool true),.t 11]<|
 Zs 2 2 12 .nil) .ret) .skip)<|Zr (Zm 13 0<|
 lj 14 13<|
 Yn 15 36 14<|
 Zq 16 false 74 [.c (.bool false),.t 15]<|
 Zs 2 2 16 .nil) .ret⟩
theorem ag2:Qe Tryz.prog Tryz.f35=some IF:=by kernel_rfl
def c68:ay:=⟨11,[.t 2],Zr (YZ 1 51 0<|
 Yi 2 0)<|Zr (gf 3 2 1 73<|
 Zs 2 1 4 .nil)<| .seq (Zr (YP 5 1 1<|
 ir 8 7 0)<| .cond (.t 8) (Zr (Yi 2 0) .ret) .skip)<| .seq (Zr (Yb 9 0 1 .nil)<| .cond (.t 10) (Zr (jS 2) .ret) .skip)<|Zr (Yi 2 1) .ret⟩
theorem ag3:Qe Tryz.prog Tryz.f68=some c68:=by kernel_rfl
def ak4:ay:=⟨38,[.t 4],Zr (fJ 2 51 0<|
 YM 3 51 1<|
 Yi 4 0)<|Zr (Zh 5 2 2<|
 Zh 7 2 3<|
 eu 6 73 5<|
 eu 8 73 7<|
 Zs 2 2 6<|
 Zs 2 3 8 .nil)<| .seq (.block 0<|Zr (Yb 10 0 2<|
 Zm 12 11<|
 YJ 12 0 3<|
 Zg 12 true (.un 15 .not (.t 14))<|
 Yk 16 12 15<|
 Zm 9 16 .nil)<| .cond (.t 9) (Zr (jS 4) .ret) (Zr (Yb 18 0 3<|
 Zm 20 19<|
 YJ 20 0 2<|
 Zg 20 true (.un 23 .not (.t 22))<|
 Yk 24 20 23<|
 Zm 17 24 .nil)<| .cond (.t 17) (Zr (Yi 4 1) .ret) (Zr (Yb 26 0 2<|
 Zm 25 27 .nil)<| .cond (.t 25) (Zr (cA 28 1 3 1 2<|
 Yl 32 161 29 31<|
 Yc 4 32) .ret) .skip)))<|Zr (cA 33 1 2 1 3<|
 Yl 37 161 34 36<|
 Yc 4 37) .ret⟩
theorem aer:Qe Tryz.prog Tryz.f162=some ak4:=by kernel_rfl
def akL:ay:=⟨48,[.cell 4 2 true],Zr (fJ 2 51 0<|
 YM 3 51 1<|
 rp 4)<| .seq (Zr (cA 9 0 2 0 3<|
 Zo (.bin 13 .eql true (.t 10) (.t 12)) .nil)<| .cond (.t 13) (Zr (cA 14 0 2 1 2<|
 Yb 18 1 3<|
 eG 20 75 17 19 74 15<|
 Zs 2 4 21 .nil) .ret) .skip)<| .seq (Zr (cA 23 1 2 1 3<|
 ma 27 119 24 26 22 5 6)<|Zr (Zm 30 6<|
 ir 31 30 0)<| .cond (.t 31) (Zr (dN 32 0 2 5<|
 Yl 35 74 33 34<|
 Zs 2 4 35 .nil) .ret) .skip)<|Zr (cA 37 1 3 1 2<|
 ma 41 119 38 40 36 7 8)<|Zr (dN 44 0 3 7<|
 Yl 47 74 45 46<|
 Zs 2 4 47 .nil) .ret⟩
theorem aes:Qe Tryz.prog Tryz.f140=some akL:=by kernel_rfl
def c71:ay:=⟨16,[.cell 4 2 true],Zr (fJ 2 51 0<|
 YM 3 51 1<|
 rp 4)<|Zr (cA 5 0 2 0 3<|
 Zo (.bin 9 .neq true (.t 6) (.t 8))<|
 cA 10 1 2 1 3<|
 eG 14 66 11 13 74 9<|
 Zs 2 4 15 .nil) .ret⟩
theorem ag4:Qe Tryz.prog Tryz.f71=some c71:=by kernel_rfl
def IG:ay:=⟨27,[.t 2],Zr (Zo (.box 1 3 53 (.t 0))<|
 Yd 2)<|Zr (eF 3 1 2<|
 Yn 5 101 4<|
 Zm 6 5<|
 YJ 6 2 1<|
 Zg 6 true (.call (some 9) false (.c (.fn 102 [] [])) [.t 8])<|
 Yk 10 6 9<|
 Zm 11 10<|
 Zg 11 true (.bY 12 0 (.t 1))<|
 Zg 11 true (.bY 13 1 (.t 12))<|
 Zg 11 true (.ld 14 1 false (.t 13))<|
 Zg 11 true (.bY 15 2 (.t 1))<|
 Zg 11 true (.ld 16 1 false (.t 15))<|
 Zg 11 true (.call (some 17) false (.c (.fn 64 [] [])) [.t 14,.t 16])<|
 Zg 11 true (.call (some 18) false (.c (.fn 36 [] [])) [.c (.int .u64 1)])<|
 Zg 11 true (.call (some 19) false (.c (.fn 103 [] [])) [.t 17,.t 18])<|
 Yk 20 11 19<|
 Zm 21 20<|
 YJ 21 2 1<|
 nf 21<|
 Zg 21 true (.bin 25 .gtr false (.t 24) (.c (Zz 0)))<|
 Yk 26 21 25<|
 Yc 2 26) .ret⟩
theorem ag5:Qe Tryz.prog Tryz.f55=some IG:=by kernel_rfl
def c34:ay:=⟨44,[.cell 4 3 true],Zr (fJ 2 51 0<|
 Yy 4 .nil)<| .seq (Zr (YK 12 1 72<|
 Zn 14 13<|
 ir 15 14 0)<| .cond (.t 15) (Zr (Zq 16 false 36 [.c (.int .u64 1)]<|
 Zo (.ej 17 [.bool false,.aa,.aa] [(2,1,.t 16)])<|
 Zs 3 4 17 .nil) .ret) .skip)<|Zr (dN 18 1 2 1<|
 Yl 21 64 19 20<|
 Yc 5 21)<|Zr (dN 23 1 2 5<|
 Yl 26 65 24 25<|
 Zm 22 26<|
 Ye 27 22<|
 Zo (.ext 29 (.t 22) 2)<|
 Yh 6 27 28<|
 Yc 8 29)<|Zr (YX 31 1 5 65<|
 Zm 30 33<|
 Ye 34 30<|
 Zo (.ext 36 (.t 30) 2)<|
 Yh 9 34 35<|
 Yc 11 36)<|Zr (dN 37 0 2 6<|
 Zo (.ej 40 [.bool false,.aa] [(0,1,.t 38),(1,1,.t 39)])<|
 Yn 41 73 40<|
 Zm 42 9<|
 xZ 43 41 42 4) .ret⟩
theorem ag6:Qe Tryz.prog Tryz.f34=some c34:=by kernel_rfl
def c70:ay:=⟨8,[.cell 2 3 true],Zr (Zo (.box 1 3 53 (.t 0))<|
 Zo (.alloc 2 3 53 (.agg [.bool false,.aa,.aa])) .nil)<|Zr (eF 3 1 2<|
 Yb 5 2 1<|
 Yl 7 34 4 6<|
 Zs 3 2 7 .nil) .ret⟩
theorem ag7:Qe Tryz.prog Tryz.f70=some c70:=by kernel_rfl
def c14:ay:=⟨7,[.cell 2 3 true],Zr (Zo (.alloc 2 3 53 (.agg [.bool false,.aa,.aa])) .nil)<|Zr (YK 3 0 35<|
 Zq 5 false 36 [.c (.int .u64 1)]<|
 Yl 6 34 4 5<|
 Zs 3 2 6 .nil) .ret⟩
theorem ag8:Qe Tryz.prog Tryz.f14=some c14:=by kernel_rfl
def akM:ay:=⟨5,[.cell 2 2 true],Zr (sO 2)<|Zr (Zm 3 0<|
 Zo (.ej 4 [.bool false,.aa] [(1,1,.t 3)])<|
 Zs 2 2 4 .nil) .ret⟩
theorem aet:Qe Tryz.prog Tryz.f141=some akM:=by kernel_rfl
def c32:ay:=⟨7,[.t 2],Zr (Zo (.box 1 3 53 (.t 0))<|
 Yi 2 0)<|Zr (Zh 3 3 1<|
 Yn 4 70 3<|
 Zo (.ye 5 0 2 true (.t 4))<|
 Yn 6 68 5<|
 Zm 2 6 .nil) .ret⟩
theorem ag9:Qe Tryz.prog Tryz.f32=some c32:=by kernel_rfl
def akw:ay:=⟨22,[.t 4],Zr (YZ 2 53 0<|
 fJ 3 53 1<|
 Yi 4 0)<|Zr (Zh 5 3 2<|
 Zh 7 3 3<|
 eu 6 70 5<|
 eu 8 70 7<|
 Zs 3 2 6<|
 Zs 3 3 8 .nil)<|Zr (eF 9 2 2<|
 Yb 11 2 3<|
 eF 15 3 2<|
 Yb 17 2 2<|
 eu 13 141 12<|
 Yp 14 71 10 13<|
 eu 19 141 18<|
 eG 20 71 16 19 162 14<|
 Yc 4 21) .ret⟩
theorem aeu:Qe Tryz.prog Tryz.f122=some akw:=by kernel_rfl
def c87:ay:=⟨28,[.cell 4 3 true],Zr (YZ 2 53 0<|
 fJ 3 53 1<|
 Yy 4 .nil)<|Zr (Zh 5 3 2<|
 Zh 7 3 3<|
 eu 6 70 5<|
 eu 8 70 7<|
 Zs 3 2 6<|
 Zs 3 3 8 .nil)<|Zr (eF 9 2 2<|
 Yb 11 2 3<|
 eF 15 3 2<|
 Yb 17 2 2<|
 cA 22 2 2 2 3<|
 eu 13 141 12<|
 Yp 14 71 10 13<|
 eu 19 141 18<|
 eG 20 71 16 19 140 14<|
 Yp 26 66 23 25<|
 Zq 27 true 34 [.t 21,.t 26]<|
 Zs 3 4 27 .nil) .ret⟩
theorem aha:Qe Tryz.prog Tryz.f87=some c87:=by kernel_rfl
def c33:ay:=⟨16,[.cell 4 3 true],Zr (YZ 2 53 0<|
 fJ 3 53 1<|
 Yy 4 .nil)<|Zr (eF 5 2 2<|
 eF 7 3 2<|
 cA 10 2 2 2 3<|
 Yp 9 71 6 8<|
 eG 14 66 11 13 34 9<|
 Zs 3 4 15 .nil) .ret⟩
theorem ahb:Qe Tryz.prog Tryz.f33=some c33:=by kernel_rfl
theorem nK{l:List Nat}(hv:Qj l)(hl:l.length<2^42):Qd Tryz.prog 72 [PV.nat l] (· =PV.num (val l)):=by
 have anz:=zP hv;refine aB Qh Tryz.func72 agU fun C hP=>?_;refine Sz0 ?_;refine Ql okB [(3,3),(7,18)] [] (fun m J hp=>m<=l.length/\cut l m=ak (val l)/\J 3= .int .i64 m/\hp=ax) l.length ?_ ?_
 ·refine⟨Kae _,anz,?_⟩;exact Tz0
 rintro n J _ ⟨hn,hc,h3,rfl⟩;refine Sz1 h3 ?_;refine Q5 (fun hg=>?_) (fun hg=>?_)
 ·obtain _|n:=n
  ·omega
  have e:((n+1:Nat):Int)-1=n:=by omega
  simp only[cut]at hc;simp+decide (disch:=try exact D2 h3 e) only[go_sem,h3,e];refine Qb (fun hz=>?_) (fun hz=>?_)
  ·rw[if_pos (by grind)]at hc;refine Sz2 h3 e ?_;refine Qg n (by omega) ⟨by omega,hc,?_⟩;exact Tz0
  ·rw[if_neg (by grind)]at hc;have aq:(l.take (n+1)).length<2^42:=by rw[Kay];omega
   refine xT h3 e ?_;exact Qc (by rw[Kai (by simp),hc]) rfl
 ·obtain rfl:n=0:=by omega
  simp+decide (disch:=first|omega|rfl|(simp+decide only[go_sem,h3,Kb5,Kby,Kbn]<;>rfl)|fail) only[go_sem,h3,Kb5,Kby,Kbn];rw[G1 (ys:=[]) rfl (by omega) (by simp) (by simp)];refine bp ?_;exact Qc (by show _=PV.nat (ak (val l));rw[<-hc];rfl) rfl
theorem pI{n:Nat}(hn:n<18446744073709551616):Qd Tryz.prog 36 [.int .u64 n] (· =PV.num n):=by
 have hlen:=sg hn;unfold nl at hlen;refine aB Qh Tryz.func36 agV fun C hP=>?_;refine Sz0 ?_;refine oM 3 900 1 128 (by omega) Tz0 ?_;refine Ql okB [(0,0),(3,13)] [10,11,900] (fun m J hp=>∃done:List Nat,ak n=done++ak m/\m<=n/\J 0= .int .u64 m/\J 3= .ms 900 done.length/\hp 900=some ⟨1,128,bV done,false⟩) n ?_ ?_
 ·refine⟨[],rfl,Kae _,?_⟩;exact Tz0
 rintro m J hp ⟨done,hd,hm,h0,h3,hh⟩;rw[hd,Kax]at hlen;refine Sz2 h0 h3 ?_;refine Qb (fun hz=>?_) (fun hz=>?_)
 ·have aQ:m≠0:=by omega
  have oe:ak n=(done++[m%65536])++ak (m/65536):=by rw[hd,tJ aQ];simp
  refine Sz3 h0 h3 @Nat.mod_mod ?_;rw[Q3 (f:=fun(x:Nat)=>.int .u16 x) (y:=m%65536) (xs:=done) (ty':=128) (fz:=false) (Tz1 hh) bc (by omega) rfl (by omega) (by omega)];refine Sz2 h0 h3 ?_;refine Qg (m/65536) (by omega) ⟨done++[m%65536],oe,by omega,?_⟩;refine Sz2 h0 h3 ?_;simp
 ·obtain rfl:m=0:=by omega
  rw[fk,Kar]at hd;refine xT h3 hh ?_;exact Qc (by show _=PV.nat (ak n);rw[hd,Kai (by simp)]) rfl
theorem mL{a:List Nat}{i:Nat}(ha:Qj a)(hl:a.length<2^43):Qd Tryz.prog 120 [PV.nat a,.int .i64 i] (· = .int .i64 (dg a i:Nat)):=by
 refine aB Qh Tryz.func120 aek fun C hP=>?_;refine Sz0 ?_;refine Qb (fun hi=>?_) (fun hi=>?_)
 ·have az:i<a.length:=by omega
  have EI:=eg ha az;have hg:dg a i=a[i]:=fU az;refine Sz0 ?_;exact Qc (by rw[hg]) rfl
 ·refine Sz0 ?_;exact Qc (by rw[dg,fV (by omega)];rfl) rfl
theorem Cl{a:List Nat}(ha:Qj a)(hl:a.length<=4):Qd Tryz.prog 117 [PV.nat a] (· = .int .u64 (val a:Nat)):=by
 have aq:∀k,val (a.drop k)<18446744073709551616:=fun k=>by have h1:=oP (zb ha k);have:65536^(a.drop k).length<=65536^4:=Kbu (by omega) (by rw[KaY];omega);omega
 refine aB Qh Tryz.func117 aej fun C hP=>?_;refine Sz0 ?_;refine Ql okB [(3,4),(8,19)] [] (fun k J hp=>k<=a.length/\J 3= .int .u64 (val (a.drop k):Nat)/\J 4= .int .i64 ((k:Int)-1)) a.length ?_ ?_
 ·refine⟨Kae _,?_⟩;refine Sz0 ?_;simp[val]
 rintro k J h ⟨hk,h3,h4⟩;refine Sz2 h3 h4 ?_;refine Qb (fun hg=>?_) (fun hg=>?_)
 ·obtain _|n:=k
  ·omega
  have hn:n<a.length:=by omega
  have I8:=eg ha hn;have e:((n+1:Nat):Int)-1=n:=by omega
  have hv:=lO hn;have h1:=aq n;generalize dB:a[n]=x at *
  have e2:val (a.drop (n+1))*65536+x=val (a.drop n):=by omega
  refine Sz5 h3 h4 e dB e2 ?_;refine Qg n (by omega) ⟨by omega,?_⟩;exact Tz0
 ·obtain rfl:k=0:=by omega
  simp+decide (disch:=first|omega|rfl|(simp+decide only[go_sem,h3,Kbw]<;>rfl)|fail) only[go_sem,h3,Kbw];exact Qc rfl rfl
theorem CI{a b:List Nat}(ha:Qj a)(hb:Qj b)(bu:a.length<2^42)(dz:b.length<2^42):Qd Tryz.prog 161 [PV.nat a,PV.nat b] (· = .int .i64 (gA (val a) (val b))):=by
 refine aB Qh Tryz.func161 ael fun C hP=>?_;refine Sz1 @L' ?_;refine Ql okB [(4,5),(12,29)] [] (fun k J hp=>k<=max a.length b.length/\val (a.drop k)=val (b.drop k)/\J 5= .int .i64 ((k:Int)-1)) (max a.length b.length) ?_ ?_
 ·refine⟨Kae _,?_,?_⟩
  ·rw[Kal (by omega),Kal (by omega)]
  ·exact Tz0
 rintro k J h ⟨hk,hv,h5⟩;refine Sz1 h5 ?_;refine Qb (fun hg=>?_) (fun hg=>?_)
 ·obtain _|n:=k
  ·omega
  have e:((n+1:Nat):Int)-1=n:=by omega
  have e1:=w7 a n;have e2:=w7 b n;have d1:=vu ha n;have d2:=vu hb n;refine Sz2 h5 e ?_;refine Qa hP (mL ha (by omega)) rfl rfl rfl ?_;refine Sz2 h5 e ?_;refine Qa hP (mL hb (by omega)) rfl rfl rfl ?_;refine Sz2 h5 e ?_;refine Qb (fun hc=>?_) (fun hc=>?_)
  ·have aq:=N4 (a:=a) (b:=b) ha (i:=n) (by omega);refine Sz0 ?_;exact Qc (by rw[H3 aq]) rfl
  refine Sz2 h5 e ?_;refine Qa hP (mL ha (by omega)) rfl rfl rfl ?_;refine Sz2 h5 e ?_;refine Qa hP (mL hb (by omega)) rfl rfl rfl ?_;refine Sz2 h5 e ?_;refine Qb (fun eR=>?_) (fun eR=>?_)
  ·have aq:=N4 (a:=b) (b:=a) hb (i:=n) (by omega);refine Sz0 ?_;exact Qc (by rw[H4 aq]) rfl
  ·refine Sz2 h5 e ?_;refine Qg n (by omega) ⟨by omega,by omega,?_⟩;exact Tz0
 ·obtain rfl:k=0:=by omega
  refine Sz0 ?_;exact Qc (by rw[LY (by simpa using hv)]) rfl
theorem NL{a:List Nat}(ha:Qj a)(hl:a.length<2^43):Qd Tryz.prog 102 [PV.nat a] (· = .bool (decide (a.getLast? ≠some 0))):=by
 refine aB Qh Tryz.func102 aeo fun C hP=>?_;refine Sz0 ?_;refine Qo (fun h0=>?_) (fun h0=>?_)
 ·have:a=[]:=Kat.1 (by omega);subst this;refine Sz0 ?_;exact Qc (by simp) rfl
 ·obtain⟨k,hk⟩:∃k,a.length=k+1:=⟨a.length-1,by omega⟩
  have jn:=HO hk;have e:((k+1:Nat):Int)-1=k:=by omega
  generalize hy:a[k]'(by omega)=y at *
  refine Sz3 hk e hy ?_;refine Qc (congrArg PV.bool ?_) rfl;rw[jn];exact decide_eq_decide.2 ⟨fun h h'=>h (by injection h' with h';rw[h'];rfl),fun h h'=>h (by rw[show y=0 by omega])⟩
theorem UC{a b:List Nat}(bu:a.length<2^43)(dz:b.length<2^43):Qd Tryz.prog 103 [PV.nat a,PV.nat b] (· = .bool (decide (a=b))):=by
 refine aB Qh Tryz.func103 aep fun C hP=>?_;refine Sz0 ?_;refine Qb (fun h0=>?_) (fun h0=>?_)
 ·refine Sz0 ?_;exact Qc (congrArg PV.bool (by rw[decide_eq_false];rintro rfl;exact h0 rfl)) rfl
 have hlen:a.length=b.length:=by omega
 refine Sz0 ?_;refine Ql okB [(4,5),(11,25)] [] (fun n J hp=>∃i,n=a.length-i/\i<=a.length/\a.take i=b.take i/\J 5= .int .i64 (i:Nat)) a.length ?_ ?_
 ·refine⟨0,rfl,by omega,by simp,?_⟩;refine Sz0 ?_;rfl
 rintro _ J h ⟨i,rfl,hi,he,h5⟩;refine Sz1 h5 ?_;refine Qb (fun hg=>?_) (fun hg=>?_)
 ·have az:i<a.length:=by omega
  have Sn:i<b.length:=by omega
  have ta:=Kao az;have tb:=Kao Sn;have aQ:a=b->a[i]=b[i]:=fun h=>by subst h;rfl
  generalize hx:a[i]=x at *
  generalize hy:b[i]=y at *
  refine Sz3 h5 hx hy ?_;refine Qb (fun hc=>?_) (fun hc=>?_)
  ·refine Sz0 ?_;exact Qc (congrArg PV.bool (by rw[decide_eq_false];intro h;exact hc (by rw[aQ h]))) rfl
  ·refine Sz1 h5 ?_;refine Qg (a.length-(i+1)) (by omega) ⟨i+1,rfl,by omega,by rw[ta,tb,he,show x=y by omega],?_⟩;exact Tz0
 ·obtain rfl:i=a.length:=by omega
  rw[KaT,hlen,KaT]at he;refine Sz0 ?_;exact Qc (congrArg PV.bool (by rw[he];simp)) rfl
theorem N8{a b:List Nat}(ha:Qj a)(hb:Qj b)(bu:a.length<2^40)(dz:b.length<2^40):Qd Tryz.prog 75 [PV.nat a,PV.nat b] (· =PV.num (val a+val b)):=by
 refine aB Qh Tryz.func75 agW fun C hP=>?_;refine Sz0 ?_;refine oM 5 900 1 128 (by omega) Tz0 ?_;refine Ql okB [(5,41)] [38,39,900] (fun m J hp=>∃(i c:Nat)(out:List Nat),m=2*(max a.length b.length-i)+c/\c<=1/\i<=max a.length b.length+1/\(i<=max a.length b.length∨c=0)/\out.length=i/\Qj out/\val out+65536^i*(c+val (a.drop i)+val (b.drop i))=val a+val b/\J 5= .ms 900 out.length/\J 6= .int .i64 c/\J 7= .int .i64 i/\hp 900=some ⟨1,128,bV out,false⟩) (2*max a.length b.length) ?_ ?_
 ·refine⟨0,0,[],rfl,by omega,by omega,by omega,rfl,nL,by simp[val],?_⟩;refine Sz0 ?_;simp
 rintro _ J h ⟨i,c,out,rfl,hc,hi,lC,fw,mw,hv,h5,h6,h7,hh⟩;have e1:=w7 a i;have e2:=w7 b i;have d1:=vu ha i;have d2:=vu hb i;refine Sz3 h5 h6 h7 ?_;refine Qo (fun hg=>?_) (fun hg=>?_)
 ·have aq:i<max a.length b.length:=by omega
  have fi:(dg a i+dg b i+c)/65536<=1:=by omega
  have mA:val (out++[(dg a i+dg b i+c)%65536])+65536^(i+1)*((dg a i+dg b i+c)/65536+val (a.drop (i+1))+val (b.drop (i+1)))=val a+val b:=by
   rw[Dr,fw,Kbz,<-hv,e1,e2];have:=Kbi (dg a i+dg b i+c) 65536;generalize 65536^i=P at *
   generalize(dg a i+dg b i+c)/65536=q at *
   generalize(dg a i+dg b i+c)%65536=r at *
   have e:c+(dg a i+65536*val (a.drop (i+1)))+(dg b i+65536*val (b.drop (i+1)))=r+65536*(q+val (a.drop (i+1))+val (b.drop (i+1))):=by omega
   rw[e,KaW P,Kbb];omega
  refine Sz3 h5 h6 h7 ?_;refine Qa hP (mL ha (by omega)) rfl rfl rfl ?_;refine Sz3 h5 h6 h7 ?_;refine Qa hP (mL hb (by omega)) rfl rfl rfl ?_;refine Sz4 h5 h6 h7 @Nat.mod_mod ?_;rw[Q3 (f:=fun(x:Nat)=>.int .u16 x) (y:=(dg a i+dg b i+c)%65536) (xs:=out) (ty':=128) (fz:=false) (Tz1 hh) bc (by omega) rfl (by omega) (by omega)];refine Sz3 h5 h6 h7 ?_;refine Qg (2*(max a.length b.length-(i+1))+(dg a i+dg b i+c)/65536) ?_ ⟨i+1,(dg a i+dg b i+c)/65536,out++[(dg a i+dg b i+c)%65536],rfl,fi,by omega,?_,by simp[fw],?_,mA,?_⟩
  ·by_cases aq:i<max a.length b.length
   ·omega
   ·have z1:dg a i=0:=by rw[dg,fV (by omega)]
    have z2:dg b i=0:=by rw[dg,fV (by omega)]
    rw[z1,z2];omega
  ·by_cases aq:i<max a.length b.length
   ·omega
   ·have z1:dg a i=0:=by rw[dg,fV (by omega)]
    have z2:dg b i=0:=by rw[dg,fV (by omega)]
    rw[z1,z2];omega
  ·rw[nJ];exact⟨mw,by intro z hz;simp at hz;omega⟩
  ·refine Sz0 ?_;simp
 refine Sz3 h5 h6 h7 ?_;refine Qo (fun dX=>?_) (fun dX=>?_)
 ·have aq:i<max a.length b.length:=by omega
  have fi:(dg a i+dg b i+c)/65536<=1:=by omega
  have mA:val (out++[(dg a i+dg b i+c)%65536])+65536^(i+1)*((dg a i+dg b i+c)/65536+val (a.drop (i+1))+val (b.drop (i+1)))=val a+val b:=by
   rw[Dr,fw,Kbz,<-hv,e1,e2];have:=Kbi (dg a i+dg b i+c) 65536;generalize 65536^i=P at *
   generalize(dg a i+dg b i+c)/65536=q at *
   generalize(dg a i+dg b i+c)%65536=r at *
   have e:c+(dg a i+65536*val (a.drop (i+1)))+(dg b i+65536*val (b.drop (i+1)))=r+65536*(q+val (a.drop (i+1))+val (b.drop (i+1))):=by omega
   rw[e,KaW P,Kbb];omega
  refine Sz3 h5 h6 h7 ?_;refine Qa hP (mL ha (by omega)) rfl rfl rfl ?_;refine Sz3 h5 h6 h7 ?_;refine Qa hP (mL hb (by omega)) rfl rfl rfl ?_;refine Sz4 h5 h6 h7 @Nat.mod_mod ?_;rw[Q3 (f:=fun(x:Nat)=>.int .u16 x) (y:=(dg a i+dg b i+c)%65536) (xs:=out) (ty':=128) (fz:=false) (Tz1 hh) bc (by omega) rfl (by omega) (by omega)];refine Sz3 h5 h6 h7 ?_;refine Qg (2*(max a.length b.length-(i+1))+(dg a i+dg b i+c)/65536) ?_ ⟨i+1,(dg a i+dg b i+c)/65536,out++[(dg a i+dg b i+c)%65536],rfl,fi,by omega,?_,by simp[fw],?_,mA,?_⟩
  ·by_cases aq:i<max a.length b.length
   ·omega
   ·have z1:dg a i=0:=by rw[dg,fV (by omega)]
    have z2:dg b i=0:=by rw[dg,fV (by omega)]
    rw[z1,z2];omega
  ·by_cases aq:i<max a.length b.length
   ·omega
   ·have z1:dg a i=0:=by rw[dg,fV (by omega)]
    have z2:dg b i=0:=by rw[dg,fV (by omega)]
    rw[z1,z2];omega
  ·rw[nJ];exact⟨mw,by intro z hz;simp at hz;omega⟩
  ·refine Sz0 ?_;simp
 refine Sz3 h5 h6 h7 ?_;refine Qb (fun AW=>?_) (fun AW=>?_)
 ·have Sn:i<=max a.length b.length:=by omega
  have fi:(dg a i+dg b i+c)/65536<=1:=by omega
  have mA:val (out++[(dg a i+dg b i+c)%65536])+65536^(i+1)*((dg a i+dg b i+c)/65536+val (a.drop (i+1))+val (b.drop (i+1)))=val a+val b:=by
   rw[Dr,fw,Kbz,<-hv,e1,e2];have:=Kbi (dg a i+dg b i+c) 65536;generalize 65536^i=P at *
   generalize(dg a i+dg b i+c)/65536=q at *
   generalize(dg a i+dg b i+c)%65536=r at *
   have e:c+(dg a i+65536*val (a.drop (i+1)))+(dg b i+65536*val (b.drop (i+1)))=r+65536*(q+val (a.drop (i+1))+val (b.drop (i+1))):=by omega
   rw[e,KaW P,Kbb];omega
  refine Sz3 h5 h6 h7 ?_;refine Qa hP (mL ha (by omega)) rfl rfl rfl ?_;refine Sz3 h5 h6 h7 ?_;refine Qa hP (mL hb (by omega)) rfl rfl rfl ?_;refine Sz4 h5 h6 h7 @Nat.mod_mod ?_;rw[Q3 (f:=fun(x:Nat)=>.int .u16 x) (y:=(dg a i+dg b i+c)%65536) (xs:=out) (ty':=128) (fz:=false) (Tz1 hh) bc (by omega) rfl (by omega) (by omega)];refine Sz3 h5 h6 h7 ?_;refine Qg (2*(max a.length b.length-(i+1))+(dg a i+dg b i+c)/65536) ?_ ⟨i+1,(dg a i+dg b i+c)/65536,out++[(dg a i+dg b i+c)%65536],rfl,fi,by omega,?_,by simp[fw],?_,mA,?_⟩
  ·by_cases aq:i<max a.length b.length
   ·omega
   ·have z1:dg a i=0:=by rw[dg,fV (by omega)]
    have z2:dg b i=0:=by rw[dg,fV (by omega)]
    rw[z1,z2];omega
  ·by_cases aq:i<max a.length b.length
   ·omega
   ·have z1:dg a i=0:=by rw[dg,fV (by omega)]
    have z2:dg b i=0:=by rw[dg,fV (by omega)]
    rw[z1,z2];omega
  ·rw[nJ];exact⟨mw,by intro z hz;simp at hz;omega⟩
  ·refine Sz0 ?_;simp
 ·obtain rfl:c=0:=by omega
  rw[Kal (by omega),Kal (by omega)]at hv;simp only[val,KaM,KbS]at hv;refine Sz2 h5 hh ?_;refine u7 hP (nK mw (by omega)) (by simp+decide (disch:=try exact E1 hh) only[go_sem,hh,ia,KaK,KaR,KaN,KaP,Kar];simp[Kai]) rfl fun hp'=>?_;refine Sz0 ?_;exact Qc (by rw[hv]) rfl
theorem GR{a b:List Nat}(ha:Qj a)(hb:Qj b)(bu:a.length<2^40)(dz:b.length<2^40):Qd Tryz.prog 119 [PV.nat a,PV.nat b] (· =if val a<val b then .aI [PV.num 0,.int .i64 2]else .aI [PV.num (val a-val b),.int .i64 0]):=by
 refine aB Qh Tryz.func119 aem fun C hP=>?_;refine Sz0 ?_;refine Qa hP (CI ha hb (by omega) (by omega)) rfl rfl rfl ?_;refine Sz0 ?_;refine Qb (fun hc=>?_) (fun hc=>?_)
 ·rw[if_pos (Dl.1 hc)];refine Sz0 ?_;exact cG rfl rfl rfl xf (Qf _)
 have jm:¬val a<val b:=fun h=>hc (Dl.2 h);rw[if_neg jm];refine Sz0 ?_;refine oM 6 900 1 128 (by omega) Tz0 ?_;refine Ql okB [(6,9),(14,37)] [36,37,900] (fun m J hp=>∃(i c:Nat)(out:List Nat),m=a.length-i/\c<=1/\i<=a.length/\out.length=i/\Qj out/\val (a.take i)+65536^i*c=val out+val (b.take i)/\J 6= .ms 900 out.length/\J 7= .int .i64 c/\J 8= .int .i64 i/\hp 900=some ⟨1,128,bV out,false⟩) a.length ?_ ?_
 ·refine⟨0,0,[],rfl,by omega,by omega,rfl,nL,by simp[val],?_⟩;refine Sz0 ?_;simp
 rintro _ J h ⟨i,c,out,rfl,nn,hi,fw,mw,hv,h6,h7,h8,hh⟩;refine Sz3 h6 h7 h8 ?_;refine Qb (fun hg=>?_) (fun hg=>?_)
 ·have az:i<a.length:=by omega
  have e1:=NB a i;have e2:=NB b i;have d1:=vu ha i;have d2:=vu hb i;refine Sz3 h6 h7 h8 ?_;refine Qa hP (mL ha (by omega)) rfl rfl rfl ?_;refine Sz3 h6 h7 h8 ?_;refine Qa hP (mL hb (by omega)) rfl rfl rfl ?_;refine Sz3 h6 h7 h8 ?_;have step:∀(d c':Nat),d<65536->c'<=1->dg a i+65536*c'=d+dg b i+c->val (a.take (i+1))+65536^(i+1)*c'=val (out++[d])+val (b.take (i+1)):=fun d c' _ _ h3=>by
   rw[Dr,fw,e1,e2,Kbz];generalize 65536^i=P at *
   have:P*(dg a i+65536*c')=P*(d+dg b i+c):=by rw[h3]
   rw[KaW,<-Nat.mul_assoc,KaW,KaW]at this;omega
  refine Qb (fun hd=>?_) (fun hd=>?_)
  ·obtain⟨d,AS⟩:∃d:Nat,(dg a i:Int)-(dg b i:Int)-(c:Int)+65536=d:=⟨((dg a i:Int)-(dg b i:Int)-(c:Int)+65536).toNat,by omega⟩
   have aH:=step d 1 (by omega) (by omega) (by omega);refine Sz4 h6 h7 h8 AS ?_;rw[Q3 (f:=fun(x:Nat)=>.int .u16 x) (y:=d) (xs:=out) (ty':=128) (fz:=false) (Tz1 hh) (by simp+decide (disch:=first|omega|rfl|(simp+decide only[go_sem,KaI (by omega:d<65536)]<;>rfl)|fail) only[go_sem,KaI (by omega:d<65536)]) (by omega) rfl (by omega) (by omega)];refine Sz3 h6 h7 h8 ?_;refine Qg (a.length-(i+1)) (by omega) ⟨i+1,1,out++[d],rfl,by omega,by omega,by simp[fw],?_,aH,?_⟩
   ·rw[nJ];exact⟨mw,by intro z hz;simp at hz;omega⟩
   ·refine Sz0 ?_;simp
  ·obtain⟨d,AS⟩:∃d:Nat,(dg a i:Int)-(dg b i:Int)-(c:Int)=d:=⟨((dg a i:Int)-(dg b i:Int)-(c:Int)).toNat,by omega⟩
   have aH:=step d 0 (by omega) (by omega) (by omega);refine Sz4 h6 h7 h8 AS ?_;rw[Q3 (f:=fun(x:Nat)=>.int .u16 x) (y:=d) (xs:=out) (ty':=128) (fz:=false) (Tz1 hh) (by simp+decide (disch:=first|omega|rfl|(simp+decide only[go_sem,KaI (by omega:d<65536)]<;>rfl)|fail) only[go_sem,KaI (by omega:d<65536)]) (by omega) rfl (by omega) (by omega)];refine Sz3 h6 h7 h8 ?_;refine Qg (a.length-(i+1)) (by omega) ⟨i+1,0,out++[d],rfl,by omega,by omega,by simp[fw],?_,aH,?_⟩
   ·rw[nJ];exact⟨mw,by intro z hz;simp at hz;omega⟩
   ·refine Sz0 ?_;simp
 ·obtain rfl:i=a.length:=by omega
  have hbz:val (b.drop a.length)=0:=CE (by have:=oP ha;omega);have sU:=Hd b a.length;rw[hbz,KbS,KaM]at sU;rw[KaT,<-sU]at hv;have hvo:=oP mw;rw[fw]at hvo;have rD:c=0:=by
   match c,nn with
   |0,_=>rfl
   |1,_=>exfalso;have:=oP ha;omega
  subst rD;refine Sz2 h6 hh ?_;refine u7 hP (nK mw (by omega)) (by simp+decide (disch:=try exact E1 hh) only[go_sem,hh,ia,KaK,KaR,KaN,KaP,Kar];simp[Kai]) rfl fun hp'=>?_;refine Sz0 ?_;exact cG rfl rfl rfl (tF (congrArg PV.num (by omega))) (Qf _)
theorem GS{a b:List Nat}(ha:Qj a)(hb:Qj b)(bu:a.length<2^40)(dz:b.length<2^40):Qd Tryz.prog 66 [PV.nat a,PV.nat b] (· =PV.num (val a*val b)):=by
 refine aB Qh Tryz.func66 agX fun C hP=>?_;refine Sz0 ?_;refine Ql okB [(6,9),(17,62)] [] (fun m J hp=>∃(i:Nat)(L:List Nat),m=a.length-i/\i<=a.length/\L.length=a.length+b.length+1/\Qj L/\val L=val (a.take i)*val b/\J 6= .int .i64 i/\hp=Qk ax 16 ⟨1,128,bV L,false⟩) a.length ?_ ?_
 ·refine⟨0,List.replicate (a.length+b.length+1) 0,rfl,by omega,by simp,?_,by simp[val,PR],?_⟩
  ·intro z hz;rw[List.eq_of_mem_replicate hz];omega
  ·refine Sz0 ?_;simp
 rintro _ J _ ⟨i,L,rfl,hi,ED,hL,hv,h6,rfl⟩;refine Sz1 h6 ?_;refine Qb (fun hg=>?_) (fun hg=>?_)
 ·have az:i<a.length:=by omega
  have EI:=eg ha az;have lF:=yZ az;have Fv:dg L (i+b.length)=0:=by apply Ws;apply CE;rw[hv,Nat.pow_add];have h1:=tw ha i (by omega);have h2:=oP hb;exact Nat.mul_lt_mul'' h1 h2
  generalize dB:a[i]=ai at *
  refine Sz2 h6 dB ?_;refine Ql okB [(7,9),(23,62)] [] (fun m J hp=>∃(k c:Nat)(M:List Nat),m=b.length+1-k/\k<=b.length+1/\(k<=b.length∨c=0)/\c<65536/\M.length=L.length/\Qj M/\val M+65536^(i+k)*(c+ai*val (b.drop k))=val L+65536^i*(ai*val b)/\(∀j,i+k<=j->dg M j=dg L j)/\J 7= .int .u64 c/\J 8= .int .i64 k/\hp=Qk ax 16 ⟨1,128,bV M,false⟩) (b.length+1) ?_ ?_
  ·refine⟨0,0,L,rfl,by omega,by omega,by omega,rfl,hL,by simp,fun _ _=>rfl,?_⟩;refine Sz1 h6 ?_;simp
  rintro _ J2 _ ⟨k,c,M,rfl,hk,ph,hc,RO,hM,hw,wv,h7,h8,rfl⟩;have e2:=w7 b k;have d2:=vu hb k;refine Sz3 h6 h7 h8 ?_;refine Qo (fun AZ=>?_) (fun AZ=>?_)
  ·have an4:k<=b.length:=by omega
   have hj:i+k<M.length:=by omega
   have hx:=eg hM hj;have lE:=fun v=>Ma (v:=v) hj;have wg:=tB EI d2;have vW:dg M (i+k)=M[i+k]:=fU hj;generalize nu:M[i+k]=x at *
   have uv:=Kbi (x+ai*dg b k+c) 65536;have nt:=QA (T:=val L+65536^i*(ai*val b)) (lE ((x+ai*dg b k+c)%65536)) (by rw[<-e2];exact hw) uv;have hr:=Kbs (x+ai*dg b k+c) (show 0<65536 by omega);have hq:(x+ai*dg b k+c)/65536<65536:=by omega
   have kJ:¬k<b.length->(x+ai*dg b k+c)/65536=0:=fun h=>by
    have z1:dg b k=0:=by rw[dg,fV (by omega)]
    have z2:x=0:=by rw[<-vW,wv _ (Kae _),show i+k=i+b.length by omega,Fv]
    rw[z1,z2];omega
   have Bc:Qj (M.set (i+k) ((x+ai*dg b k+c)%65536)):=fun z hz=>by
    rcases List.mem_or_eq_of_mem_set hz with h|h
    ·exact hM z h
    ·omega
   have e5:IntKind.u64.wrap ((ai*dg b k:Nat):Int)=((ai*dg b k:Nat):Int):=se (by omega) (by omega);refine Sz5 h6 h7 h8 dB nu ?_;refine Qa hP (mL hb (by omega)) rfl rfl rfl ?_;refine Sz7 h6 h7 h8 dB nu e5 @Nat.mod_mod ?_;refine Qg (b.length+1-(k+1)) (by omega) ⟨k+1,(x+ai*dg b k+c)/65536,M.set (i+k) ((x+ai*dg b k+c)%65536),rfl,by omega,?_,hq,by rw[List.length_set];exact RO,Bc,?_,?_,?_⟩
   ·by_cases h:k<b.length
    ·omega
    ·exact .inr (kJ h)
   ·rw[<-Nat.add_assoc,Kbz];exact nt
   ·intro j Js;rw[QB (by omega)];exact wv j (by omega)
   ·exact Tz3 h6 h7 h8
  refine Sz3 h6 h7 h8 ?_;refine Qb (fun rD=>?_) (fun rD=>?_)
  ·have an4:k<=b.length:=by omega
   have hj:i+k<M.length:=by omega
   have hx:=eg hM hj;have lE:=fun v=>Ma (v:=v) hj;have wg:=tB EI d2;have vW:dg M (i+k)=M[i+k]:=fU hj;generalize nu:M[i+k]=x at *
   have uv:=Kbi (x+ai*dg b k+c) 65536;have nt:=QA (T:=val L+65536^i*(ai*val b)) (lE ((x+ai*dg b k+c)%65536)) (by rw[<-e2];exact hw) uv;have hr:=Kbs (x+ai*dg b k+c) (show 0<65536 by omega);have hq:(x+ai*dg b k+c)/65536<65536:=by omega
   have kJ:¬k<b.length->(x+ai*dg b k+c)/65536=0:=fun h=>by
    have z1:dg b k=0:=by rw[dg,fV (by omega)]
    have z2:x=0:=by rw[<-vW,wv _ (Kae _),show i+k=i+b.length by omega,Fv]
    rw[z1,z2];omega
   have Bc:Qj (M.set (i+k) ((x+ai*dg b k+c)%65536)):=fun z hz=>by
    rcases List.mem_or_eq_of_mem_set hz with h|h
    ·exact hM z h
    ·omega
   have e5:IntKind.u64.wrap ((ai*dg b k:Nat):Int)=((ai*dg b k:Nat):Int):=se (by omega) (by omega);refine Sz5 h6 h7 h8 dB nu ?_;refine Qa hP (mL hb (by omega)) rfl rfl rfl ?_;refine Sz7 h6 h7 h8 dB nu e5 @Nat.mod_mod ?_;refine Qg (b.length+1-(k+1)) (by omega) ⟨k+1,(x+ai*dg b k+c)/65536,M.set (i+k) ((x+ai*dg b k+c)%65536),rfl,by omega,?_,hq,by rw[List.length_set];exact RO,Bc,?_,?_,?_⟩
   ·by_cases h:k<b.length
    ·omega
    ·exact .inr (kJ h)
   ·rw[<-Nat.add_assoc,Kbz];exact nt
   ·intro j Js;rw[QB (by omega)];exact wv j (by omega)
   ·exact Tz3 h6 h7 h8
  ·obtain rfl:c=0:=by omega
   rw[Kal (by omega)]at hw;simp only[val,KbS,KaM]at hw;refine Sz3 h6 h7 h8 ?_;simp (disch:=decide) only[iT,nO];refine Qg (a.length-(i+1)) (by omega) ⟨i+1,M,rfl,by omega,by omega,hM,?_,?_⟩
   ·rw[hw,hv,lF,KaD,Kbb]
   ·exact Tz0
 ·obtain rfl:i=a.length:=by omega
  rw[KaT]at hv;refine Sz0 ?_;refine u7 hP (nK hL (by omega)) (by simp+decide (disch:=try exact E0) only[go_sem,ia,KaK,KaR,KaN,KaP,Kar];simp[Kai,ED]) rfl fun hp'=>?_;refine Sz0 ?_;exact Qc (by rw[hv]) rfl
theorem CP{x y:Nat}(hx:nl x<2^40)(hy:nl y<2^40):Qd Tryz.prog 66 [PV.num x,PV.num y] (· =PV.num (x*y)):=by
 have:=GS (Qn x) (Qn y) hx hy
 rwa[Qu,Qu]at this
theorem WI{x y:Nat}(hx:nl x<2^42)(hy:nl y<2^42):Qd Tryz.prog 161 [PV.num x,PV.num y] (· = .int .i64 (gA x y)):=by
 have:=CI (Qn x) (Qn y) hx hy
 rwa[Qu,Qu]at this
theorem Pf{x y:Nat}(hx:nl x<2^40)(hy:nl y<2^40)(h:y<=x):Qd Tryz.prog 119 [PV.num x,PV.num y] (· = .aI [PV.num (x-y),.int .i64 0]):=by
 have:=GR (Qn x) (Qn y) hx hy
 rwa[Qu,Qu,if_neg (by omega)]at this
theorem LK{x y:Nat}:gA x y<=0↔x<=y:=by unfold gA;split<;>(try split)<;>omega
theorem NM{x y:Nat}(hx:nl x<2^38)(hy:nl y<2^38)(cU:0<y):Qd Tryz.prog 118 [PV.num x,PV.num y] (· = .int .u64 (min 65535 (x/y):Nat)):=by
 have pq:∀(n d:Nat) fr hp K,n<18446744073709551616->bQ .quo false (.int .u64 (n:Int)) (.int .u64 2) d fr hp K=K (ab fr d (.int .u64 ((n/2:Nat):Int))) hp:=fun n d fr hp K h=>by rw[show(2:Int)=((2:Nat):Int)from rfl,zU (by omega) h]
 refine aB Qh Tryz.func118 aen fun C hP=>?_;refine Sz0 ?_;refine Ql okB [(5,25)] [] (fun m J hp=>∃lo hi:Nat,m=hi-lo/\lo<=hi/\hi<=65535/\y*lo<=x/\(hi=65535∨x<y*(hi+1))/\J 5= .int .u64 lo/\J 6= .int .u64 hi) 65535 ?_ ?_
 ·refine⟨0,65535,rfl,by omega,by omega,by omega,.inl rfl,?_⟩;refine Sz0 ?_;simp
 rintro _ J h ⟨lo,hi,rfl,h1,h2,h3,h4,h5,h6⟩;refine Sz2 h5 h6 ?_;refine Qb (fun hg=>?_) (fun hg=>?_)
 ·have eH:nl ((lo+hi+1)/2)<=4:=sg (by omega);have hm:=kq y ((lo+hi+1)/2);generalize aog:(lo+hi+1)/2=wF at *
  refine Sz4 h5 h6 pq aog ?_;refine Qa hP (pI (n:=wF) (by omega)) rfl rfl rfl ?_;refine Sz2 h5 h6 ?_;refine Qa hP (CP (x:=y) (y:=wF) (by omega) (by omega)) rfl rfl rfl ?_;refine Sz2 h5 h6 ?_;refine Qa hP (WI (x:=y*wF) (y:=x) (by omega) (by omega)) rfl rfl rfl ?_;refine Sz2 h5 h6 ?_;refine Qb (fun hc=>?_) (fun hc=>?_)
  ·rw[LK]at hc;refine Sz2 h5 h6 ?_;refine Qg (hi-wF) (by omega) ⟨wF,hi,rfl,by omega,h2,hc,h4,?_⟩;exact Tz1 h6
  ·rw[LK]at hc;obtain⟨n,rfl⟩:∃n,wF=n+1:=⟨wF-1,by omega⟩
   have e:((n+1:Nat):Int)-1=n:=by omega
   refine Sz3 h5 h6 e ?_;refine Qg (n-lo) (by omega) ⟨lo,n,rfl,by omega,by omega,h3,.inr (by omega),?_⟩;exact Tz1 h5
 ·obtain rfl:lo=hi:=by omega
  refine Sz1 h5 ?_;refine Qc ?_ rfl;have hle:lo<=x/y:=(Nat.le_div_iff_mul_le cU).2 (by rw[KaX];exact h3);rcases h4 with rfl|h4
  ·rw[KbP hle]
  ·have:x/y<lo+1:=(Kbd cU).2 (by rw[KaX];exact h4);congr 2;omega
theorem NC{a b:List Nat}(ha:Qj a)(hb:Qj b)(bu:a.length<2^36)(dz:b.length<2^36):Qd Tryz.prog 65 [PV.nat a,PV.nat b]
  (· =if val b=0 then .aI [PV.num 0,PV.num 0,.int .i64 3]else .aI [PV.num (val a/val b),PV.num (val a%val b),.int .i64 0]):=by
 have gj:=bF ha;have iR:=bF hb;refine aB Qh Tryz.func65 agY fun C hP=>?_;refine Sz0 ?_;refine Qa hP (nK ha (by omega)) rfl rfl rfl ?_;refine Sz0 ?_;refine Qa hP (nK hb (by omega)) rfl rfl rfl ?_;refine Sz0 ?_;generalize val a=x at *
 generalize val b=y at *
 unfold nl at gj iR;refine Qb (fun hz=>?_) (fun hz=>?_)
 ·have cU:y=0:=lK.1 (pH (by omega));refine Sz0 ?_;rw[if_pos cU];exact tY rfl rfl rfl rfl xf xf (Qf _)
 have cU:y≠0:=fun h=>by rw[h,fk]at hz;simp at hz
 rw[if_neg cU];have hyp:0<y:=Ka6 cU;have eC:=Qn x;have jZ:=Qn y;have qz:=Qu x;have wz:=Qu y;refine Sz0 ?_;refine Q5 (fun h1=>?_) (fun h1=>?_)
 ·refine Sz0 ?_;refine Qb (fun h2=>?_) (fun h2=>?_)
  ·have aqN:=CV.1 (show nl x<=4 by unfold nl;omega);have aqP:=CV.1 (show nl y<=4 by unfold nl;omega);have hq:=Kcv x y;have hr:=Kbs x hyp;refine Sz0 ?_;refine Qa hP (Cl eC (by omega)) rfl rfl rfl ?_;refine Sz1 qz ?_;refine Qa hP (Cl jZ (by omega)) rfl rfl rfl ?_;refine Sz3 qz wz @zU ?_;refine Qa hP (pI (n:=x/y) (by omega)) rfl rfl rfl ?_;refine Sz0 ?_;refine Qa hP (Cl eC (by omega)) rfl rfl rfl ?_;refine Sz1 qz ?_;refine Qa hP (Cl jZ (by omega)) rfl rfl rfl ?_;refine Sz3 qz wz @pL ?_;refine Qa hP (pI (n:=x%y) (by omega)) rfl rfl rfl ?_;refine Sz0 ?_;exact tY rfl rfl rfl rfl (Qf _) (Qf _) (Qf _)
  ·have aow:=trivial;refine Sz0 ?_;refine vf 7 1 Tz0 ?_;refine vf 8 1 Tz0 ?_;refine Li okB [(7,10),(41,69)] [49,51,58,60] (fun k J hp=>∃qs,k<=(ak x).length/\qs.length=(ak x).length-k/\Qj qs/\val qs=val ((ak x).drop k)/y/\J 7= .sl 1 (bV qs)/\J 8=PV.num (val ((ak x).drop k)%y)/\J 9= .int .i64 ((k:Int)-1)) (ak x).length ?_ ?_
   ·refine⟨[],Kae _,by simp,nL,by simp[val],?_⟩;refine Sz0 ?_;simp[val,fk]
   rintro k J h ⟨qs,hk,yz,pw,rL,h7,h8,h9⟩;refine Sz3 h7 h8 h9 ?_;have hr:=Kbs (val ((ak x).drop k)) hyp;refine Qb (fun hg=>?_) (fun hg=>?_)
   ·obtain _|n:=k
    ·omega
    have hn:n<(ak x).length:=by omega
    have I8:=eg eC hn;have e:((n+1:Nat):Int)-1=n:=by omega
    have aH:=O6 (x:=(ak x)[n]) hyp rL;rw[<-lO hn]at aH;generalize hV:val ((ak x).drop (n+1))%y=r at *
    generalize dB:(ak x)[n]=xi at *
    have wq:(ak r).length<=(ak y).length:=fG (Nat.le_of_lt hr);have qt:Qj ([xi]++ak r):=by rw[nJ];exact⟨by intro z hz;simp at hz;omega,Qn r⟩
    have jB:val ([xi]++ak r)=r*65536+xi:=by rw[mP,Qu];simp[val];omega
    have aq:(r*65536+xi)/y<65536:=by rw[Kbd hyp];have:(r+1)*65536<=y*65536:=Kam _ hr;omega
    have JD:nl (r*65536+xi)<=(ak y).length+1:=by have:=bF qt;rw[jB,Kax]at this;simp at this;omega
    have uv:=Kbi (r*65536+xi) y;have gp:nl (y*((r*65536+xi)/y))<=(ak y).length+1:=KaO (fG (by omega)) JD;have JC:nl ((r*65536+xi)/y)<=4:=sg (by omega);have JT:r*65536+xi-y*((r*65536+xi)/y)=(r*65536+xi)%y:=by omega
    refine Sz5 h7 h8 h9 e dB ?_;rw[jG (f:=fun(x:Nat)=>.int .u16 x) (xs:=[xi]) (ys:=ak r) (n:=1) bc rfl (by omega) (by omega) (by omega)];refine Sz5 h7 h8 h9 e dB ?_;refine nM hP (nK (l:=[xi]++ak r) qt (by simp;omega)) (by simp+decide (disch:=try exact E0) only[go_sem,ia,KaK,KaR,KaN,KaP,Kar];simp[KbR 1,Kai]) rfl ?_;rw[jB];refine Sz5 h7 h8 h9 e dB ?_;refine Qa hP (NM (x:=r*65536+xi) (y:=y) (by omega) (by unfold nl;omega) hyp) rfl rfl rfl ?_;rw[KcQ (by omega:(r*65536+xi)/y<=65535)];generalize hD:(r*65536+xi)/y=D at *
    simp+decide (disch:=first|omega|rfl|(simp+decide only[go_sem,h7,h8,h9,e,dB,KaI aq]<;>rfl)|fail) only[go_sem,h7,h8,h9,e,dB,KaI aq];rw[jG (f:=fun(x:Nat)=>.int .u16 x) (xs:=[D]) (ys:=qs) (n:=1) bc rfl (by omega) (by omega) (by omega)];refine Sz5 h7 h8 h9 e dB ?_;refine Qa hP (pI (n:=D) (by omega)) rfl rfl rfl ?_;refine Sz4 h7 h8 h9 e ?_;refine Qa hP (CP (x:=y) (y:=D) (by unfold nl;omega) (by omega)) rfl rfl rfl ?_;refine Sz4 h7 h8 h9 e ?_;refine Qa hP (Pf (x:=r*65536+xi) (y:=y*D) (by omega) (by omega) (by omega)) rfl rfl rfl ?_;rw[JT];refine Sz4 h7 h8 h9 e ?_;refine O5 7 n rfl ?_ (by omega) ⟨D::qs,by omega,by simp;omega,?_,?_,?_⟩
    ·exact gS
    ·rw[gH];exact⟨aq,pw⟩
    ·rw[val,aH.1]
    ·refine Rc aH.2 ?_;simp[KbR 1,Kai]
   ·obtain rfl:k=0:=by omega
    rw[Kbw,qz]at rL h8;refine Sz2 h7 h8 ?_;refine Qa hP (nK pw (by omega)) rfl rfl rfl ?_;refine Sz2 h7 h8 ?_;exact tY rfl rfl rfl rfl (tF (by rw[rL])) (Qf _) (Qf _)
 ·have aow:=trivial;refine Sz0 ?_;refine vf 7 1 Tz0 ?_;refine vf 8 1 Tz0 ?_;refine Li okB [(7,10),(41,69)] [49,51,58,60] (fun k J hp=>∃qs,k<=(ak x).length/\qs.length=(ak x).length-k/\Qj qs/\val qs=val ((ak x).drop k)/y/\J 7= .sl 1 (bV qs)/\J 8=PV.num (val ((ak x).drop k)%y)/\J 9= .int .i64 ((k:Int)-1)) (ak x).length ?_ ?_
  ·refine⟨[],Kae _,by simp,nL,by simp[val],?_⟩;refine Sz0 ?_;simp[val,fk]
  rintro k J h ⟨qs,hk,yz,pw,rL,h7,h8,h9⟩;refine Sz3 h7 h8 h9 ?_;have hr:=Kbs (val ((ak x).drop k)) hyp;refine Qb (fun hg=>?_) (fun hg=>?_)
  ·obtain _|n:=k
   ·omega
   have hn:n<(ak x).length:=by omega
   have I8:=eg eC hn;have e:((n+1:Nat):Int)-1=n:=by omega
   have aH:=O6 (x:=(ak x)[n]) hyp rL;rw[<-lO hn]at aH;generalize hV:val ((ak x).drop (n+1))%y=r at *
   generalize dB:(ak x)[n]=xi at *
   have wq:(ak r).length<=(ak y).length:=fG (Nat.le_of_lt hr);have qt:Qj ([xi]++ak r):=by rw[nJ];exact⟨by intro z hz;simp at hz;omega,Qn r⟩
   have jB:val ([xi]++ak r)=r*65536+xi:=by rw[mP,Qu];simp[val];omega
   have aq:(r*65536+xi)/y<65536:=by rw[Kbd hyp];have:(r+1)*65536<=y*65536:=Kam _ hr;omega
   have JD:nl (r*65536+xi)<=(ak y).length+1:=by have:=bF qt;rw[jB,Kax]at this;simp at this;omega
   have uv:=Kbi (r*65536+xi) y;have gp:nl (y*((r*65536+xi)/y))<=(ak y).length+1:=KaO (fG (by omega)) JD;have JC:nl ((r*65536+xi)/y)<=4:=sg (by omega);have JT:r*65536+xi-y*((r*65536+xi)/y)=(r*65536+xi)%y:=by omega
   refine Sz5 h7 h8 h9 e dB ?_;rw[jG (f:=fun(x:Nat)=>.int .u16 x) (xs:=[xi]) (ys:=ak r) (n:=1) bc rfl (by omega) (by omega) (by omega)];refine Sz5 h7 h8 h9 e dB ?_;refine nM hP (nK (l:=[xi]++ak r) qt (by simp;omega)) (by simp+decide (disch:=try exact E0) only[go_sem,ia,KaK,KaR,KaN,KaP,Kar];simp[KbR 1,Kai]) rfl ?_;rw[jB];refine Sz5 h7 h8 h9 e dB ?_;refine Qa hP (NM (x:=r*65536+xi) (y:=y) (by omega) (by unfold nl;omega) hyp) rfl rfl rfl ?_;rw[KcQ (by omega:(r*65536+xi)/y<=65535)];generalize hD:(r*65536+xi)/y=D at *
   simp+decide (disch:=first|omega|rfl|(simp+decide only[go_sem,h7,h8,h9,e,dB,KaI aq]<;>rfl)|fail) only[go_sem,h7,h8,h9,e,dB,KaI aq];rw[jG (f:=fun(x:Nat)=>.int .u16 x) (xs:=[D]) (ys:=qs) (n:=1) bc rfl (by omega) (by omega) (by omega)];refine Sz5 h7 h8 h9 e dB ?_;refine Qa hP (pI (n:=D) (by omega)) rfl rfl rfl ?_;refine Sz4 h7 h8 h9 e ?_;refine Qa hP (CP (x:=y) (y:=D) (by unfold nl;omega) (by omega)) rfl rfl rfl ?_;refine Sz4 h7 h8 h9 e ?_;refine Qa hP (Pf (x:=r*65536+xi) (y:=y*D) (by omega) (by omega) (by omega)) rfl rfl rfl ?_;rw[JT];refine Sz4 h7 h8 h9 e ?_;refine O5 7 n rfl ?_ (by omega) ⟨D::qs,by omega,by simp;omega,?_,?_,?_⟩
   ·exact gS
   ·rw[gH];exact⟨aq,pw⟩
   ·rw[val,aH.1]
   ·refine Rc aH.2 ?_;simp[KbR 1,Kai]
  ·obtain rfl:k=0:=by omega
   rw[Kbw,qz]at rL h8;refine Sz2 h7 h8 ?_;refine Qa hP (nK pw (by omega)) rfl rfl rfl ?_;refine Sz2 h7 h8 ?_;exact tY rfl rfl rfl rfl (tF (by rw[rL])) (Qf _) (Qf _)
theorem Qz5{x y:Nat}(hx:nl x<2^36)(hy:nl y<2^36)(h0:y≠0):Qd Tryz.prog 65 [PV.num x,PV.num y] (· = .aI [PV.num (x/y),PV.num (x%y),.int .i64 0]):=by
 have:=NC (Qn x) (Qn y) hx hy
 rwa[Qu,Qu,if_neg h0]at this
theorem N9{a b:List Nat}(ha:Qj a)(hb:Qj b)(bu:a.length<2^36)(dz:b.length<2^36):Qd Tryz.prog 64 [PV.nat a,PV.nat b] (· =PV.num (Nat.gcd (val a) (val b))):=by
 have gj:=bF ha;have iR:=bF hb;refine aB Qh Tryz.func64 agZ fun C hP=>?_;refine Sz0 ?_;refine Qa hP (nK ha (by omega)) rfl rfl rfl ?_;refine Sz0 ?_;refine Qa hP (nK hb (by omega)) rfl rfl rfl ?_;refine Sz0 ?_;refine Ql okB [(0,1),(5,7),(12,23)] [] (fun m J hp=>∃x y,m=y/\Nat.gcd x y=Nat.gcd (val a) (val b)/\nl x<2^36/\nl y<2^36/\J 0=PV.num x/\J 1=PV.num y/\hp=ax) (val b) ?_ ?_
 ·refine⟨val a,val b,rfl,rfl,by omega,by omega,?_⟩;exact Tz0
 rintro y J _ ⟨x,_,rfl,hg,hx,hy,h0,h1,rfl⟩;generalize Nat.gcd (val a) (val b)=g at *
 refine Sz2 h0 h1 ?_;refine Qb (fun hc=>?_) (fun hc=>?_)
 ·have cU:y≠0:=fun h=>by rw[h,fk]at hc;simp at hc
  have Bf:=fG (Nat.le_of_lt (Kbs x (Ka6 cU)));refine Sz2 h0 h1 ?_;refine Qa hP (Qz5 (x:=x) (y:=y) hx hy cU) rfl rfl rfl ?_;refine Sz2 h0 h1 ?_;refine Qg (x%y) (Kbs _ (Ka6 cU)) ⟨y,x%y,rfl,?_,hy,by omega,?_⟩
  ·rw[<-hg,Kcx x y,Nat.gcd_rec y x,Kcx]
  ·exact Tz0
 ·have cU:y=0:=lK.1 (pH (by omega));subst cU;refine Sz1 h0 ?_;exact Qc (by rw[<-hg,KcI]) rfl
theorem u0{n:Bool}{a:List Nat}(ha:Qj a)(bu:a.length<2^42):Qd Tryz.prog 74 [.bool n,PV.nat a] (· =PV.zz (zv n a)):=by
 refine aB Qh Tryz.func74 ag0 fun C hP=>?_;refine Sz0 ?_;refine Qa hP (nK ha bu) rfl rfl rfl ?_;refine Sz0 ?_;refine wV (fun hn=>?_) (fun hn=>?_)
 all_goals
  refine Sz0 ?_;refine cY ?_;refine Sz0 ?_;exact Qc (by have:=H9 n (val a);rw[hn]at this;subst hn;simpa[zv]using this) rfl
theorem Ct{n:Bool}{a:List Nat}(ha:Qj a)(bu:a.length<2^42):Qd Tryz.prog 73 [PV.zi n a] (· =PV.zz (zv n a)):=by refine aB Qh Tryz.func73 ag1 fun C hP=>?_;refine Sz0 ?_;refine Qa hP (u0 ha bu) rfl rfl rfl ?_;refine Sz0 ?_;refine cY ?_;refine Sz0 ?_;exact Qc rfl rfl
theorem Oj{n m:Bool}{a b:List Nat}(ha:Qj a)(hb:Qj b)(bu:a.length<2^40)(dz:b.length<2^40):Qd Tryz.prog 71 [PV.zi n a,PV.zi m b] (· =PV.zz (zv n a*zv m b)):=by
 have hr:nl (val a*val b)<2^42:=by have:=kq (val a) (val b);have:=bF ha;have:=bF hb;omega
 refine aB Qh Tryz.func71 ag4 fun C hP=>?_;refine Sz0 ?_;refine Qa hP (GS ha hb bu dz) rfl rfl rfl ?_;refine Sz0 ?_;refine Qa hP (u0 (n:= !(n==m)) (Qn (val a*val b)) hr) rfl rfl rfl ?_;refine Sz0 ?_;refine cY ?_;refine Sz0 ?_;exact Qc (congrArg PV.zz (by rw[tN];unfold zv;cases n<;>cases m<;>simp[Int.neg_mul,Int.mul_neg])) rfl
theorem WJ{x:Int}(h1: -9223372036854775808<=x)(h2:x<=9223372036854775807):Qd Tryz.prog 35 [.int .i64 x] (· =PV.zz x):=by
 refine tE Qh Tryz.func35 rfl ag2 (by simp[IF]) fun C hP=>?_;simp only[IF];refine dO ?_;refine Sz0 ?_;refine Qb (fun hc=>?_) (fun hc=>?_)
 ·obtain⟨y,hy⟩:∃y:Nat,x= -((y:Int)+1):=⟨(-(x+1)).toNat,by omega⟩
  have e1:IntKind.i64.wrap (x+1)= -(y:Int):=by rw[va (by omega) (by omega)];omega
  have e2:IntKind.i64.wrap (0- -(y:Int))=(y:Int):=by rw[va (by omega) (by omega)];omega
  have e3:IntKind.u64.wrap (y:Int)=(y:Int):=se (by omega) (by omega);have qq:nl y<=4:=sg (by omega);have mm:nl (y+1)<=4:=sg (by omega);refine Sz3 e1 e2 e3 ?_;refine Qa hP (pI (n:=y) (by omega)) rfl rfl rfl ?_;refine Sz0 ?_;refine Qa hP (pI (n:=1) (by omega)) rfl rfl rfl ?_;refine Sz0 ?_;refine Qa hP (N8 (Qn y) (Qn 1) (show nl y<_ by omega) (show nl 1<_ by rw[oQ];omega)) rfl rfl rfl ?_;refine Sz0 ?_;refine Qa hP (u0 (n:=true) (Qn (val (ak y)+val (ak 1))) (show nl _<_ by rw[Qu,Qu];omega)) rfl rfl rfl ?_;refine Sz0 ?_;refine cY ?_;refine Sz0 ?_;exact Qc (congrArg PV.zz (by rw[tN,Qu,Qu];simp;omega)) rfl
 ·obtain⟨y,rfl⟩:∃y:Nat,x=y:=⟨x.toNat,by omega⟩
  have qq:nl y<=4:=sg (by omega);refine Sz0 ?_;refine Qa hP (pI (by omega)) rfl rfl rfl ?_;refine Sz0 ?_;refine Qa hP (u0 (n:=false) (Qn y) (show nl _<_ by omega)) rfl rfl rfl ?_;refine Sz0 ?_;refine cY ?_;refine Sz0 ?_;exact Qc (congrArg PV.zz (by rw[tN];simp)) rfl
theorem UD{n:Bool}{a:List Nat}(ha:Qj a)(bu:a.length<2^42):Qd Tryz.prog 68 [PV.zi n a] (· = .int .i64 (eS (zv n a))):=by
 refine aB Qh Tryz.func68 ag3 fun C hP=>?_;refine Sz0 ?_;refine Qa hP (Ct ha bu) rfl rfl rfl ?_;generalize zv n a=z;refine Sz0 ?_;refine Qb (fun hz=>?_) (fun hz=>?_)
 ·have:z=0:=by have:=lK.1 (pH (n:=z.natAbs) (by omega));omega
  subst this;refine Sz0 ?_;exact Qc rfl rfl
 ·have h0:z≠0:=fun h=>by subst h;exact hz (by simp[fk])
  refine Sz0 ?_;refine zk (fun hn=>?_) (fun hn=>?_)
  ·have hn:z<0:=by simpa using hn
   refine Sz0 ?_;exact Qc (by rw[eS,if_pos hn]) rfl
  ·have hn:¬z<0:=by simpa using hn
   refine Sz0 ?_;exact Qc (by rw[eS,if_neg hn,if_pos (by omega)]) rfl
theorem Qz6{n:Bool}{a:List Nat}(ha:Qj a)(bu:a.length<2^42):Qd Tryz.prog 101 [PV.zi n a] (· = .bool (oU n a)):=by
 refine aB Qh Tryz.func101 aeq fun C hP=>?_;refine Sz0 ?_;refine Qa hP (NL ha (by omega)) rfl rfl rfl ?_;refine Sz0 ?_;refine wV (fun hv=>?_) (fun hv=>?_)
 ·refine Sz0 ?_;refine wV (fun hn=>?_) (fun hn=>?_)
  ·refine Sz0 ?_;exact Qc (congrArg PV.bool (by unfold oU;subst hn;cases a<;>simp_all<;>omega)) rfl
  ·refine Sz0 ?_;exact Qc (congrArg PV.bool (by unfold oU;subst hn;cases a<;>simp_all)) rfl
 ·refine Sz0 ?_;exact Qc (congrArg PV.bool (by unfold oU;cases a<;>simp_all)) rfl
theorem Vs{n m:Bool}{a b:List Nat}(ha:Qj a)(hb:Qj b)(bu:a.length<2^41)(dz:b.length<2^41):Qd Tryz.prog 162 [PV.zi n a,PV.zi m b] (· = .int .i64 (dq (zv n a) (zv m b))):=by
 have hx:nl (zv n a).natAbs<2^41:=by rw[iU];have:=bF ha;omega
 have hy:nl (zv m b).natAbs<2^41:=by rw[iU];have:=bF hb;omega
 refine aB Qh Tryz.func162 aer fun C hP=>?_;refine Sz0 ?_;refine Qa hP (Ct ha (by omega)) rfl rfl rfl ?_;refine Sz0 ?_;refine Qa hP (Ct hb (by omega)) rfl rfl rfl ?_;generalize zv n a=x at *
 generalize zv m b=y at *
 have lx:(ak x.natAbs).length<2^41:=hx;have ly:(ak y.natAbs).length<2^41:=hy;by_cases bX:x<0<;>by_cases cU:y<0
 ·refine Sz2 bX cU ?_;refine Qa hP (CI (Qn y.natAbs) (Qn x.natAbs) (by omega) (by omega)) rfl rfl rfl ?_;refine Sz0 ?_;exact Qc (congrArg (PV.int .i64) (by rw[Qu,Qu];unfold gA dq;split<;>split<;>(try split)<;>(try split)<;>omega)) rfl
 ·refine Sz2 bX cU ?_;exact Qc (congrArg (PV.int .i64) (by unfold dq;rw[if_pos (by omega)])) rfl
 ·refine Sz2 bX cU ?_;exact Qc (congrArg (PV.int .i64) (by unfold dq;rw[if_neg (by omega),if_pos (by omega)])) rfl
 ·refine Sz2 bX cU ?_;refine Qa hP (CI (Qn x.natAbs) (Qn y.natAbs) (by omega) (by omega)) rfl rfl rfl ?_;refine Sz0 ?_;exact Qc (congrArg (PV.int .i64) (by rw[Qu,Qu];unfold gA dq;split<;>split<;>(try split)<;>(try split)<;>omega)) rfl
theorem Vt{n m:Bool}{a b:List Nat}(ha:Qj a)(hb:Qj b)(bu:a.length<2^40)(dz:b.length<2^40):Qd Tryz.prog 140 [PV.zi n a,PV.zi m b] (· =PV.zz (zv n a+zv m b)):=by
 have gj:=bF ha;have iR:=bF hb;refine aB Qh Tryz.func140 aes fun C hP=>?_;refine Sz0 ?_;refine zk (fun gp=>?_) (fun gp=>?_)
 ·have gp:n=m:=by simpa using gp
  subst gp;have hr:=z' (val a) (val b);refine Sz0 ?_;refine Qa hP (N8 ha hb bu dz) rfl rfl rfl ?_;refine Sz0 ?_;refine Qa hP (u0 (n:=n) (Qn (val a+val b)) (show nl _<_ by omega)) rfl rfl rfl ?_;refine Sz0 ?_;refine cY ?_;refine Sz0 ?_;exact Qc (congrArg PV.zz (by rw[tN];unfold zv;split<;>simp<;>omega)) rfl
 have gp:n= !m:=by cases n<;>cases m<;>simp_all
 subst gp;refine Sz0 ?_;refine Qa hP (GR ha hb bu dz) rfl rfl rfl ?_;by_cases hc:val a<val b
 ·rw[if_pos hc];have hr:=fG (Nat.sub_le (val b) (val a));refine Sz0 ?_;refine Qa hP (GR hb ha dz bu) rfl rfl rfl ?_;rw[if_neg (by omega)];refine Sz0 ?_;refine Qa hP (u0 (n:=m) (Qn (val b-val a)) (show nl _<_ by omega)) rfl rfl rfl ?_;refine Sz0 ?_;refine cY ?_;refine Sz0 ?_;exact Qc (congrArg PV.zz (by rw[tN];unfold zv;cases m<;>simp<;>omega)) rfl
 ·rw[if_neg hc];have hr:=fG (Nat.sub_le (val a) (val b));refine Sz0 ?_;refine Qa hP (u0 (n:= !m) (Qn (val a-val b)) (show nl _<_ by omega)) rfl rfl rfl ?_;refine Sz0 ?_;refine cY ?_;refine Sz0 ?_;exact Qc (congrArg PV.zz (by rw[tN];unfold zv;cases m<;>simp<;>omega)) rfl
theorem NV{a:List Nat}{g:Nat}(ha:Qj a)(hx:a.length<2^36)(hy:nl g<2^36)(h0:g≠0):Qd Tryz.prog 65 [PV.nat a,PV.num g] (· = .aI [PV.num (val a/g),PV.num (val a%g),.int .i64 0]):=by
 have:=NC ha (Qn g) hx hy
 rwa[Qu,if_neg h0]at this
theorem agC(n:Bool)(a:List Nat)(D:Nat):zv n (ak (val a/Nat.gcd (val a) D))=zv n a/(Nat.gcd (zv n a).natAbs D:Int):=by
 rw[iU,tN];unfold zv;cases n
 ·simp
 ·have hd:((Nat.gcd (val a) D:Nat):Int)∣(val a:Int):=Int.natCast_dvd_natCast.2 (KcP _ _);simp only[if_true];rw[Int.neg_ediv_of_dvd hd,Int.natCast_ediv]
theorem NW{n:Bool}{a d:List Nat}(ha:Qj a)(hd:Qj d)(bu:a.length<2^36)(s5:d.length<2^36):Qd Tryz.prog 34 [PV.zi n a,PV.nat d] (· =PV.rat (rv n a d)):=by
 have mr:=bF ha;have JE:=bF hd;refine aB Qh Tryz.func34 ag6 fun C hP=>?_;refine Sz0 ?_;refine Qa hP (nK hd (by omega)) rfl rfl rfl ?_;refine Sz0 ?_;refine Qb (fun hz=>?_) (fun hz=>?_)
 ·have h0:val d=0:=lK.1 (pH (n:=val d) (by omega));refine Sz0 ?_;refine Qa hP (pI (n:=1) (by omega)) rfl rfl rfl ?_;refine Sz0 ?_;refine cY ?_;refine Sz0 ?_;exact(by unfold rv;rw[Oi (.inl h0),sn];exact oL L6 rfl)
 ·have h0:val d≠0:=fun h=>by rw[h,fk]at hz;exact hz rfl
  have lA:Nat.gcd (val a) (val d)≠0:=fun h=>h0 (Nat.gcd_eq_zero_iff.1 h).2;have hg:=fG (KcR (val a) (Ka6 h0));have hq:=MH (val a) (Nat.gcd (val a) (val d));refine Sz0 ?_;refine Qa hP (N9 ha hd bu s5) rfl rfl rfl ?_;refine Sz0 ?_;refine Qa hP (NV ha bu (by omega) lA) rfl rfl rfl ?_;refine Sz0 ?_;refine Qa hP (NV hd s5 (by omega) lA) rfl rfl rfl ?_;refine Sz0 ?_;refine Qa hP (Ct (n:=n) (Qn (val a/Nat.gcd (val a) (val d))) (show nl _<_ by omega)) rfl rfl rfl ?_;rw[agC];have hm:=zr (z:=zv n a) h0;refine Sz0 ?_;refine cY ?_;refine Sz0 ?_;exact Qc (by unfold rv;rw[PV.rat,hm.1,hm.2,iU]) rfl
theorem uX{n:Bool}{a d:List Nat}{k:Nat}(hp:Raw k n a d)(hk:k<2^36):Qd Tryz.prog 70 [PV.rr n a d] (· =PV.rat (rv n a d)):=by obtain⟨ha,hd,sa,sd,k1⟩:=hp;refine aB Qh Tryz.func70 ag7 fun C hP=>?_;refine Sz0 ?_;refine Qa hP (NW (n:=n) ha hd (by omega) (by omega)) rfl rfl rfl ?_;refine Sz0 ?_;refine cY ?_;refine Sz0 ?_;exact Qc rfl rfl
theorem G9{z:Int}{D:Nat}(hz:nl z.natAbs<2^36)(hD:nl D<2^36):Qd Tryz.prog 34 [PV.zz z,PV.num D] (· =PV.rat (mkRat z D)):=by
 have:=NW (n:=decide (z<0)) (Qn z.natAbs) (Qn D) hz hD
 rwa[rv,lS,Qu]at this
theorem r9{x:Int}(h1: -9223372036854775808<=x)(h2:x<=9223372036854775807):Qd Tryz.prog 14 [.int .i64 x] (· =PV.rat (x:Rat)):=by have qq:nl x.natAbs<=4:=sg (by omega);refine aB Qh Tryz.func14 ag8 fun C hP=>?_;refine Sz0 ?_;refine Qa hP (WJ h1 h2) rfl rfl rfl ?_;refine Sz0 ?_;refine Qa hP (pI (n:=1) (by omega)) rfl rfl rfl ?_;refine Sz0 ?_;refine Qa hP (G9 (z:=x) (D:=1) (by omega) (by rw[oQ];omega)) rfl rfl rfl ?_;refine Sz0 ?_;refine cY ?_;refine Sz0 ?_;exact Qc (congrArg PV.rat (Rat.mkRat_one x)) rfl
theorem Cm(d:List Nat):Qd Tryz.prog 141 [PV.nat d] (· =PV.zi false d):=by refine aB Qh Tryz.func141 aet fun C hP=>?_;refine Sz0 ?_;refine cY ?_;refine Sz0 ?_;exact Qc rfl rfl
theorem WK{x:Int}(hx:nl x.natAbs<2^42):Qd Tryz.prog 68 [PV.zz x] (· = .int .i64 (eS x)):=by
 have:=UD (n:=decide (x<0)) (Qn x.natAbs) hx
 rwa[lS]at this
theorem Cu{n:Bool}{a d:List Nat}{k:Nat}(hp:Raw k n a d)(hk:k<2^36):Qd Tryz.prog 32 [PV.rr n a d] (· = .int .i64 (fX (rv n a d))):=by have hs:=hp.rs;unfold FW.rs at hs;refine aB Qh Tryz.func32 ag9 fun C hP=>?_;refine Sz0 ?_;refine Qa hP (uX hp hk) rfl rfl rfl ?_;refine Sz0 ?_;refine Qa hP (WK (x:=(rv n a d).num) (by omega)) rfl rfl rfl ?_;refine Sz0 ?_;exact Qc rfl rfl
theorem C5{x:Int}{d:Nat}(hx:nl x.natAbs<2^40)(hy:nl d<2^40):Qd Tryz.prog 71 [PV.zz x,PV.zi false (ak d)] (· =PV.zz (x*(d:Int))):=by
 have:=Oj (n:=decide (x<0)) (m:=false) (Qn x.natAbs) (Qn d) hx hy
 rwa[lS,tG,Qu]at this
theorem Zx{x y:Int}(hx:nl x.natAbs<2^40)(hy:nl y.natAbs<2^40):Qd Tryz.prog 140 [PV.zz x,PV.zz y] (· =PV.zz (x+y)):=by
 have:=Vt (n:=decide (x<0)) (m:=decide (y<0)) (Qn x.natAbs) (Qn y.natAbs) hx hy
 rwa[lS,lS]at this
theorem Zy{x y:Int}(hx:nl x.natAbs<2^41)(hy:nl y.natAbs<2^41):Qd Tryz.prog 162 [PV.zz x,PV.zz y] (· = .int .i64 (dq x y)):=by
 have:=Vs (n:=decide (x<0)) (m:=decide (y<0)) (Qn x.natAbs) (Qn y.natAbs) hx hy
 rwa[lS,lS]at this
theorem Vu{n m:Bool}{a d b c:List Nat}{k:Nat}(hp:Raw k n a d)(hq:Raw k m b c)(hk:k<2^34):Qd Tryz.prog 33 [PV.rr n a d,PV.rr m b c] (· =PV.rat (rv n a d*rv m b c)):=by obtain⟨ha,hd,sa,sd,k1⟩:=hp;obtain⟨hb,hc,sb,sc,k2⟩:=hq;have h1:=kk (zv n a) (zv m b);have h2:=kq (val d) (val c);rw[iU,iU]at h1;have e1:=bF ha;have e2:=bF hd;have e3:=bF hb;have e4:=bF hc;refine aB Qh Tryz.func33 ahb fun C hP=>?_;refine Sz0 ?_;refine Qa hP (Oj (n:=n) (m:=m) ha hb (by omega) (by omega)) rfl rfl rfl ?_;refine Sz0 ?_;refine Qa hP (GS hd hc (by omega) (by omega)) rfl rfl rfl ?_;refine Sz0 ?_;refine Qa hP (G9 (z:=zv n a*zv m b) (D:=val d*val c) (by omega) (by omega)) rfl rfl rfl ?_;refine Sz0 ?_;refine cY ?_;refine Sz0 ?_;exact Qc (congrArg PV.rat (Rat.mkRat_mul_mkRat _ _ _ _).symm) rfl
theorem Vv{n m:Bool}{a d b c:List Nat}{k:Nat}(hp:Raw k n a d)(hq:Raw k m b c)(hk:k<2^34):Qd Tryz.prog 122 [PV.rr n a d,PV.rr m b c] (· = .int .i64 (nZ (rv n a d) (rv m b c))):=by
 have hx:=hp.rs;have hy:=hq.rs;unfold FW.rs at hx hy;refine aB Qh Tryz.func122 aeu fun C hP=>?_;refine Sz0 ?_;refine Qa hP (uX hp (by omega)) rfl rfl rfl ?_;refine Sz0 ?_;refine Qa hP (uX hq (by omega)) rfl rfl rfl ?_;generalize rv n a d=p at *
 generalize rv m b c=q at *
 have h1:=kk p.num (q.den:Int);have h2:=kk q.num (p.den:Int);rw[Ka7]at h1 h2;refine Sz0 ?_;refine Qa hP (Cm (ak q.den)) rfl rfl rfl ?_;refine Sz0 ?_;refine Qa hP (C5 (x:=p.num) (d:=q.den) (by omega) (by omega)) rfl rfl rfl ?_;refine Sz0 ?_;refine Qa hP (Cm (ak p.den)) rfl rfl rfl ?_;refine Sz0 ?_;refine Qa hP (C5 (x:=q.num) (d:=p.den) (by omega) (by omega)) rfl rfl rfl ?_;refine Sz0 ?_;refine Qa hP (Zy (x:=p.num*(q.den:Int)) (y:=q.num*(p.den:Int)) (by omega) (by omega)) rfl rfl rfl ?_;refine Sz0 ?_;exact Qc (congrArg (PV.int .i64) (by rw[<-L7 p.den_nz q.den_nz,KcO,KcO])) rfl
theorem Ok{n m:Bool}{a d b c:List Nat}{k:Nat}(hp:Raw k n a d)(hq:Raw k m b c)(hk:k<2^34):Qd Tryz.prog 87 [PV.rr n a d,PV.rr m b c] (· =PV.rat (rv n a d+rv m b c)):=by
 have hx:=hp.rs;have hy:=hq.rs;unfold FW.rs at hx hy;refine aB Qh Tryz.func87 aha fun C hP=>?_;refine Sz0 ?_;refine Qa hP (uX hp (by omega)) rfl rfl rfl ?_;refine Sz0 ?_;refine Qa hP (uX hq (by omega)) rfl rfl rfl ?_;generalize rv n a d=p at *
 generalize rv m b c=q at *
 have h1:=kk p.num (q.den:Int);have h2:=kk q.num (p.den:Int);have h3:=y3 (p.num*(q.den:Int)) (q.num*(p.den:Int));have h4:=kq p.den q.den;rw[Ka7]at h1 h2;refine Sz0 ?_;refine Qa hP (Cm (ak q.den)) rfl rfl rfl ?_;refine Sz0 ?_;refine Qa hP (C5 (x:=p.num) (d:=q.den) (by omega) (by omega)) rfl rfl rfl ?_;refine Sz0 ?_;refine Qa hP (Cm (ak p.den)) rfl rfl rfl ?_;refine Sz0 ?_;refine Qa hP (C5 (x:=q.num) (d:=p.den) (by omega) (by omega)) rfl rfl rfl ?_;refine Sz0 ?_;refine Qa hP (Zx (x:=p.num*(q.den:Int)) (y:=q.num*(p.den:Int)) (by omega) (by omega)) rfl rfl rfl ?_;refine Sz0 ?_;refine Qa hP (CP (x:=p.den) (y:=q.den) (by omega) (by omega)) rfl rfl rfl ?_;refine Sz0 ?_;refine Qa hP (G9 (z:=p.num*(q.den:Int)+q.num*(p.den:Int)) (D:=p.den*q.den) (by omega) (by omega)) rfl rfl rfl ?_;refine Sz0 ?_;refine cY ?_;refine Sz0 ?_;exact Qc (congrArg PV.rat (by rw[<-Rat.mkRat_add_mkRat _ _ p.den_nz q.den_nz,KcO,KcO])) rfl
theorem Gy{n:Bool}{a d:List Nat}{k:Nat}(hp:Raw k n a d)(hk:k<2^36):Qd Tryz.prog 55 [PV.rr n a d] (· = .bool (ku n a d)):=by
 obtain⟨ha,hd,sa,sd,k1⟩:=hp;have sX:(ak (Nat.gcd (val a) (val d))).length<2^43:=by
  by_cases h0:val d=0
  ·rw[h0,KcI];have h4:=bF ha;unfold nl at h4;omega
  ·have h3:=fG (KcR (val a) (Ka6 h0));have h4:=bF hd;unfold nl at h3 h4;omega
 refine tE Qh Tryz.func55 rfl ag5 (by simp[IG]) fun C hP=>?_;simp only[IG];refine dO ?_;refine Sz0 ?_;refine Qa hP (Qz6 ha (by omega)) rfl rfl rfl ?_;unfold ku;refine Sz0 ?_;cases hio:oU n a
 ·refine Sz0 ?_;exact Qc (by simp) rfl
 rw[KcH];refine Sz0 ?_;refine Qa hP (NL hd (by omega)) rfl rfl rfl ?_;refine Sz0 ?_;refine wV (fun hv=>?_) (fun hv=>?_)
 ·refine Sz0 ?_;refine Qa hP (N9 ha hd (by omega) (by omega)) rfl rfl rfl ?_;refine Sz0 ?_;refine Qa hP (pI (n:=1) (by omega)) rfl rfl rfl ?_;refine Sz0 ?_;refine Qa hP (UC sX (by rw[sn];decide)) rfl rfl rfl ?_;rw[sn,decide_eq_decide.2 (N7 (Nat.gcd (val a) (val d)))];refine Sz0 ?_;refine Q5 (fun hg=>?_) (fun hg=>?_)
  ·refine Sz0 ?_;exact Qc (congrArg PV.bool (by cases d<;>simp_all)) rfl
  ·refine Sz0 ?_;exact Qc (congrArg PV.bool (by simp[hg])) rfl
 ·refine Sz0 ?_;exact Qc (congrArg PV.bool (by simp_all)) rfl
def ak1:ay:=⟨47,[.t 6],Zr (YH 6)<|Zr (iO 11<|
 Zo (.mx 15 (.t 12) (.t 14))<|
 Zo (.mk 16 1 8 3 (Zz 0) (.t 15) (.t 15))<|
 Zm 7 16 .nil)<| .seq (Zr (eZ 17 7)<| .block 0<| .loop<|Zr (Ys 20 19 18)<| .seq (.cond (.t 20) .skip (.exit 0))<| .seq (.block 1<|Zr (dh 21 19 8)<|Zr (Zc 9 0<|
 Yi 10 0)<| .seq (Zr (YI 22 8 0)<| .cond (.t 25) (.rg (eY 26 0 8<|
 Yc 9 29)) .skip)<| .seq (Zr (YI 30 8 1)<| .cond (.t 33) (.rg (eY 34 1 8<|
 Yc 10 37)) .skip)<| .rg (Yh 38 7 8<|
 cW 40 2 9 10<|
 Zo (.call (some 43) false (.t 40) [.t 41,.t 42])<|
 Zi 44 1 38 39<|
 Zs 1 44 43 .nil))<| .rg (Yz 45 19 19))<|Zr (dh 46 7 6) .ret⟩
theorem adV:Qe Tryz.prog Tryz.f159=some ak1:=by kernel_rfl
def akN:ay:=⟨24,[.t 2],Zr (YH 2)<|Zr (Yo 4 0<|
 Zm 3 5 .nil)<| .seq (.block 0<| .loop<| .seq (Zr (YA 6 3 1<|
 Zg 8 true (.ld 13 1 false (.t 12))<|
 Zg 8 true (.bin 14 .eql false (.t 13) (.c (Zz 0)))<|
 Yk 15 8 14 .nil)<| .cond (.t 15) .skip (.exit 0))<| .block 1<| .rg (rq 16 3))<| .seq (Zr (Zm 18 3<|
 ir 19 18 0)<| .cond (.t 19) (Zr (YH 2) .ret) .skip)<|Zr (cW 20 0 3 3<|
 Zo (.sl 23 1 (.t 20) none (some (.t 21)) (some (.t 22)))<|
 Yc 2 23) .ret⟩
theorem adW:Qe Tryz.prog Tryz.f142=some akN:=by kernel_rfl
def akQ:ay:=⟨35,[.t 2],Zr (Yd 2)<| .seq (Zr (Yo 5 0<|
 Zk 7 .gtr 6 64<|
 Yv 8 7 0<|
 Zg 8 false (.len 10 (.t 9))<|
 ug 8 0<|
 Zg 8 false (.mv 12 (.t 11))<|
 uf 12 0 0<|
 nf 12<|
 Zg 12 true (.bin 16 .sub false (.t 15) (.c (Zz 1)))<|
 Zg 12 true (.idx 17 1 (.t 13) (.t 16))<|
 ru 12<|
 Zg 12 true (.bin 19 .eql false (.t 18) (.c (Zz 0)))<|
 Zg 8 false (.pick 20 (.t 12) (.t 19) (.c (.bool false)))<|
 dm 21 8 20)<| .cond (.t 21) (Zr (Yd 2) .ret) .skip)<| .seq (Zr (eZ 22 0)<| .block 0<| .loop<|Zr (Ys 25 24 23)<| .seq (.cond (.t 25) .skip (.exit 0))<| .seq (.block 1<|Zr (Ym 26 22 24<|
 Yc 4 27)<|Zr (jd 28 4<|
 rm 30 29 4 1048576<|
 dm 33 30 32)<| .cond (.t 33) (Zr (Yd 2) .ret) .skip)<| .rg (YC 34 24 24))<|Zr (YG 2) .ret⟩
theorem adX:Qe Tryz.prog Tryz.f147=some akQ:=by kernel_rfl
def c95:ay:=⟨17,[.t 2],Zr (Yi 2 0)<|Zr (Yi 3 0)<| .seq (Zr (eZ 6 0)<| .block 0<| .loop<|Zr (Ys 9 8 7)<| .seq (.cond (.t 9) .skip (.exit 0))<| .seq (.block 1<|Zr (Ym 10 6 8<|
 Zm 5 11 .nil)<| .rg (Yh 12 3 5<|
 cT 14 12 13<|
 Zm 3 14 .nil))<| .rg (YC 15 8 8))<|Zr (dh 16 3 2) .ret⟩
theorem agD:Qe Tryz.prog Tryz.f95=some c95:=by kernel_rfl
def alq:ay:=⟨17,[.t 4],Zr (Yi 4 0)<| .seq (Zr (jd 5 1<|
 nh 7 6 1 0<|
 o7 7<|
 Zg 7 false (.bin 11 .geq false (.t 8) (.t 10))<|
 dm 12 7 11)<| .cond (.t 12) (Zr (Yi 4 0) .ret) .skip)<|Zr (eY 13 0 1<|
 Zm 4 16 .nil) .ret⟩
theorem adY:Qe Tryz.prog Tryz.f184=some alq:=by kernel_rfl
def c89:ay:=⟨7,[.t 2],Zr (Yi 2 0)<|Zr (YK 3 0 142<|
 Zn 5 4<|
 Zk 6 .sub 5 1<|
 Zm 2 6 .nil) .ret⟩
theorem agE:Qe Tryz.prog Tryz.f89=some c89:=by kernel_rfl
def akr:ay:=⟨9,[.t 4],Zr (YH 4)<|Zr (Yh 5 0 1<|
 Zq 7 false 159 [.t 5,.t 6,.c (.fn 160 [] [])]<|
 Yn 8 142 7<|
 Zm 4 8 .nil) .ret⟩
theorem adZ:Qe Tryz.prog Tryz.f116=some akr:=by kernel_rfl
def ak2:ay:=⟨8,[.t 4],Zr (Yi 4 0)<|Zr (Yh 5 0 1<|
 Zb 7 .add 5 6<|
 Zm 4 7 .nil) .ret⟩
theorem ad0:Qe Tryz.prog Tryz.f160=some ak2:=by kernel_rfl
def akZ:ay:=⟨46,[.t 6],Zr (Yi 6 0)<| .seq (Zr (Zm 12 2<|
 ir 13 12 1)<| .cond (.t 13) (Zr (YK 14 0 95<|
 YK 16 1 95<|
 Zm 7 15<|
 Zm 8 17 .nil)<|Zr (Yh 18 7 8<|
 je 20 18 19)<| .cond (.t 20) (.seq (Zr (Yh 21 7 8<|
 Ys 23 21 22)<| .cond (.t 23) (Zr (jS 6) .ret) .skip)<|Zr (Yi 6 1) .ret) .skip) .skip)<| .seq (Zr (iO 24<|
 Zo (.mx 28 (.t 25) (.t 27))<|
 Zk 29 .sub 28 1<|
 Yc 9 29)<| .block 0<| .loop<| .seq (Zr (Zm 30 9<|
 Zk 31 .geq 30 0 .nil)<| .cond (.t 31) .skip (.exit 0))<| .seq (.block 1<|Zr (YX 34 0 9 184<|
 YX 37 1 9 184<|
 Zm 10 36<|
 Yc 11 39)<|Zr (Yh 40 10 11<|
 je 42 40 41)<| .cond (.t 42) (.seq (Zr (Yh 43 10 11<|
 Ys 45 43 44)<| .cond (.t 45) (Zr (jS 6) .ret) .skip)<|Zr (Yi 6 1) .ret) .skip)<| .rg (rq 32 9))<|Zr (Yi 6 0) .ret⟩
theorem ad1:Qe Tryz.prog Tryz.f157=some akZ:=by kernel_rfl
theorem ZA{n m:Bool}{a d b c:List Nat}{k:Nat}(hp:Raw k n a d)(hq:Raw k m b c)(hk:k<2^36):Qd Tryz.prog 91 [PV.rr n a d,PV.rr m b c] (· =PV.rat (rv n a d*rv m b c)):=by
 refine tE Qh Tryz.func91 rfl agw (by simp[IH]) fun C hP=>?_;simp only[IH];refine dO ?_;refine Sz0 ?_;refine fT hP (r8 hp.la hp.ld hp.k1 hp.sa hp.sd (by omega)) rfl rfl rfl ?_;rintro _ ⟨n',a',d',rfl,g1,g2,g3,g4,g5,g6⟩;refine Sz0 ?_;refine fT hP (r8 hq.la hq.ld hq.k1 hq.sa hq.sd (by omega)) rfl rfl rfl ?_;rintro _ ⟨m',b',c',rfl,e1,e2,e3,e4,e5,e6⟩;refine Sz0 ?_;have J6:nl (zv n' a').natAbs<=k:=by rw[iU];exact KaO (bF g1) g3
 have J7:nl (zv m' b').natAbs<=k:=by rw[iU];exact KaO (bF e1) e3
 have JX:nl (val d')<=k:=KaO (bF g2) g4;have wy:nl (val c')<=k:=KaO (bF e2) e4;have h3:=kk (zv n' a') (zv m' b');have h6:=kq (val d') (val c');refine Qa hP (rZ (n:=n') (m:=m') g1 e1 (by omega) (by omega)) rfl rfl rfl ?_;refine Sz0 ?_;refine Qa hP (Du g2 e2 (by omega) (by omega)) rfl rfl rfl ?_;refine Sz0 ?_;refine Qa hP (CM (z:=zv n' a'*zv m' b') (Qn _) (by omega) (by show nl _<_;omega)) rfl rfl rfl ?_;refine Sz0 ?_;refine cY ?_;refine Sz0 ?_;refine Qc ?_ rfl;rw[Qu,<-g6,<-e6];unfold rv;rw[Rat.mkRat_mul_mkRat]
theorem CR{n:Bool}{a d:List Nat}{k:Nat}(hp:Raw k n a d)(hk:k<2^36):Qd Tryz.prog 49 [PV.rr n a d] (· = .int .i64 (fX (rv n a d))):=by refine aB Qh Tryz.func49 agu fun C hP=>?_;refine Sz0 ?_;refine fT hP (r8 hp.la hp.ld hp.k1 hp.sa hp.sd (by omega)) rfl rfl rfl ?_;rintro _ ⟨n',a',d',rfl,g1,g2,g3,g4,g5,g6⟩;refine Sz0 ?_;refine Qa hP (CG g1 (by omega)) rfl rfl rfl ?_;refine Sz0 ?_;exact Qc (by rw[<-g6];unfold rv;rw[Xw g5]) rfl
theorem ZB{n m:Bool}{a d b c:List Nat}{k:Nat}(hp:Raw k n a d)(hq:Raw k m b c)(hk:k<2^36):Qd Tryz.prog 114 [PV.rr n a d,PV.rr m b c] (· = .int .i64 (nZ (rv n a d) (rv m b c))):=by
 refine aB Qh Tryz.func114 adq fun C hP=>?_;refine Sz0 ?_;refine Qa hP (CR hp hk) rfl rfl rfl ?_;refine Sz0 ?_;refine Qa hP (CR hq hk) rfl rfl rfl ?_;refine Sz0 ?_;refine Qb (fun h1=>?_) (fun h1=>?_)
 ·refine Sz0 ?_;refine Qb (fun h2=>?_) (fun h2=>?_)
  ·refine Sz0 ?_;exact Qc (by rw[KS h2]) rfl
  ·refine Sz0 ?_;exact Qc (by rw[aaO (by omega)]) rfl
 refine Sz0 ?_;refine fT hP (r8 hp.la hp.ld hp.k1 hp.sa hp.sd (by omega)) rfl rfl rfl ?_;rintro _ ⟨n',a',d',rfl,g1,g2,g3,g4,g5,g6⟩;refine Sz0 ?_;refine fT hP (r8 hq.la hq.ld hq.k1 hq.sa hq.sd (by omega)) rfl rfl rfl ?_;rintro _ ⟨m',b',c',rfl,e1,e2,e3,e4,e5,e6⟩;have J6:nl (zv n' a').natAbs<=k:=by rw[iU];exact KaO (bF g1) g3
 have J7:nl (zv m' b').natAbs<=k:=by rw[iU];exact KaO (bF e1) e3
 have JX:nl (val d')<=k:=KaO (bF g2) g4;have wy:nl (val c')<=k:=KaO (bF e2) e4;have h3:=kk (zv n' a') (val c');have h4:=kk (zv m' b') (val d');rw[Ka7]at h3 h4;refine Sz0 ?_;refine Qa hP (tD _) rfl rfl rfl ?_;refine Sz0 ?_;refine Qa hP (rZ (n:=n') (m:=false) g1 e2 (by omega) (by omega)) rfl rfl rfl ?_;refine Sz0 ?_;refine Qa hP (tD _) rfl rfl rfl ?_;refine Sz0 ?_;refine Qa hP (rZ (n:=m') (m:=false) e1 g2 (by omega) (by omega)) rfl rfl rfl ?_;rw[tG,tG];refine Sz0 ?_;refine Qa hP (abF (x:=zv n' a'*(val c':Int)) (y:=zv m' b'*(val d':Int)) (by omega) (by omega)) rfl rfl rfl ?_;refine Sz0 ?_;exact Qc (by rw[<-g6,<-e6];unfold rv;rw[L7 g5 e5]) rfl
theorem ZC{x:Int}(h1: -9223372036854775808<=x)(h2:x<=9223372036854775807):Qd Tryz.prog 143 [.int .i64 x] (· =PV.zz x):=by
 refine tE Qh Tryz.func143 rfl adS (by simp[ID]) fun C hP=>?_;simp only[ID];refine dO ?_;refine Sz0 ?_;refine Qb (fun hc=>?_) (fun hc=>?_)
 ·obtain⟨y,hy⟩:∃y:Nat,x= -((y:Int)+1):=⟨(-(x+1)).toNat,by omega⟩
  have e1:IntKind.i64.wrap (x+1)= -(y:Int):=by rw[va (by omega) (by omega)];omega
  have e2:IntKind.i64.wrap (0- -(y:Int))=(y:Int):=by rw[va (by omega) (by omega)];omega
  have e3:IntKind.u64.wrap (y:Int)=(y:Int):=se (by omega) (by omega);have e4:IntKind.u64.wrap ((y+1:Nat):Int)=((y+1:Nat):Int):=se (by omega) (by omega);refine Sz4 e1 e2 e3 e4 ?_;refine Qa hP (DM (by omega)) rfl rfl rfl ?_;refine Sz0 ?_;refine Qa hP (wS true (y+1)) rfl rfl rfl ?_;refine Sz0 ?_;refine cY ?_;refine Sz0 ?_;exact Qc (congrArg PV.zz (by simp;omega)) rfl
 ·obtain⟨y,rfl⟩:∃y:Nat,x=y:=⟨x.toNat,by omega⟩
  refine Sz0 ?_;refine Qa hP (DM (by omega)) rfl rfl rfl ?_;refine Sz0 ?_;refine Qa hP (wS false y) rfl rfl rfl ?_;refine Sz0 ?_;refine cY ?_;refine Sz0 ?_;exact Qc (congrArg PV.zz (by simp)) rfl
theorem C6{x:Int}(h1: -9223372036854775808<=x)(h2:x<=9223372036854775807):Qd Tryz.prog 90 [.int .i64 x] (· =PV.rat (x:Rat)):=by refine aB Qh Tryz.func90 agt fun C hP=>?_;refine Sz0 ?_;refine Qa hP (ZC h1 h2) rfl rfl rfl ?_;refine Sz0 ?_;refine Qa hP C4 rfl rfl rfl ?_;refine Sz0 ?_;refine cY ?_;refine Sz0 ?_;exact Qc (by rw[PV.rat,Rat.num_intCast,Rat.den_intCast,PV.num,PV.num,sn];rfl) rfl
theorem UE{n:Bool}{a:List Nat}(ha:Qj a)(bu:a.length<2^42):Qd Tryz.prog 172 [PV.zi n a] (· = .bool (oU n a)):=by
 refine aB Qh Tryz.func172 adQ fun C hP=>?_;refine Sz0 ?_;refine Q5 (fun h0=>?_) (fun h0=>?_)
 ·have:a=[]:=Kat.1 (by omega);subst this;refine Sz0 ?_;cases n
  ·refine Sz0 ?_;refine Qc (congrArg PV.bool ?_) rfl;simp[oU]
  ·refine Sz0 ?_;refine Qc (congrArg PV.bool ?_) rfl;simp[oU]
 ·obtain⟨k,hk⟩:∃k,a.length=k+1:=⟨a.length-1,by omega⟩
  have aQ:a≠[]:=fun h=>by rw[h]at hk;simp at hk
  have hl:=NY hk;have e:((k+1:Nat):Int)-1=k:=by omega
  generalize hx:a[k]'(by omega)=x at *
  refine Sz3 hk e hx ?_;refine Q5 (fun h=>?_) (fun h=>absurd (by omega) h);refine Sz3 hk e hx ?_;refine Qc (congrArg PV.bool ?_) rfl;unfold oU;rw[if_neg aQ,hl];exact decide_eq_decide.2 ⟨fun h h'=>h (by injection h' with h';rw[h'];rfl),fun h h'=>h (by rw[show x=0 by omega])⟩
theorem Vw{n:Bool}{a d:List Nat}{k:Nat}(hp:Raw k n a d)(hk:k<2^36):Qd Tryz.prog 146 [PV.rr n a d] (· = .bool (ku n a d)):=by
 obtain⟨ha,hd,sa,sd,k1⟩:=hp;refine tE Qh Tryz.func146 rfl adp (by simp[IE]) fun C hP=>?_;simp only[IE];refine dO ?_;refine Sz0 ?_;refine Qa hP (UE ha (by omega)) rfl rfl rfl ?_;unfold ku;refine Sz0 ?_;cases hio:oU n a
 ·refine Sz1 @Bool.not_false ?_;exact Qc (by simp) rfl
 rw[KcH];refine Sz1 @Bool.not_true ?_;refine Qo (fun h0=>?_) (fun h0=>?_)
 ·have:d=[]:=Kat.1 (by omega);subst this;refine Sz0 ?_;exact Qc (by simp) rfl
 obtain⟨k',cI⟩:∃k,d.length=k+1:=⟨d.length-1,by omega⟩
 have aQ:d≠[]:=fun h=>by rw[h]at cI;simp at cI
 have hl:=NY cI;have e:((k'+1:Nat):Int)-1=k':=by omega
 generalize hx:d[k']'(by omega)=x at *
 refine Sz3 cI e hx ?_;refine Qb (fun h1=>?_) (fun h1=>?_)
 ·refine Sz0 ?_;refine Qc (congrArg PV.bool ?_) rfl;rw[hl,show x=0 by omega];simp
 have bX:x≠0:=by omega
 refine Sz0 ?_;refine Qa hP (Dv (by omega)) rfl rfl rfl ?_;refine Sz0 ?_;refine Qo (fun h2=>?_) (fun h2=>?_)
 ·subst h2;refine Sz0 ?_;refine Qc (congrArg PV.bool ?_) rfl;simp[val]
 ·refine Sz0 ?_;refine Qa hP (Lm ha hd (by omega) (by omega)) rfl rfl rfl ?_;have hD:0<val d:=by apply Ka6;intro h0;have Sf:=zO hd (by rw[hl];simpa using bX);rw[h0,fk]at Sf;exact aQ Sf.symm
  have sX:(ak (Nat.gcd (val a) (val d))).length<2^43:=by have h3:=fG (KcR (val a) hD);have h4:=bF hd;unfold nl at h3 h4;omega
  refine Sz0 ?_;refine Qa hP (Ih sX) rfl rfl rfl ?_;refine Sz0 ?_;refine Qc (congrArg PV.bool ?_) rfl;rw[hl];simp[aQ,bX]
theorem Ol{a:List Int}(hl:a.length<2^42):Qd Tryz.prog 142 [PV.mono a] (· =PV.mono (qW a)):=by
 refine aB Qh Tryz.func142 adW fun C hP=>?_;refine Sz0 ?_;refine Ql ep [(3,3),(6,17)] [] (fun n J hp=>n<=a.length/\n5 a n=qW a/\J 3= .int .i64 n/\hp=ax) a.length ?_ ?_
 ·refine⟨Kae _,rfl,?_⟩;exact Tz0
 rintro n J _ ⟨hn,hc,h3,rfl⟩;refine Sz1 h3 ?_;refine Q5 (fun hg=>?_) (fun hg=>?_)
 ·obtain _|n:=n
  ·omega
  have e:((n+1:Nat):Int)-1=n:=by omega
  simp only[n5]at hc;simp+decide (disch:=try exact D2 h3 e) only[go_sem,h3,e];refine Qb (fun hz=>?_) (fun hz=>?_)
  ·rw[if_pos (by simp[hz,show n<a.length by omega])]at hc;refine Sz2 h3 e ?_;refine Qg n (by omega) ⟨by omega,hc,?_⟩;exact Tz0
  ·rw[if_neg (by simpa[show n<a.length by omega]using hz)]at hc;refine Sz2 h3 e ?_;refine Qb (fun h=>by omega) (fun h=>?_);refine Sz2 h3 e ?_;exact Qc (congrArg PV.mono hc) rfl
 ·obtain rfl:n=0:=by omega
  refine Sz1 h3 ?_;exact oL (Xx (by rw[<-hc];rfl)) rfl
theorem UF{a:List Int}(hl:a.length<2^42):Qd Tryz.prog 147 [PV.mono a] (· = .bool (iV a)):=by
 refine aB Qh Tryz.func147 adX fun C hP=>?_;refine Sz0 ?_;have bad:(64<a.length∨a.getLast? =some 0∨∃x∈a,x<0∨1048576<x)->iV a=false:=fun h=>by
  cases hb:iV a with
  |false=>rfl
  |true=>
   have:=MB.uQ hb;simp only[iV,Kav,decide_eq_true_eq]at hb;rcases h with h|h|⟨x,hx,h⟩
   ·omega
   ·exact absurd h hb.2.1
   ·have h5:=this.lo x hx;have h6:=this.hi x hx;omega
 refine Qo (fun h1=>?_) (fun h1=>?_)
 ·refine Sz0 ?_;exact Qc (by rw[bad (.inl (by omega))]) rfl
 refine Sz0 ?_;have fin:a.length<=64->a.getLast? ≠some 0->(∀x∈a,0<=x/\x<=1048576)->iV a=true:=fun h1 h2 h3=>by simp only[iV,Kav,decide_eq_true_eq,Kap];exact⟨h1,h2,h3⟩
 refine Q5 (fun h2=>?_) (fun h2=>?_)
 ·obtain⟨k,hk⟩:∃k,a.length=k+1:=⟨a.length-1,by omega⟩
  have jn:=HO hk;have e:((k+1:Nat):Int)-1=k:=by omega
  generalize hy:a[k]'(by omega)=y at *
  refine Sz3 hk e hy ?_;refine Qb (fun h3=>?_) (fun h3=>?_)
  ·refine Sz0 ?_;exact Qc (by rw[bad (.inr (.inl (by rw[jn,h3])))]) rfl
  have jn:a.getLast? ≠some 0:=by rw[jn];simpa using h3
  rw[<-hk]at *
  refine Sz0 ?_;refine Ql ep [(2,2),(4,4),(24,34)] [] (fun k J hp=>∃i,k=a.length-i/\i<=a.length/\(∀x∈a.take i,0<=x/\x<=1048576)/\J 24= .int .i64 i/\hp=ax) a.length ?_ ?_
  ·refine⟨0,rfl,by omega,by simp,?_⟩;refine Sz0 ?_;rfl
  rintro _ J _ ⟨i,rfl,hi,aP,gT,rfl⟩;refine Sz1 gT ?_;refine Qb (fun hg=>?_) (fun hg=>?_)
  ·have az:i<a.length:=by omega
   have gD:=Kah az;have bO:∀x∈a.take (i+1),x∈a.take i∨x=a[i]:=fun x hx=>by
    rw[Kao az]at hx;rcases KaG.1 hx with h|h
    ·exact .inl h
    ·exact .inr (Kaw.1 h)
   generalize hx:a[i]=x at *
   refine Sz2 gT hx ?_;refine Qo (fun h5=>?_) (fun h5=>?_)
   ·refine Sz0 ?_;exact Qc (by rw[bad (.inr (.inr ⟨x,gD,.inl h5⟩))]) rfl
   ·refine Sz0 ?_;refine Qb (fun h6=>?_) (fun h6=>?_)
    ·refine Sz0 ?_;exact Qc (by rw[bad (.inr (.inr ⟨x,gD,.inr h6⟩))]) rfl
    ·refine Sz1 gT ?_;refine Qg (a.length-(i+1)) (by omega) ⟨i+1,rfl,by omega,fun y hy=>?_,?_⟩
     ·rcases bO y hy with h|rfl
      ·exact aP y h
      ·omega
     ·exact Tz0
  ·rw[Kai (by omega)]at aP;refine Sz0 ?_;exact Qc (by rw[fin (by omega) jn aP]) rfl
 ·have JF:a=[]:=Kat.1 (by omega);have jn:a.getLast? ≠some 0:=by rw[JF];simp
  refine Sz0 ?_;refine Ql ep [(2,2),(4,4),(24,34)] [] (fun k J hp=>∃i,k=a.length-i/\i<=a.length/\(∀x∈a.take i,0<=x/\x<=1048576)/\J 24= .int .i64 i/\hp=ax) a.length ?_ ?_
  ·refine⟨0,rfl,by omega,by simp,?_⟩;refine Sz0 ?_;rfl
  rintro _ J _ ⟨i,rfl,hi,aP,gT,rfl⟩;refine Sz1 gT ?_;refine Qb (fun hg=>?_) (fun hg=>?_)
  ·have az:i<a.length:=by omega
   have gD:=Kah az;have bO:∀x∈a.take (i+1),x∈a.take i∨x=a[i]:=fun x hx=>by
    rw[Kao az]at hx;rcases KaG.1 hx with h|h
    ·exact .inl h
    ·exact .inr (Kaw.1 h)
   generalize hx:a[i]=x at *
   refine Sz2 gT hx ?_;refine Qo (fun h5=>?_) (fun h5=>?_)
   ·refine Sz0 ?_;exact Qc (by rw[bad (.inr (.inr ⟨x,gD,.inl h5⟩))]) rfl
   ·refine Sz0 ?_;refine Qb (fun h6=>?_) (fun h6=>?_)
    ·refine Sz0 ?_;exact Qc (by rw[bad (.inr (.inr ⟨x,gD,.inr h6⟩))]) rfl
    ·refine Sz1 gT ?_;refine Qg (a.length-(i+1)) (by omega) ⟨i+1,rfl,by omega,fun y hy=>?_,?_⟩
     ·rcases bO y hy with h|rfl
      ·exact aP y h
      ·omega
     ·exact Tz0
  ·rw[Kai (by omega)]at aP;refine Sz0 ?_;exact Qc (by rw[fin (by omega) jn aP]) rfl
theorem GB{a:List Int}(hl:a.length<=1048576)(hb:∀x∈a,0<=x/\x<=1099511627776):Qd Tryz.prog 95 [PV.mono a] (· = .int .i64 (jN a)):=by
 refine aB Qh Tryz.func95 agD fun C hP=>?_;refine Sz0 ?_;refine Ql ep [(3,3),(5,5),(8,15)] [] (fun k J hp=>∃(i:Nat)(s:Int),k=a.length-i/\i<=a.length/\0<=s/\s<=1099511627776*i/\s+(a.drop i).sum=jN a/\J 8= .int .i64 (i:Nat)/\J 3= .int .i64 s/\hp=ax) a.length ?_ ?_
 ·refine⟨0,0,rfl,by omega,by omega,by omega,by simp[jN],?_⟩;refine Sz0 ?_;simp
 rintro _ J _ ⟨i,s,rfl,hi,wu,fi,qx,h8,h3,rfl⟩;refine Sz2 h8 h3 ?_;refine Qb (fun hg=>?_) (fun hg=>?_)
 ·have az:i<a.length:=by omega
  have hx:=hb _ (Kah az);rw[Kau az,KcU]at qx;generalize dB:a[i]=x at *
  refine Sz3 h8 h3 dB ?_;refine Qg (a.length-(i+1)) (by omega) ⟨i+1,s+x,rfl,by omega,by omega,by push_cast;omega,by omega,?_⟩;exact Tz0
 ·rw[Kal (by omega),List.sum_nil,Int.add_zero]at qx;refine Sz1 h3 ?_;exact Qc (by rw[qx]) rfl
theorem WL{a:List Int}{v:Int}(hl:a.length<2^42):Qd Tryz.prog 184 [PV.mono a,.int .i64 v] (· = .int .i64 (if v<0 then 0 else eN a v.toNat)):=by
 refine aB Qh Tryz.func184 adY fun C hP=>?_;refine Sz0 ?_;refine Qo (fun h1=>?_) (fun h1=>?_)
 ·refine Sz0 ?_;exact Qc (by rw[if_pos h1]) rfl
 ·obtain⟨n,rfl⟩:∃n:Nat,v=n:=⟨v.toNat,by omega⟩
  rw[if_neg h1];refine Sz0 ?_;refine Qb (fun h2=>?_) (fun h2=>?_)
  ·refine Sz0 ?_;exact Qc (by rw[lg (by omega)]) rfl
  ·have hn:n<a.length:=by omega
   refine Sz0 ?_;exact Qc (by rw[ik hn]) rfl
theorem C9{a:List Int}{i:Nat}(hl:a.length<2^42):Qd Tryz.prog 184 [PV.mono a,.int .i64 i] (· = .int .i64 (eN a i)):=by
 have:=WL (v:=i) hl
 rwa[if_neg (by omega),Kbg]at this
theorem Qxn{a b:List Int}{f:Nat}{g:Int->Int->Int}(bu:a.length<2^40)(dz:b.length<2^40)(hf:∀i,Qd Tryz.prog f [.int .i64 (eN a i),.int .i64 (eN b i)] (· = .int .i64 (g (eN a i) (eN b i)))):
  Qd Tryz.prog 159 [PV.mono a,PV.mono b,.fn f [] []] (· =PV.mono (kB g a b)):=by
 refine aB Qh Tryz.func159 adV fun C hP=>?_;refine Sz0 ?_;refine Ql ep [(8,10),(19,45)] [] (fun k J hp=>∃i,k=max a.length b.length-i/\i<=max a.length b.length/\J 19= .int .i64 (i:Nat)/\hp=Qk ax 16 ⟨1,3,pU ((kB g a b).take i++List.replicate (max a.length b.length-i) 0),false⟩) (max a.length b.length) ?_ ?_
 ·refine⟨0,rfl,by omega,?_⟩;refine Sz0 ?_;simp
 rintro _ J _ ⟨i,rfl,hi,eQ,rfl⟩;refine Sz1 eQ ?_;refine Qb (fun hg=>?_) (fun hg=>?_)
 ·have az:i<max a.length b.length:=by omega
  have hfi:=hf i;have pA:((kB g a b).take i).length=i:=by rw[Kay,pE];omega
  have lE:=fun v=>Xy (v:=v) (z:=(0:Int)) pA (show 0<max a.length b.length-i by omega);have hlen:i<((kB g a b).take i++List.replicate (max a.length b.length-i) (0:Int)).length:=by rw[Kax,pA,List.length_replicate];omega
  have bO:=Hk (g:=g) az;have fin:∀x y,x=eN a i->y=eN b i->Qd Tryz.prog f [.int .i64 x,.int .i64 y] (· = .int .i64 (g (eN a i) (eN b i))):=by rintro _ _ rfl rfl;exact hfi
  refine Sz1 eQ ?_;refine Qb (fun h1=>?_) (fun h1=>?_)
  ·have iv:i<a.length:=by omega
   simp+decide (disch:=try exact D1 eQ) only[go_sem,eQ];refine Qb (fun h2=>?_) (fun h2=>?_)
   ·have ll:i<b.length:=by omega
    simp+decide (disch:=try exact D1 eQ) only[go_sem,eQ];refine Qa hP (fin _ _ (ik iv).symm (ik ll).symm) rfl rfl rfl ?_;simp+decide (disch:=first|omega|rfl|(simp+decide only[go_sem,eQ,lE,<-bO]<;>rfl)|fail) only[go_sem,eQ,lE,<-bO];refine Qg (max a.length b.length-(i+1)) (by omega) ⟨i+1,rfl,by omega,?_⟩;exact Tz1 @Nat.sub_sub
   ·refine Sz1 eQ ?_;refine Qa hP (fin _ _ (ik iv).symm (lg (by omega)).symm) rfl rfl rfl ?_;simp+decide (disch:=first|omega|rfl|(simp+decide only[go_sem,eQ,lE,<-bO]<;>rfl)|fail) only[go_sem,eQ,lE,<-bO];refine Qg (max a.length b.length-(i+1)) (by omega) ⟨i+1,rfl,by omega,?_⟩;exact Tz1 @Nat.sub_sub
  ·refine Sz1 eQ ?_;refine Qb (fun h2=>?_) (fun h2=>by omega);have ll:i<b.length:=by omega
   simp+decide (disch:=try exact D1 eQ) only[go_sem,eQ];refine Qa hP (fin _ _ (lg (by omega)).symm (ik ll).symm) rfl rfl rfl ?_;simp+decide (disch:=first|omega|rfl|(simp+decide only[go_sem,eQ,lE,<-bO]<;>rfl)|fail) only[go_sem,eQ,lE,<-bO];refine Qg (max a.length b.length-(i+1)) (by omega) ⟨i+1,rfl,by omega,?_⟩;exact Tz1 @Nat.sub_sub
 ·obtain rfl:i=max a.length b.length:=by omega
  refine bp ?_;exact Qc (by simp[Kai,pE]) rfl
theorem Vx{x y:Int}(h1: -9223372036854775808<=x+y)(h2:x+y<=9223372036854775807):Qd Tryz.prog 160 [.int .i64 x,.int .i64 y] (· = .int .i64 (x+y)):=by refine aB Qh Tryz.func160 ad0 fun C hP=>?_;refine Sz0 ?_;exact Qc rfl rfl
theorem WM{k:Nat}{a b:List Int}(ha:MB k a)(hb:MB k b)(hk:k<=1099511627776):Qd Tryz.prog 116 [PV.mono a,PV.mono b] (· =PV.mono (dk a b)):=by have h1:=ha.len;have h2:=hb.len;have hz:=pE (· + ·) a b;refine aB Qh Tryz.func116 adZ fun C hP=>?_;refine Sz0 ?_;refine Qa hP (Qxn (f:=160) (g:=(· + ·)) (by omega) (by omega) (fun i=>Vx (by have:=ha.eN i;have:=hb.eN i;omega) (by have:=ha.eN i;have:=hb.eN i;omega))) rfl rfl rfl ?_;refine Sz0 ?_;refine Qa hP (Ol (by omega)) rfl rfl rfl ?_;refine Sz0 ?_;exact Qc rfl rfl
theorem Vy{a:List Int}(hl:a.length<2^42):Qd Tryz.prog 89 [PV.mono a] (· = .int .i64 ((qW a).length-1)):=by have:=Cr a;refine aB Qh Tryz.func89 agE fun C hP=>?_;refine Sz0 ?_;refine Qa hP (Ol hl) rfl rfl rfl ?_;refine Sz0 ?_;exact Qc rfl rfl
theorem Pg{k:Nat}{a b:List Int}{o:Int}(ha:MB k a)(hb:MB k b)(hk:k<=1099511627776):Qd Tryz.prog 157 [PV.mono a,PV.mono b,.int .i64 o] (· = .int .i64 (jO o a b)):=by
 have h1:=ha.len;have h2:=hb.len;have gj:∀x∈a,0<=x/\x<=1099511627776:=fun x hx=>by have:=ha.lo x hx;have:=ha.hi x hx;omega
 have iR:∀x∈b,0<=x/\x<=1099511627776:=fun x hx=>by have:=hb.lo x hx;have:=hb.hi x hx;omega
 refine aB Qh Tryz.func157 ad1 fun C hP=>?_;refine Sz0 ?_;refine Qb (fun ho=>?_) (fun ho=>?_)
 ·refine Sz0 ?_;refine Qa hP (GB (by omega) gj) rfl rfl rfl ?_;refine Sz0 ?_;refine Qa hP (GB (by omega) iR) rfl rfl rfl ?_;refine Sz0 ?_;refine Qb (fun hd=>?_) (fun hd=>?_)
  ·have jX:jO o a b=dq (jN a) (jN b):=by unfold jO;rw[if_pos ⟨ho,hd⟩]
   refine Sz0 ?_;refine Qb (fun h5=>?_) (fun h5=>?_)
   ·refine Sz0 ?_;exact Qc (by rw[jX,dq,if_pos h5]) rfl
   ·refine Sz0 ?_;exact Qc (by rw[jX,dq,if_neg h5,if_pos (by omega)]) rfl
  have jX:jO o a b=aX a b:=by unfold jO;rw[if_neg (fun h=>hd h.2)]
  refine Sz0 ?_;refine Ql ep [(6,6),(9,11),(30,45)] [] (fun n J hp=>n<=max a.length b.length/\dJ a b n=aX a b/\J 9= .int .i64 ((n:Int)-1)/\hp=ax) (max a.length b.length) ?_ ?_
  ·refine⟨by omega,rfl,?_⟩;exact Tz0
  rintro n J _ ⟨hn,hc,h9,rfl⟩;refine Sz1 h9 ?_;refine Qb (fun hg=>?_) (fun hg=>?_)
  ·obtain _|n:=n
   ·omega
   have e:((n+1:Nat):Int)-1=n:=by omega
   rw[dJ]at hc;refine Sz2 h9 e ?_;refine Qa hP (C9 (by omega)) rfl rfl rfl ?_;refine Sz2 h9 e ?_;refine Qa hP (C9 (by omega)) rfl rfl rfl ?_;refine Sz2 h9 e ?_;refine Qb (fun h4=>?_) (fun h4=>?_)
   ·rw[if_neg h4]at hc;refine Sz2 h9 e ?_;refine Qb (fun h5=>?_) (fun h5=>?_)
    ·refine Sz2 h9 e ?_;exact Qc (by rw[jX,<-hc,dq,if_pos h5]) rfl
    ·refine Sz2 h9 e ?_;exact Qc (by rw[jX,<-hc,dq,if_neg h5,if_pos (by omega)]) rfl
   ·rw[if_pos (by omega)]at hc;refine Sz2 h9 e ?_;refine Qg n (by omega) ⟨by omega,hc,?_⟩;exact Tz0
  ·obtain rfl:n=0:=by omega
   refine Sz0 ?_;exact Qc (by rw[jX,<-hc];rfl) rfl
 ·have jX:jO o a b=aX a b:=by unfold jO;rw[if_neg (fun h=>ho h.1)]
  refine Sz0 ?_;refine Ql ep [(6,6),(9,11),(30,45)] [] (fun n J hp=>n<=max a.length b.length/\dJ a b n=aX a b/\J 9= .int .i64 ((n:Int)-1)/\hp=ax) (max a.length b.length) ?_ ?_
  ·refine⟨by omega,rfl,?_⟩;exact Tz0
  rintro n J _ ⟨hn,hc,h9,rfl⟩;refine Sz1 h9 ?_;refine Qb (fun hg=>?_) (fun hg=>?_)
  ·obtain _|n:=n
   ·omega
   have e:((n+1:Nat):Int)-1=n:=by omega
   rw[dJ]at hc;refine Sz2 h9 e ?_;refine Qa hP (C9 (by omega)) rfl rfl rfl ?_;refine Sz2 h9 e ?_;refine Qa hP (C9 (by omega)) rfl rfl rfl ?_;refine Sz2 h9 e ?_;refine Qb (fun h4=>?_) (fun h4=>?_)
   ·rw[if_neg h4]at hc;refine Sz2 h9 e ?_;refine Qb (fun h5=>?_) (fun h5=>?_)
    ·refine Sz2 h9 e ?_;exact Qc (by rw[jX,<-hc,dq,if_pos h5]) rfl
    ·refine Sz2 h9 e ?_;exact Qc (by rw[jX,<-hc,dq,if_neg h5,if_pos (by omega)]) rfl
   ·rw[if_pos (by omega)]at hc;refine Sz2 h9 e ?_;refine Qg n (by omega) ⟨by omega,hc,?_⟩;exact Tz0
  ·obtain rfl:n=0:=by omega
   refine Sz0 ?_;exact Qc (by rw[jX,<-hc];rfl) rfl
theorem GD(x:Int):Qd Tryz.prog 105 [.int .i64 x] (· = .int .i64 (eS x)):=by
 refine aB Qh Tryz.func105 aei fun C hP=>?_;refine Sz0 ?_;refine Qb (fun h=>?_) (fun h=>?_)
 ·refine Sz0 ?_;exact Qc (by rw[eS,if_pos h]) rfl
 refine Sz0 ?_;refine Qb (fun h2=>?_) (fun h2=>?_)
 ·refine Sz0 ?_;exact Qc (by rw[eS,if_neg h,if_pos h2]) rfl
 ·refine Sz0 ?_;exact Qc (by rw[eS,if_neg h,if_neg h2]) rfl
theorem VA{a:List Int}{v:Int}(hl:a.length<2^42):Qd Tryz.prog 106 [PV.mono a,.int .i64 v] (· = .int .i64 (if v<0 then 0 else eN a v.toNat)):=by
 refine aB Qh Tryz.func106 aeh fun C hP=>?_;refine Sz0 ?_;refine Qo (fun h1=>?_) (fun h1=>?_)
 ·refine Sz0 ?_;exact Qc (by rw[if_pos h1]) rfl
 ·obtain⟨n,rfl⟩:∃n:Nat,v=n:=⟨v.toNat,by omega⟩
  rw[if_neg h1];refine Sz0 ?_;refine Qb (fun h2=>?_) (fun h2=>?_)
  ·refine Sz0 ?_;exact Qc (by rw[lg (by omega)]) rfl
  ·have hn:n<a.length:=by omega
   refine Sz0 ?_;exact Qc (by rw[ik hn]) rfl
theorem oJ{a:List Int}{i:Nat}(hl:a.length<2^42):Qd Tryz.prog 106 [PV.mono a,.int .i64 i] (· = .int .i64 (eN a i)):=by
 have:=VA (v:=i) hl
 rwa[if_neg (by omega),Kbg]at this
theorem Cp{a:List Int}(hl:a.length<=1048576)(hb:∀x∈a,0<=x/\x<=1099511627776):Qd Tryz.prog 104 [PV.mono a] (· = .int .i64 (jN a)):=by
 refine aB Qh Tryz.func104 aeg fun C hP=>?_;refine Sz0 ?_;refine Ql okB [(3,16)] [] (fun k J hp=>∃(i:Nat)(s:Int),k=a.length-i/\i<=a.length/\0<=s/\s<=1099511627776*i/\s+(a.drop i).sum=jN a/\J 4= .int .i64 (i:Nat)/\J 3= .int .i64 s/\hp=ax) a.length ?_ ?_
 ·refine⟨0,0,rfl,by omega,by omega,by omega,by simp[jN],?_⟩;refine Sz0 ?_;simp
 rintro _ J _ ⟨i,s,rfl,hi,wu,fi,qx,h4,h3,rfl⟩;refine Sz2 h4 h3 ?_;refine Qb (fun hg=>?_) (fun hg=>?_)
 ·have az:i<a.length:=by omega
  have hx:=hb _ (Kah az);rw[Kau az,KcU]at qx;generalize dB:a[i]=x at *
  refine Sz3 h4 h3 dB ?_;refine Qg (a.length-(i+1)) (by omega) ⟨i+1,s+x,rfl,by omega,by omega,by push_cast;omega,by omega,?_⟩;exact Tz0
 ·rw[Kal (by omega),List.sum_nil,Int.add_zero]at qx;refine Sz1 h3 ?_;exact Qc (by rw[qx]) rfl
theorem Qz7{a:List Int}(hl:a.length<2^42):Qd Tryz.prog 56 [PV.mono a] (· = .bool (iV a)):=by
 refine aB Qh Tryz.func56 agR fun C hP=>?_;refine Sz0 ?_;have bad:(64<a.length∨a.getLast? =some 0∨∃x∈a,x<0∨1048576<x)->iV a=false:=fun h=>by
  cases hb:iV a with
  |false=>rfl
  |true=>
   have:=MB.uQ hb;simp only[iV,Kav,decide_eq_true_eq]at hb;rcases h with h|h|⟨x,hx,h⟩
   ·omega
   ·exact absurd h hb.2.1
   ·have h5:=this.lo x hx;have h6:=this.hi x hx;omega
 refine Qo (fun h1=>?_) (fun h1=>?_)
 ·refine Sz0 ?_;exact Qc (by rw[bad (.inl (by omega))]) rfl
 refine Sz0 ?_;have fin:a.length<=64->a.getLast? ≠some 0->(∀x∈a,0<=x/\x<=1048576)->iV a=true:=fun h1 h2 h3=>by simp only[iV,Kav,decide_eq_true_eq,Kap];exact⟨h1,h2,h3⟩
 refine Q5 (fun h2=>?_) (fun h2=>?_)
 ·obtain⟨k,hk⟩:∃k,a.length=k+1:=⟨a.length-1,by omega⟩
  have jn:=HO hk;have e:((k+1:Nat):Int)-1=k:=by omega
  generalize hy:a[k]'(by omega)=y at *
  refine Sz3 hk e hy ?_;refine Qb (fun h3=>?_) (fun h3=>?_)
  ·refine Sz0 ?_;exact Qc (by rw[bad (.inr (.inl (by rw[jn,h3])))]) rfl
  have jn:a.getLast? ≠some 0:=by rw[jn];simpa using h3
  rw[<-hk]at *
  refine Sz0 ?_;refine Ql okB [(2,3),(21,38)] [] (fun k J hp=>∃i,k=a.length-i/\i<=a.length/\(∀x∈a.take i,0<=x/\x<=1048576)/\J 3= .int .i64 i/\hp=ax) a.length ?_ ?_
  ·refine⟨0,rfl,by omega,by simp,?_⟩;refine Sz0 ?_;rfl
  rintro _ J _ ⟨i,rfl,hi,aP,hj,rfl⟩;refine Sz1 hj ?_;refine Qb (fun hg=>?_) (fun hg=>?_)
  ·have az:i<a.length:=by omega
   have gD:=Kah az;have bO:∀x∈a.take (i+1),x∈a.take i∨x=a[i]:=fun x hx=>by
    rw[Kao az]at hx;rcases KaG.1 hx with h|h
    ·exact .inl h
    ·exact .inr (Kaw.1 h)
   generalize hx:a[i]=x at *
   refine Sz2 hj hx ?_;refine Qo (fun h5=>?_) (fun h5=>?_)
   ·refine Sz0 ?_;exact Qc (by rw[bad (.inr (.inr ⟨x,gD,.inl h5⟩))]) rfl
   ·refine Sz2 hj hx ?_;refine Qb (fun h6=>?_) (fun h6=>?_)
    ·refine Sz0 ?_;exact Qc (by rw[bad (.inr (.inr ⟨x,gD,.inr h6⟩))]) rfl
    ·refine Sz1 hj ?_;refine Qg (a.length-(i+1)) (by omega) ⟨i+1,rfl,by omega,fun y hy=>?_,?_⟩
     ·rcases bO y hy with h|rfl
      ·exact aP y h
      ·omega
     ·exact Tz0
  ·rw[Kai (by omega)]at aP;refine Sz0 ?_;exact Qc (by rw[fin (by omega) jn aP]) rfl
 ·have JF:a=[]:=Kat.1 (by omega);have jn:a.getLast? ≠some 0:=by rw[JF];simp
  refine Sz0 ?_;refine Ql okB [(2,3),(21,38)] [] (fun k J hp=>∃i,k=a.length-i/\i<=a.length/\(∀x∈a.take i,0<=x/\x<=1048576)/\J 3= .int .i64 i/\hp=ax) a.length ?_ ?_
  ·refine⟨0,rfl,by omega,by simp,?_⟩;refine Sz0 ?_;rfl
  rintro _ J _ ⟨i,rfl,hi,aP,hj,rfl⟩;refine Sz1 hj ?_;refine Qb (fun hg=>?_) (fun hg=>?_)
  ·have az:i<a.length:=by omega
   have gD:=Kah az;have bO:∀x∈a.take (i+1),x∈a.take i∨x=a[i]:=fun x hx=>by
    rw[Kao az]at hx;rcases KaG.1 hx with h|h
    ·exact .inl h
    ·exact .inr (Kaw.1 h)
   generalize hx:a[i]=x at *
   refine Sz2 hj hx ?_;refine Qo (fun h5=>?_) (fun h5=>?_)
   ·refine Sz0 ?_;exact Qc (by rw[bad (.inr (.inr ⟨x,gD,.inl h5⟩))]) rfl
   ·refine Sz2 hj hx ?_;refine Qb (fun h6=>?_) (fun h6=>?_)
    ·refine Sz0 ?_;exact Qc (by rw[bad (.inr (.inr ⟨x,gD,.inr h6⟩))]) rfl
    ·refine Sz1 hj ?_;refine Qg (a.length-(i+1)) (by omega) ⟨i+1,rfl,by omega,fun y hy=>?_,?_⟩
     ·rcases bO y hy with h|rfl
      ·exact aP y h
      ·omega
     ·exact Tz0
  ·rw[Kai (by omega)]at aP;refine Sz0 ?_;exact Qc (by rw[fin (by omega) jn aP]) rfl
theorem VB{k:Nat}{a b:List Int}(ha:MB k a)(hb:MB k b)(hk:k<=1099511627776):Qd Tryz.prog 88 [PV.mono a,PV.mono b] (· =PV.mono (kB (· + ·) a b)):=by
 have h1:=ha.len;have h2:=hb.len;have hz:=pE (· + ·) a b;refine aB Qh Tryz.func88 agS fun C hP=>?_;refine Sz0 ?_;refine oM 5 900 1 3 (by omega) Tz0 ?_;refine Ql okB [(5,28)] [27,28,900] (fun m J hp=>∃(i:Nat)(out:List Int),m=max a.length b.length-i/\i<=max a.length b.length/\out=(kB (· + ·) a b).take i/\J 5= .ms 900 out.length/\J 6= .int .i64 i/\hp 900=some ⟨1,3,pU out,false⟩) (max a.length b.length) ?_ ?_
 ·refine⟨0,[],rfl,by omega,by simp,?_⟩;refine Sz0 ?_;simp
 rintro _ J h ⟨i,out,rfl,hi,mw,h5,h6,hh⟩;have fw:out.length=i:=by rw[mw,Kay,hz];omega
 refine Sz2 h5 h6 ?_;refine Qo (fun hg=>?_) (fun hg=>?_)
 ·have aq:i<max a.length b.length:=by omega
  have bO:=Hk (g:=(· + ·)) aq;have ea:=ha.eN i;have eb:=hb.eN i;refine Sz2 h5 h6 ?_;refine Qa hP (oJ (a:=a) (i:=i) (by omega)) rfl rfl rfl ?_;refine Sz2 h5 h6 ?_;refine Qa hP (oJ (a:=b) (i:=i) (by omega)) rfl rfl rfl ?_;refine Sz2 h5 h6 ?_;rw[Q3 (f:=fun(x:Int)=>.int .i64 x) (y:=eN a i+eN b i) (xs:=out) (ty':=3) (fz:=false) (Tz1 hh) bc (by omega) rfl (by omega) (by omega)];refine Sz2 h5 h6 ?_;refine Qg (max a.length b.length-(i+1)) (by omega) ⟨i+1,out++[eN a i+eN b i],rfl,by omega,by rw[bO,mw],?_⟩;refine Sz0 ?_;simp
 refine Sz2 h5 h6 ?_;refine Qb (fun dX=>?_) (fun dX=>?_)
 ·have aq:i<max a.length b.length:=by omega
  have bO:=Hk (g:=(· + ·)) aq;have ea:=ha.eN i;have eb:=hb.eN i;refine Sz2 h5 h6 ?_;refine Qa hP (oJ (a:=a) (i:=i) (by omega)) rfl rfl rfl ?_;refine Sz2 h5 h6 ?_;refine Qa hP (oJ (a:=b) (i:=i) (by omega)) rfl rfl rfl ?_;refine Sz2 h5 h6 ?_;rw[Q3 (f:=fun(x:Int)=>.int .i64 x) (y:=eN a i+eN b i) (xs:=out) (ty':=3) (fz:=false) (Tz1 hh) bc (by omega) rfl (by omega) (by omega)];refine Sz2 h5 h6 ?_;refine Qg (max a.length b.length-(i+1)) (by omega) ⟨i+1,out++[eN a i+eN b i],rfl,by omega,by rw[bO,mw],?_⟩;refine Sz0 ?_;simp
 obtain rfl:i=max a.length b.length:=by omega
 rw[Kai (by omega)]at mw;subst mw;refine xT h5 hh ?_;exact Qc (by rw[Kai (by simp)]) rfl
theorem HA(x y:Int):eS (x-y)=dq x y:=by unfold eS dq;(repeat' split)<;>omega
theorem VC{k:Nat}{a b:List Int}{o:Int}(ha:MB k a)(hb:MB k b)(hk:k<=1099511627776):Qd Tryz.prog 57 [PV.mono a,PV.mono b,.int .i64 o] (· = .int .i64 (jO o a b)):=by
 have h1:=ha.len;have h2:=hb.len;have gj:∀x∈a,0<=x/\x<=1099511627776:=fun x hx=>by have:=ha.lo x hx;have:=ha.hi x hx;omega
 have iR:∀x∈b,0<=x/\x<=1099511627776:=fun x hx=>by have:=hb.lo x hx;have:=hb.hi x hx;omega
 have da:=Ic ha;have db:=Ic hb;refine aB Qh Tryz.func57 agT fun C hP=>?_;refine Sz0 ?_;refine Q5 (fun ho=>?_) (fun ho=>?_)
 ·refine Sz0 ?_;refine Qa hP (Cp (by omega) gj) rfl rfl rfl ?_;refine Sz0 ?_;refine Qa hP (Cp (by omega) iR) rfl rfl rfl ?_;refine Sz0 ?_;refine Qb (fun hd=>?_) (fun hd=>?_)
  ·have jX:jO o a b=dq (jN a) (jN b):=by unfold jO;rw[if_pos ⟨ho,hd⟩]
   refine Sz0 ?_;refine Qa hP (Cp (by omega) gj) rfl rfl rfl ?_;refine Sz0 ?_;refine Qa hP (Cp (by omega) iR) rfl rfl rfl ?_;refine Sz0 ?_;refine Qa hP (GD _) rfl rfl rfl ?_;refine Sz0 ?_;exact Qc (by rw[jX,HA]) rfl
  have jX:jO o a b=aX a b:=by unfold jO;rw[if_neg (fun h=>hd h.2)]
  refine Sz0 ?_;refine Ql okB [(6,7),(29,47)] [] (fun n J hp=>n<=max a.length b.length/\dJ a b n=aX a b/\J 7= .int .i64 ((n:Int)-1)/\hp=ax) (max a.length b.length) ?_ ?_
  ·refine⟨by omega,rfl,?_⟩;exact Tz0
  rintro n J _ ⟨hn,hc,h7,rfl⟩;refine Sz1 h7 ?_;refine Qb (fun hg=>?_) (fun hg=>?_)
  ·obtain _|n:=n
   ·omega
   have e:((n+1:Nat):Int)-1=n:=by omega
   have ea:=ha.eN n;have eb:=hb.eN n;rw[dJ]at hc;refine Sz2 h7 e ?_;refine Qa hP (oJ (by omega)) rfl rfl rfl ?_;refine Sz2 h7 e ?_;refine Qa hP (oJ (by omega)) rfl rfl rfl ?_;refine Sz2 h7 e ?_;refine Qb (fun h4=>?_) (fun h4=>?_)
   ·rw[if_neg h4]at hc;refine Sz2 h7 e ?_;refine Qa hP (oJ (by omega)) rfl rfl rfl ?_;refine Sz2 h7 e ?_;refine Qa hP (oJ (by omega)) rfl rfl rfl ?_;refine Sz2 h7 e ?_;refine Qa hP (GD _) rfl rfl rfl ?_;refine Sz2 h7 e ?_;exact Qc (by rw[jX,<-hc,HA]) rfl
   ·rw[if_pos (by omega)]at hc;refine Sz2 h7 e ?_;refine Qg n (by omega) ⟨by omega,hc,?_⟩;exact Tz0
  ·obtain rfl:n=0:=by omega
   refine Sz0 ?_;exact Qc (by rw[jX,<-hc];rfl) rfl
 ·have jX:jO o a b=aX a b:=by unfold jO;rw[if_neg (fun h=>ho h.1)]
  refine Sz0 ?_;refine Ql okB [(6,7),(29,47)] [] (fun n J hp=>n<=max a.length b.length/\dJ a b n=aX a b/\J 7= .int .i64 ((n:Int)-1)/\hp=ax) (max a.length b.length) ?_ ?_
  ·refine⟨by omega,rfl,?_⟩;exact Tz0
  rintro n J _ ⟨hn,hc,h7,rfl⟩;refine Sz1 h7 ?_;refine Qb (fun hg=>?_) (fun hg=>?_)
  ·obtain _|n:=n
   ·omega
   have e:((n+1:Nat):Int)-1=n:=by omega
   have ea:=ha.eN n;have eb:=hb.eN n;rw[dJ]at hc;refine Sz2 h7 e ?_;refine Qa hP (oJ (by omega)) rfl rfl rfl ?_;refine Sz2 h7 e ?_;refine Qa hP (oJ (by omega)) rfl rfl rfl ?_;refine Sz2 h7 e ?_;refine Qb (fun h4=>?_) (fun h4=>?_)
   ·rw[if_neg h4]at hc;refine Sz2 h7 e ?_;refine Qa hP (oJ (by omega)) rfl rfl rfl ?_;refine Sz2 h7 e ?_;refine Qa hP (oJ (by omega)) rfl rfl rfl ?_;refine Sz2 h7 e ?_;refine Qa hP (GD _) rfl rfl rfl ?_;refine Sz2 h7 e ?_;exact Qc (by rw[jX,<-hc,HA]) rfl
   ·rw[if_pos (by omega)]at hc;refine Sz2 h7 e ?_;refine Qg n (by omega) ⟨by omega,hc,?_⟩;exact Tz0
  ·obtain rfl:n=0:=by omega
   refine Sz0 ?_;exact Qc (by rw[jX,<-hc];rfl) rfl
theorem abo{a b:Rat}{k:Nat}(ha:rs a<=k)(hb:rs b<=k)(hk:k<2^34):Qd Tryz.prog 87 [PV.rat a,PV.rat b] (· =PV.rat (a+b)):=by
 have:=Ok (ic ha) (ic hb) hk
 rwa[gM,gM]at this
theorem Lt{a b:Rat}{k:Nat}(ha:rs a<=k)(hb:rs b<=k)(hk:k<2^34):Qd Tryz.prog 33 [PV.rat a,PV.rat b] (· =PV.rat (a*b)):=by
 have:=Vu (ic ha) (ic hb) hk
 rwa[gM,gM]at this
theorem abp{a b:Rat}{k:Nat}(ha:rs a<=k)(hb:rs b<=k)(hk:k<2^34):Qd Tryz.prog 122 [PV.rat a,PV.rat b] (· = .int .i64 (nZ a b)):=by
 have:=Vv (ic ha) (ic hb) hk
 rwa[gM,gM]at this
theorem Hr{a:Rat}(ha:rs a<2^36):Qd Tryz.prog 32 [PV.rat a] (· = .int .i64 (fX a)):=by
 have:=Cu (ic (Kae (rs a))) ha
 rwa[gM]at this
theorem Ab{k:Nat}{a b:List Int}(ha:MB k a)(hb:MB k b)(hk:k<=1099511627776):Qd Tryz.prog 57 [PV.mono a,PV.mono b,.int .i64 0] (· = .int .i64 (aX a b)):=by
 have:=VC (o:=0) ha hb hk
 rwa[Ea]at this
theorem UR{p q:List Tm}{K E:Nat}(hp:PB K E p)(hq:PB K E q)(hK:K<=2^33)(hE:E<=2^38)(gm:p.length<=2^36)(mo:q.length<=2^36):
  Qd Tryz.prog 69 [PV.ao p,PV.ao q] (· = .int .i64 (iM p q)):=by
 refine aB Qh Tryz.func69 age fun C hP=>?_;refine Sz0 ?_;refine Ql okB [(4,47)] [] (fun n J hp=>∃i,n=p.length-i/\i<=p.length/\i<=q.length/\iM (p.drop i) (q.drop i)=iM p q/\J 5= .int .i64 (i:Nat)) p.length ?_ ?_
 ·refine⟨0,rfl,by omega,by omega,rfl,?_⟩;refine Sz0 ?_;rfl
 rintro _ J h ⟨i,rfl,hi,lC,fC,h5⟩;refine Sz1 h5 ?_;refine Q5 (fun hg=>?_) (fun hg=>?_)
 ·have az:i<p.length:=by omega
  refine Sz1 h5 ?_;refine Qb (fun hk=>?_) (fun hk=>?_)
  ·have cI:i<q.length:=by omega
   have cO:=hp.get az;have ox:=hq.get cI;have c1:=cO.c;have c2:=ox.c;rw[P9 az cI]at fC;generalize hx:p[i]=x at *
   generalize hy:q[i]=y at *
   refine Sz3 h5 hx hy ?_;refine Qa hP (Ab cO.m ox.m (by omega)) rfl rfl rfl ?_;refine Sz3 h5 hx hy ?_;refine Qb (fun hc=>?_) (fun hc=>?_)
   ·refine Sz0 ?_;exact Qc (by rw[<-fC,if_pos (by rw[mW,if_pos hc];exact hc),mW,if_pos hc]) rfl
   ·refine Sz3 h5 hx hy ?_;refine Qa hP (abp (a:=x.1) (b:=y.1) (k:=2^33) (by omega) (by omega) (by omega)) rfl rfl rfl ?_;refine Sz3 h5 hx hy ?_;refine Qb (fun eR=>?_) (fun eR=>?_)
    ·refine Sz0 ?_;exact Qc (by rw[<-fC,if_pos (by rw[mW,if_neg hc];exact eR),mW,if_neg hc]) rfl
    ·rw[if_neg (by rw[mW,if_neg hc];exact eR)]at fC;refine Sz1 h5 ?_;refine Qg (p.length-(i+1)) (by omega) ⟨i+1,rfl,by omega,by omega,fC,?_⟩;exact Tz0
  refine Sz0 ?_;refine Qb (fun hk=>?_) (fun hk=>?_)
  ·refine Sz0 ?_;exact Qc (by rw[<-fC,Kal (show p.length<=i by omega),zH,if_neg (by rw[KaY];omega)]) rfl
  ·refine Sz0 ?_;refine Qb (fun ph=>?_) (fun ph=>?_)
   ·refine Sz0 ?_;refine Qc ?_ rfl;rw[<-fC,Kau (show i<p.length by omega),Kal (show q.length<=i by omega),iM]
   ·refine Sz0 ?_;exact Qc (by rw[<-fC,Kal (show p.length<=i by omega),zH,if_pos (by rw[KaY];omega)]) rfl
 ·have az:i=p.length:=by omega
  refine Sz0 ?_;refine Qb (fun hk=>?_) (fun hk=>?_)
  ·refine Sz0 ?_;exact Qc (by rw[<-fC,Kal (show p.length<=i by omega),zH,if_neg (by rw[KaY];omega)]) rfl
  ·refine Sz0 ?_;refine Qb (fun ph=>?_) (fun ph=>?_)
   ·refine Sz0 ?_;refine Qc ?_ rfl;rw[<-fC,Kau (show i<p.length by omega),Kal (show q.length<=i by omega),iM]
   ·refine Sz0 ?_;exact Qc (by rw[<-fC,Kal (show p.length<=i by omega),zH,if_pos (by rw[KaY];omega)]) rfl
theorem Qz8{p q:List Tm}{K E:Nat}(hp:PB K E p)(hq:PB K E q)(hK:K<=2^33)(hE:E<=2^38)(gm:p.length<=2^36)(mo:q.length<=2^36):Qd Tryz.prog 31 [PV.ao p,PV.ao q] (· = .bool (decide (p=q))):=by refine aB Qh Tryz.func31 agh fun C hP=>?_;refine Sz0 ?_;refine Qa hP (UR hp hq hK hE gm mo) rfl rfl rfl ?_;refine Sz0 ?_;exact Qc (congrArg PV.bool (decide_eq_decide.2 (Ib hp.last hq.last))) rfl
theorem CJ{p q:List Tm}{K E:Nat}(hp:PB K E p)(hq:PB K E q)(hK:K<=2^32)(hE:E<=2^38)(gm:p.length<=2^36)(mo:q.length<=2^36):
  Qd Tryz.prog 46 [PV.ao p,PV.ao q] (· =PV.ao (Qq p q)):=by
 refine aB Qh Tryz.func46 agd fun C hP=>?_;refine Sz0 ?_;refine oM 5 900 4 77 (by omega) Tz0 ?_;refine Ql okB [(5,90)] [9,61,62,75,76,87,88,900] (fun n J hp=>∃i k out,n=(p.length-i)+(q.length-k)/\i<=p.length/\k<=q.length/\out.length<=i+k/\out++Qq (p.drop i) (q.drop k)=Qq p q/\
  J 5= .ms 900 out.length/\J 6= .int .i64 (i:Nat)/\J 7= .int .i64 (k:Nat)/\hp 900=some ⟨4,77,out.map PV.term,false⟩) (p.length+q.length) ?_ ?_
 ·refine⟨0,0,[],by omega,by omega,by omega,by simp,rfl,?_⟩;refine Sz0 ?_;simp
 rintro _ J h ⟨i,k,out,rfl,hi,hk,fw,dP,h5,h6,h7,hh⟩;refine Sz3 h5 h6 h7 ?_;refine Qo (fun hg=>?_) (fun hg=>?_)
 ·have az:i<p.length:=by omega
  refine Sz3 h5 h6 h7 ?_;refine Qb (fun h=>by omega) (fun _=>?_);refine Sz3 h5 h6 h7 ?_;refine Qb (fun dX=>?_) (fun dX=>?_)
  ·have cI:k<q.length:=by omega
   have cO:=hp.get az;have ox:=hq.get cI;rw[P7 az cI]at dP;have c1:=cO.c;have c2:=ox.c;generalize hx:p[i]=x at *
   generalize hy:q[k]=y at *
   refine Sz5 h5 h6 h7 hx hy ?_;refine Qa hP (Ab cO.m ox.m (by omega)) rfl rfl rfl ?_;refine Sz5 h5 h6 h7 hx hy ?_;refine Qb (fun hc=>?_) (fun hc=>?_)
   ·rw[if_pos hc]at dP;refine Sz4 h5 h6 h7 hx ?_;rw[Q3 (f:=PV.term) (y:=x) (xs:=out) (ty':=77) (fz:=false) (Tz1 hh) bc (by omega) rfl (by omega) (by omega)];refine Sz4 h5 h6 h7 hx ?_;refine Qg ((p.length-(i+1))+(q.length-k)) (by omega) ⟨i+1,k,out++[x],rfl,by omega,hk,by simp;omega,by simpa using dP,?_⟩;refine Sz3 h5 h6 h7 ?_;simp
   rw[if_neg hc]at dP;refine Sz5 h5 h6 h7 hx hy ?_;refine Qb (fun eR=>?_) (fun eR=>?_)
   ·rw[if_pos eR]at dP;refine Sz4 h5 h6 h7 hy ?_;rw[Q3 (f:=PV.term) (y:=y) (xs:=out) (ty':=77) (fz:=false) (Tz1 hh) bc (by omega) rfl (by omega) (by omega)];refine Sz4 h5 h6 h7 hy ?_;refine Qg ((p.length-i)+(q.length-(k+1))) (by omega) ⟨i,k+1,out++[y],rfl,by omega,by omega,by simp;omega,by simpa using dP,?_⟩;refine Sz3 h5 h6 h7 ?_;simp
   rw[if_neg eR]at dP;have Fi:=vh x.1 y.1;refine Sz5 h5 h6 h7 hx hy ?_;refine dI ?_ ?_
   all_goals
    refine Sz5 h5 h6 h7 hx hy ?_;refine Qa hP (abo (a:=x.1) (b:=y.1) (k:=2^32) (by omega) (by omega) (by omega)) rfl rfl rfl ?_;refine Sz5 h5 h6 h7 hx hy ?_;refine Qa hP (Hr (a:=x.1+y.1) (by omega)) rfl rfl rfl ?_;refine Sz5 h5 h6 h7 hx hy ?_;refine Qb (fun hz=>?_) (fun hz=>?_)
    ·rw[if_neg (fun h=>hz (gq.2 h))]at dP;refine Sz5 h5 h6 h7 hx hy ?_;rw[Q3 (f:=PV.term) (y:=(x.1+y.1,x.2)) (xs:=out) (ty':=77) (fz:=false) (Tz1 hh) bc (by omega) rfl (by omega) (by omega)];refine Sz5 h5 h6 h7 hx hy ?_;refine Qg ((p.length-(i+1))+(q.length-(k+1))) (by omega) ⟨i+1,k+1,out++[(x.1+y.1,x.2)],rfl,by omega,by omega,by simp;omega,by simpa using dP,?_⟩;refine Sz3 h5 h6 h7 ?_;simp
    ·rw[if_pos (gq.1 (Decidable.not_not.1 hz))]at dP;refine Sz5 h5 h6 h7 hx hy ?_;refine Qg ((p.length-(i+1))+(q.length-(k+1))) (by omega) ⟨i+1,k+1,out,rfl,by omega,by omega,by omega,dP,?_⟩;exact Tz4 h5 h6 h7 hh
  ·rw[Kal (show q.length<=k by omega),kX,Kau az]at dP;have dP:out++p[i]::Qq (p.drop (i+1)) (q.drop k)=Qq p q:=by rw[Kal (show q.length<=k by omega),kX];exact dP
   generalize hx:p[i]=x at *
   refine Sz4 h5 h6 h7 hx ?_;rw[Q3 (f:=PV.term) (y:=x) (xs:=out) (ty':=77) (fz:=false) (Tz1 hh) bc (by omega) rfl (by omega) (by omega)];refine Sz4 h5 h6 h7 hx ?_;refine Qg ((p.length-(i+1))+(q.length-k)) (by omega) ⟨i+1,k,out++[x],rfl,by omega,hk,by simp;omega,by simpa using dP,?_⟩;refine Sz3 h5 h6 h7 ?_;simp
 ·have az:i=p.length:=by omega
  refine Sz3 h5 h6 h7 ?_;refine Qb (fun dX=>?_) (fun dX=>?_)
  ·have cI:k<q.length:=by omega
   rw[Kal (show p.length<=i by omega),qO,Kau cI]at dP;have dP:out++q[k]::Qq (p.drop i) (q.drop (k+1))=Qq p q:=by rw[Kal (show p.length<=i by omega),qO];exact dP
   generalize hy:q[k]=y at *
   refine Sz4 h5 h6 h7 hy ?_;refine Qb (fun _=>?_) (fun h=>by omega);refine Sz4 h5 h6 h7 hy ?_;rw[Q3 (f:=PV.term) (y:=y) (xs:=out) (ty':=77) (fz:=false) (Tz1 hh) bc (by omega) rfl (by omega) (by omega)];refine Sz4 h5 h6 h7 hy ?_;refine Qg ((p.length-i)+(q.length-(k+1))) (by omega) ⟨i,k+1,out++[y],rfl,by omega,by omega,by simp;omega,by simpa using dP,?_⟩;refine Sz3 h5 h6 h7 ?_;simp
  ·rw[Kal (show p.length<=i by omega),qO,Kal (show q.length<=k by omega),Kar]at dP;refine Vz4 h5 h6 h7 hh ?_;exact Qc (by rw[Kai (by simp),dP]) rfl
def ali:ay:=⟨97,[.t 8],Zr (YH 8)<|Zr (iO 15<|
 cT 19 16 18<|
 Zo (.mk 20 4 80 77 (.agg [.bool false,.aa,.aa,.aa]) (.c (Zz 0)) (.t 19))<|
 Zm 9 20 .nil)<|Zr (Zc 10 0<|
 Yi 11 0)<| .seq (.block 0<| .loop<| .seq (Zr (Yh 21 10 0<|
 Zn 23 22<|
 Zb 24 .lss 21 23<|
 YL 25 24 11<|
 Zg 25 true (.mv 27 (.t 1))<|
 nf 25<|
 Zg 25 true (.bin 29 .lss false (.t 26) (.t 28))<|
 Yk 30 25 29 .nil)<| .cond (.t 30) .skip (.exit 0))<| .block 1<|Zr (cW 31 2 0 10<|
 YN 34 4 32 33<|
 Yh 36 1 11<|
 YN 38 4 36 37<|
 Zo (.call (some 40) false (.t 31) [.t 35,.t 39])<|
 Yc 12 40)<| .block 2<|Zr (Zm 64 12<|
 Zk 65 .gtr 64 0<|
 Zm 63 65 .nil)<| .cond (.t 63) (Zr (cW 66 9 0 10<|
 YN 69 4 67 68<|
 Zo (.bs 71 4 77 [.t 70])<|
 Zo (.app 72 4 80 77 (.t 66) (.t 71))<|
 Yc 9 72)<| .rg (YV 73 10)) (Zr (jd 76 12<|
 Zm 75 77 .nil)<| .cond (.t 75) (Zr (cW 78 9 1 11<|
 YN 81 4 79 80<|
 YB 83 4 77 82 80 78<|
 Yc 9 84)<| .rg (YV 85 11)) (.seq (Zr (cW 42 3 0 10<|
 YN 45 4 43 44<|
 Yh 47 1 11<|
 YN 49 4 47 48<|
 .br (Zo (.call (some 51) true (.t 42) [.t 46,.t 50])<|
 Zm 41 51<|
 Ye 52 41<|
 qa 13<|
 Zs 4 13 52<|
 Yc 14 53) (qa 13<|
 Zo (.call (some 51) true (.t 42) [.t 46,.t 50])<|
 Zm 41 51<|
 Ye 52 41<|
 Zs 4 13 52<|
 Yc 14 53))<|Zr (Yc 54 14)<| .cond (.t 54) (.rg (Zm 55 9<|
 Zh 56 4 13<|
 YB 57 4 77 56 80 55<|
 Yc 9 58)) .skip)<|Zr (YV 59 10)<| .rg (YV 61 11))))<|Zr (xU 87 9 0 10 9)<|Zr (xU 92 9 1 11 8) .ret⟩
theorem ad2:Qe Tryz.prog Tryz.f175=some ali:=by kernel_rfl
def ako:ay:=⟨10,[.t 4],Zr (Zo (.box 2 4 77 (.t 0))<|
 YZ 3 77 1<|
 Yi 4 0)<|Zr (cA 5 3 2 3 3<|
 Zq 9 false 157 [.t 6,.t 8,.c (Zz 0)]<|
 Zm 4 9 .nil) .ret⟩
theorem LL:Qe Tryz.prog Tryz.f113=some ako:=by kernel_rfl
def alj:ay:=⟨19,[.cell 4 4 true,.t 5],Zr (Zo (.box 2 4 77 (.t 0))<|
 YZ 3 77 1<|
 Zo (.alloc 4 4 77 (.agg [.bool false,.aa,.aa,.aa]))<|
 Yd 5)<|Zr (eF 7 2 3<|
 eF 9 3 3<|
 Yl 11 93 8 10<|
 Yy 6<|
 Zs 3 6 11 .nil)<|Zr (Zh 12 3 6<|
 Yb 13 3 2<|
 rk 15 12 14<|
 Zh 16 3 6<|
 eu 17 49 16<|
 Zk 18 .neq 17 0<|
 Zs 4 4 15<|
 Yc 5 18) .ret⟩
theorem ad3:Qe Tryz.prog Tryz.f176=some alj:=by kernel_rfl
def alh:ay:=⟨25,[.t 2],Zr (YH 2)<| .seq (Zr (Yo 4 0 .nil)<| .block 0<|Zr (Yu 7 5 0 6)<| .cond (.t 6) (Zr (YH 2) .ret) (Zr (Yu 9 5 1 8)<| .cond (.t 8) (Zr (Zm 10 0<|
 Yw 11 10 0<|
 Zm 2 12 .nil) .ret) .skip))<|Zr (Yo 13 0<|
 Zk 15 .quo 14 2<|
 Zm 3 15 .nil)<|Zr (Yh 16 0 3<|
 Zo (.sl 18 1 (.t 16) none (some (.t 17)) none)<|
 Yh 20 0 3<|
 Zo (.sl 22 1 (.t 20) (some (.t 21)) none none)<|
 Yn 19 174 18<|
 Yn 23 174 22<|
 Yl 24 150 19 23<|
 Yc 2 24) .ret⟩
theorem LM:Qe Tryz.prog Tryz.f174=some alh:=by kernel_rfl
def alg:ay:=⟨12,[.t 4],Zr (YZ 2 53 0<|
 YH 4)<| .seq (Zr (gf 5 3 2 49<|
 ir 7 6 0)<| .cond (.t 7) (Zr (YH 4) .ret) .skip)<|Zr (fL 8 3 2 1<|
 rk 10 8 9<|
 Zo (.bs 11 4 77 [.t 10])<|
 Zm 4 11 .nil) .ret⟩
theorem ad4:Qe Tryz.prog Tryz.f173=some alg:=by kernel_rfl
def c96:ay:=⟨43,[.t 2],Zr (Yd 2)<| .seq (Zr (eZ 5 0)<| .block 0<| .loop<|Zr (Ys 8 7 6)<| .seq (.cond (.t 8) .skip (.exit 0))<| .seq (.block 1<|Zr (Zm 9 7<|
 YN 10 4 5 7<|
 Zo (.alloc 4 4 77 (.agg [.bool false,.aa,.aa,.aa]))<|
 Zm 3 9<|
 Zs 4 4 11 .nil)<|Zr (eF 12 4 3<|
 eu 14 146 13<|
 Zu 15 14<|
 Zm 16 15<|
 Zg 16 false (.bY 17 0 (.t 4))<|
 Zg 16 false (.ld 18 3 true (.t 17))<|
 Zg 16 false (.call (some 19) true (.c (.fn 49 [] [])) [.t 18])<|
 Zg 16 false (.bin 20 .eql false (.t 19) (.c (Zz 0)))<|
 Yf 21 16 20<|
 Yr 22 21 3 4<|
 Zg 22 false (.call (some 25) true (.c (.fn 147 [] [])) [.t 24])<|
 Zg 22 false (.un 26 .not (.t 25))<|
 Yf 27 22 26<|
 rm 28 27 3 0<|
 Zg 28 false (.mv 31 (.t 30))<|
 uf 31 0 3<|
 Zg 31 true (.bin 34 .sub false (.t 33) (.c (Zz 1)))<|
 Zg 31 true (.idx 35 4 (.t 32) (.t 34))<|
 Zg 31 true (.ld 36 4 true (.t 35))<|
 Zg 31 true (.ld 37 4 true (.t 4))<|
 Zg 31 true (.call (some 38) true (.c (.fn 113 [] [])) [.t 36,.t 37])<|
 Zg 31 true (.bin 39 .leq false (.t 38) (.c (Zz 0)))<|
 Zg 28 false (.pick 40 (.t 31) (.t 39) (.c (.bool false)))<|
 dm 41 28 40)<| .cond (.t 41) (Zr (Yd 2) .ret) .skip)<| .rg (Yz 42 7 7))<|Zr (YG 2) .ret⟩
theorem agF:Qe Tryz.prog Tryz.f96=some c96:=by kernel_rfl
def akR:ay:=⟨7,[.t 2],Zr (Zo (.box 1 3 53 (.t 0))<|
 YH 2)<|Zr (Zh 3 3 1<|
 Zq 4 true 90 [.c (Zz 0)]<|
 Yp 5 93 3 4<|
 Zq 6 true 173 [.t 5,.c .aa]<|
 Zm 2 6 .nil) .ret⟩
theorem aeF:Qe Tryz.prog Tryz.f148=some akR:=by kernel_rfl
def c28:ay:=⟨9,[.t 4],Zr (Yd 4)<|Zr (YX 5 0 1 62<|
 Yu 8 7 0 4) .ret⟩
theorem agG:Qe Tryz.prog Tryz.f28=some c28:=by kernel_rfl
def c62:ay:=⟨10,[.t 4],Zr (Yi 4 0)<|Zr (Zo (.mv 5 (.c (.fn 112 [] []))) .nil)<|Zr (cW 6 0 1 5<|
 Zq 9 false 115 [.t 6,.t 7,.t 8]<|
 Zm 4 9 .nil) .ret⟩
theorem agH:Qe Tryz.prog Tryz.f62=some c62:=by kernel_rfl
def akn:ay:=⟨17,[.t 4],Zr (Zo (.box 2 4 77 (.t 0))<|
 YZ 3 77 1<|
 Yi 4 0)<| .seq (Zr (Zh 6 4 2<|
 Zh 7 4 3<|
 Yl 8 113 6 7<|
 Zm 5 8 .nil)<|Zr (YT 9 5)<| .cond (.t 10) (Zr (Zm 11 5<|
 Zm 4 11 .nil) .ret) .skip)<|Zr (eF 12 2 3<|
 eF 14 3 3<|
 Yl 16 114 13 15<|
 Zm 4 16 .nil) .ret⟩
theorem aeG:Qe Tryz.prog Tryz.f112=some akn:=by kernel_rfl
def akU:ay:=⟨8,[.t 4],Zr (YH 4)<|Zr (Yh 5 0 1<|
 Zq 7 false 175 [.t 5,.t 6,.c (.fn 113 [] []),.c (.fn 176 [] [])]<|
 Zm 4 7 .nil) .ret⟩
theorem aeH:Qe Tryz.prog Tryz.f150=some akU:=by kernel_rfl
def c63:ay:=⟨38,[.t 4],Zr (YZ 3 77 1<|
 YH 4)<|Zr (Yo 9 0<|
 Zo (.mk 11 4 80 77 (.agg [.bool false,.aa,.aa,.aa]) (.c (Zz 0)) (.t 10))<|
 Zm 5 11 .nil)<| .seq (Zr (eZ 12 0)<| .block 0<| .loop<|Zr (Ys 15 14 13)<| .seq (.cond (.t 15) .skip (.exit 0))<| .seq (.block 1<|Zr (YN 16 4 12 14<|
 qa 7<|
 Zs 4 7 17 .nil)<|Zr (eF 18 7 3<|
 eF 20 3 3<|
 Yl 22 91 19 21<|
 Yy 8<|
 Zs 3 8 22 .nil)<|Zr (gf 23 3 8 49<|
 Zk 25 .neq 24 0 .nil)<| .cond (.t 25) (.rg (Zm 26 5<|
 Zh 27 3 8<|
 cA 28 3 7 3 3<|
 Yp 32 116 29 31<|
 rk 33 27 32<|
 YB 34 4 77 33 80 26<|
 Yc 5 35)) .skip)<| .rg (Yz 36 14 14))<|Zr (dh 37 5 4) .ret⟩
theorem agI:Qe Tryz.prog Tryz.f63=some c63:=by kernel_rfl
def akS:ay:=⟨33,[.t 4],Zr (YH 4)<| .seq (Zr (iO 8<|
 Zb 12 .gtr 9 11 .nil)<| .cond (.t 12) (.rg (Yh 13 1 0<|
 Zm 0 13<|
 Yc 1 14)) .skip)<|Zr (Yo 15 0<|
 Zo (.mk 17 1 24 43 .aa (.c (Zz 0)) (.t 16))<|
 Zm 5 17 .nil)<| .seq (Zr (eZ 18 0)<| .block 0<| .loop<|Zr (Ys 21 20 19)<| .seq (.cond (.t 21) .skip (.exit 0))<| .seq (.block 1<|Zr (YN 22 4 18 20<|
 qa 7<|
 Zs 4 7 23 .nil)<| .rg (Yh 24 5 1<|
 Zh 26 4 7<|
 Yl 27 63 25 26<|
 YB 28 1 43 27 24 24<|
 Yc 5 29))<| .rg (YC 30 20 20))<|Zr (YK 31 5 174<|
 Yc 4 32) .ret⟩
theorem aeI:Qe Tryz.prog Tryz.f149=some akS:=by kernel_rfl
def c29:ay:=⟨12,[.t 4],Zr (fJ 3 53 1<|
 YH 4)<| .seq (Zr (gf 5 3 3 49<|
 ir 7 6 0)<| .cond (.t 7) (Zr (YH 4) .ret) .skip)<|Zr (Zm 8 0<|
 Zh 9 3 3<|
 Zo (.ej 10 [.bool false,.aa,.aa,.aa] [(0,3,.t 9)])<|
 Yl 11 63 8 10<|
 Zm 4 11 .nil) .ret⟩
theorem agJ:Qe Tryz.prog Tryz.f29=some c29:=by kernel_rfl
def c50:ay:=⟨19,[.t 2],Zr (Yi 2 0)<|Zr (jS 3)<| .seq (Zr (eZ 6 0)<| .block 0<| .loop<|Zr (Ys 9 8 7)<| .seq (.cond (.t 9) .skip (.exit 0))<| .seq (.block 1<|Zr (YN 10 4 6 8<|
 qa 5<|
 Zs 4 5 11 .nil)<| .rg (Zm 12 3<|
 Yb 13 3 5<|
 Yn 15 95 14<|
 Zo (.mx 16 (.t 12) (.t 15))<|
 Yc 3 16))<| .rg (YC 17 8 8))<|Zr (dh 18 3 2) .ret⟩
theorem agK:Qe Tryz.prog Tryz.f50=some c50:=by kernel_rfl
def c92:ay:=⟨23,[.cell 4 3 true],Zr (YZ 2 53 0<|
 Yy 4 .nil)<|Zr (Zq 6 false 90 [.c (Zz 1)]<|
 Yy 5<|
 Zs 3 5 6 .nil)<| .seq (.block 0<| .loop<| .seq (Zr (Zm 7 1<|
 fu 8 7 0)<| .cond (.t 8) .skip (.exit 0))<| .seq (.block 1<| .seq (Zr (Zm 11 1<|
 Zk 12 .rem 11 2<|
 ir 13 12 1)<| .cond (.t 13) (.rg (Zh 14 3 5<|
 Zh 15 3 2<|
 Yl 16 91 14 15<|
 Zs 3 5 16 .nil)) .skip)<|Zr (Zm 17 1<|
 fu 18 17 1)<| .cond (.t 18) (.rg (Zh 19 3 2<|
 Zh 20 3 2<|
 Yl 21 91 19 20<|
 Zs 3 2 21 .nil)) .skip)<| .rg (Zm 9 1<|
 Zk 10 .quo 9 2<|
 Zm 1 10 .nil))<|Zr (Zh 22 3 5<|
 Zs 3 4 22 .nil) .ret⟩
theorem agL:Qe Tryz.prog Tryz.f92=some c92:=by kernel_rfl
def c48:ay:=⟨61,[.cell 4 3 true,.t 5],Zr (Yy 4<|
 Yi 5 0)<| .seq (Zr (eZ 14 0)<| .block 0<| .loop<|Zr (Ys 17 16 15)<| .seq (.cond (.t 17) .skip (.exit 0))<| .seq (.block 1<|Zr (YN 18 4 14 16<|
 qa 7<|
 Zs 4 7 19 .nil)<|Zr (Yb 20 3 7<|
 Yn 22 89 21<|
 Yo 23 1<|
 Zb 25 .geq 22 24 .nil)<| .cond (.t 25) (Zr (Zo (.ej 26 [.bool false,.aa,.aa] [])<|
 Zs 3 4 26<|
 Yi 5 2) .ret) .skip)<| .rg (YC 27 16 16))<|Zr (Zq 28 false 90 [.c (Zz 0)]<|
 Yy 8<|
 Zs 3 8 28 .nil)<| .seq (Zr (eZ 29 0)<| .block 2<| .loop<|Zr (Ys 32 31 30)<| .seq (.cond (.t 32) .skip (.exit 2))<| .seq (.block 3<|Zr (YN 33 4 29 31<|
 qa 10<|
 Zs 4 10 34 .nil)<|Zr (eF 35 10 3<|
 Yy 11<|
 Zs 3 11 36 .nil)<| .seq (Zr (YP 37 3 10<|
 Yi 40 0)<| .block 4<| .loop<|Zr (Ys 41 40 39)<| .seq (.cond (.t 41) .skip (.exit 4))<| .seq (.block 5<|Zr (n8 42 40 38 12 13)<|Zr (Zm 45 13<|
 fu 46 45 0)<| .cond (.t 46) (.rg (Zh 47 3 11<|
 Yh 48 1 12<|
 YN 50 3 48 49<|
 Zm 52 13<|
 eG 53 92 51 52 91 47<|
 Zs 3 11 54 .nil)) .skip)<| .rg (Yz 55 40 40))<| .rg (Zh 56 3 8<|
 Zh 57 3 11<|
 Yl 58 93 56 57<|
 Zs 3 8 58 .nil))<| .rg (Yz 59 31 31))<|Zr (Zh 60 3 8<|
 Zs 3 4 60<|
 Yi 5 0) .ret⟩
theorem ahm:Qe Tryz.prog Tryz.f48=some c48:=by kernel_rfl
def akq:ay:=⟨39,[.t 6],Zr (Yi 6 0)<| .seq (Zr (eZ 11 0)<| .block 0<| .loop<|Zr (Ys 14 13 12)<| .seq (.cond (.t 14) .skip (.exit 0))<| .seq (.block 1<|Zr (Zm 15 13<|
 YN 16 4 11 13<|
 qa 8<|
 Zm 7 15<|
 Zs 4 8 17 .nil)<| .seq (Zr (Yh 18 7 1<|
 Zn 20 19<|
 Zb 21 .geq 18 20 .nil)<| .cond (.t 21) (Zr (Yi 6 1) .ret) .skip)<|Zr (Yh 22 1 7<|
 YN 24 4 22 23<|
 qa 9<|
 Zs 4 9 25 .nil)<|Zr (Zm 26 2<|
 Zh 27 4 8<|
 Zh 28 4 9<|
 Zo (.call (some 29) false (.t 26) [.t 27,.t 28])<|
 Yc 10 29)<|Zr (YT 30 10)<| .cond (.t 31) (Zr (dh 32 10 6) .ret) .skip)<| .rg (Yz 33 13 13))<| .seq (Zr (iO 34<|
 Ys 38 35 37)<| .cond (.t 38) (Zr (jS 6) .ret) .skip)<|Zr (Yi 6 0) .ret⟩
theorem aeJ:Qe Tryz.prog Tryz.f115=some akq:=by kernel_rfl
theorem Nj{a b:Rat}{k:Nat}(ha:rs a<=k)(hb:rs b<=k)(hk:k<2^36):Qd Tryz.prog 93 [PV.rat a,PV.rat b] (· =PV.rat (a+b)):=by
 have:=PG (ic ha) (ic hb) hk
 rwa[gM,gM]at this
theorem Ar{a b:Rat}{k:Nat}(ha:rs a<=k)(hb:rs b<=k)(hk:k<2^36):Qd Tryz.prog 91 [PV.rat a,PV.rat b] (· =PV.rat (a*b)):=by
 have:=ZA (ic ha) (ic hb) hk
 rwa[gM,gM]at this
theorem ai5{a b:Rat}{k:Nat}(ha:rs a<=k)(hb:rs b<=k)(hk:k<2^36):Qd Tryz.prog 114 [PV.rat a,PV.rat b] (· = .int .i64 (nZ a b)):=by
 have:=ZB (ic ha) (ic hb) hk
 rwa[gM,gM]at this
theorem Ac{a:Rat}(ha:rs a<2^36):Qd Tryz.prog 49 [PV.rat a] (· = .int .i64 (fX a)):=by
 have:=CR (ic (Kae (rs a))) ha
 rwa[gM]at this
theorem OP{s t:Tm}{E:Nat}(hs:MB E s.2)(ht:MB E t.2)(hE:E<=2^38):Qd Tryz.prog 113 [PV.term s,PV.term t] (· = .int .i64 (aX s.2 t.2)):=by refine aB Qh Tryz.func113 LL fun C hP=>?_;refine Sz0 ?_;refine Qa hP (Pg (o:=0) hs ht (by omega)) rfl rfl rfl ?_;refine Sz0 ?_;exact Qc (by rw[Ea]) rfl
theorem Up{s t:Tm}{k:Nat}(hs:rs s.1<=k)(ht:rs t.1<=k)(hk:k<2^34):Qd Tryz.prog 176 [PV.term s,PV.term t] (· = .aI [PV.term (s.1+t.1,s.2),.bool (decide (¬s.1+t.1=0))]):=by have hr:=vh s.1 t.1;refine aB Qh Tryz.func176 ad3 fun C hP=>?_;refine Sz0 ?_;refine Qa hP (Nj (a:=s.1) (b:=t.1) hs ht (by omega)) rfl rfl rfl ?_;refine Sz0 ?_;refine Qa hP (Ac (a:=s.1+t.1) (by omega)) rfl rfl rfl ?_;refine Sz0 ?_;refine fp ?_;refine Sz0 ?_;exact cG rfl rfl rfl (Qf _) (tF (congrArg PV.bool (decide_eq_decide.2 (not_congr gq))))
theorem Qz9{c:Rat}{m:List Int}(hc:rs c<2^36):Qd Tryz.prog 173 [PV.rat c,PV.mono m] (· =PV.ao (if c=0 then []else [(c,m)])):=by
 refine aB Qh Tryz.func173 ad4 fun C hP=>?_;refine Sz0 ?_;refine Qa hP (Ac (a:=c) hc) rfl rfl rfl ?_;refine Sz0 ?_;refine Qb (fun h0=>?_) (fun h0=>?_)
 ·rw[if_pos (gq.1 h0)];refine Sz0 ?_;exact oL mQ rfl
 ·rw[if_neg (fun h=>h0 (gq.2 h))];refine bp ?_;exact Qc rfl rfl
theorem Uq{p q:List Tm}{K E:Nat}(hp:PB K E p)(hq:PB K E q)(hK:K<=2^33)(hE:E<=2^38)(gm:p.length<=2^36)(mo:q.length<=2^36):
  Qd Tryz.prog 175 [PV.ao p,PV.ao q,.fn 113 [] [],.fn 176 [] []] (· =PV.ao (Qq p q)):=by
 refine aB Qh Tryz.func175 ad2 fun C hP=>?_;refine Sz0 ?_;refine Ql ep [(9,14),(21,86)] [13,20,57,58,71,72,83,84] (fun n J hp=>∃i k out,n=(p.length-i)+(q.length-k)/\i<=p.length/\k<=q.length/\out.length<=i+k/\out++Qq (p.drop i) (q.drop k)=Qq p q/\
  J 9= .ms 20 out.length/\J 10= .int .i64 (i:Nat)/\J 11= .int .i64 (k:Nat)/\hp 20=some ⟨4,77,out.map PV.term,false⟩) (p.length+q.length) ?_ ?_
 ·refine⟨0,0,[],by omega,by omega,by omega,by simp,rfl,?_⟩;refine Sz0 ?_;simp
 rintro _ J h ⟨i,k,out,rfl,hi,hk,fw,dP,h9,bh,de,hh⟩;refine Sz3 h9 bh de ?_;refine Q5 (fun hg=>?_) (fun hg=>?_)
 ·have az:i<p.length:=by omega
  refine Sz3 h9 bh de ?_;refine Qb (fun dX=>?_) (fun dX=>?_)
  ·have cI:k<q.length:=by omega
   have cO:=hp.get az;have ox:=hq.get cI;rw[P7 az cI]at dP;have c1:=cO.c;have c2:=ox.c;generalize hx:p[i]=x at *
   generalize hy:q[k]=y at *
   refine Sz5 h9 bh de hx hy ?_;refine Qa hP (OP (s:=x) (t:=y) cO.m ox.m hE) rfl rfl rfl ?_;refine Sz5 h9 bh de hx hy ?_;refine Qb (fun hc=>?_) (fun hc=>?_)
   ·rw[if_pos hc]at dP;refine Sz5 h9 bh de hx hy ?_;rw[Q3 (f:=PV.term) (y:=x) (xs:=out) (ty':=77) (fz:=false) (Tz1 hh) bc (by omega) rfl (by omega) (by omega)];refine Sz5 h9 bh de hx hy ?_;refine Qg ((p.length-(i+1))+(q.length-k)) (by omega) ⟨i+1,k,out++[x],rfl,by omega,hk,by simp;omega,by simpa using dP,?_⟩;refine Sz3 h9 bh de ?_;simp
   rw[if_neg hc]at dP;refine Sz5 h9 bh de hx hy ?_;refine Qb (fun eR=>?_) (fun eR=>?_)
   ·rw[if_pos eR]at dP;refine Sz5 h9 bh de hx hy ?_;rw[Q3 (f:=PV.term) (y:=y) (xs:=out) (ty':=77) (fz:=false) (Tz1 hh) bc (by omega) rfl (by omega) (by omega)];refine Sz5 h9 bh de hx hy ?_;refine Qg ((p.length-i)+(q.length-(k+1))) (by omega) ⟨i,k+1,out++[y],rfl,hi,by omega,by simp;omega,by simpa using dP,?_⟩;refine Sz3 h9 bh de ?_;simp
   rw[if_neg eR]at dP;refine Sz5 h9 bh de hx hy ?_;refine dI ?_ ?_
   all_goals
    refine Sz5 h9 bh de hx hy ?_;refine Qa hP (Up (s:=x) (t:=y) (k:=2^33) (by omega) (by omega) (by omega)) rfl rfl rfl ?_;refine Sz5 h9 bh de hx hy ?_;refine Qb (fun hz=>?_) (fun hz=>?_)
    ·rw[if_neg hz]at dP;refine Sz5 h9 bh de hx hy ?_;rw[Q3 (f:=PV.term) (y:=(x.1+y.1,x.2)) (xs:=out) (ty':=77) (fz:=false) (Tz1 hh) bc (by omega) rfl (by omega) (by omega)];refine Sz5 h9 bh de hx hy ?_;refine Qg ((p.length-(i+1))+(q.length-(k+1))) (by omega) ⟨i+1,k+1,out++[(x.1+y.1,x.2)],rfl,by omega,by omega,by simp;omega,by simpa using dP,?_⟩;refine Sz3 h9 bh de ?_;simp
    ·rw[if_pos (Decidable.not_not.1 hz)]at dP;refine Sz5 h9 bh de hx hy ?_;refine Qg ((p.length-(i+1))+(q.length-(k+1))) (by omega) ⟨i+1,k+1,out,rfl,by omega,by omega,by omega,dP,?_⟩;exact Tz4 h9 bh de hh
  ·have dW:(out++p.drop i++q.drop k).take (out.length+(p.drop i).length+(q.drop k).length)=Qq p q:=by rw[Kai (by simp;omega),<-dP,Kal (by omega:q.length<=k),kX,Kar]
   refine Sz3 h9 bh de ?_;rw[jG (f:=PV.term) (xs:=out) (ys:=p.drop i) (Tz1 hh) rfl (by omega) (by simp;omega) (by simp;omega)];refine Sz3 h9 bh de ?_;rw[jG (f:=PV.term) (xs:=out++p.drop i) (ys:=q.drop k) Tz0 (by simp) (by omega) (by simp;omega) (by simp;omega)];refine Eh h9 bh de ?_;exact Qc (by rw[<-List.map_take,dW]) rfl
 ·have dW:(out++p.drop i++q.drop k).take (out.length+(p.drop i).length+(q.drop k).length)=Qq p q:=by rw[Kai (by simp;omega),<-dP,Kal (by omega:p.length<=i),qO,Kar]
  refine Sz3 h9 bh de ?_;rw[jG (f:=PV.term) (xs:=out) (ys:=p.drop i) (Tz1 hh) rfl (by omega) (by simp;omega) (by simp;omega)];refine Sz3 h9 bh de ?_;rw[jG (f:=PV.term) (xs:=out++p.drop i) (ys:=q.drop k) Tz0 (by simp) (by omega) (by simp;omega) (by simp;omega)];refine Eh h9 bh de ?_;exact Qc (by rw[<-List.map_take,dW]) rfl
theorem OQ{p q:List Tm}{K E:Nat}(hp:PB K E p)(hq:PB K E q)(hK:K<=2^33)(hE:E<=2^38)(gm:p.length<=2^36)(mo:q.length<=2^36):
  Qd Tryz.prog 150 [PV.ao p,PV.ao q] (· =PV.ao (Qq p q)):=by
 refine aB Qh Tryz.func150 aeH fun C hP=>?_;refine Sz0 ?_;refine Qa hP (Uq hp hq hK hE gm mo) rfl rfl rfl ?_;refine Sz0 ?_;exact Qc rfl rfl
theorem OR{K E:Nat}(hE:E<=2^38):∀(n:Nat)(l:List (List Tm)),l.length<=n->(∀p∈l,PB K E p)->l.length*K<=2^33->l.length<=2^36->sI l<=2^36->Qd Tryz.prog 174 [PV.dp l] (· =PV.ao (cy l)):=by
 intro n;induction n with
 |zero=>intro l hl _ _ _ _;have:l=[]:=Kat.1 (by omega);subst this;refine aB Qh Tryz.func174 LM fun C hP=>?_;simp+decide (disch:=first|omega|rfl|(simp+decide only[go_sem,Kby,Kbn]<;>rfl)|fail) only[go_sem,Kby,Kbn];exact oL (Hl (by rw[cy])) rfl
 | succ n ih=>
  intro l hl hb hK jW cQ;refine aB Qh Tryz.func174 LM fun C hP=>?_;refine Sz0 ?_;refine Qb (fun h0=>?_) (fun h0=>?_)
  ·have:l=[]:=Kat.1 (by omega);subst this;refine Sz0 ?_;exact oL (Hl (by rw[cy])) rfl
  refine Sz0 ?_;refine Qb (fun h1=>?_) (fun h1=>?_)
  ·obtain⟨p,rfl⟩:∃p,l=[p]:=Kcr.1 (by omega);simp+decide (disch:=first|omega|rfl|(simp+decide only[go_sem,Kbk,Kby]<;>rfl)|fail) only[go_sem,Kbk,Kby];exact Qc (by rw[cy];rfl) rfl
  have h2:2<=l.length:=by omega
  have hs:=O4 l (l.length/2);have e:(2:Int)=((2:Nat):Int):=rfl;have hq:∀d fr hp K,bQ .quo false (.int .i64 (l.length:Int)) (.int .i64 2) d fr hp K=K (ab fr d (.int .i64 ((l.length/2:Nat):Int))) hp:=fun d fr hp K=>by rw[e,DF (by omega) (by omega)]
  have b1:=Ha (K:=K) (E:=E) _ (l.take (l.length/2)) (Kae _) (fun p hp=>hb p (Ka4 hp));have b2:=Ha (K:=K) (E:=E) _ (l.drop (l.length/2)) (Kae _) (fun p hp=>hb p (Kbt hp));have l1:(l.take (l.length/2)).length*K<=l.length*K:=Kam _ (by rw[Kay];omega);have l2:(l.drop (l.length/2)).length*K<=l.length*K:=Kam _ (by rw[KaY];omega);refine Sz1 hq ?_;refine Qa hP (ih (l.take (l.length/2)) (by rw[Kay];omega) (fun p hp=>hb p (Ka4 hp)) (by omega) (by rw[Kay];omega) (by omega)) rfl rfl rfl ?_;refine Sz1 hq ?_;refine Qa hP (ih (l.drop (l.length/2)) (by rw[KaY];omega) (fun p hp=>hb p (Kbt hp)) (by omega) (by rw[KaY];omega) (by omega)) rfl rfl rfl ?_;refine Sz1 hq ?_;refine Qa hP (OQ (b1.1.mono (K':=l.length*K) l1 (Kae _)) (b2.1.mono l2 (Kae _)) hK hE (by omega) (by omega)) rfl rfl rfl ?_;refine Sz0 ?_;exact Qc (by rw[zw h2]) rfl
theorem GU{p:List Tm}{t:Tm}{i:Nat}(h:i<p.length):Qw (p.take (i+1)) t=Qw (p.take i) t++(if p[i].1*t.1=0 then []else [(p[i].1*t.1,dk p[i].2 t.2)]):=by rw[Kao h,Qw,List.filterMap_append,Qw];congr 1;simp only[KcD,List.filterMap_nil];split<;>split<;>simp_all
theorem GF{p:List Tm}{t:Tm}{K E:Nat}(hp:PB K E p)(ht:TB K E t)(hK:K<=2^33)(hE:E<=2^38)(gm:p.length<=2^36):
  Qd Tryz.prog 63 [PV.ao p,PV.term t] (· =PV.ao (Qw p t)):=by
 refine aB Qh Tryz.func63 agI fun C hP=>?_;refine Sz0 ?_;refine Ql ep [(5,5),(7,8),(14,36)] [7,8,11,34,35] (fun n J hp=>∃i,n=p.length-i/\i<=p.length/\J 5= .ms 11 (Qw (p.take i) t).length/\J 14= .int .i64 (i:Nat)/\hp 3=some ⟨4,77,[PV.term t],false⟩/\hp 11=some ⟨4,77,(Qw (p.take i) t).map PV.term,false⟩) p.length ?_ ?_
 ·refine⟨0,rfl,by omega,?_⟩;refine Sz0 ?_;simp[Qw]
 rintro _ J h ⟨i,rfl,hi,h5,gh,bD,ER⟩;refine Sz2 h5 gh ?_;refine Qb (fun hg=>?_) (fun hg=>?_)
 ·have az:i<p.length:=by omega
  have cO:=hp.get az;have bO:=GU (t:=t) az;have hlen:=uY (p.take i) t;rw[Kay]at hlen;have c1:=cO.c;have c2:=ht.c;have hrm:=vj p[i].1 t.1;generalize hx:p[i]=x at *
  refine Sz4 h5 gh bD hx ?_;refine Qa hP (Ar (a:=x.1) (b:=t.1) (k:=2^33) (by omega) (by omega) (by omega)) rfl rfl rfl ?_;refine Sz4 h5 gh bD hx ?_;refine Qa hP (Ac (a:=x.1*t.1) (by omega)) rfl rfl rfl ?_;refine Sz4 h5 gh bD hx ?_;refine Qb (fun hz=>?_) (fun hz=>?_)
  ·rw[if_neg (fun h=>hz (gq.2 h))]at bO;refine Sz4 h5 gh bD hx ?_;refine Qa hP (WM cO.m ht.m (by omega)) rfl rfl rfl ?_;refine Sz4 h5 gh bD hx ?_;rw[Q3 (f:=PV.term) (y:=(x.1*t.1,dk x.2 t.2)) (xs:=Qw (p.take i) t) (ty':=77) (fz:=false) (Tz1 ER) bc (by omega) rfl (by omega) (by omega)];rw[<-bO];refine Sz4 h5 gh bD hx ?_;refine Qg (p.length-(i+1)) (by omega) ⟨i+1,rfl,by omega,?_⟩;rw[bO];simp+decide (disch:=first|omega|rfl|(simp+decide only[go_sem,h5,gh,bD,Kax]<;>rfl)|fail) only[go_sem,h5,gh,bD,Kax]
  ·rw[if_pos (gq.1 (Decidable.not_not.1 hz)),Kar]at bO;refine Sz4 h5 gh bD hx ?_;refine Qg (p.length-(i+1)) (by omega) ⟨i+1,rfl,by omega,?_⟩;rw[bO];exact Tz4 h5 gh bD ER
 ·obtain rfl:i=p.length:=by omega
  rw[KaT]at h5 ER;refine xT h5 ER ?_;exact Qc (by simp[Kai]) rfl
theorem OS{p q:List Tm}{K E:Nat}(hp:PB K E p)(hq:PB K E q)(hE:E<=2^37)(gm:p.length<=2^30)(mo:q.length<=2^30)(Jw:p.length*q.length<=2^36)(hK:min p.length q.length*(K+K)<=2^33)(AG:K<=2^33):
  Qd Tryz.prog 149 [PV.ao p,PV.ao q] (· =PV.ao (Q8 p q)):=by
 have main:∀(p q:List Tm),PB K E p->PB K E q->p.length<=2^30->q.length<=2^30->p.length*q.length<=2^36->p.length*(K+K)<=2^33->p.length<=q.length->True:=fun _ _ _ _ _ _ _ _ _=>trivial;refine aB Qh Tryz.func149 aeI fun C hP=>?_;refine Sz0 ?_;refine Qb (fun hg=>?_) (fun hg=>?_)
 ·have dW:oV q p=Q8 p q:=by rw[Q8,if_pos (by omega)]
  have hK3:q.length*(K+K)<=2^33:=by rw[KcQ (by omega)]at hK;exact hK
  have aqs:q.length*p.length<=2^36:=by rw[KaX];exact Jw
  refine Sz0 ?_;refine Ql ep [(5,5),(7,7),(20,30)] [7,17,28,29] (fun n J hp=>∃i,n=q.length-i/\i<=q.length/\J 5= .ms 17 i/\J 20= .int .i64 (i:Nat)/\hp 17=some ⟨1,43,((q.take i).map (Qw p)).map PV.ao,false⟩) q.length ?_ ?_
  ·refine⟨0,rfl,by omega,?_⟩;refine Sz0 ?_;simp
  rintro _ J h ⟨i,rfl,hi,h5,qe,hh⟩;refine Sz2 h5 qe ?_;refine Qb (fun dX=>?_) (fun dX=>?_)
  ·have az:i<q.length:=by omega
   have cO:=hq.get az;have bO:(q.take (i+1)).map (Qw p)=(q.take i).map (Qw p)++[Qw p q[i]]:=by rw[Kao az,KbQ];rfl
   generalize hx:q[i]=x at *
   refine Sz3 h5 qe hx ?_;refine Qa hP (GF (t:=x) hp cO AG (by omega) (by omega)) rfl rfl rfl ?_;refine Sz3 h5 qe hx ?_;rw[Q3 (f:=PV.ao) (y:=Qw p x) (xs:=(q.take i).map (Qw p)) (ty':=43) (fz:=false) (Tz1 hh) bc (by omega) (by simp;omega) (by omega) (by omega)];rw[<-bO];refine Sz3 h5 qe hx ?_;refine Qg (q.length-(i+1)) (by omega) ⟨i+1,rfl,by omega,?_⟩;exact Tz2 h5 qe
  ·obtain rfl:i=q.length:=by omega
   rw[KaT]at hh;have cQ:=Gv q p;refine Sz2 h5 hh ?_;refine nM hP (OR (K:=K+K) (E:=E+E) (by omega) _ (q.map (Qw p)) (Kae _) (fun x hx=>by obtain⟨t,ht,rfl⟩:=KaE.1 hx;exact tC hp (hq t ht)) (by rw[KaV];omega) (by rw[KaV];omega) (by omega)) (by simp+decide (disch:=try exact E1 hh) only[go_sem,hh,ia,KaK,KaR,KaN,KaP,Kar];simp[Kai]) rfl ?_;refine Sz0 ?_;exact Qc (congrArg PV.ao dW) rfl
 ·have dW:oV p q=Q8 p q:=by rw[Q8,if_neg (by omega)]
  have hK3:p.length*(K+K)<=2^33:=by rw[KbP (by omega)]at hK;exact hK
  refine Sz0 ?_;refine Ql ep [(5,5),(7,7),(20,30)] [7,17,28,29] (fun n J hp=>∃i,n=p.length-i/\i<=p.length/\J 5= .ms 17 i/\J 20= .int .i64 (i:Nat)/\hp 17=some ⟨1,43,((p.take i).map (Qw q)).map PV.ao,false⟩) p.length ?_ ?_
  ·refine⟨0,rfl,by omega,?_⟩;refine Sz0 ?_;simp
  rintro _ J h ⟨i,rfl,hi,h5,qe,hh⟩;refine Sz2 h5 qe ?_;refine Qb (fun dX=>?_) (fun dX=>?_)
  ·have az:i<p.length:=by omega
   have cO:=hp.get az;have bO:(p.take (i+1)).map (Qw q)=(p.take i).map (Qw q)++[Qw q p[i]]:=by rw[Kao az,KbQ];rfl
   generalize hx:p[i]=x at *
   refine Sz3 h5 qe hx ?_;refine Qa hP (GF (t:=x) hq cO AG (by omega) (by omega)) rfl rfl rfl ?_;refine Sz3 h5 qe hx ?_;rw[Q3 (f:=PV.ao) (y:=Qw q x) (xs:=(p.take i).map (Qw q)) (ty':=43) (fz:=false) (Tz1 hh) bc (by omega) (by simp;omega) (by omega) (by omega)];rw[<-bO];refine Sz3 h5 qe hx ?_;refine Qg (p.length-(i+1)) (by omega) ⟨i+1,rfl,by omega,?_⟩;exact Tz2 h5 qe
  ·obtain rfl:i=p.length:=by omega
   rw[KaT]at hh;have cQ:=Gv p q;refine Sz2 h5 hh ?_;refine nM hP (OR (K:=K+K) (E:=E+E) (by omega) _ (p.map (Qw q)) (Kae _) (fun x hx=>by obtain⟨t,ht,rfl⟩:=KaE.1 hx;exact tC hq (hp t ht)) (by rw[KaV];omega) (by rw[KaV];omega) (by omega)) (by simp+decide (disch:=try exact E1 hh) only[go_sem,hh,ia,KaK,KaR,KaN,KaP,Kar];simp[Kai]) rfl ?_;refine Sz0 ?_;exact Qc (congrArg PV.ao dW) rfl
theorem XW{k l:Nat}{a b:List Int}(ha:MB k a)(hb:MB l b)(h1:a.getLast? ≠some 0)(h2:b.getLast? ≠some 0):kB (· + ·) a b=dk a b:=by
 rw[dk,KV];rw[Kbf,pE];intro h;obtain⟨hl,hv⟩:=Kaf.1 h;rw[<-ik hl,L9 (by simp)]at hv;rw[pE]at hl;have p1:=(ha.eN (max a.length b.length-1)).1;have p2:=(hb.eN (max a.length b.length-1)).1;by_cases hc:b.length<=a.length
 ·apply h1;have e:max a.length b.length-1=a.length-1:=by omega
  rw[e]at hv p1 p2;rw[Kbf,Kag (by omega),<-ik (by omega)];congr 1;omega
 ·apply h2;have e:max a.length b.length-1=b.length-1:=by omega
  rw[e]at hv p1 p2;rw[Kbf,Kag (by omega),<-ik (by omega)];congr 1;omega
theorem Uf{p:List Tm}{t:Tm}{K E:Nat}(hp:PB K E p)(ht:TB K E t)(ot:NZ p)(ht0:t.1≠0)(hK:K<=2^33)(hE:E<=2^38)(gm:p.length<=2^36):
  Qd Tryz.prog 47 [PV.ao p,PV.term t] (· =PV.ao (Qw p t)):=by
 refine aB Qh Tryz.func47 agQ fun C hP=>?_;refine Sz0 ?_;refine oM 5 900 4 77 (by omega) Tz0 ?_;refine Ql okB [(5,32)] [31,32,900] (fun n J hp=>∃i,n=p.length-i/\i<=p.length/\J 5= .ms 900 (Qw (p.take i) t).length/\J 6= .int .i64 (i:Nat)/\hp 3=some ⟨4,77,[PV.term t],false⟩/\hp 900=some ⟨4,77,(Qw (p.take i) t).map PV.term,false⟩) p.length ?_ ?_
 ·refine⟨0,rfl,by omega,?_⟩;refine Sz0 ?_;simp[Qw]
 rintro _ J h ⟨i,rfl,hi,h5,h6,bD,hh⟩;refine Sz2 h5 h6 ?_;refine Qb (fun hg=>?_) (fun hg=>?_)
 ·have az:i<p.length:=by omega
  have cO:=hp.get az;have bO:=GU (t:=t) az;have hlen:=uY (p.take i) t;rw[Kay]at hlen;have c1:=cO.c;have c2:=ht.c;have iB:=ot _ (Kah az);generalize hx:p[i]=x at *
  have hzz:=XW cO.m ht.m cO.l ht.l;rw[if_neg (fun h=>by rcases Rat.mul_eq_zero.1 h with h|h<;>contradiction)]at bO;refine Sz4 h5 h6 bD hx ?_;refine Qa hP (Lt (a:=x.1) (b:=t.1) (k:=2^33) (by omega) (by omega) (by omega)) rfl rfl rfl ?_;refine Sz4 h5 h6 bD hx ?_;refine Qa hP (VB cO.m ht.m (by omega)) rfl rfl rfl ?_;rw[hzz];refine Sz4 h5 h6 bD hx ?_;rw[Q3 (f:=PV.term) (y:=(x.1*t.1,dk x.2 t.2)) (xs:=Qw (p.take i) t) (ty':=77) (fz:=false) (Tz1 hh) bc (by omega) rfl (by omega) (by omega)];rw[<-bO];refine Sz4 h5 h6 bD hx ?_;refine Qg (p.length-(i+1)) (by omega) ⟨i+1,rfl,by omega,?_⟩;rw[bO];simp+decide (disch:=first|omega|rfl|(simp+decide only[go_sem,h5,h6,bD,Kax]<;>rfl)|fail) only[go_sem,h5,h6,bD,Kax]
 ·obtain rfl:i=p.length:=by omega
  rw[KaT]at h5 hh;refine xT h5 hh ?_;exact Qc (by simp[Kai]) rfl
theorem WN{p q:List Tm}{i:Nat}(h:i<q.length):oW p (q.take (i+1))=Qq (oW p (q.take i)) (Qw p q[i]):=by rw[Kao h,oW,Kcz,oW];rfl
theorem Om{K E:Nat}{p:List Tm}(hp:PB K E p):∀(q out:List Tm)(L:Nat),PB K E q->PB L (E+E) out->PB (q.length*(K+K)+L) (E+E) (q.foldl (fun out t=>Qq out (Qw p t)) out)/\(q.foldl (fun out t=>Qq out (Qw p t)) out).length<=q.length*p.length+out.length
 | [],out,L,_,ho=>⟨by simpa using ho,by simp⟩
 |t::q,out,L,hq,ho=>by obtain⟨h1,h2⟩:=Om hp q (Qq out (Qw p t)) (L+(K+K)) (PB.cons.1 hq).2 (DJ _ _ ho (tC hp (PB.cons.1 hq).1));have h3:=GM out (Qw p t);have h4:=uY p t;refine⟨h1.mono (by rw[KaQ,KaD];omega) (Kae _),KaO h2 ?_⟩;rw[KaQ,KaD];omega
theorem abq{K E:Nat}{p q:List Tm}(hp:PB K E p)(hq:PB K E q):PB (q.length*(K+K)) (E+E) (oW p q)/\(oW p q).length<=q.length*p.length:=by have:=Om hp q [] 0 hq (PB.nil _ _);simpa[oW]using this
theorem GV{p q:List Tm}{K E:Nat}(hp:PB K E p)(hq:PB K E q)(hnp:NZ p)(Bh:NZ q)(hE:E<=2^37)(gm:p.length<=2^30)(mo:q.length<=2^30)(Jw:q.length*p.length<=2^36)(hK:q.length*(K+K)+(K+K)<=2^32):
  Qd Tryz.prog 19 [PV.ao p,PV.ao q] (· =PV.ao (oW p q)):=by
 refine aB Qh Tryz.func19 agM fun C hP=>?_;refine Sz0 ?_;refine vf 5 4 Tz0 ?_;refine Ql okB [(5,20)] [] (fun n J hp=>∃i,n=q.length-i/\i<=q.length/\J 5=PV.ao (oW p (q.take i))/\J 6= .int .i64 (i:Nat)) q.length ?_ ?_
 ·refine⟨0,rfl,by omega,?_⟩;refine Sz0 ?_;simp[oW]
 rintro _ J h ⟨i,rfl,hi,h5,h6⟩;refine Sz2 h5 h6 ?_;refine Qb (fun hg=>?_) (fun hg=>?_)
 ·have az:i<q.length:=by omega
  have ox:=hq.get az;have bO:=WN (p:=p) az;have iB:=Bh _ (Kah az);obtain⟨aN,dv⟩:=abq hp (hq.take i);have fN:=tC hp ox;have aq:=uY p q[i];generalize hx:q[i]=x at *
  have e1:(q.take i).length=i:=by rw[Kay];omega
  rw[e1]at aN dv;have e2:i*(K+K)<=q.length*(K+K):=Kam _ hi;have e3:i*p.length<=q.length*p.length:=Kam _ hi;refine Sz3 h5 h6 hx ?_;refine Qa hP (Uf (t:=x) hp ox hnp iB (by omega) (by omega) (by omega)) rfl rfl rfl ?_;refine Sz3 h5 h6 hx ?_;refine Qa hP (CJ (K:=q.length*(K+K)+(K+K)) (E:=E+E) (aN.mono (by omega) (by omega)) (fN.mono (by omega) (by omega)) hK (by omega) (by omega) (by omega)) rfl rfl rfl ?_;refine Sz3 h5 h6 hx ?_;refine Qg (q.length-(i+1)) (by omega) ⟨i+1,rfl,by omega,?_⟩;rw[bO];exact Tz0
 ·obtain rfl:i=q.length:=by omega
  rw[KaT]at h5;refine Sz1 h5 ?_;exact Qc rfl rfl
theorem GC{p:List Tm}{a:Rat}{K E:Nat}(hp:PB K E p)(ot:NZ p)(ha:rs a+1<=K)(hK:K<=2^33)(hE:E<=2^38)(gm:p.length<=2^36):
  Qd Tryz.prog 13 [PV.ao p,PV.rat a] (· =PV.ao (dS p a)):=by
 refine aB Qh Tryz.func13 agO fun C hP=>?_;refine Sz0 ?_;refine oM 5 900 4 77 (by omega) Tz0 ?_;refine Ql okB [(5,33)] [32,33,900] (fun n J hp=>∃i,n=p.length-i/\i<=p.length/\J 5= .ms 900 (Qw (p.take i) (a,[])).length/\J 6= .int .i64 (i:Nat)/\hp 3=some ⟨3,53,[PV.rat a],false⟩/\hp 900=some ⟨4,77,(Qw (p.take i) (a,[])).map PV.term,false⟩) p.length ?_ ?_
 ·refine⟨0,rfl,by omega,?_⟩;refine Sz0 ?_;simp[Qw]
 rintro _ J h ⟨i,rfl,hi,h5,h6,bD,hh⟩;refine Sz2 h5 h6 ?_;refine Q5 (fun hg=>?_) (fun hg=>?_)
 ·have az:i<p.length:=by omega
  have cO:=hp.get az;have bO:=GU (t:=(a,[])) az;have hlen:=uY (p.take i) (a,[]);rw[Kay]at hlen;have c1:=cO.c;have iB:=ot _ (Kah az);generalize hx:p[i]=x at *
  refine Sz4 h5 h6 bD hx ?_;refine Qa hP (Hr (a:=a) (by omega)) rfl rfl rfl ?_;refine Sz4 h5 h6 bD hx ?_;refine Qb (fun hz=>?_) (fun hz=>?_)
  ·rw[if_neg (fun h=>by rcases Rat.mul_eq_zero.1 h with h|h;exact iB h;exact hz (gq.2 h)),Dq cO.l]at bO;refine Sz4 h5 h6 bD hx ?_;refine Qa hP (Lt (a:=x.1) (b:=a) (k:=2^33) (by omega) (by omega) (by omega)) rfl rfl rfl ?_;refine Sz4 h5 h6 bD hx ?_;rw[Q3 (f:=PV.term) (y:=(x.1*a,x.2)) (xs:=Qw (p.take i) (a,[])) (ty':=77) (fz:=false) (Tz1 hh) bc (by omega) rfl (by omega) (by omega)];rw[<-bO];refine Sz4 h5 h6 bD hx ?_;refine Qg (p.length-(i+1)) (by omega) ⟨i+1,rfl,by omega,?_⟩;rw[bO];simp+decide (disch:=first|omega|rfl|(simp+decide only[go_sem,h5,h6,bD,Kax]<;>rfl)|fail) only[go_sem,h5,h6,bD,Kax]
  ·have qh:=gq.1 (Decidable.not_not.1 hz);have e0:∀l:List Tm,Qw l (a,[])=[]:=fun l=>by rw[qh];simp[Qw]
   refine Eh h5 hh bD ?_;refine Qc ?_ rfl;rw[e0,dS,if_pos qh];rfl
 ·obtain rfl:i=p.length:=by omega
  rw[KaT]at h5 hh;refine Eh h5 hh bD ?_;refine Qc ?_ rfl;rw[Kai (by simp),dS];split
  ·rename_i qh;rw[qh];simp[Qw]
  ·rfl
theorem US{p:List Tm}{K E:Nat}(hp:PB K E p)(ot:NZ p)(AG:2<=K)(hK:K<=2^33)(hE:E<=2^38)(gm:p.length<=2^36):Qd Tryz.prog 169 [PV.ao p] (· =PV.ao (tS p)):=by have h1:=BU;refine aB Qh Tryz.func169 aee fun C hP=>?_;refine Sz0 ?_;refine Qa hP (r9 (x:= -1) (by omega) (by omega)) rfl rfl rfl ?_;refine Sz0 ?_;refine Qa hP (GC (a:=((-1:Int):Rat)) hp ot (by have:((-1:Int):Rat)= -1:=rfl;rw[this];omega) hK hE gm) rfl rfl rfl ?_;refine Sz0 ?_;exact Qc rfl rfl
theorem UT{p q:List Tm}{K E:Nat}(hp:PB K E p)(hq:PB K E q)(ot:NZ q)(AG:2<=K)(hK:K<=2^31)(hE:E<=2^38)(gm:p.length<=2^36)(mo:q.length<=2^36):Qd Tryz.prog 137 [PV.ao p,PV.ao q] (· =PV.ao (bK p q)):=by have hl:=NJ q (-1);refine aB Qh Tryz.func137 aef fun C hP=>?_;refine Sz0 ?_;refine Qa hP (US hq ot AG (by omega) hE mo) rfl rfl rfl ?_;refine Sz0 ?_;refine Qa hP (CJ (hp.mono (K':=K+2) (by omega) (Kae _)) (ade hq) (by omega) hE gm (by show(dS q (-1)).length<=_;omega)) rfl rfl rfl ?_;refine Sz0 ?_;exact Qc rfl rfl
theorem Ur{p:List Tm}{a:Rat}{K E:Nat}(hp:PB K E p)(ha:rs a+1<=K)(hK:K<=2^33)(hE:E<=2^38)(gm:p.length<=2^36):Qd Tryz.prog 29 [PV.ao p,PV.rat a] (· =PV.ao (dS p a)):=by
 refine aB Qh Tryz.func29 agJ fun C hP=>?_;refine Sz0 ?_;refine Qa hP (Ac (a:=a) (by omega)) rfl rfl rfl ?_;refine Sz0 ?_;refine Qb (fun h0=>?_) (fun h0=>?_)
 ·refine Sz0 ?_;exact oL (Hl (by rw[dS,if_pos (gq.1 h0)])) rfl
 ·refine Sz0 ?_;refine Qa hP ((GF (t:=(a,[])) hp (TB.num ha) hK hE gm).le (args':=[PV.ao p,.agg [.bool (decide (a.num<0)),PV.num a.num.natAbs,PV.num a.den,.aa]]) ⟨Qf _,⟨rfl,zC _,zC _,trivial,trivial⟩,trivial⟩) rfl rfl rfl ?_;refine Sz0 ?_;exact Qc (by rw[dS,if_neg (fun h=>h0 (gq.2 h))]) rfl
theorem WO{n:Bool}{a d:List Nat}{k:Nat}(hp:Raw k n a d)(hk:k<2^36):Qd Tryz.prog 93 [PV.rr n a d,PV.rat ((0:Int):Rat)] (· =PV.rat (rv n a d)):=by
 have h0:rs ((0:Int):Rat)<=k:=by have:=Ks;have:=hp.k1;have e:((0:Int):Rat)=0:=rfl;rw[e];omega
 have:=PG hp (ic h0) hk;rw[gM]at this;have e:rv n a d+((0:Int):Rat)=rv n a d:=Rat.add_zero _
 rwa[e]at this
theorem Us{n:Bool}{a d:List Nat}{k:Nat}(hp:Raw k n a d)(hk:k<2^36):Qd Tryz.prog 148 [PV.rr n a d] (· =PV.ao (cD (rv n a d))):=by have hr:=hp.rs;refine aB Qh Tryz.func148 aeF fun C hP=>?_;refine Sz0 ?_;refine Qa hP (C6 (x:=0) (by omega) (by omega)) rfl rfl rfl ?_;refine Sz0 ?_;refine Qa hP (WO hp hk) rfl rfl rfl ?_;refine Sz0 ?_;refine Qa hP ((Qz9 (c:=rv n a d) (m:=[]) (by omega)).le (args':=[PV.rat (rv n a d),.aa]) ⟨Qf _,trivial,trivial⟩) rfl rfl rfl ?_;refine Sz0 ?_;exact Qc rfl rfl
theorem UU{s t:Tm}{K E:Nat}(hs:TB K E s)(ht:TB K E t)(hK:K<=2^33)(hE:E<=2^38):Qd Tryz.prog 112 [PV.term s,PV.term t] (· = .int .i64 (mW s t)):=by
 have c1:=hs.c;have c2:=ht.c;refine aB Qh Tryz.func112 aeG fun C hP=>?_;refine Sz0 ?_;refine Qa hP (OP (s:=s) (t:=t) hs.m ht.m hE) rfl rfl rfl ?_;refine Sz0 ?_;refine Qb (fun h=>?_) (fun h=>?_)
 ·refine Sz0 ?_;exact Qc (by rw[mW,if_pos h]) rfl
 ·refine Sz0 ?_;refine Qa hP (ai5 (a:=s.1) (b:=t.1) (k:=2^33) (by omega) (by omega) (by omega)) rfl rfl rfl ?_;refine Sz0 ?_;exact Qc (by rw[mW,if_neg h]) rfl
theorem Qrm{p q:List Tm}{K E:Nat}(hp:PB K E p)(hq:PB K E q)(hK:K<=2^33)(hE:E<=2^38)(gm:p.length<=2^36)(mo:q.length<=2^36):
  Qd Tryz.prog 115 [PV.ao p,PV.ao q,.fn 112 [] []] (· = .int .i64 (iM p q)):=by
 refine aB Qh Tryz.func115 aeJ fun C hP=>?_;refine Sz0 ?_;refine Ql ep [(6,10),(13,33)] [8,9] (fun n J hp=>∃i,n=p.length-i/\i<=p.length/\(i<=q.length)/\iM (p.drop i) (q.drop i)=iM p q/\J 13= .int .i64 (i:Nat)) p.length ?_ ?_
 ·refine⟨0,rfl,by omega,by omega,rfl,?_⟩;refine Sz0 ?_;rfl
 rintro _ J h ⟨i,rfl,hi,lC,fC,e7⟩;refine Sz1 e7 ?_;refine Qb (fun hg=>?_) (fun hg=>?_)
 ·have az:i<p.length:=by omega
  have cO:=hp.get az;have hdp:p.drop i=p[i]::p.drop (i+1):=Kau az;have JL:=fun hk=>P9 (q:=q) az hk;generalize hx:p[i]=x at *
  refine Sz2 e7 hx ?_;refine Qb (fun hk=>?_) (fun hk=>?_)
  ·rw[hdp,Kal (show q.length<=i by omega),iM]at fC;refine Sz0 ?_;exact Qc (by rw[fC]) rfl
  ·have cI:i<q.length:=by omega
   have ox:=hq.get cI;have JL:=JL cI;generalize hy:q[i]=y at *
   rw[JL]at fC;refine Sz3 e7 hx hy ?_;refine Qa hP (UU (s:=x) (t:=y) cO ox hK hE) rfl rfl rfl ?_;refine Sz3 e7 hx hy ?_;refine Qb (fun hc=>?_) (fun hc=>?_)
   ·rw[if_pos hc]at fC;refine Sz0 ?_;exact Qc (by rw[fC]) rfl
   ·rw[if_neg hc]at fC;refine Sz1 e7 ?_;refine Qg (p.length-(i+1)) (by omega) ⟨i+1,rfl,by omega,by omega,fC,?_⟩;exact Tz0
 ·obtain rfl:i=p.length:=by omega
  rw[Kal (Kae _),zH]at fC;refine Sz0 ?_;refine Qb (fun hk=>?_) (fun hk=>?_)
  ·rw[if_neg (by rw[KaY];omega)]at fC;refine Sz0 ?_;exact Qc (by rw[fC]) rfl
  ·rw[if_pos (by rw[KaY];omega)]at fC;refine Sz0 ?_;exact Qc (by rw[fC]) rfl
theorem WR{p q:List Tm}{K E:Nat}(hp:PB K E p)(hq:PB K E q)(hK:K<=2^33)(hE:E<=2^38)(gm:p.length<=2^36)(mo:q.length<=2^36):Qd Tryz.prog 62 [PV.ao p,PV.ao q] (· = .int .i64 (iM p q)):=by refine aB Qh Tryz.func62 agH fun C hP=>?_;refine Sz0 ?_;refine Qa hP (Qrm hp hq hK hE gm mo) rfl rfl rfl ?_;refine Sz0 ?_;exact Qc rfl rfl
theorem GG{p q:List Tm}{K E:Nat}(hp:PB K E p)(hq:PB K E q)(hK:K<=2^33)(hE:E<=2^38)(gm:p.length<=2^36)(mo:q.length<=2^36):Qd Tryz.prog 28 [PV.ao p,PV.ao q] (· = .bool (decide (p=q))):=by refine aB Qh Tryz.func28 agG fun C hP=>?_;refine Sz0 ?_;refine Qa hP (WR hp hq hK hE gm mo) rfl rfl rfl ?_;refine Sz0 ?_;exact Qc (congrArg PV.bool (decide_eq_decide.2 (Ib hp.last hq.last))) rfl
theorem RB.raw{k:Nat}{t:cm}(h:RB k t)(hk:1<=k):Raw k t.n t.a t.d:=⟨h.r.1,h.r.2.1,h.r.2.2.1,h.r.2.2.2,hk⟩
theorem aeK{s t:cm}{E:Nat}(hs:MB E s.m)(ht:MB E t.m)(hE:E<=2^38):Qd Tryz.prog 113 [PV.qE s,PV.qE t] (· = .int .i64 (aX s.m t.m)):=by refine aB Qh Tryz.func113 LL fun C hP=>?_;refine Sz0 ?_;refine Qa hP (Pg (o:=0) hs ht (by omega)) rfl rfl rfl ?_;refine Sz0 ?_;exact Qc (by rw[Ea]) rfl
theorem On{l:List cm}{k:Nat}(hb:∀t∈l,RB k t)(dn:1<=k)(hk:k<2^36)(jW:l.length<2^40):Qd Tryz.prog 96 [PV.kT l] (· = .bool (cK l)):=by
 have v3:=Hw l;have bad:∀ {b:Bool},(b=true->False)->b=false:=fun {b} h=>by cases b<;>simp_all
 refine aB Qh Tryz.func96 agF fun C hP=>?_;refine Sz0 ?_;refine Ql ep [(2,4),(7,42)] [4] (fun n J hp=>∃i,n=l.length-i/\i<=l.length/\(∀j (h:j<l.length),j<i->fQ l[j]=true)/\(∀j (h:j+1<l.length),j+1<i->0<aX l[j].m l[j+1].m)/\J 7= .int .i64 (i:Nat)) l.length ?_ ?_
 ·refine⟨0,rfl,by omega,by omega,by omega,?_⟩;refine Sz0 ?_;rfl
 rintro _ J h ⟨i,rfl,hi,h1,h2,h7⟩;refine Sz1 h7 ?_;refine Qb (fun hg=>?_) (fun hg=>?_)
 ·have az:i<l.length:=by omega
  have fN:=hb _ (Kah az);have hr:=(RB.raw fN dn).rs;have uE:=fN.l;have vT:cK l=true->fQ l[i]=true:=fun h=>(v3.1 h).1 i az;have I':∀(j:Nat)(hj:j+1=i),cK l=true->0<aX (l[j]'(by omega)).m l[i].m:=fun j hj h=>by subst hj;exact(v3.1 h).2 j az
  have AM:fQ l[i]=true->∀j (h:j<l.length),j<i+1->fQ l[j]=true:=fun h j hj fa=>by
   by_cases e:j=i
   ·subst e;exact h
   ·exact h1 j hj (by omega)
  have JO:∀(j:Nat)(hj:j+1=i),MB 1048576 (l[j]'(by omega)).m:=fun j hj=>by have:=h1 j (by omega) (by omega);simp only[fQ,Kav]at this;exact MB.uQ this.2.2
  have od:(∀(j:Nat)(hj:j+1=i),0<aX (l[j]'(by omega)).m l[i].m)->∀j (h:j+1<l.length),j+1<i+1->0<aX l[j].m l[j+1].m:=fun h j hj fa=>by
   by_cases e:j+1=i
   ·subst e;exact h j rfl
   ·exact h2 j hj (by omega)
  generalize hx:l[i]=x at *
  have du:rs (rv x.n x.a x.d)<2^36:=by omega
  refine Sz2 h7 hx ?_;refine Qa hP (Vw (RB.raw fN dn) hk) rfl rfl rfl ?_;refine Sz1 h7 ?_;cases aL:ku x.n x.a x.d
  ·have hf:cK l=false:=bad fun h=>by have:=vT h;simp[fQ,aL]at this
   refine Sz2 h7 @Bool.not_false ?_;exact Qc (by rw[hf]) rfl
  refine Sz2 h7 @Bool.not_true ?_;refine Qa hP (CR (RB.raw fN dn) hk) rfl rfl rfl ?_;refine Sz1 h7 ?_;refine Qo (fun hz=>?_) (fun hz=>?_)
  ·have hf:cK l=false:=bad fun h=>by have:=vT h;simp[fQ,cm.q,gq.1 hz]at this
   refine Sz1 h7 ?_;exact Qc (by rw[hf]) rfl
  refine Sz1 h7 ?_;refine Qa hP (UF (by omega)) rfl rfl rfl ?_;refine Sz1 h7 ?_;cases we:iV x.m
  ·have hf:cK l=false:=bad fun h=>by have:=vT h;simp[fQ,we]at this
   refine Sz2 h7 @Bool.not_false ?_;exact Qc (by rw[hf]) rfl
  have Bl:fQ x=true:=by simp only[fQ,aL,we,KcH,Bool.and_true,decide_eq_true_eq];exact fun h=>hz (gq.2 h)
  refine Sz2 h7 @Bool.not_true ?_;refine Q5 (fun vY=>?_) (fun vY=>?_)
  ·obtain⟨j,rfl⟩:∃j,i=j+1:=⟨i-1,by omega⟩
   have e:((j+1:Nat):Int)-1=j:=by omega
   have qo:j<l.length:=by omega
   have Bi:=JO j rfl;have Ja:=I' j rfl;have I7:0<aX (l[j]'(by omega)).m x.m->∀j2 (h:j2+1<l.length),j2+1<j+1+1->0<aX l[j2].m l[j2+1].m:=fun h=>od (fun j' cg=>by
    obtain rfl:j'=j:=by omega
    exact h)
   generalize hy:l[j]'(by omega)=y at *
   refine Sz3 h7 e hy ?_;refine Qa hP (aeK (s:=y) (t:=x) Bi (MB.uQ we) (by omega)) rfl rfl rfl ?_;refine Sz2 h7 e ?_;refine Qb (fun hc=>?_) (fun hc=>?_)
   ·have hf:cK l=false:=bad fun h=>by have:=Ja h;omega
    refine Sz1 h7 ?_;exact Qc (by rw[hf]) rfl
   ·refine Sz1 h7 ?_;refine Qg (l.length-(j+1+1)) (by omega) ⟨j+1+1,rfl,by omega,AM Bl,I7 (by omega),?_⟩;exact Tz0
  ·obtain rfl:i=0:=by omega
   refine Sz1 h7 ?_;refine Qg (l.length-1) (by omega) ⟨1,rfl,by omega,AM Bl,od (fun j hj=>by omega),?_⟩;exact Tz0
 ·obtain rfl:i=l.length:=by omega
  have hf:cK l=true:=v3.2 ⟨fun j hj=>h1 j hj hj,fun j hj=>h2 j hj hj⟩;refine Sz0 ?_;exact Qc (by rw[hf]) rfl
theorem GH{l:List cm}{k:Nat}(hb:∀t∈l,RB k t)(dn:1<=k)(hk:k<2^36)(jW:l.length<2^40):Qd Tryz.prog 26 [PV.kT l] (· = .bool (cK l)):=by
 have v3:=Hw l;have bad:∀ {b:Bool},(b=true->False)->b=false:=fun {b} h=>by cases b<;>simp_all
 refine aB Qh Tryz.func26 agN fun C hP=>?_;refine Sz0 ?_;refine Ql okB [(2,51)] [] (fun n J hp=>∃i,n=l.length-i/\i<=l.length/\(∀j (h:j<l.length),j<i->fQ l[j]=true)/\(∀j (h:j+1<l.length),j+1<i->0<aX l[j].m l[j+1].m)/\J 3= .int .i64 (i:Nat)) l.length ?_ ?_
 ·refine⟨0,rfl,by omega,by omega,by omega,?_⟩;refine Sz0 ?_;rfl
 rintro _ J h ⟨i,rfl,hi,h1,h2,h7⟩;refine Sz1 h7 ?_;refine Qb (fun hg=>?_) (fun hg=>?_)
 ·have az:i<l.length:=by omega
  have fN:=hb _ (Kah az);have hr:=(RB.raw fN dn).rs;have uE:=fN.l;have vT:cK l=true->fQ l[i]=true:=fun h=>(v3.1 h).1 i az;have I':∀(j:Nat)(hj:j+1=i),cK l=true->0<aX (l[j]'(by omega)).m l[i].m:=fun j hj h=>by subst hj;exact(v3.1 h).2 j az
  have AM:fQ l[i]=true->∀j (h:j<l.length),j<i+1->fQ l[j]=true:=fun h j hj fa=>by
   by_cases e:j=i
   ·subst e;exact h
   ·exact h1 j hj (by omega)
  have JO:∀(j:Nat)(hj:j+1=i),MB 1048576 (l[j]'(by omega)).m:=fun j hj=>by have:=h1 j (by omega) (by omega);simp only[fQ,Kav]at this;exact MB.uQ this.2.2
  have od:(∀(j:Nat)(hj:j+1=i),0<aX (l[j]'(by omega)).m l[i].m)->∀j (h:j+1<l.length),j+1<i+1->0<aX l[j].m l[j+1].m:=fun h j hj fa=>by
   by_cases e:j+1=i
   ·subst e;exact h j rfl
   ·exact h2 j hj (by omega)
  generalize hx:l[i]=x at *
  have du:rs (rv x.n x.a x.d)<2^36:=by omega
  refine Sz2 h7 hx ?_;refine Qa hP (Gy (RB.raw fN dn) hk) rfl rfl rfl ?_;refine Sz1 h7 ?_;cases aL:ku x.n x.a x.d
  ·have hf:cK l=false:=bad fun h=>by have:=vT h;simp[fQ,aL]at this
   refine Sz2 h7 @Bool.not_false ?_;exact Qc (by rw[hf]) rfl
  refine Sz3 h7 @Bool.not_true hx ?_;refine Qa hP (Cu (RB.raw fN dn) hk) rfl rfl rfl ?_;refine Sz1 h7 ?_;refine Qo (fun hz=>?_) (fun hz=>?_)
  ·have hf:cK l=false:=bad fun h=>by have:=vT h;simp[fQ,cm.q,gq.1 hz]at this
   refine Sz1 h7 ?_;exact Qc (by rw[hf]) rfl
  refine Sz2 h7 hx ?_;refine Qa hP (Qz7 (by omega)) rfl rfl rfl ?_;refine Sz1 h7 ?_;cases we:iV x.m
  ·have hf:cK l=false:=bad fun h=>by have:=vT h;simp[fQ,we]at this
   refine Sz2 h7 @Bool.not_false ?_;exact Qc (by rw[hf]) rfl
  have Bl:fQ x=true:=by simp only[fQ,aL,we,KcH,Bool.and_true,decide_eq_true_eq];exact fun h=>hz (gq.2 h)
  refine Sz2 h7 @Bool.not_true ?_;refine Q5 (fun vY=>?_) (fun vY=>?_)
  ·obtain⟨j,rfl⟩:∃j,i=j+1:=⟨i-1,by omega⟩
   have e:((j+1:Nat):Int)-1=j:=by omega
   have qo:j<l.length:=by omega
   have Bi:=JO j rfl;have Ja:=I' j rfl;have I7:0<aX (l[j]'(by omega)).m x.m->∀j2 (h:j2+1<l.length),j2+1<j+1+1->0<aX l[j2].m l[j2+1].m:=fun h=>od (fun j' cg=>by
    obtain rfl:j'=j:=by omega
    exact h)
   generalize hy:l[j]'(by omega)=y at *
   refine Sz4 h7 e hx hy ?_;refine Qa hP (Ab Bi (MB.uQ we) (by omega)) rfl rfl rfl ?_;refine Sz2 h7 e ?_;refine Qb (fun hc=>?_) (fun hc=>?_)
   ·have hf:cK l=false:=bad fun h=>by have:=Ja h;omega
    refine Sz1 h7 ?_;exact Qc (by rw[hf]) rfl
   ·refine Sz1 h7 ?_;refine Qg (l.length-(j+1+1)) (by omega) ⟨j+1+1,rfl,by omega,AM Bl,I7 (by omega),?_⟩;exact Tz0
  ·obtain rfl:i=0:=by omega
   refine Sz1 h7 ?_;refine Qg (l.length-1) (by omega) ⟨1,rfl,by omega,AM Bl,od (fun j hj=>by omega),?_⟩;exact Tz0
 ·obtain rfl:i=l.length:=by omega
  have hf:cK l=true:=v3.2 ⟨fun j hj=>h1 j hj hj,fun j hj=>h2 j hj hj⟩;refine Sz0 ?_;exact Qc (by rw[hf]) rfl
def Ay:ay:=⟨19,[.t 2],Zr (YH 2)<| .seq (Zr (jd 4 0<|
 Yv 6 5 0<|
 Zg 6 false (.bin 8 .geq false (.t 7) (.c (Zz 64)))<|
 dm 9 6 8)<| .cond (.t 9) (Zr (YH 2) .ret) .skip)<|Zr (Zm 10 0<|
 Zk 11 .add 10 1<|
 Zo (.mk 12 1 8 3 (Zz 0) (.t 11) (.t 11))<|
 Zm 3 12 .nil)<|Zr (Yh 13 3 0<|
 Zi 15 1 13 14<|
 Zo (.st 1 (.t 15) (.c (Zz 1))) .nil)<|Zr (Zq 16 false 14 [.c (Zz 1)]<|
 Zm 17 3<|
 Zq 18 false 45 [.c .aa,.t 16,.t 17]<|
 Yc 2 18) .ret⟩
theorem MT:Qe Tryz.prog Tryz.f18=some Ay:=by kernel_rfl
end Go.Proofs.YtccppnepkfbpkaaGreat
namespace Go.FW
open Go
variable {C : Ctx} {ρ : Nat -> Option Nat} {fr aA : Fr} {hp : HP} {w : World} {K R : Qi}
theorem CS {P : Program} {f : FuncId} {fn : Func} {sf : ay} {args : List PV} {Rr : PV -> Prop} (hm : P.follows .mixedOrders = true) (hf : P.funcs[f]? = some fn) (oo : (fn.name != "runtime.NumGoroutine") = true) (hc : Qe P fn = some sf.strip) (hn : args.length <= sf.n /\ sf.n <= 1000000)
  (hv:∀C:Ctx,C.P=P->C.N=sf.n->vc C (sK (fI sf.rs Rr)) [.c sf.body] (gQ args) ax):Qd P f args Rr:=by
 simp only[Qe,Kab,Kaa]at hc;obtain⟨c,hb,sb,jk,rs,cN,Bo⟩:=hc;obtain⟨n,Kr,body⟩:=sf;simp only[ay.strip,ay.mk.injEq]at Bo;obtain⟨rfl,rfl,rfl⟩:=Bo;refine⟨by simp[oZ,hf,hb];simpa using oo,fun w X bb hX eH fE=>?_⟩
 let C:Ctx:=Ctx.plain P fn.ntmps w X hX hn.2
 refine calls_of_wp hf hb ?_;have rO:(bb++Array.replicate (fn.ntmps-bb.size) undef).size=fn.ntmps:=by simp at hn ⊢;omega
 have ov:dD C (gQ args) ax (bb++Array.replicate (fn.ntmps-bb.size) undef) w:=by
  refine⟨fun _=>none,rO,Ext.refl _ _,(fun _ _ h=>by cases h),by simp[ax],by simp[ax],fun i=>?_⟩;unfold gQ;cases hi:args[i]? with
  |none=>trivial
  | some p=>
   simp only[Kba];have fO:i<bb.size:=by rw[eH];exact(Kaf.1 hi).1
   have hr:=fE i p hi;have e:(bb++Array.replicate (fn.ntmps-bb.size) undef).getD i undef=bb.getD i undef:=by rw[ko,if_pos fO]
   rw[e];refine Qm.lJ (hr.mono (fun _ _ _=>rfl) (fun b _ hn hx=>?_) (Kae _));rcases hx with hx|⟨_,_,h1,_⟩
   ·exact hn hx
   ·simp[ax]at h1
 have fin:∀(fr:Fr)(hp:HP)(a:Act)(w':World),a.defers=[]->dD C fr hp a.tmps w'->sK (fI rs Rr) fr hp->
   a.defers=[]/\∃v,(results fn a.tmps).run P w'= .ok v w'/\∃v' r,Ending.returned v= .returned v'/\Ext ca w w'/\eD w' X r v'/\Rr r:=by
  rintro fr hp a w' hd wu ⟨mc,fy,hw,hr⟩;obtain⟨ρ,hs⟩:=hw C _ _ wu;obtain⟨v,r,h1,h2,h3⟩:=PM (C:=C) rfl cN hs hr;exact⟨hd,v,h1,v,r,rfl,Ctx.Kp hs.ext,h2,h3⟩
 exact GK (C:=C) (R:=sK (fI rs Rr)) hm c body [] _ (gQ args) ax _ w jk ⟨fun fr hp a w' hd hs hv=>(by rw[tM]at hv;exact fin fr hp a w' hd hs hv),fun id ee he=>(by simp[FW.bW]at he),fin⟩ rfl ov (hv C rfl rfl)
theorem mM {P : Program} {f : FuncId} {fn : Func} {sf : ay} {args : List PV} {Rr : PV -> Prop} (hm : P.follows .mixedOrders = true) (hf : P.funcs[f]? = some fn) (oo : (fn.name != "runtime.NumGoroutine") = true) (hc : Qe P fn = some sf.strip) (hn : args.length <= sf.n /\ sf.n <= 1000000)
  (hv:∀C:Ctx,C.P=P->vc C (sK (fI sf.rs Rr)) [.c sf.body] (gQ args) ax):Qd P f args Rr:=
 CS hm hf oo hc hn fun C h _=>hv C h
theorem aeL{ty w i d:Nat}{fz:Bool}{f:Nat->Rat}(h:i<w):iD (some ⟨3,ty,mX PV.rat f w,fz⟩) 3 true i 0 d fr hp K=K (ab fr d (PV.rat (f i))) hp:=by rw[oO (by rw[GQ];exact h) (by omega) (by simp),Hx];rfl
theorem ahn:(vv (.aI [])=True)/\(∀(k:IntKind)(n:Int),vv (.int k n)=True)/\(∀b:Bool,vv (.bool b)=True)/\(∀(e:Nat)(xs:List PV),vv (.sl e xs)=True)/\(∀cs:List PV,vv (.agg cs)=True)/\(∀cs:List PV,vv (.aI cs)=True):=by refine⟨?_,?_,?_,?_,?_,?_⟩<;>intros<;>simp[vv,PV.refs,PV.aR,cC,cX]
attribute [go_sem] ahn aeL
end Go.FW
namespace Go.FW
open Go
variable {C : Ctx} {ρ : Nat -> Option Nat} {fr aA : Fr} {hp : HP} {w : World} {K R : Qi}
def yG(p:PV)(γ n:Nat)(ag:Bool)(i o d:Nat)(fr:Fr)(hp:HP)(K:Qi):Prop:=match p with
 |.aF aZ e _ xs=>aZ=γ/\∃h:i<xs.length,o+n<=e/\(ag=false->n=1)/\K (ab fr d (rR ag n o (xs[i]'h))) hp
 |_=>False
theorem aho{γ n i o d:Nat}{ag:Bool}:bo n ag (.np γ i o) d fr hp K=yG (fr γ) γ n ag i o d fr hp K:=by simp only[bo,yG];cases fr γ<;>rfl
def yN(p:PV)(h:Option HB)(v:Option (List PV))(γ n i o:Nat)(fr:Fr)(hp:HP)(K:Qi):Prop:=match p with
 |.aF aZ e ty xs=>aZ=γ/\(∃hb,h=some hb/\hb.fz=false)/\∃h:i<xs.length,o+n<=e/\match v with
   |some cs=>cs.length=n/\K (ab (iJ γ fr) γ (.aF γ e ty (xs.set i (ft (pT (xs[i]'h).aW o cs))))) hp
   |none=>False
 |_=>False
theorem ahp{γ n i o:Nat}{v:PV}:nH n (.np γ i o) v fr hp K=yN (fr γ) (hp γ) (eT v) γ n i o fr hp K:=by simp only[nH,yN];cases fr γ<;>rfl
theorem ai6{γ e ty n o d:Nat}{ag:Bool}{x:PV}(h1:o+n<=e)(h2:ag=true∨n=1):yG (.aF γ e ty [x]) γ n ag 0 o d fr hp K=K (ab fr d (rR ag n o x)) hp:=by have:(ag=false->n=1):=fun h=>h2.resolve_left (by simp[h]);simp[yG,h1];exact fun _=>this
theorem ai7{γ e ty n o e0 Kv:Nat}{x:PV}{Ky cs:List PV}(h1:o+n<=e)(h2:cs.length=n):yN (.aF γ e ty [x]) (some ⟨e0,Kv,Ky,false⟩) (some cs) γ n 0 o fr hp K=K (ab (iJ γ fr) γ (.aF γ e ty [ft (pT x.aW o cs)])) hp:=by simp[yN,h1,h2]
theorem ai8{γ ty B n w r d:Nat}{π:Nat->Nat}(h:r<n):yG (.aF γ 1 ty (jJ (gR B n w π))) γ 1 false r 0 d fr hp K=K (ab fr d (.ms (B+π r) w)) hp:=by
 have hl:r<(jJ (gR B n w π)).length:=by simpa[jJ,gR]using h
 simp only[yG,hl,exists_true_left,true_and,Kae,Ka5,implies_true];simp[rR,jJ,gR,PV.aW,PV.cells]
theorem ai9{γ ty B n w r m e0 Kv:Nat}{π:Nat->Nat}{Ky:List PV}(h:r<n):yN (.aF γ 1 ty (jJ (gR B n w π))) (some ⟨e0,Kv,Ky,false⟩) (some [.ms (B+m) w]) γ 1 r 0 fr hp K=K (ab (iJ γ fr) γ (.aF γ 1 ty (jJ (gR B n w fun x=>if x=r then m else π x)))) hp:=by
 have hl:r<(jJ (gR B n w π)).length:=by simpa[jJ,gR]using h
 have e:(gR B n w π).set r (B+m,w)=gR B n w fun x=>if x=r then m else π x:=by
  refine List.ext_getElem (by simp[gR]) fun j h1 h2=>?_;rw[List.getElem_set,Lo,Lo];split
  ·rename_i e;subst e;simp
  ·rename_i e;rw[if_neg fun e2=>e e2.symm]
 rw[<-e];simp only[yN,hl,exists_true_left,true_and,Kae,Ka5,KaA,exists_eq_left',KaQ,Kbn];simp[ft,pT,jJ,PV.aW,PV.cells,List.map_set]
theorem apy:
  (∀(γ o n:Nat),eT (.aG γ o n)=some [.aG γ o n])/\
  (∀(k:IntKind)(n:Int),eT (.int k n)=some [.int k n])/\
  (∀(b:Bool),eT (.bool b)=some [.bool b])/\
  (eT .aa=some [.aa])/\
  (∀(e:Nat)(xs:List PV),eT (.sl e xs)=some [.sl e xs])/\
  (∀(cs:List PV),eT (.pt cs)=some [.pt cs])/\
  (∀(cs:List PV),eT (.agg cs)=some cs):=by
 refine⟨?_,?_,?_,?_,?_,?_,?_⟩<;>intros<;>rfl
theorem ahq{β o n:Nat}(h:1000000<=β):eT (.aw β o n)=some [.aw β o n]:=by simp[eT,bC,h]
theorem aeM{cs:List PV}:eT (.aM cs)=if cs.all PV.gF then some cs else none:=rfl
theorem aja:(∀(k:IntKind)(n:Int),(PV.int k n).gF=true)/\(∀b:Bool,(PV.bool b).gF=true)/\(PV.aa.gF=true)/\(∀(e:Nat)(xs:List PV),(PV.sl e xs).gF=true)/\(∀(β o n:Nat),(PV.aw β o n).gF=true)/\(∀(β o n:Nat),(PV.aG β o n).gF=true)/\(∀cs:List PV,(PV.pt cs).gF=true)/\(PV.undef.gF=false):=by refine⟨?_,?_,?_,?_,?_,?_,?_,?_⟩<;>intros<;>rfl
theorem ajb:(∀(k:IntKind)(n:Int),(PV.int k n).oA=false)/\(∀b:Bool,(PV.bool b).oA=false)/\(PV.aa.oA=false)/\(∀(e:Nat)(xs:List PV),(PV.sl e xs).oA=false)/\(∀(β o n:Nat),(PV.aw β o n).oA=true)/\(∀(β o n:Nat),(PV.aG β o n).oA=true)/\(∀cs:List PV,(PV.pt cs).oA=false)/\(PV.undef.oA=true):=by refine⟨?_,?_,?_,?_,?_,?_,?_,?_⟩<;>intros<;>rfl
theorem XX{cs:List PV}(h:cs.any PV.oA=true):nQ cs= .aM cs:=by simp[nQ,h]
theorem XY{cs:List PV}(h:cs.any PV.oA=false):nQ cs= .agg cs:=by simp[nQ,h]
theorem ahr{a b:PV}{cs:List PV}:ft (a::b::cs)=nQ (a::b::cs):=rfl
theorem ahs{a:PV}:ft [a]=a:=rfl
theorem ajc{n o:Nat}{x:PV}:rR true n o x=nQ ((x.aW.drop o).take n):=rfl
theorem ajd{n o:Nat}{x:PV}:rR false n o x=(x.aW.drop o).headD .undef:=rfl
theorem aeN{l cs:List PV}{o:Nat}:pT l o cs=l.take o++cs++l.drop (o+cs.length):=rfl
theorem WS{cs:List PV}:(PV.aM cs).aW=cs:=rfl
theorem WU{cs:List PV}:(PV.agg cs).aW=cs:=rfl
theorem aje{z:List PV}{ps:List (Nat×Nat×PV)}{d:Nat}(h:ps.any (fun p=>p.2.2.nB)=true):ky z ps d fr hp K=(tI z.length ps/\K (ab fr d (.aM (gL z (ps.map fun p=>(p.1,(eT p.2.2).getD []))))) hp):=by simp only[ky,if_pos h]
theorem UW{len:Nat}:tI len []=True:=by simp[tI]
theorem Ut{len o n:Nat}{v:PV}{ps:List (Nat×Nat×PV)}:tI len ((o,n,v)::ps)=((∃cs,eT v=some cs/\cs.length=n/\o+n<=len)/\tI len ps):=by simp[tI]
theorem aht:(∀(γ o n:Nat),(PV.aG γ o n).nB=true)/\(∀(cs:List PV),(PV.aM cs).nB=true)/\(∀(β o n:Nat),(PV.aw β o n).nB=decide (2000000<=β))/\(∀(cs:List PV),(PV.agg cs).nB=false)/\(∀(k:IntKind)(n:Int),(PV.int k n).nB=false)/\(∀b:Bool,(PV.bool b).nB=false)/\(PV.aa.nB=false)/\(∀(e:Nat)(xs:List PV),(PV.sl e xs).nB=false):=by refine⟨?_,?_,?_,?_,?_,?_,?_,?_⟩<;>intros<;>rfl
theorem aeO:(∀(β:Nat)(k:IntKind)(n:Int),ij β (.int k n)= .int k n)/\(∀(β:Nat)(b:Bool),ij β (.bool b)= .bool b)/\(∀β:Nat,ij β .aa= .aa)/\(∀(β e:Nat)(xs:List PV),ij β (.sl e xs)= .sl e xs)/\(∀(β γ o n:Nat),ij β (.aw γ o n)=if γ=β then .undef else .aw γ o n)/\(∀(β γ o n:Nat),ij β (.aG γ o n)=if γ=β then .undef else .aG γ o n):=by refine⟨?_,?_,?_,?_,?_,?_⟩<;>intros<;>rfl
theorem aeP{β γ e ty:Nat}{x:PV}(h:γ≠β):cS β (.aF γ e ty [x])= .aF γ e ty [ft (x.aW.map (ij β))]:=by simp[cS,h]
theorem aeQ{β γ ty B n w:Nat}{π:Nat->Nat}(h:γ≠β)(h2:β<B):cS β (.aF γ 1 ty (jJ (gR B n w π)))= .aF γ 1 ty (jJ (gR B n w π)):=by
 simp only[cS,if_neg h];congr 1;conv=>rhs;rw[<-List.map_id (jJ (gR B n w π))]
 refine Ka1 fun x hx=>?_;obtain⟨y,hy,rfl⟩:=KaE.1 hx;obtain⟨r,hr,rfl⟩:=KaE.1 hy;simp only[PV.aW,PV.cells,Kbk,Kby,ij,ft];rw[if_neg (by omega)];rfl
theorem ape{β δ γ ty B n w:Nat}{π:Nat->Nat}(aj:β<1000000)(hB:2000000<=B)(ah:2000000<=γ):cC (oB β δ) (.aF γ 1 ty (jJ (gR B n w π)))= .aF γ 1 ty (jJ (gR B n w π)):=by
 have e1:oB β δ γ=γ:=by unfold oB;rw[if_neg (by omega)]
 simp only[cC,e1];congr 1;conv=>rhs;rw[<-List.map_id (jJ (gR B n w π))]
 refine Ka1 fun x hx=>?_;obtain⟨y,hy,rfl⟩:=KaE.1 hx;obtain⟨r,hr,rfl⟩:=KaE.1 hy;refine ad8 (.inr ⟨_,_,rfl⟩) fun bB n' h=>?_;cases h;unfold oB;rw[if_neg (by omega)]
theorem ajf{δ γ ty B n w:Nat}{π:Nat->Nat}(h:γ≠δ)(ny:δ<B):dt δ (.aF γ 1 ty (jJ (gR B n w π)))= .aF γ 1 ty (jJ (gR B n w π)):=by
 simp only[dt,if_neg h];congr 1;conv=>rhs;rw[<-List.map_id (jJ (gR B n w π))]
 refine Ka1 fun x hx=>?_;obtain⟨y,hy,rfl⟩:=KaE.1 hx;obtain⟨r,hr,rfl⟩:=KaE.1 hy;simp only[PV.aW,PV.cells,Kbk,Kby,eE,ft];rw[if_neg (by omega)];rfl
theorem XZ{β:Nat}{cs:List PV}:bx β (.aM cs)= .aM cs:=rfl
theorem abr{γ:Nat}{cs:List PV}:dt γ (.aM cs)= .aM (cs.map (eE γ)):=rfl
theorem X1{β:Nat}{cs:List PV}:cS β (.aM cs)= .aM (cs.map (ij β)):=rfl
theorem ajg:(∀(γ:Nat)(k:IntKind)(n:Int),eE γ (.int k n)= .int k n)/\(∀(γ:Nat)(b:Bool),eE γ (.bool b)= .bool b)/\(∀γ:Nat,eE γ .aa= .aa)/\(∀(γ e:Nat)(xs:List PV),eE γ (.sl e xs)= .sl e xs)/\(∀(γ β o n:Nat),eE γ (.aw β o n)=if β=γ then .aG γ o n else .aw β o n)/\(∀(γ β o n:Nat),eE γ (.aG β o n)= .aG β o n):=by refine⟨?_,?_,?_,?_,?_,?_⟩<;>intros<;>rfl
theorem ahu{γ i o off d:Nat}:rf off (.np γ i o) d fr hp K=K (ab fr d (.np γ i (o+off))) hp:=rfl
theorem X2{γ aZ e ty:Nat}{xs:List PV}:iX γ (.aF aZ e ty xs)=if aZ=γ then .undef else .aF aZ e ty xs:=rfl
theorem X3{γ:Nat}{cs:List PV}:iX γ (.aM cs)= .aM cs:=rfl
attribute [go_sem] ahu X2 X3 false_and List.all_cons List.all_nil XZ abr X1 ajg exists_eq_left' aho ahp ai6 ai7 ai8 ai9 apy ahq aeM aja ajb XX XY ahr ahs ajc ajd aeN WS WU aje UW Ut aht aeO aeP aeQ ape ajf
theorem LN{γ e ty:Nat}{cs cs':List PV}(δ e' ty':Nat)(uz:fr γ= .aF γ e ty [.aM cs])(h1:hp δ=none)(h2:2000000<=δ)(h3:0<e')(hl:cs'.length=cs.length)(hc:∀p∈cs.zip cs',p.2=p.1∨(p.1= .aa/\p.2= .aw δ 0 0)):
  Wk fr hp (ab fr γ (.aF γ e ty [.aM cs'])) (Qk hp δ ⟨e',ty',[],false⟩):=by
 have h:=Lj (fr:=fr) (hp:=hp) (γ:=γ) (e:=e) (ty:=ty) (xs:=[.aM cs]) (xs':=[.aM cs']) (fun x=>if x=δ then some (e',ty')else none) uz (fun x y h=>?_) rfl (fun i x x' k1 k2=>?_)
 ·refine cast (congrArg (Wk fr hp (ab fr γ (.aF γ e ty [.aM cs']))) (funext fun x=>?_)) h;unfold Qk;by_cases hx:x=δ
  ·subst hx;simp
  ·simp[hx]
 ·split at h
  ·rename_i hx;subst hx;cases h;exact⟨h1,h2,h3⟩
  ·cases h
 ·cases i with
  |succ i=>cases k1
  | zero=>
   cases k1;cases k2;refine⟨hl,fun j y y' q1 q2=>?_⟩;have hz:(y,y')∈cs.zip cs':=by refine Kaj (i:=j) ?_;rw[List.getElem?_zip_eq_some];exact⟨q1,q2⟩
   rcases hc _ hz with h|⟨h,h'⟩
   ·exact .inl h
   ·exact .inr ⟨h,δ,(e',ty'),by simp,h'⟩
theorem OT{l:List Nat}{x:Nat}(hl:∀y∈l,2000000<=y)(hx:x<2000000):Qy hp l x=hp x:=by
 have:x ∉ l:=fun h=>by have:=hl x h;omega
 unfold Qy;cases hp x<;>simp[this]
theorem MU{sk:List It}{r:RT}(s k:Nat){p D:PV}(h0:fr s=p)(ho:TE fr k p/\Ca fr hp k p=D/\∀x∈yT fr k p,2000000<=x)(hv:∀l,(∀x∈l,2000000<=x)->vc C R (.o r::sk) (ab fr s D) (Qy hp l)):vc C R (.o (.wk r)::sk) fr hp:=by subst h0;obtain⟨h1,h2,h3⟩:=ho;refine bT (ago s k h1) ?_;rw[h2];exact hv _ h3
theorem X4{γ:Nat}{F:Fr}:iJ γ (vz F)=vz F:=by have:=PC (γ:=γ) (B:=[]) (F:=F);simpa only[eP,iT]using this
theorem ZL{β:Nat}{F:Fr}(h:2000000<=β):ff β (vz F)=vz F:=by have:=PA (B:=[]) (F:=F) h;simpa only[eP,iT]using this
attribute [go_sem] X4 ZL
theorem ajh:(∀(k:IntKind)(n:Int),(PV.int k n).aR=[])/\(∀b:Bool,(PV.bool b).aR=[])/\(PV.aa.aR=[])/\(PV.undef.aR=[])/\(∀(e:Nat)(xs:List PV),(PV.sl e xs).aR=[])/\(∀cs:List PV,(PV.agg cs).aR=[])/\(∀cs:List PV,(PV.aI cs).aR=[])/\(∀cs:List PV,(PV.pt cs).aR=[])/\
  (∀(β o n:Nat),(PV.aw β o n).aR=[])/\(∀(β o n:Nat),(PV.mp β o n).aR=[])/\(∀(β o n:Nat),(PV.aG β o n).aR=[β])/\(∀(β o n:Nat),(PV.np β o n).aR=[β]):=by
 refine⟨?_,?_,?_,?_,?_,?_,?_,?_,?_,?_,?_,?_⟩<;>intros<;>rfl
attribute [go_sem] ajh
theorem abt{d w i:Nat}{k:IntKind}{f:Nat->Rat}(h:i<w):Q7 3 (.sl 3 (mX PV.rat f w)) (.int k (i:Nat)) d fr hp K=K (ab fr d (.pt (PV.rat (f i)).cells)) hp:=by unfold mX;rw[ve (by omega) (by simp;omega)];simp
theorem abu{α:Type}{p:α->PV}{f:Nat->α}{w d e:Nat}:oY (.sl e (mX p f w)) d fr hp K=K (ab fr d (.int .i64 (w:Nat))) hp:=by simp[oY,mX]
attribute [go_sem] abt abu
theorem aeR{i c:Nat}(h:c<1600000):(1600000+i=c)=False:=by simp;omega
attribute [go_sem] aeR
end Go.FW
namespace Go.FW
open Go
variable {C C' : Ctx} {ρ ρ' : Nat -> Option Nat} {fr aA : Fr} {hp hp' : HP} {w : World} {K R : Qi}
theorem Lg{γ e ty:Nat}{cs cs':List PV}(δ e' ty':Nat)(uz:fr γ= .aF γ e ty [.agg cs])(h1:hp δ=none)(h2:2000000<=δ)(h3:0<e')(hl:cs'.length=cs.length)(hc:∀p∈cs.zip cs',p.2=p.1∨(p.1= .aa/\p.2= .aw δ 0 0)):
  Wk fr hp (ab fr γ (.aF γ e ty [.aM cs'])) (Qk hp δ ⟨e',ty',[],false⟩):=by
 have h:=Lj (fr:=fr) (hp:=hp) (γ:=γ) (e:=e) (ty:=ty) (xs:=[.agg cs]) (xs':=[.aM cs']) (fun x=>if x=δ then some (e',ty')else none) uz (fun x y h=>?_) rfl (fun i x x' k1 k2=>?_)
 ·refine cast (congrArg (Wk fr hp (ab fr γ (.aF γ e ty [.aM cs']))) (funext fun x=>?_)) h;unfold Qk;by_cases hx:x=δ
  ·subst hx;simp
  ·simp[hx]
 ·split at h
  ·rename_i hx;subst hx;cases h;exact⟨h1,h2,h3⟩
  ·cases h
 ·cases i with
  |succ i=>cases k1
  | zero=>
   cases k1;cases k2;refine⟨hl,fun j y y' q1 q2=>?_⟩;have hz:(y,y')∈cs.zip cs':=by refine Kaj (i:=j) ?_;rw[List.getElem?_zip_eq_some];exact⟨q1,q2⟩
   rcases hc _ hz with h|⟨h,h'⟩
   ·exact .inl h
   ·exact .inr ⟨h,δ,(e',ty'),by simp,h'⟩
end Go.FW
namespace Go.FW
open Go
abbrev LF:=Rat×(Nat->Rat)
variable {C : Ctx} {fr : Fr} {hp : HP} {w : World} {K R : Qi}
abbrev PV.wM(w:Nat)(f:Nat->Rat):PV:=.sl 3 (mX PV.rat f w)
theorem aeS{ty w n i d:Nat}{fz:Bool}{M:MF}(h:i<n):iD (some ⟨1,ty,mX (PV.wM w) M n,fz⟩) 1 false i 0 d fr hp K=K (ab fr d (PV.wM w (M i))) hp:=by rw[oO (by rw[GQ];exact h) (by omega) (by simp),Hx];rfl
theorem abZ{d w n i:Nat}{k:IntKind}{M:MF}(h:i<n):Q7 1 (.sl 1 (mX (PV.wM w) M n)) (.int k (i:Nat)) d fr hp K=K (ab fr d (.pt [PV.wM w (M i)])) hp:=by
 have hl:i<(mX (PV.wM w) M n).length:=by rw[GQ];exact h
 simp only[Q7];simp[hl,Hx];rfl
attribute [go_sem] aeS abZ
theorem ab0{ty i d:Nat}{fz:Bool}{α:Type}{p:α->PV}{L:List α}(h:i<L.length):iD (some ⟨1,ty,L.map p,fz⟩) 1 false i 0 d fr hp K=K (ab fr d (dQ false 1 0 (p (L[i]'h)))) hp:=by rw[oO (by rw[KaV];exact h) (by omega) (by simp),Kb1]
theorem ab1{ty i d:Nat}{fz:Bool}{L:List LF}(h:i<L.length):iD (some ⟨3,ty,L.map (fun f=>PV.rat f.1),fz⟩) 3 true i 0 d fr hp K=K (ab fr d (PV.rat (L[i]'h).1)) hp:=by rw[oO (by rw[KaV];exact h) (by omega) (by simp),Kb1];rfl
theorem ab2{ty i d w:Nat}{fz:Bool}{L:List LF}(h:i<L.length):iD (some ⟨1,ty,L.map (fun f=>PV.wM w f.2),fz⟩) 1 false i 0 d fr hp K=K (ab fr d (PV.wM w (L[i]'h).2)) hp:=by rw[ab0 h];rfl
attribute [go_sem] ab1 ab2
def nm1(x:Nat):Bool:=decide (x=2000000)
theorem ahv:nm1 2000000=true:=decide_eq_true rfl
attribute [go_sem] ahv
theorem ahw{p:PV}{ps:List PV}{d:Nat}{fr:Fr}{hp:HP}{K:Qi}:lY (.dZ (p::ps)) 0 d fr hp K=K (ab fr d p) hp:=rfl
theorem ahx{p q:PV}{ps:List PV}{d:Nat}{fr:Fr}{hp:HP}{K:Qi}:lY (.dZ (p::q::ps)) 1 d fr hp K=K (ab fr d q) hp:=rfl
attribute [go_sem] ahw ahx
end Go.FW
namespace Go.FW
open Go
variable {C : Ctx} {fr : Fr} {hp : HP} {w : World} {K R : Qi}
theorem xb{γ e ty:Nat}{cs:List PV}(h:fr γ= .aF γ e ty [.aM cs]):Wk fr hp (ab fr γ (.aF γ e ty [.aM (cs.map fun _=>.undef)])) hp:=by
 rintro C tmps w ⟨ρ,hs⟩;refine⟨ρ,hs.sz,hs.ext,hs.eJ,hs.own,hs.inj,fun i=>?_⟩;unfold ab;split
 ·rename_i hi;subst hi;have ba:=hs.cE i;rw[h]at ba;obtain⟨h0,he,b,hb,cur,cap,h1,h2,h3,h4,h5,h6,h7,h8,h9,bh,de⟩:=ba;refine⟨h0,he,b,hb,cur,cap,h1,h2,h3,h4,h5,h6,h7,h8,h9,fun k x hx=>?_,fun k x hx j y hy=>?_⟩
  ·match k,hx with
   |0,hx=>simp at hx;subst hx;have:=bh 0 _ rfl;simpa[PV.aW]using this
   |k+1,hx=>simp at hx
  ·match k,hx with
   |0,hx=>simp at hx;subst hx;simp only[PV.aW,Kas,Kaa]at hy;obtain⟨_,_,rfl⟩:=hy;trivial
   |k+1,hx=>simp at hx
 ·exact hs.cE i
def kR(x:Nat):Bool:=decide (x=2000000)||decide (x=2000001)
theorem xr{x:Nat}:kR x=true↔x=2000000∨x=2000001:=by simp[kR]
abbrev aon(A B:HB):HP:=Qk (Qk ax 2000000 A) 2000001 B
abbrev Cg(n m:Nat):PV:=.aM [.ms 2000000 n,.ms 2000001 m]
theorem ahy{P:Program}(hP:C.P=P){g:FuncId}{args:List PV}{d n m:Nat}{A B A' B':HB}{q:PV}(h:xp P g args (fun _=>.undef) (aon A B) fun r _ H=>r= .cP [.ms 2000000 n,.ms 2000001 m] q/\H 2000000=some A'/\H 2000001=some B')
  (hA:hp 2000000=some A) (hB:hp 2000001=some B) (fA:A.fz=false) (fB:B.fz=false)
  (aH:∀x∈args,∀γ e ty xs,x≠ .aF γ e ty xs) (mr:∀γ∈args.flatMap (fun x=>x.refs++x.aR),kR γ=true) (cQ:args.length<=1000000)
  (hK:K (ab (iq kR fr) d (.cP [.ms 2000000 n,.ms 2000001 m] q)) (Qk (Qk hp 2000000 A') 2000001 B')):fH C false (.fn g [] []) args (some d) fr hp K:=by
 refine agB hP h kR kR [] (fun x hx=>?_) (fun x=>?_) rfl cQ aH mr (fun s _=>.inl rfl) (fun x hx=>⟨.inr hx,?_⟩) (fun h=>by cases h) (fun r F H gV=>?_)
 ·rcases xr.1 hx with rfl|rfl
  ·exact⟨A,hA,fA,by omega⟩
  ·exact⟨B,hB,fB,by omega⟩
 ·by_cases e1:x=2000001
  ·subst e1;simp[kR,Qk,hB]
  ·by_cases e0:x=2000000
   ·subst e0;simp[kR,Qk,hA]
   ·simp[kR,Qk,e0,e1,ax]
 ·rcases xr.1 hx with rfl|rfl<;>omega
 ·obtain⟨rfl,h1,h2⟩:=gV;refine⟨fun x hx=>?_,(fun γ e ty xs h=>by cases h),fun β aj=>?_,(fun s hs=>by cases hs),?_⟩
  ·rcases xr.1 hx with rfl|rfl
   ·rw[h1];simp
   ·rw[h2];simp
  ·simp[PV.refs,PV.aR,PV.dj]at aj;exact xr.2 aj
  ·have e1:yd [] F (fW (iq kR fr) (some d) (.cP [.ms 2000000 n,.ms 2000001 m] q))=ab (iq kR fr) d (.cP [.ms 2000000 n,.ms 2000001 m] q):=by funext s;simp[yd,fW]
   have e2:um kR kR H hp=Qk (Qk hp 2000000 A') 2000001 B':=by
    funext x;unfold um Qk;by_cases e1:x=2000001
    ·subst e1;simp[kR,h2]
    ·by_cases e0:x=2000000
     ·subst e0;simp[kR,h1]
     ·simp[kR,e0,e1]
   rw[e1,e2];exact hK
theorem ahz{cs:List PV}{q:PV}{d:Nat}:lY (.cP cs q) 0 d fr hp K=K (ab fr d (.aM cs)) hp:=rfl
theorem ahA{cs:List PV}{q:PV}{d:Nat}:lY (.cP cs q) 1 d fr hp K=K (ab fr d q) hp:=rfl
theorem aji{n ty d:Nat}{cs:List PV}(h:cs.length=n)(h0:0<n)(hU:cs.all PV.gF=true)(oq:cs.all (fun x=> !(x.dj.contains (4000000+d)))=true):
  eU n ty (.aM cs) d fr hp K=K (ab (ab (ff (4000000+d) fr) (4000000+d) (.aF (4000000+d) n ty [.aM cs])) d (.np (4000000+d) 0 0)) (Qk hp (4000000+d) ⟨n,ty,[],false⟩):=by
 show tV n ty cs d fr hp K=_;unfold tV cR;simp only[eq_iff_iff,and_iff_right_iff_imp];exact fun _=>⟨h,h0,hU,oq⟩
theorem apu{σ:Nat->Nat}{γ e ty:Nat}{cs:List PV}:cC σ (.aF γ e ty [.aM cs])= .aF (σ γ) e ty [ft (cs.map (cX σ))]:=rfl
theorem ajj{γ aZ e ty:Nat}{cs:List PV}(h:aZ≠γ):dt γ (.aF aZ e ty [.aM cs])= .aF aZ e ty [ft (cs.map (eE γ))]:=by simp[dt,h,PV.aW]
theorem ajk{γ e ty:Nat}{cs:List PV}{nm:Nat->Bool}:o6 nm (.aF γ e ty [.aM cs])=if(γ::cs.flatMap PV.dj).any nm then .undef else .aF γ e ty [.aM cs]:=by simp[o6,PV.refs,PV.aR,PV.aW]
attribute [go_sem] ahz ahA aji apu ajj ajk
end Go.FW
