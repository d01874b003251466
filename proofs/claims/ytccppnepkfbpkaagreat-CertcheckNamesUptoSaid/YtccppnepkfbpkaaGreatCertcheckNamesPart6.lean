/- Part 6 of the proof of CertcheckNames: CS3, CS2, CS, S1, S2, S3, S4, S5, S6, S7, S8, S9, CM, R3, R4, M1, M2, T1, T1b, T1c, T1d, U1, CP, P1, P2, U2, P3, P4, U3, CU, FwNH, FwNI, FwNJ, FwVB, FwVC, FwYA. Own lemmas; no conditions. -/
import Derived.Test.YtccppnepkfbpkaaGreatCertcheckNamesPart5
set_option maxHeartbeats 1000000
set_option linter.unusedSimpArgs false
set_option linter.unusedVariables false
set_option linter.unnecessarySimpa false
set_option maxRecDepth 100000
namespace Go.Proofs.YtccppnepkfbpkaaGreat
open Go Go.FW
def c46:ay:=⟨92,[.t 4],Zr (YG 4)<|Zr (YG 5)<|Zr (Zc 6 0<|
 Yi 7 0)<| .seq (.block 0<| .loop<| .seq (Zr (AH 10 6 7 .nil)<| .cond (.t 19) .skip (.exit 0))<| .block 1<|Zr (Yi 8 1)<| .seq (Zr (Yf 20 6 0<|
 Zn 22 21<|
 Zb 23 .eql 20 22 .nil)<| .cond (.t 23) (.rg (jT 8)) (Zr (YK 24 7 1)<| .cond (.t 27) (.rg (jq 28 0 6<|
 Yb 31 3 30<|
 jq 33 1 7<|
 Yb 36 3 35<|
 Zq 38 false 57 [.t 32,.t 37,.c (Zz 0)]<|
 Yc 8 38)) .skip))<| .block 2<|Zr (Zm 68 8<|
 Zk 69 .gtr 68 0<|
 Zm 67 69 .nil)<| .cond (.t 67) (Zr (de 70 5 0 6<|
 YM 73 4 71 72<|
 Zo (.bs 75 4 77 [.t 74])<|
 Zo (.app 76 4 80 77 (.t 70) (.t 75))<|
 Yc 5 76)<| .rg (YX 77 6)) (Zr (iX 80 8<|
 Zm 79 81 .nil)<| .cond (.t 79) (Zr (de 82 5 1 7<|
 YM 85 4 83 84<|
 YB 87 4 77 86 80 82<|
 Yc 5 88)<| .rg (YX 89 7)) (.seq (Zr (jq 39 0 6<|
 dY 42 41 3<|
 jq 44 1 7<|
 dY 47 46 3<|
 .br (Ym 49 87 43 48<|
 Yr 9<|
 Zs 3 9 49 .nil) (Yr 9<|
 Ym 49 87 43 48<|
 Zs 3 9 49 .nil))<|Zr (fm 50 3 9 32<|
 Zk 52 .neq 51 0 .nil)<| .cond (.t 52) (.rg (Zm 53 5<|
 Zh 54 3 9<|
 jq 55 0 6<|
 Yb 58 3 57<|
 rh 60 54 59<|
 YB 61 4 77 60 80 53<|
 Yc 5 62)) .skip)<|Zr (YX 63 6)<| .rg (YX 65 7))))<|Zr (dn 91 5 4) .ret⟩
theorem ahb:Qe Tryz.prog Tryz.f46=some c46:=by kernel_rfl
def c69:ay:=⟨58,[.t 4],Zr (Yi 4 0)<| .seq (Zr (Yi 5 0)<| .block 0<| .loop<| .seq (Zr (Yf 8 5 0<|
 Zn 10 9<|
 Zb 11 .lss 8 10<|
 YJ 12 11 5<|
 Zg 12 true (.mv 14 (.t 1))<|
 n9 12<|
 Zg 12 true (.bin 16 .lss false (.t 13) (.t 15))<|
 Yk 17 12 16 .nil)<| .cond (.t 17) .skip (.exit 0))<| .seq (.block 1<| .seq (Zr (jq 20 0 5<|
 Yb 23 3 22<|
 jq 25 1 5<|
 Yb 28 3 27<|
 Zq 30 false 57 [.t 24,.t 29,.c (Zz 0)]<|
 Yc 6 30)<|Zr (YW 31 6)<| .cond (.t 32) (Zr (dn 33 6 4) .ret) .skip)<|Zr (jq 34 0 5<|
 dY 37 36 3<|
 jq 39 1 5<|
 dY 42 41 3<|
 Yl 44 122 38 43<|
 Yc 7 44)<|Zr (YW 45 7)<| .cond (.t 46) (Zr (dn 47 7 4) .ret) .skip)<| .rg (YX 18 5))<| .seq (Zr (jr 48<|
 Yu 52 49 51)<| .cond (.t 52) (Zr (jT 4) .ret) .skip)<| .seq (Zr (jr 53<|
 Zb 57 .gtr 54 56 .nil)<| .cond (.t 57) (Zr (Yi 4 1) .ret) .skip)<|Zr (Yi 4 0) .ret⟩
theorem ahc:Qe Tryz.prog Tryz.f69=some c69:=by kernel_rfl
def c20:ay:=⟨5,[.t 2],Zr (Zo (.box 1 3 53 (.t 0))<|
 YG 2)<|Zr (Zh 3 3 1<|
 Zq 4 false 45 [.c .aa,.t 3,.c .aa]<|
 Zm 2 4 .nil) .ret⟩
theorem ahd:Qe Tryz.prog Tryz.f20=some c20:=by kernel_rfl
def c31:ay:=⟨9,[.t 4],Zr (Ye 4)<|Zr (er 5 0 1 69<|
 Ys 8 7 0 4) .ret⟩
theorem ahe:Qe Tryz.prog Tryz.f31=some c31:=by kernel_rfl
def c19:ay:=⟨22,[.t 4],Zr (YG 4)<|Zr (YG 5)<| .seq (Zr (Yi 6 0)<| .block 0<| .loop<| .seq (Zr (YK 7 6 1)<| .cond (.t 10) .skip (.exit 0))<| .seq (.block 1<| .rg (Yf 13 5 0<|
 Yf 15 1 6<|
 YM 17 4 15 16<|
 Yl 19 47 14 18<|
 Yl 20 46 13 19<|
 Yc 5 20))<| .rg (Zm 11 6<|
 YE 12 11 6))<|Zr (dn 21 5 4) .ret⟩
theorem ahf:Qe Tryz.prog Tryz.f19=some c19:=by kernel_rfl
def alw:ay:=⟨6,[.t 2],Zr (YG 2)<|Zr (Zm 3 0<|
 Zq 4 false 14 [.c (Zz (-1))]<|
 Zq 5 false 13 [.t 3,.t 4]<|
 Zm 2 5 .nil) .ret⟩
theorem aeF:Qe Tryz.prog Tryz.f169=some alw:=by kernel_rfl
def c26:ay:=⟨52,[.t 2],Zr (Ye 2)<| .seq (Zr (Yi 3 0)<| .block 0<| .loop<| .seq (Zr (YK 4 3 0)<| .cond (.t 7) .skip (.exit 0))<| .seq (.block 1<| .seq (Zr (jq 10 0 3<|
 dY 13 12 3<|
 Yn 15 55 14<|
 Zu 16 15<|
 vI 17 16 0<|
 Zg 17 false (.ld 22 3 true (.t 21))<|
 Zg 17 false (.call (some 23) false (.c (.fn 32 [] [])) [.t 22])<|
 Zg 17 false (.bin 24 .eql false (.t 23) (.c (Zz 0)))<|
 Yh 25 17 24<|
 vI 26 25 3<|
 Zg 26 false (.ld 31 1 false (.t 30))<|
 Zg 26 false (.call (some 32) false (.c (.fn 56 [] [])) [.t 31])<|
 Zg 26 false (.un 33 .not (.t 32))<|
 ep 34 26 33)<| .cond (.t 34) (Zr (Ye 2) .ret) .skip)<|Zr (YA 35 3 4<|
 Zg 37 true (.cc 42 3 (.t 41))<|
 rp 37<|
 Zg 37 true (.mv 44 (.t 0))<|
 Zg 37 true (.mv 45 (.t 3))<|
 Zg 37 true (.idx 46 4 (.t 44) (.t 45))<|
 Zg 37 true (.cc 47 3 (.t 46))<|
 Zg 37 true (.ld 48 1 false (.t 47))<|
 Zg 37 true (.call (some 49) false (.c (.fn 57 [] [])) [.t 43,.t 48,.c (Zz 0)])<|
 Zg 37 true (.bin 50 .leq false (.t 49) (.c (Zz 0)))<|
 Yk 51 37 50 .nil)<| .cond (.t 51) (Zr (Ye 2) .ret) .skip)<| .rg (Zm 8 3<|
 YE 9 8 3))<|Zr (YL 2) .ret⟩
theorem ahg:Qe Tryz.prog Tryz.f26=some c26:=by kernel_rfl
def IQ:ay:=⟨35,[.t 4],Zr (fp 3 53 1<|
 YG 4)<|Zr (YG 5)<| .seq (Zr (Yi 6 0)<| .block 0<| .loop<| .seq (Zr (Yf 7 6 0<|
 Zn 9 8<|
 Zb 10 .lss 7 9<|
 Zm 11 10<|
 Zg 11 true (.ld 12 3 true (.t 3))<|
 vL 11 32<|
 Zg 11 true (.bin 14 .neq false (.t 13) (.c (Zz 0)))<|
 Yk 15 11 14 .nil)<| .cond (.t 15) .skip (.exit 0))<| .seq (.block 1<| .rg (de 18 5 0 6<|
 Zi 21 4 19 20<|
 dY 22 21 3<|
 Zh 24 3 3<|
 jq 26 0 6<|
 Yb 29 3 28<|
 Zq 25 true 33 [.t 23,.t 24]<|
 rh 31 25 30<|
 YB 32 4 77 31 80 18<|
 Yc 5 33))<| .rg (Zm 16 6<|
 YE 17 16 6))<|Zr (dn 34 5 4) .ret⟩
theorem ahh:Qe Tryz.prog Tryz.f13=some IQ:=by kernel_rfl
def ak1:ay:=⟨9,[.t 4],Zr (YG 4)<|Zr (Yf 5 0 1<|
 Yn 7 169 6<|
 Yl 8 46 5 7<|
 Zm 4 8 .nil) .ret⟩
theorem aeG:Qe Tryz.prog Tryz.f137=some ak1:=by kernel_rfl
def c45:ay:=⟨88,[.t 6],Zr (Zo (.box 4 3 53 (.t 1))<|
 YG 6)<|Zr (Yq 10 0<|
 Zm 7 11 .nil)<| .seq (.block 0<| .loop<| .seq (Zr (YA 12 7 4<|
 Zg 14 true (.cc 19 3 (.t 18))<|
 rp 14<|
 Zg 14 true (.mv 21 (.t 2))<|
 Zg 14 true (.call (some 22) false (.c (.fn 57 [] [])) [.t 20,.t 21,.c (Zz 0)])<|
 Zg 14 true (.bin 23 .lss false (.t 22) (.c (Zz 0)))<|
 Yk 24 14 23 .nil)<| .cond (.t 24) .skip (.exit 0))<| .block 1<| .rg (rm 25 7))<|Zr (YG 8)<| .seq (Zr (YA 27 7 4<|
 Zg 29 true (.cc 34 3 (.t 33))<|
 rp 29<|
 Zg 29 true (.mv 36 (.t 2))<|
 Zg 29 true (.call (some 37) false (.c (.fn 57 [] [])) [.t 35,.t 36,.c (Zz 0)])<|
 Zg 29 true (.bin 38 .eql false (.t 37) (.c (Zz 0)))<|
 Yk 39 29 38 .nil)<| .cond (.t 39) (Zr (de 40 8 0 7<|
 Zk 43 .sub 42 1<|
 Zo (.sl 44 4 (.t 41) none (some (.t 43)) none)<|
 Zo (.app 45 4 80 77 (.t 40) (.t 44))<|
 Yc 8 45)<| .seq (Zr (Yf 46 0 7<|
 Zk 48 .sub 47 1<|
 Zi 49 4 46 48<|
 dY 50 49 3<|
 Zh 52 3 4<|
 .br (Ym 53 87 51 52<|
 Yr 9<|
 Zs 3 9 53 .nil) (Yr 9<|
 Ym 53 87 51 52<|
 Zs 3 9 53 .nil))<|Zr (fm 54 3 9 32<|
 Zk 56 .neq 55 0 .nil)<| .cond (.t 56) (.rg (Zm 57 8<|
 fG 58 3 9 2<|
 rh 60 58 59<|
 YB 61 4 77 60 80 57<|
 Yc 8 62)) .skip)<|Zr (yb 63 8 0 7 6) .ret) .skip)<|Zr (de 68 8 0 7<|
 Zo (.sl 71 4 (.t 69) none (some (.t 70)) none)<|
 Zo (.app 72 4 80 77 (.t 68) (.t 71))<|
 Yc 8 72)<| .seq (Zr (fm 73 3 4 32<|
 Zk 75 .neq 74 0 .nil)<| .cond (.t 75) (.rg (Zm 76 8<|
 fm 77 3 4 70<|
 Zm 79 2<|
 rh 80 78 79<|
 YB 81 4 77 80 80 76<|
 Yc 8 82)) .skip)<|Zr (yb 83 8 0 7 6) .ret⟩
theorem ahi:Qe Tryz.prog Tryz.f45=some c45:=by kernel_rfl
def c47:ay:=⟨34,[.t 4],Zr (YZ 3 77 1<|
 YG 4)<|Zr (YG 5)<| .seq (Zr (Yi 6 0)<| .block 0<| .loop<| .seq (Zr (YK 7 6 0)<| .cond (.t 10) .skip (.exit 0))<| .seq (.block 1<| .rg (de 13 5 0 6<|
 Zi 16 4 14 15<|
 dY 17 16 3<|
 dY 19 3 3<|
 jq 22 0 6<|
 cF 25 3 24 3 3<|
 Zq 21 true 33 [.t 18,.t 20]<|
 Ym 29 88 26 28<|
 rh 30 21 29<|
 YB 31 4 77 30 80 13<|
 Yc 5 32))<| .rg (Zm 11 6<|
 YE 12 11 6))<|Zr (dn 33 5 4) .ret⟩
theorem ahj:Qe Tryz.prog Tryz.f47=some c47:=by kernel_rfl
def c56:ay:=⟨39,[.t 2],Zr (Ye 2)<| .seq (Zr (Yq 4 0<|
 Zk 6 .gtr 5 64<|
 Yw 7 6 0<|
 Zg 7 false (.len 9 (.t 8))<|
 Zg 7 false (.bin 10 .gtr false (.t 9) (.c (Zz 0)))<|
 Zg 7 false (.mv 11 (.t 10))<|
 uf 11 0 0<|
 n9 11<|
 Zg 11 true (.bin 15 .sub false (.t 14) (.c (Zz 1)))<|
 Zg 11 true (.idx 16 1 (.t 12) (.t 15))<|
 rp 11<|
 Zg 11 true (.bin 18 .eql false (.t 17) (.c (Zz 0)))<|
 Zg 7 false (.pick 19 (.t 11) (.t 18) (.c (.bool false)))<|
 ep 20 7 19)<| .cond (.t 20) (Zr (Ye 2) .ret) .skip)<| .seq (Zr (Yi 3 0)<| .block 0<| .loop<| .seq (Zr (YK 21 3 0)<| .cond (.t 24) .skip (.exit 0))<| .seq (.block 1<|Zr (fE 27 0 3<|
 Zk 31 .lss 30 0<|
 oa 32 31 0 3<|
 Zg 32 false (.idx 35 1 (.t 33) (.t 34))<|
 Zg 32 false (.ld 36 1 false (.t 35))<|
 Zg 32 false (.bin 37 .gtr false (.t 36) (.c (Zz 1048576)))<|
 ep 38 32 37)<| .cond (.t 38) (Zr (Ye 2) .ret) .skip)<| .rg (YX 25 3))<|Zr (YL 2) .ret⟩
theorem ahk:Qe Tryz.prog Tryz.f56=some c56:=by kernel_rfl
def akA:ay:=⟨18,[.t 2],Zr (Yi 2 0)<|Zr (Yi 3 0)<| .seq (Zr (Yi 4 0)<| .block 0<| .loop<| .seq (Zr (YK 5 4 0)<| .cond (.t 8) .skip (.exit 0))<| .seq (.block 1<| .rg (de 11 3 0 4<|
 Yo 14 12 13<|
 cT 16 11 15<|
 Yc 3 16))<| .rg (Zm 9 4<|
 YE 10 9 4))<|Zr (dn 17 3 2) .ret⟩
theorem aeH:Qe Tryz.prog Tryz.f104=some akA:=by kernel_rfl
def akC:ay:=⟨17,[.t 4],Zr (Yi 4 0)<| .seq (Zr (iX 5 1<|
 oa 7 6 1 0<|
 Zg 7 false (.len 10 (.t 9))<|
 Zg 7 false (.bin 11 .geq false (.t 8) (.t 10))<|
 ep 12 7 11)<| .cond (.t 12) (Zr (Yi 4 0) .ret) .skip)<|Zr (fE 13 0 1<|
 Zm 4 16 .nil) .ret⟩
theorem aeI:Qe Tryz.prog Tryz.f106=some akC:=by kernel_rfl
def c88:ay:=⟨30,[.t 4],Zr (YG 4)<|Zr (YG 5)<| .seq (Zr (Yi 6 0)<| .block 0<| .loop<| .seq (Zr (AH 7 6 6 .nil)<| .cond (.t 16) .skip (.exit 0))<| .seq (.block 1<| .rg (de 19 5 0 6<|
 Yl 22 106 20 21<|
 er 23 1 6 106<|
 cT 26 22 25<|
 YB 27 1 3 26 8 19<|
 Yc 5 28))<| .rg (Zm 17 6<|
 YE 18 17 6))<|Zr (dn 29 5 4) .ret⟩
theorem ahl:Qe Tryz.prog Tryz.f88=some c88:=by kernel_rfl
def c57:ay:=⟨48,[.t 6],Zr (Yi 6 0)<| .seq (Zr (Zm 8 2<|
 Zk 9 .eql 8 1<|
 YJ 10 9 0<|
 vL 10 104<|
 Zg 10 true (.mv 13 (.t 1))<|
 Zg 10 true (.call (some 14) false (.c (.fn 104 [] [])) [.t 13])<|
 Zg 10 true (.bin 15 .neq false (.t 12) (.t 14))<|
 Yk 16 10 15 .nil)<| .cond (.t 16) (Zr (YH 17 0 104<|
 YH 19 1 104<|
 Zb 21 .sub 18 20<|
 Yn 22 105 21<|
 Yc 6 22) .ret) .skip)<| .seq (Zr (jr 23<|
 Zo (.mx 27 (.t 24) (.t 26))<|
 Zk 28 .sub 27 1<|
 Yc 7 28)<| .block 0<| .loop<| .seq (Zr (Zm 29 7<|
 Zk 30 .geq 29 0 .nil)<| .cond (.t 30) .skip (.exit 0))<| .seq (.block 1<|Zr (er 33 0 7 106<|
 er 36 1 7 106<|
 Zb 39 .neq 35 38 .nil)<| .cond (.t 39) (Zr (er 40 0 7 106<|
 er 43 1 7 106<|
 Zb 46 .sub 42 45<|
 Yn 47 105 46<|
 Yc 6 47) .ret) .skip)<| .rg (rm 31 7))<|Zr (Yi 6 0) .ret⟩
theorem ahm:Qe Tryz.prog Tryz.f57=some c57:=by kernel_rfl
def akB:ay:=⟨7,[.t 2],Zr (Yi 2 0)<| .seq (Zr (iX 3 0 .nil)<| .cond (.t 4) (Zr (jT 2) .ret) .skip)<| .seq (Zr (Zm 5 0<|
 gK 6 5 0)<| .cond (.t 6) (Zr (Yi 2 1) .ret) .skip)<|Zr (Yi 2 0) .ret⟩
theorem aeJ:Qe Tryz.prog Tryz.f105=some akB:=by kernel_rfl
def c72:ay:=⟨24,[.t 2],Zr (YG 2)<|Zr (Yq 5 0<|
 Zm 3 6 .nil)<| .seq (.block 0<| .loop<| .seq (Zr (YA 7 3 1<|
 Zg 9 true (.ld 14 1 false (.t 13))<|
 Zg 9 true (.bin 15 .eql false (.t 14) (.c (.int .u16 0)))<|
 Yk 16 9 15 .nil)<| .cond (.t 16) .skip (.exit 0))<| .block 1<| .rg (rm 17 3))<|Zr (YG 4)<|Zr (de 19 4 0 3<|
 Zo (.sl 22 1 (.t 20) none (some (.t 21)) none)<|
 Zo (.app 23 1 2 128 (.t 19) (.t 22))<|
 Yc 2 23) .ret⟩
theorem ahn:Qe Tryz.prog Tryz.f72=some c72:=by kernel_rfl
def c36:ay:=⟨15,[.t 2],Zr (YG 2)<|Zr (YG 3)<| .seq (.block 0<| .loop<| .seq (Zr (Zm 4 0<|
 Zo (.bin 5 .gtr false (.t 4) (.c (.int .u64 0))) .nil)<| .cond (.t 5) .skip (.exit 0))<| .block 1<|Zr (Yf 6 3 0<|
 Zo (.bin 8 .rem false (.t 7) (.c (.int .u64 65536)))<|
 Zo (.conv 9 .u16 (.t 8))<|
 YB 10 1 128 9 2 6<|
 Zm 3 11 .nil)<| .rg (Zm 12 0<|
 Zo (.bin 13 .quo false (.t 12) (.c (.int .u64 65536)))<|
 Yc 0 13))<|Zr (Zm 14 3<|
 Zm 2 14 .nil) .ret⟩
theorem aho:Qe Tryz.prog Tryz.f36=some c36:=by kernel_rfl
def akL:ay:=⟨21,[.t 2],Zr (Zo (.mv 2 (.c (.int .u64 0))) .nil)<|Zr (Zo (.mv 3 (.c (.int .u64 0))) .nil)<| .seq (Zr (Yq 5 0<|
 Zk 7 .sub 6 1<|
 Zm 4 7 .nil)<| .block 0<| .loop<| .seq (Zr (Zm 8 4<|
 Zk 9 .geq 8 0 .nil)<| .cond (.t 9) .skip (.exit 0))<| .seq (.block 1<| .rg (Zm 12 3<|
 Zo (.bin 13 .mul false (.t 12) (.c (.int .u64 65536)))<|
 fE 14 0 4<|
 lg 18 17<|
 cT 19 13 18<|
 Yc 3 19))<| .rg (Zm 10 4<|
 Zk 11 .sub 10 1<|
 Zm 4 11 .nil))<|Zr (dn 20 3 2) .ret⟩
theorem aeK:Qe Tryz.prog Tryz.f117=some akL:=by kernel_rfl
def akO:ay:=⟨14,[.t 4],Zr (Yi 4 0)<| .seq (Zr (YK 5 1 0)<| .cond (.t 8) (Zr (fE 9 0 1<|
 Zo (.conv 13 .i64 (.t 12))<|
 Zm 4 13 .nil) .ret) .skip)<|Zr (Yi 4 0) .ret⟩
theorem aeb:Qe Tryz.prog Tryz.f120=some akO:=by kernel_rfl
def aln:ay:=⟨30,[.t 4],Zr (Yi 4 0)<| .seq (Zr (jr 6<|
 Zo (.mx 10 (.t 7) (.t 9))<|
 Zk 11 .sub 10 1<|
 Zm 5 11 .nil)<| .block 0<| .loop<| .seq (Zr (Zm 12 5<|
 Zk 13 .geq 12 0 .nil)<| .cond (.t 13) .skip (.exit 0))<| .seq (.block 1<| .seq (Zr (er 16 0 5 120<|
 er 19 1 5 120<|
 Yu 22 18 21)<| .cond (.t 22) (Zr (jT 4) .ret) .skip)<|Zr (er 23 0 5 120<|
 er 26 1 5 120<|
 Zb 29 .gtr 25 28 .nil)<| .cond (.t 29) (Zr (Yi 4 1) .ret) .skip)<| .rg (Zm 14 5<|
 Zk 15 .sub 14 1<|
 Zm 5 15 .nil))<|Zr (Yi 4 0) .ret⟩
theorem aec:Qe Tryz.prog Tryz.f161=some aln:=by kernel_rfl
def c75:ay:=⟨44,[.t 4],Zr (YG 4)<|Zr (YG 5)<|Zr (Yi 6 0)<| .seq (Zr (Yi 7 0)<| .block 0<| .loop<| .seq (Zr (AH 9 7 7<|
 ri 19 18 6 0<|
 ep 22 19 21)<| .cond (.t 22) .skip (.exit 0))<| .seq (.block 1<|Zr (er 25 0 7 120<|
 er 28 1 7 120<|
 cT 31 27 30<|
 Zm 32 6<|
 cT 33 31 32<|
 Yc 8 33)<|Zr (Yf 34 5 8<|
 Zk 36 .rem 35 65536<|
 Zo (.conv 37 .u16 (.t 36))<|
 YB 38 1 128 37 2 34<|
 Yc 5 39)<| .rg (Zm 40 8<|
 Zk 41 .quo 40 65536<|
 Yc 6 41))<| .rg (YX 23 7))<|Zr (YH 42 5 72<|
 Yc 4 43) .ret⟩
theorem ahp:Qe Tryz.prog Tryz.f75=some c75:=by kernel_rfl
def akN:ay:=⟨40,[.t 4,.t 5],Zr (fo 4 0)<| .seq (Zr (er 10 0 1 161<|
 Zk 13 .lss 12 0 .nil)<| .cond (.t 13) (Zr (fo 4 2) .ret) .skip)<|Zr (YG 6)<|Zr (Yi 7 0)<| .seq (Zr (Yi 8 0)<| .block 0<| .loop<| .seq (Zr (YK 14 8 0)<| .cond (.t 17) .skip (.exit 0))<| .seq (.block 1<|Zr (er 20 0 8 120<|
 er 23 1 8 120<|
 Zb 26 .sub 22 25<|
 Zm 27 7<|
 Zb 28 .sub 26 27<|
 Yc 9 28)<|Zr (Yi 7 0)<| .seq (Zr (iX 29 9 .nil)<| .cond (.t 30) (Zr (Zm 31 9<|
 Zk 32 .add 31 65536<|
 Yc 9 32)<| .rg (Yi 7 1)) .skip)<| .rg (Yf 33 6 9<|
 Zo (.conv 35 .u16 (.t 34))<|
 YB 36 1 128 35 2 33<|
 Yc 6 37))<| .rg (Zm 18 8<|
 YE 19 18 8))<|Zr (YH 38 6 72<|
 Zm 4 39<|
 Yi 5 0) .ret⟩
theorem aed:Qe Tryz.prog Tryz.f119=some akN:=by kernel_rfl
def c66:ay:=⟨65,[.t 4],Zr (YG 4)<|Zr (jr 10<|
 cT 14 11 13<|
 Zk 15 .add 14 1<|
 pZ 16 15 15<|
 Zm 5 16 .nil)<| .seq (Zr (Yi 6 0)<| .block 0<| .loop<| .seq (Zr (YK 17 6 0)<| .cond (.t 20) .skip (.exit 0))<| .seq (.block 1<|Zr (Zo (.mv 7 (.c (.int .u64 0))) .nil)<|Zr (Yi 8 0)<| .block 2<| .loop<| .seq (Zr (Yf 23 8 1<|
 Zn 25 24<|
 Zb 26 .lss 23 25<|
 Yw 27 26 7<|
 Zg 27 false (.bin 29 .gtr false (.t 28) (.c (.int .u64 0)))<|
 ep 30 27 29)<| .cond (.t 30) .skip (.exit 2))<| .seq (.block 3<|Zr (de 33 5 6 8<|
 cT 36 34 35<|
 Yo 37 33 36<|
 lg 39 38<|
 fE 40 0 6<|
 lg 44 43<|
 Yf 45 1 8<|
 Zm 51 7<|
 Ym 47 120 45 46<|
 lg 48 47<|
 Zb 49 .mul 44 48<|
 cT 50 39 49<|
 cT 52 50 51<|
 Yc 9 52)<|Zr (de 53 5 6 8<|
 cT 56 54 55<|
 Zm 57 9<|
 Zo (.bin 58 .rem false (.t 57) (.c (.int .u64 65536)))<|
 YY 59 58 53 56)<| .rg (Zm 61 9<|
 Zo (.bin 62 .quo false (.t 61) (.c (.int .u64 65536)))<|
 Yc 7 62))<| .rg (YX 31 8))<| .rg (YX 21 6))<|Zr (Zm 63 5<|
 Zq 64 false 72 [.t 63]<|
 Yc 4 64) .ret⟩
theorem ahq:Qe Tryz.prog Tryz.f66=some c66:=by kernel_rfl
def akM:ay:=⟨27,[.t 4],Zr (Zo (.mv 4 (.c (.int .u64 0))) .nil)<|Zr (Zo (.mv 5 (.c (.int .u64 0)))<|
 Zo (.mv 6 (.c (.int .u64 65535))) .nil)<| .seq (.block 0<| .loop<| .seq (Zr (Yf 8 5 6<|
 Yu 10 8 9)<| .cond (.t 10) .skip (.exit 0))<| .block 1<|Zr (Yf 11 5 6<|
 cT 13 11 12<|
 Zo (.bin 14 .add false (.t 13) (.c (.int .u64 1)))<|
 Zo (.bin 15 .quo false (.t 14) (.c (.int .u64 2)))<|
 Zm 7 15 .nil)<|Zr (Yf 16 1 7<|
 Yn 18 36 17<|
 Yl 19 66 16 18<|
 Zm 20 0<|
 Yl 21 161 19 20<|
 Zk 22 .leq 21 0 .nil)<| .cond (.t 22) (.rg (dn 23 7 5)) (.rg (Zm 24 7<|
 Zo (.bin 25 .sub false (.t 24) (.c (.int .u64 1)))<|
 Yc 6 25)))<|Zr (dn 26 5 4) .ret⟩
theorem aee:Qe Tryz.prog Tryz.f118=some akM:=by kernel_rfl
def c65:ay:=⟨73,[.t 4,.t 5,.t 6],Zr (Yj 4<|
 fo 5 0)<|Zr (YH 11 0 72<|
 YH 13 1 72<|
 Zm 0 12<|
 Yc 1 14)<| .seq (Zr (Yq 15 1<|
 gp 17 16 0)<| .cond (.t 17) (Zr (Yj 4<|
 fo 5 3) .ret) .skip)<| .seq (Zr (Yq 18 0<|
 Zk 20 .leq 19 4<|
 YJ 21 20 1<|
 Zg 21 true (.len 23 (.t 22))<|
 Zg 21 true (.bin 24 .leq false (.t 23) (.c (Zz 4)))<|
 Yk 25 21 24 .nil)<| .cond (.t 25) (Zr (YH 26 0 117<|
 YH 28 1 117<|
 Zb 30 .quo 27 29<|
 Zq 31 false 36 [.t 30]<|
 YH 32 0 117<|
 YH 34 1 117<|
 Zb 36 .rem 33 35<|
 Yn 37 36 36<|
 Yf 4 31 37<|
 Yi 6 0) .ret) .skip)<|Zr (Yj 7<|
 YG 8)<| .seq (Zr (Yq 38 0<|
 Zk 40 .sub 39 1<|
 Yc 9 40)<| .block 0<| .loop<| .seq (Zr (Zm 41 9<|
 Zk 42 .geq 41 0 .nil)<| .cond (.t 42) .skip (.exit 0))<| .seq (.block 1<|Zr (fE 45 0 9<|
 Zo (.bs 49 1 128 [.t 48])<|
 Zm 50 8<|
 Zo (.app 51 1 2 128 (.t 49) (.t 50))<|
 Yn 52 72 51<|
 Yc 8 52)<|Zr (er 53 8 1 118<|
 Yc 10 55)<|Zr (Zm 56 10<|
 Zo (.conv 57 .u16 (.t 56))<|
 Zo (.bs 58 1 128 [.t 57])<|
 Zm 59 7<|
 Zo (.app 60 1 2 128 (.t 58) (.t 59))<|
 Yc 7 60)<| .rg (Yf 62 8 1<|
 YH 64 10 36<|
 Zq 66 false 66 [.t 63,.t 65]<|
 YV 67 119 62 66 61<|
 Yc 8 68))<| .rg (rm 43 9))<|Zr (Zm 70 7<|
 Zq 71 false 72 [.t 70]<|
 Zm 72 8<|
 Yf 4 71 72<|
 Yi 6 0) .ret⟩
theorem ahr:Qe Tryz.prog Tryz.f65=some c65:=by kernel_rfl
def c64:ay:=⟨25,[.t 4],Zr (YG 4)<|Zr (YH 8 0 72<|
 YH 10 1 72<|
 Zm 0 9<|
 Zm 1 11 .nil)<| .seq (.block 0<| .loop<| .seq (Zr (Yq 12 1<|
 gK 14 13 0)<| .cond (.t 14) .skip (.exit 0))<| .block 1<|Zr (Yf 16 0 1<|
 YV 18 65 16 17 15<|
 Zo (.ext 21 (.t 15) 2)<|
 Yf 5 19 20<|
 Yc 7 21)<| .rg (Yf 22 1 6<|
 dS 0 22 23))<|Zr (dn 24 0 4) .ret⟩
theorem agS:Qe Tryz.prog Tryz.f64=some c64:=by kernel_rfl
def aky:ay:=⟨15,[.t 2],Zr (Ye 2)<|Zr (Yq 3 0<|
 Zk 5 .eql 4 0<|
 oa 6 5 0 0<|
 Zg 6 false (.len 9 (.t 8))<|
 Zg 6 false (.bin 10 .sub false (.t 9) (.c (Zz 1)))<|
 Zg 6 false (.idx 11 1 (.t 7) (.t 10))<|
 Zg 6 false (.ld 12 1 false (.t 11))<|
 Zg 6 false (.bin 13 .neq false (.t 12) (.c (.int .u16 0)))<|
 Yh 14 6 13<|
 Zm 2 14 .nil) .ret⟩
theorem aef:Qe Tryz.prog Tryz.f102=some aky:=by kernel_rfl
def akz:ay:=⟨26,[.t 4],Zr (Ye 4)<| .seq (Zr (jr 6<|
 Zb 10 .neq 7 9 .nil)<| .cond (.t 10) (Zr (Ye 4) .ret) .skip)<| .seq (Zr (Yi 5 0)<| .block 0<| .loop<| .seq (Zr (YK 11 5 0)<| .cond (.t 14) .skip (.exit 0))<| .seq (.block 1<|Zr (fE 17 0 5<|
 fE 21 1 5<|
 Zb 25 .neq 20 24 .nil)<| .cond (.t 25) (Zr (Ye 4) .ret) .skip)<| .rg (Zm 15 5<|
 YE 16 15 5))<|Zr (YL 4) .ret⟩
theorem aeg:Qe Tryz.prog Tryz.f103=some akz:=by kernel_rfl
def akx:ay:=⟨17,[.t 2],Zr (YZ 1 51 0<|
 Ye 2)<|Zr (Yb 3 1 1<|
 Yn 5 102 4<|
 Zm 6 5<|
 YQ 6 0 1<|
 Zg 6 true (.mv 9 (.t 8))<|
 YQ 9 1 1<|
 n9 9<|
 Zg 9 true (.bin 13 .eql false (.t 12) (.c (Zz 0)))<|
 Zg 6 true (.pick 14 (.t 9) (.t 13) (.c (.bool false)))<|
 Zg 6 true (.un 15 .not (.t 14))<|
 Yk 16 6 15<|
 Yc 2 16) .ret⟩
theorem aeh:Qe Tryz.prog Tryz.f101=some akx:=by kernel_rfl
def c74:ay:=⟨15,[.cell 4 2 true],Zr (rj 4)<|Zr (YH 5 1 72<|
 Zm 1 6 .nil)<|Zr (AJ 7<|
 Zs 2 4 14 .nil) .ret⟩
theorem agT:Qe Tryz.prog Tryz.f74=some c74:=by kernel_rfl
def c73:ay:=⟨8,[.cell 2 2 true],Zr (YZ 1 51 0<|
 rk 2)<|Zr (cF 3 0 1 1 1<|
 lh 7 74 4 6 2 2) .ret⟩
theorem agU:Qe Tryz.prog Tryz.f73=some c73:=by kernel_rfl
def IV:ay:=⟨17,[.cell 2 2 true],Zr (rk 2)<| .seq (Zr (iX 3 0 .nil)<| .cond (.t 4) (Zr (Zm 5 0<|
 Zk 6 .add 5 1<|
 Zo (.un 7 .neg (.t 6))<|
 lg 8 7<|
 Yn 9 36 8<|
 Zq 10 false 36 [.c (.int .u64 1)]<|
 Yl 11 75 9 10<|
 Zq 12 false 74 [.c (.bool true),.t 11]<|
 Zs 2 2 12 .nil) .ret) .skip)<|Zr (Zm 13 0<|
 lg 14 13<|
 Yn 15 36 14<|
 Zq 16 false 74 [.c (.bool false),.t 15]<|
 Zs 2 2 16 .nil) .ret⟩
theorem agV:Qe Tryz.prog Tryz.f35=some IV:=by kernel_rfl
def c68:ay:=⟨11,[.t 2],Zr (YZ 1 51 0<|
 Yi 2 0)<|Zr (fm 3 2 1 73<|
 Zs 2 1 4 .nil)<| .seq (Zr (YT 5 1 1<|
 gp 8 7 0)<| .cond (.t 8) (Zr (Yi 2 0) .ret) .skip)<| .seq (Zr (Yb 9 0 1 .nil)<| .cond (.t 10) (Zr (jT 2) .ret) .skip)<|Zr (Yi 2 1) .ret⟩
theorem agW:Qe Tryz.prog Tryz.f68=some c68:=by kernel_rfl
def alo:ay:=⟨38,[.t 4],Zr (fp 2 51 0<|
 YI 3 51 1<|
 Yi 4 0)<|Zr (Zh 5 2 2<|
 Zh 7 2 3<|
 ek 6 73 5<|
 ek 8 73 7<|
 Zs 2 2 6<|
 Zs 2 3 8 .nil)<| .seq (.block 0<|Zr (Yb 10 0 2<|
 Zm 12 11<|
 YQ 12 0 3<|
 Zg 12 true (.un 15 .not (.t 14))<|
 Yk 16 12 15<|
 Zm 9 16 .nil)<| .cond (.t 9) (Zr (jT 4) .ret) (Zr (Yb 18 0 3<|
 Zm 20 19<|
 YQ 20 0 2<|
 Zg 20 true (.un 23 .not (.t 22))<|
 Yk 24 20 23<|
 Zm 17 24 .nil)<| .cond (.t 17) (Zr (Yi 4 1) .ret) (Zr (Yb 26 0 2<|
 Zm 25 27 .nil)<| .cond (.t 25) (Zr (cF 28 1 3 1 2<|
 Yl 32 161 29 31<|
 Yc 4 32) .ret) .skip)))<|Zr (cF 33 1 2 1 3<|
 Yl 37 161 34 36<|
 Yc 4 37) .ret⟩
theorem aei:Qe Tryz.prog Tryz.f162=some alo:=by kernel_rfl
def akP:ay:=⟨9,[.cell 2 2 true],Zr (YZ 1 51 0<|
 rk 2)<|Zr (Yb 3 0 1<|
 Zu 5 4<|
 Yb 6 1 1<|
 lh 8 74 5 7 2 2) .ret⟩
theorem aej:Qe Tryz.prog Tryz.f121=some akP:=by kernel_rfl
def ak5:ay:=⟨48,[.cell 4 2 true],Zr (fp 2 51 0<|
 YI 3 51 1<|
 rj 4)<| .seq (Zr (cF 9 0 2 0 3<|
 Zo (.bin 13 .eql true (.t 10) (.t 12)) .nil)<| .cond (.t 13) (Zr (cF 14 0 2 1 2<|
 Yb 18 1 3<|
 eD 20 75 17 19 74 15<|
 Zs 2 4 21 .nil) .ret) .skip)<| .seq (Zr (cF 23 1 2 1 3<|
 YV 27 119 24 26 22<|
 dS 5 28 29)<|Zr (Zm 30 6<|
 gp 31 30 0)<| .cond (.t 31) (Zr (dC 32 0 2 5<|
 lh 35 74 33 34 2 4) .ret) .skip)<|Zr (cF 37 1 3 1 2<|
 YV 41 119 38 40 36<|
 dS 7 42 43)<|Zr (dC 44 0 3 7<|
 lh 47 74 45 46 2 4) .ret⟩
theorem aek:Qe Tryz.prog Tryz.f140=some ak5:=by kernel_rfl
def c71:ay:=⟨16,[.cell 4 2 true],Zr (fp 2 51 0<|
 YI 3 51 1<|
 rj 4)<|Zr (cF 5 0 2 0 3<|
 Zo (.bin 9 .neq true (.t 6) (.t 8))<|
 cF 10 1 2 1 3<|
 eD 14 66 11 13 74 9<|
 Zs 2 4 15 .nil) .ret⟩
theorem agX:Qe Tryz.prog Tryz.f71=some c71:=by kernel_rfl
def IX:ay:=⟨27,[.t 2],Zr (Zo (.box 1 3 53 (.t 0))<|
 Ye 2)<|Zr (dY 3 1 2<|
 Yn 5 101 4<|
 Zm 6 5<|
 YQ 6 2 1<|
 Zg 6 true (.call (some 9) false (.c (.fn 102 [] [])) [.t 8])<|
 Yk 10 6 9<|
 Zm 11 10<|
 Zg 11 true (.cc 12 0 (.t 1))<|
 Zg 11 true (.cc 13 1 (.t 12))<|
 Zg 11 true (.ld 14 1 false (.t 13))<|
 Zg 11 true (.cc 15 2 (.t 1))<|
 Zg 11 true (.ld 16 1 false (.t 15))<|
 Zg 11 true (.call (some 17) false (.c (.fn 64 [] [])) [.t 14,.t 16])<|
 Zg 11 true (.call (some 18) false (.c (.fn 36 [] [])) [.c (.int .u64 1)])<|
 Zg 11 true (.call (some 19) false (.c (.fn 103 [] [])) [.t 17,.t 18])<|
 Yk 20 11 19<|
 Zm 21 20<|
 YQ 21 2 1<|
 n9 21<|
 Zg 21 true (.bin 25 .gtr false (.t 24) (.c (Zz 0)))<|
 Yk 26 21 25<|
 Yc 2 26) .ret⟩
theorem agY:Qe Tryz.prog Tryz.f55=some IX:=by kernel_rfl
def c34:ay:=⟨44,[.cell 4 3 true],Zr (fp 2 51 0<|
 Yr 4 .nil)<| .seq (Zr (YH 12 1 72<|
 Zn 14 13<|
 gp 15 14 0)<| .cond (.t 15) (Zr (Zq 16 false 36 [.c (.int .u64 1)]<|
 Zo (.dv 17 [.bool false,.aa,.aa] [(2,1,.t 16)])<|
 Zs 3 4 17 .nil) .ret) .skip)<|Zr (dC 18 1 2 1<|
 Yl 21 64 19 20<|
 Yc 5 21)<|Zr (dC 23 1 2 5<|
 YV 26 65 24 25 22<|
 Zo (.ext 29 (.t 22) 2)<|
 Yf 6 27 28<|
 Yc 8 29)<|Zr (Yf 31 1 5<|
 YV 33 65 31 32 30<|
 Zo (.ext 36 (.t 30) 2)<|
 Yf 9 34 35<|
 Yc 11 36)<|Zr (dC 37 0 2 6<|
 Zo (.dv 40 [.bool false,.aa] [(0,1,.t 38),(1,1,.t 39)])<|
 Yn 41 73 40<|
 Zm 42 9<|
 ud 43 41 42<|
 Zs 3 4 43 .nil) .ret⟩
theorem agZ:Qe Tryz.prog Tryz.f34=some c34:=by kernel_rfl
def c70:ay:=⟨8,[.cell 2 3 true],Zr (Zo (.box 1 3 53 (.t 0))<|
 Zo (.alloc 2 3 53 (.agg [.bool false,.aa,.aa])) .nil)<|Zr (dY 3 1 2<|
 Yb 5 2 1<|
 lh 7 34 4 6 3 2) .ret⟩
theorem ag0:Qe Tryz.prog Tryz.f70=some c70:=by kernel_rfl
def c67:ay:=⟨18,[.cell 4 3 true,.t 5],Zr (fp 2 51 0<|
 YI 3 51 1<|
 Yr 4<|
 Yi 5 0)<| .seq (Zr (fm 6 2 3 68<|
 gp 8 7 0)<| .cond (.t 8) (Zr (Zo (.dv 9 [.bool false,.aa,.aa] [])<|
 Zs 3 4 9<|
 Yi 5 3) .ret) .skip)<| .seq (Zr (Yb 10 0 3 .nil)<| .cond (.t 11) (.rg (fm 12 2 2 121<|
 Zs 2 2 13 .nil)) .skip)<|Zr (Zh 14 2 2<|
 Yb 15 1 3<|
 Yl 17 34 14 16<|
 Zs 3 4 17<|
 Yi 5 0) .ret⟩
theorem ag1:Qe Tryz.prog Tryz.f67=some c67:=by kernel_rfl
def c14:ay:=⟨7,[.cell 2 3 true],Zr (Zo (.alloc 2 3 53 (.agg [.bool false,.aa,.aa])) .nil)<|Zr (YH 3 0 35<|
 Zq 5 false 36 [.c (.int .u64 1)]<|
 lh 6 34 4 5 3 2) .ret⟩
theorem ahC:Qe Tryz.prog Tryz.f14=some c14:=by kernel_rfl
def ak6:ay:=⟨5,[.cell 2 2 true],Zr (rk 2)<|Zr (Zm 3 0<|
 Zo (.dv 4 [.bool false,.aa] [(1,1,.t 3)])<|
 Zs 2 2 4 .nil) .ret⟩
theorem aeV:Qe Tryz.prog Tryz.f141=some ak6:=by kernel_rfl
def c32:ay:=⟨7,[.t 2],Zr (Zo (.box 1 3 53 (.t 0))<|
 Yi 2 0)<|Zr (Zh 3 3 1<|
 Yn 4 70 3<|
 Zo (.ym 5 0 2 true (.t 4))<|
 Yn 6 68 5<|
 Zm 2 6 .nil) .ret⟩
theorem ahD:Qe Tryz.prog Tryz.f32=some c32:=by kernel_rfl
def akQ:ay:=⟨22,[.t 4],Zr (YZ 2 53 0<|
 fp 3 53 1<|
 Yi 4 0)<|Zr (Zh 5 3 2<|
 Zh 7 3 3<|
 ek 6 70 5<|
 ek 8 70 7<|
 Zs 3 2 6<|
 Zs 3 3 8 .nil)<|Zr (dY 9 2 2<|
 Yb 11 2 3<|
 dY 15 3 2<|
 Yb 17 2 2<|
 ek 13 141 12<|
 Ym 14 71 10 13<|
 ek 19 141 18<|
 eD 20 71 16 19 162 14<|
 Yc 4 21) .ret⟩
theorem aeW:Qe Tryz.prog Tryz.f122=some akQ:=by kernel_rfl
def c87:ay:=⟨28,[.cell 4 3 true],Zr (YZ 2 53 0<|
 fp 3 53 1<|
 Yr 4 .nil)<|Zr (Zh 5 3 2<|
 Zh 7 3 3<|
 ek 6 70 5<|
 ek 8 70 7<|
 Zs 3 2 6<|
 Zs 3 3 8 .nil)<|Zr (dY 9 2 2<|
 Yb 11 2 3<|
 dY 15 3 2<|
 Yb 17 2 2<|
 cF 22 2 2 2 3<|
 ek 13 141 12<|
 Ym 14 71 10 13<|
 ek 19 141 18<|
 eD 20 71 16 19 140 14<|
 Ym 26 66 23 25<|
 Zq 27 true 34 [.t 21,.t 26]<|
 Zs 3 4 27 .nil) .ret⟩
theorem ahE:Qe Tryz.prog Tryz.f87=some c87:=by kernel_rfl
def c33:ay:=⟨16,[.cell 4 3 true],Zr (YZ 2 53 0<|
 fp 3 53 1<|
 Yr 4 .nil)<|Zr (dY 5 2 2<|
 dY 7 3 2<|
 cF 10 2 2 2 3<|
 Ym 9 71 6 8<|
 eD 14 66 11 13 34 9<|
 Zs 3 4 15 .nil) .ret⟩
theorem ahF:Qe Tryz.prog Tryz.f33=some c33:=by kernel_rfl
theorem nN{l:List Nat}(hv:Qj l)(hl:l.length<2^42):Qd Tryz.prog 72 [PV.nat l] (· =PV.num (val l)):=by
 have anS:=z8 hv;refine aB Qg Tryz.func72 ahn fun C hP=>?_;refine Sz0 ?_;refine Qn okB [(3,3),(7,18)] [] (fun m J hp=>m<=l.length/\cut l m=ak (val l)/\J 3= .int .i64 m/\hp=aw) l.length ?_ ?_
 ·refine⟨Kad _,anS,?_⟩;exact Tz0
 rintro n J _ ⟨hn,hc,h3,rfl⟩;refine Sz1 h3 ?_;refine Q4 (fun hg=>?_) (fun hg=>?_)
 ·obtain _|n:=n
  ·omega
  have e:((n+1:Nat):Int)-1=n:=by omega
  simp only[cut]at hc;simp+decide (disch:=try exact D2 h3 e) only[go_sem,h3,e];refine Qb (fun hz=>?_) (fun hz=>?_)
  ·rw[if_pos (by grind)]at hc;refine Sz2 h3 e ?_;refine Qi n (by omega) ⟨by omega,hc,?_⟩;exact Tz0
  ·rw[if_neg (by grind)]at hc;have aq:(l.take (n+1)).length<2^42:=by rw[Kax];omega
   refine xY h3 e ?_;exact Qc (by rw[Kai (by simp),hc]) rfl
 ·obtain rfl:n=0:=by omega
  simp+decide (disch:=first|omega|rfl|(simp+decide only[go_sem,h3,Kcc,Kby,Kbo]<;>rfl)|fail) only[go_sem,h3,Kcc,Kby,Kbo];rw[Hm (ys:=[]) rfl (by omega) (by simp) (by simp)];refine bo ?_;exact Qc (by show _=PV.nat (ak (val l));rw[<-hc];rfl) rfl
theorem mO{n:Nat}(hn:n<18446744073709551616):Qd Tryz.prog 36 [.int .u64 n] (· =PV.num n):=by
 have hlen:=qM hn;unfold nl at hlen;refine aB Qg Tryz.func36 aho fun C hP=>?_;refine Sz0 ?_;refine oL 3 900 1 128 (by omega) Tz0 ?_;refine Qn okB [(0,0),(3,13)] [10,11,900] (fun m J hp=>∃done:List Nat,ak n=done++ak m/\m<=n/\J 0= .int .u64 m/\J 3= .ms 900 done.length/\hp 900=some ⟨1,128,bV done,false⟩) n ?_ ?_
 ·refine⟨[],rfl,Kad _,?_⟩;exact Tz0
 rintro m J hp ⟨done,hd,hm,h0,h3,hh⟩;rw[hd,Kaw]at hlen;refine Sz2 h0 h3 ?_;refine Qb (fun hz=>?_) (fun hz=>?_)
 ·have aT:m≠0:=by omega
  have og:ak n=(done++[m%65536])++ak (m/65536):=by rw[hd,tG aT];simp
  refine Sz3 h0 h3 @Nat.mod_mod ?_;rw[Qz (f:=fun(x:Nat)=>.int .u16 x) (y:=m%65536) (xs:=done) (ty':=128) (fz:=false) (Tz1 hh) bf (by omega) rfl (by omega) (by omega)];refine Sz2 h0 h3 ?_;refine Qi (m/65536) (by omega) ⟨done++[m%65536],og,by omega,?_⟩;refine Sz2 h0 h3 ?_;simp
 ·obtain rfl:m=0:=by omega
  rw[ff,Kas]at hd;refine xY h3 hh ?_;exact Qc (by show _=PV.nat (ak n);rw[hd,Kai (by simp)]) rfl
theorem mL{a:List Nat}{i:Nat}(ha:Qj a)(hl:a.length<2^43):Qd Tryz.prog 120 [PV.nat a,.int .i64 i] (· = .int .i64 (dg a i:Nat)):=by
 refine aB Qg Tryz.func120 aeb fun C hP=>?_;refine Sz0 ?_;refine Qb (fun hi=>?_) (fun hi=>?_)
 ·have az:i<a.length:=by omega
  have Ff:=dX ha az;have hg:dg a i=a[i]:=fN az;refine Sz0 ?_;exact Qc (by rw[hg]) rfl
 ·refine Sz0 ?_;exact Qc (by rw[dg,fO (by omega)];rfl) rfl
theorem Cu{a:List Nat}(ha:Qj a)(hl:a.length<=4):Qd Tryz.prog 117 [PV.nat a] (· = .int .u64 (val a:Nat)):=by
 have aq:∀k,val (a.drop k)<18446744073709551616:=fun k=>by have h1:=oO (zq ha k);have:65536^(a.drop k).length<=65536^4:=Kbu (by omega) (by rw[Ka2];omega);omega
 refine aB Qg Tryz.func117 aeK fun C hP=>?_;refine Sz0 ?_;refine Qn okB [(3,4),(8,19)] [] (fun k J hp=>k<=a.length/\J 3= .int .u64 (val (a.drop k):Nat)/\J 4= .int .i64 ((k:Int)-1)) a.length ?_ ?_
 ·refine⟨Kad _,?_⟩;refine Sz0 ?_;simp[val]
 rintro k J h ⟨hk,h3,h4⟩;refine Sz2 h3 h4 ?_;refine Qb (fun hg=>?_) (fun hg=>?_)
 ·obtain _|n:=k
  ·omega
  have hn:n<a.length:=by omega
  have Jm:=dX ha hn;have e:((n+1:Nat):Int)-1=n:=by omega
  have hv:=lI hn;have h1:=aq n;generalize dA:a[n]=x at *
  have e2:val (a.drop (n+1))*65536+x=val (a.drop n):=by omega
  refine Sz5 h3 h4 e dA e2 ?_;refine Qi n (by omega) ⟨by omega,?_⟩;exact Tz0
 ·obtain rfl:k=0:=by omega
  simp+decide (disch:=first|omega|rfl|(simp+decide only[go_sem,h3,Kbx]<;>rfl)|fail) only[go_sem,h3,Kbx];exact Qc rfl rfl
theorem CP{a b:List Nat}(ha:Qj a)(hb:Qj b)(bu:a.length<2^42)(dz:b.length<2^42):Qd Tryz.prog 161 [PV.nat a,PV.nat b] (· = .int .i64 (gm (val a) (val b))):=by
 refine aB Qg Tryz.func161 aec fun C hP=>?_;refine Sz1 @Mq ?_;refine Qn okB [(4,5),(12,29)] [] (fun k J hp=>k<=max a.length b.length/\val (a.drop k)=val (b.drop k)/\J 5= .int .i64 ((k:Int)-1)) (max a.length b.length) ?_ ?_
 ·refine⟨Kad _,?_,?_⟩
  ·rw[Kan (by omega),Kan (by omega)]
  ·exact Tz0
 rintro k J h ⟨hk,hv,h5⟩;refine Sz1 h5 ?_;refine Qb (fun hg=>?_) (fun hg=>?_)
 ·obtain _|n:=k
  ·omega
  have e:((n+1:Nat):Int)-1=n:=by omega
  have e1:=xc a n;have e2:=xc b n;have d1:=vz ha n;have d2:=vz hb n;refine Sz2 h5 e ?_;refine Qa hP (mL ha (by omega)) rfl rfl rfl ?_;refine Sz2 h5 e ?_;refine Qa hP (mL hb (by omega)) rfl rfl rfl ?_;refine Sz2 h5 e ?_;refine Qb (fun hc=>?_) (fun hc=>?_)
  ·have aq:=Ou (a:=a) (b:=b) ha (i:=n) (by omega);refine Sz0 ?_;exact Qc (by rw[Ir aq]) rfl
  refine Sz2 h5 e ?_;refine Qa hP (mL ha (by omega)) rfl rfl rfl ?_;refine Sz2 h5 e ?_;refine Qa hP (mL hb (by omega)) rfl rfl rfl ?_;refine Sz2 h5 e ?_;refine Qb (fun eL=>?_) (fun eL=>?_)
  ·have aq:=Ou (a:=b) (b:=a) hb (i:=n) (by omega);refine Sz0 ?_;exact Qc (by rw[Is aq]) rfl
  ·refine Sz2 h5 e ?_;refine Qi n (by omega) ⟨by omega,by omega,?_⟩;exact Tz0
 ·obtain rfl:k=0:=by omega
  refine Sz0 ?_;exact Qc (by rw[Mf (by simpa using hv)]) rfl
theorem N3{a:List Nat}(ha:Qj a)(hl:a.length<2^43):Qd Tryz.prog 102 [PV.nat a] (· = .bool (decide (a.getLast? ≠some 0))):=by
 refine aB Qg Tryz.func102 aef fun C hP=>?_;refine Sz0 ?_;refine Qo (fun h0=>?_) (fun h0=>?_)
 ·have:a=[]:=Kar.1 (by omega);subst this;refine Sz0 ?_;exact Qc (by simp) rfl
 ·obtain⟨k,hk⟩:∃k,a.length=k+1:=⟨a.length-1,by omega⟩
  have je:=HZ hk;have e:((k+1:Nat):Int)-1=k:=by omega
  generalize hy:a[k]'(by omega)=y at *
  refine Sz3 hk e hy ?_;refine Qc (congrArg PV.bool ?_) rfl;rw[je];exact decide_eq_decide.2 ⟨fun h h'=>h (by injection h' with h';rw[h'];rfl),fun h h'=>h (by rw[show y=0 by omega])⟩
theorem UN{a b:List Nat}(bu:a.length<2^43)(dz:b.length<2^43):Qd Tryz.prog 103 [PV.nat a,PV.nat b] (· = .bool (decide (a=b))):=by
 refine aB Qg Tryz.func103 aeg fun C hP=>?_;refine Sz0 ?_;refine Qb (fun h0=>?_) (fun h0=>?_)
 ·refine Sz0 ?_;exact Qc (congrArg PV.bool (by rw[decide_eq_false];rintro rfl;exact h0 rfl)) rfl
 have hlen:a.length=b.length:=by omega
 refine Sz0 ?_;refine Qn okB [(4,5),(11,25)] [] (fun n J hp=>∃i,n=a.length-i/\i<=a.length/\a.take i=b.take i/\J 5= .int .i64 (i:Nat)) a.length ?_ ?_
 ·refine⟨0,rfl,by omega,by simp,?_⟩;refine Sz0 ?_;rfl
 rintro _ J h ⟨i,rfl,hi,he,h5⟩;refine Sz1 h5 ?_;refine Qb (fun hg=>?_) (fun hg=>?_)
 ·have az:i<a.length:=by omega
  have SD:i<b.length:=by omega
  have ta:=Kam az;have tb:=Kam SD;have aT:a=b->a[i]=b[i]:=fun h=>by subst h;rfl
  generalize hx:a[i]=x at *
  generalize hy:b[i]=y at *
  refine Sz3 h5 hx hy ?_;refine Qb (fun hc=>?_) (fun hc=>?_)
  ·refine Sz0 ?_;exact Qc (congrArg PV.bool (by rw[decide_eq_false];intro h;exact hc (by rw[aT h]))) rfl
  ·refine Sz1 h5 ?_;refine Qi (a.length-(i+1)) (by omega) ⟨i+1,rfl,by omega,by rw[ta,tb,he,show x=y by omega],?_⟩;exact Tz0
 ·obtain rfl:i=a.length:=by omega
  rw[KaE,hlen,KaE]at he;refine Sz0 ?_;exact Qc (congrArg PV.bool (by rw[he];simp)) rfl
theorem Oy{a b:List Nat}(ha:Qj a)(hb:Qj b)(bu:a.length<2^40)(dz:b.length<2^40):Qd Tryz.prog 75 [PV.nat a,PV.nat b] (· =PV.num (val a+val b)):=by
 refine aB Qg Tryz.func75 ahp fun C hP=>?_;refine Sz0 ?_;refine oL 5 900 1 128 (by omega) Tz0 ?_;refine Qn okB [(5,41)] [38,39,900] (fun m J hp=>∃(i c:Nat)(out:List Nat),m=2*(max a.length b.length-i)+c/\c<=1/\i<=max a.length b.length+1/\(i<=max a.length b.length∨c=0)/\out.length=i/\Qj out/\val out+65536^i*(c+val (a.drop i)+val (b.drop i))=val a+val b/\J 5= .ms 900 out.length/\J 6= .int .i64 c/\J 7= .int .i64 i/\hp 900=some ⟨1,128,bV out,false⟩) (2*max a.length b.length) ?_ ?_
 ·refine⟨0,0,[],rfl,by omega,by omega,by omega,rfl,nO,by simp[val],?_⟩;refine Sz0 ?_;simp
 rintro _ J h ⟨i,c,out,rfl,hc,hi,nu,fq,mu,hv,h5,h6,h7,hh⟩;have e1:=xc a i;have e2:=xc b i;have d1:=vz ha i;have d2:=vz hb i;refine Sz3 h5 h6 h7 ?_;refine Qo (fun hg=>?_) (fun hg=>?_)
 ·have aq:i<max a.length b.length:=by omega
  have ee:(dg a i+dg b i+c)/65536<=1:=by omega
  have mz:val (out++[(dg a i+dg b i+c)%65536])+65536^(i+1)*((dg a i+dg b i+c)/65536+val (a.drop (i+1))+val (b.drop (i+1)))=val a+val b:=by
   rw[DJ,fq,Kbz,<-hv,e1,e2];have:=Kbl (dg a i+dg b i+c) 65536;generalize 65536^i=P at *
   generalize(dg a i+dg b i+c)/65536=q at *
   generalize(dg a i+dg b i+c)%65536=r at *
   have e:c+(dg a i+65536*val (a.drop (i+1)))+(dg b i+65536*val (b.drop (i+1)))=r+65536*(q+val (a.drop (i+1))+val (b.drop (i+1))):=by omega
   rw[e,Ka1 P,Kba];omega
  refine Sz3 h5 h6 h7 ?_;refine Qa hP (mL ha (by omega)) rfl rfl rfl ?_;refine Sz3 h5 h6 h7 ?_;refine Qa hP (mL hb (by omega)) rfl rfl rfl ?_;refine Sz4 h5 h6 h7 @Nat.mod_mod ?_;rw[Qz (f:=fun(x:Nat)=>.int .u16 x) (y:=(dg a i+dg b i+c)%65536) (xs:=out) (ty':=128) (fz:=false) (Tz1 hh) bf (by omega) rfl (by omega) (by omega)];refine Sz3 h5 h6 h7 ?_;refine Qi (2*(max a.length b.length-(i+1))+(dg a i+dg b i+c)/65536) ?_ ⟨i+1,(dg a i+dg b i+c)/65536,out++[(dg a i+dg b i+c)%65536],rfl,ee,by omega,?_,by simp[fq],?_,mz,?_⟩
  ·by_cases aq:i<max a.length b.length
   ·omega
   ·have z1:dg a i=0:=by rw[dg,fO (by omega)]
    have z2:dg b i=0:=by rw[dg,fO (by omega)]
    rw[z1,z2];omega
  ·by_cases aq:i<max a.length b.length
   ·omega
   ·have z1:dg a i=0:=by rw[dg,fO (by omega)]
    have z2:dg b i=0:=by rw[dg,fO (by omega)]
    rw[z1,z2];omega
  ·rw[nM];exact⟨mu,by intro z hz;simp at hz;omega⟩
  ·refine Sz0 ?_;simp
 refine Sz3 h5 h6 h7 ?_;refine Qo (fun eW=>?_) (fun eW=>?_)
 ·have aq:i<max a.length b.length:=by omega
  have ee:(dg a i+dg b i+c)/65536<=1:=by omega
  have mz:val (out++[(dg a i+dg b i+c)%65536])+65536^(i+1)*((dg a i+dg b i+c)/65536+val (a.drop (i+1))+val (b.drop (i+1)))=val a+val b:=by
   rw[DJ,fq,Kbz,<-hv,e1,e2];have:=Kbl (dg a i+dg b i+c) 65536;generalize 65536^i=P at *
   generalize(dg a i+dg b i+c)/65536=q at *
   generalize(dg a i+dg b i+c)%65536=r at *
   have e:c+(dg a i+65536*val (a.drop (i+1)))+(dg b i+65536*val (b.drop (i+1)))=r+65536*(q+val (a.drop (i+1))+val (b.drop (i+1))):=by omega
   rw[e,Ka1 P,Kba];omega
  refine Sz3 h5 h6 h7 ?_;refine Qa hP (mL ha (by omega)) rfl rfl rfl ?_;refine Sz3 h5 h6 h7 ?_;refine Qa hP (mL hb (by omega)) rfl rfl rfl ?_;refine Sz4 h5 h6 h7 @Nat.mod_mod ?_;rw[Qz (f:=fun(x:Nat)=>.int .u16 x) (y:=(dg a i+dg b i+c)%65536) (xs:=out) (ty':=128) (fz:=false) (Tz1 hh) bf (by omega) rfl (by omega) (by omega)];refine Sz3 h5 h6 h7 ?_;refine Qi (2*(max a.length b.length-(i+1))+(dg a i+dg b i+c)/65536) ?_ ⟨i+1,(dg a i+dg b i+c)/65536,out++[(dg a i+dg b i+c)%65536],rfl,ee,by omega,?_,by simp[fq],?_,mz,?_⟩
  ·by_cases aq:i<max a.length b.length
   ·omega
   ·have z1:dg a i=0:=by rw[dg,fO (by omega)]
    have z2:dg b i=0:=by rw[dg,fO (by omega)]
    rw[z1,z2];omega
  ·by_cases aq:i<max a.length b.length
   ·omega
   ·have z1:dg a i=0:=by rw[dg,fO (by omega)]
    have z2:dg b i=0:=by rw[dg,fO (by omega)]
    rw[z1,z2];omega
  ·rw[nM];exact⟨mu,by intro z hz;simp at hz;omega⟩
  ·refine Sz0 ?_;simp
 refine Sz3 h5 h6 h7 ?_;refine Qb (fun JH=>?_) (fun JH=>?_)
 ·have SD:i<=max a.length b.length:=by omega
  have ee:(dg a i+dg b i+c)/65536<=1:=by omega
  have mz:val (out++[(dg a i+dg b i+c)%65536])+65536^(i+1)*((dg a i+dg b i+c)/65536+val (a.drop (i+1))+val (b.drop (i+1)))=val a+val b:=by
   rw[DJ,fq,Kbz,<-hv,e1,e2];have:=Kbl (dg a i+dg b i+c) 65536;generalize 65536^i=P at *
   generalize(dg a i+dg b i+c)/65536=q at *
   generalize(dg a i+dg b i+c)%65536=r at *
   have e:c+(dg a i+65536*val (a.drop (i+1)))+(dg b i+65536*val (b.drop (i+1)))=r+65536*(q+val (a.drop (i+1))+val (b.drop (i+1))):=by omega
   rw[e,Ka1 P,Kba];omega
  refine Sz3 h5 h6 h7 ?_;refine Qa hP (mL ha (by omega)) rfl rfl rfl ?_;refine Sz3 h5 h6 h7 ?_;refine Qa hP (mL hb (by omega)) rfl rfl rfl ?_;refine Sz4 h5 h6 h7 @Nat.mod_mod ?_;rw[Qz (f:=fun(x:Nat)=>.int .u16 x) (y:=(dg a i+dg b i+c)%65536) (xs:=out) (ty':=128) (fz:=false) (Tz1 hh) bf (by omega) rfl (by omega) (by omega)];refine Sz3 h5 h6 h7 ?_;refine Qi (2*(max a.length b.length-(i+1))+(dg a i+dg b i+c)/65536) ?_ ⟨i+1,(dg a i+dg b i+c)/65536,out++[(dg a i+dg b i+c)%65536],rfl,ee,by omega,?_,by simp[fq],?_,mz,?_⟩
  ·by_cases aq:i<max a.length b.length
   ·omega
   ·have z1:dg a i=0:=by rw[dg,fO (by omega)]
    have z2:dg b i=0:=by rw[dg,fO (by omega)]
    rw[z1,z2];omega
  ·by_cases aq:i<max a.length b.length
   ·omega
   ·have z1:dg a i=0:=by rw[dg,fO (by omega)]
    have z2:dg b i=0:=by rw[dg,fO (by omega)]
    rw[z1,z2];omega
  ·rw[nM];exact⟨mu,by intro z hz;simp at hz;omega⟩
  ·refine Sz0 ?_;simp
 ·obtain rfl:c=0:=by omega
  rw[Kan (by omega),Kan (by omega)]at hv;simp only[val,KaO,KbZ]at hv;refine Sz2 h5 hh ?_;refine vd hP (nN mu (by omega)) (by simp+decide (disch:=try exact E1 hh) only[go_sem,hh,iB,KaP,KaY,KaR,KaV,Kas];simp[Kai]) rfl fun hp'=>?_;refine Sz0 ?_;exact Qc (by rw[hv]) rfl
theorem G2{a b:List Nat}(ha:Qj a)(hb:Qj b)(bu:a.length<2^40)(dz:b.length<2^40):Qd Tryz.prog 119 [PV.nat a,PV.nat b] (· =if val a<val b then .aG [PV.num 0,.int .i64 2]else .aG [PV.num (val a-val b),.int .i64 0]):=by
 refine aB Qg Tryz.func119 aed fun C hP=>?_;refine Sz0 ?_;refine Qa hP (CP ha hb (by omega) (by omega)) rfl rfl rfl ?_;refine Sz0 ?_;refine Qb (fun hc=>?_) (fun hc=>?_)
 ·rw[if_pos (DE.1 hc)];refine Sz0 ?_;exact cA rfl rfl rfl xl (Qf _)
 have iM:¬val a<val b:=fun h=>hc (DE.2 h);rw[if_neg iM];refine Sz0 ?_;refine oL 6 900 1 128 (by omega) Tz0 ?_;refine Qn okB [(6,9),(14,37)] [36,37,900] (fun m J hp=>∃(i c:Nat)(out:List Nat),m=a.length-i/\c<=1/\i<=a.length/\out.length=i/\Qj out/\val (a.take i)+65536^i*c=val out+val (b.take i)/\J 6= .ms 900 out.length/\J 7= .int .i64 c/\J 8= .int .i64 i/\hp 900=some ⟨1,128,bV out,false⟩) a.length ?_ ?_
 ·refine⟨0,0,[],rfl,by omega,by omega,rfl,nO,by simp[val],?_⟩;refine Sz0 ?_;simp
 rintro _ J h ⟨i,c,out,rfl,nr,hi,fq,mu,hv,h6,h7,h8,hh⟩;refine Sz3 h6 h7 h8 ?_;refine Qb (fun hg=>?_) (fun hg=>?_)
 ·have az:i<a.length:=by omega
  have e1:=NR a i;have e2:=NR b i;have d1:=vz ha i;have d2:=vz hb i;refine Sz3 h6 h7 h8 ?_;refine Qa hP (mL ha (by omega)) rfl rfl rfl ?_;refine Sz3 h6 h7 h8 ?_;refine Qa hP (mL hb (by omega)) rfl rfl rfl ?_;refine Sz3 h6 h7 h8 ?_;have step:∀(d c':Nat),d<65536->c'<=1->dg a i+65536*c'=d+dg b i+c->val (a.take (i+1))+65536^(i+1)*c'=val (out++[d])+val (b.take (i+1)):=fun d c' _ _ h3=>by
   rw[DJ,fq,e1,e2,Kbz];generalize 65536^i=P at *
   have:P*(dg a i+65536*c')=P*(d+dg b i+c):=by rw[h3]
   rw[Ka1,<-Nat.mul_assoc,Ka1,Ka1]at this;omega
  refine Qb (fun hd=>?_) (fun hd=>?_)
  ·obtain⟨d,Bg⟩:∃d:Nat,(dg a i:Int)-(dg b i:Int)-(c:Int)+65536=d:=⟨((dg a i:Int)-(dg b i:Int)-(c:Int)+65536).toNat,by omega⟩
   have aL:=step d 1 (by omega) (by omega) (by omega);refine Sz4 h6 h7 h8 Bg ?_;rw[Qz (f:=fun(x:Nat)=>.int .u16 x) (y:=d) (xs:=out) (ty':=128) (fz:=false) (Tz1 hh) (by simp+decide (disch:=first|omega|rfl|(simp+decide only[go_sem,KaJ (by omega:d<65536)]<;>rfl)|fail) only[go_sem,KaJ (by omega:d<65536)]) (by omega) rfl (by omega) (by omega)];refine Sz3 h6 h7 h8 ?_;refine Qi (a.length-(i+1)) (by omega) ⟨i+1,1,out++[d],rfl,by omega,by omega,by simp[fq],?_,aL,?_⟩
   ·rw[nM];exact⟨mu,by intro z hz;simp at hz;omega⟩
   ·refine Sz0 ?_;simp
  ·obtain⟨d,Bg⟩:∃d:Nat,(dg a i:Int)-(dg b i:Int)-(c:Int)=d:=⟨((dg a i:Int)-(dg b i:Int)-(c:Int)).toNat,by omega⟩
   have aL:=step d 0 (by omega) (by omega) (by omega);refine Sz4 h6 h7 h8 Bg ?_;rw[Qz (f:=fun(x:Nat)=>.int .u16 x) (y:=d) (xs:=out) (ty':=128) (fz:=false) (Tz1 hh) (by simp+decide (disch:=first|omega|rfl|(simp+decide only[go_sem,KaJ (by omega:d<65536)]<;>rfl)|fail) only[go_sem,KaJ (by omega:d<65536)]) (by omega) rfl (by omega) (by omega)];refine Sz3 h6 h7 h8 ?_;refine Qi (a.length-(i+1)) (by omega) ⟨i+1,0,out++[d],rfl,by omega,by omega,by simp[fq],?_,aL,?_⟩
   ·rw[nM];exact⟨mu,by intro z hz;simp at hz;omega⟩
   ·refine Sz0 ?_;simp
 ·obtain rfl:i=a.length:=by omega
  have hbz:val (b.drop a.length)=0:=CL (by have:=oO ha;omega);have sX:=Hq b a.length;rw[hbz,KbZ,KaO]at sX;rw[KaE,<-sX]at hv;have hvo:=oO mu;rw[fq]at hvo;have jt:c=0:=by
   match c,nr with
   |0,_=>rfl
   |1,_=>exfalso;have:=oO ha;omega
  subst jt;refine Sz2 h6 hh ?_;refine vd hP (nN mu (by omega)) (by simp+decide (disch:=try exact E1 hh) only[go_sem,hh,iB,KaP,KaY,KaR,KaV,Kas];simp[Kai]) rfl fun hp'=>?_;refine Sz0 ?_;exact cA rfl rfl rfl (tD (congrArg PV.num (by omega))) (Qf _)
theorem G3{a b:List Nat}(ha:Qj a)(hb:Qj b)(bu:a.length<2^40)(dz:b.length<2^40):Qd Tryz.prog 66 [PV.nat a,PV.nat b] (· =PV.num (val a*val b)):=by
 refine aB Qg Tryz.func66 ahq fun C hP=>?_;refine Sz0 ?_;refine Qn okB [(6,9),(17,62)] [] (fun m J hp=>∃(i:Nat)(L:List Nat),m=a.length-i/\i<=a.length/\L.length=a.length+b.length+1/\Qj L/\val L=val (a.take i)*val b/\J 6= .int .i64 i/\hp=Ql aw 16 ⟨1,128,bV L,false⟩) a.length ?_ ?_
 ·refine⟨0,List.replicate (a.length+b.length+1) 0,rfl,by omega,by simp,?_,by simp[val,P8],?_⟩
  ·intro z hz;rw[List.eq_of_mem_replicate hz];omega
  ·refine Sz0 ?_;simp
 rintro _ J _ ⟨i,L,rfl,hi,Fa,hL,hv,h6,rfl⟩;refine Sz1 h6 ?_;refine Qb (fun hg=>?_) (fun hg=>?_)
 ·have az:i<a.length:=by omega
  have Ff:=dX ha az;have lC:=za az;have BH:dg L (i+b.length)=0:=by apply Wi;apply CL;rw[hv,Nat.pow_add];have h1:=tv ha i (by omega);have h2:=oO hb;exact Nat.mul_lt_mul'' h1 h2
  generalize dA:a[i]=ai at *
  refine Sz2 h6 dA ?_;refine Qn okB [(7,9),(23,62)] [] (fun m J hp=>∃(k c:Nat)(M:List Nat),m=b.length+1-k/\k<=b.length+1/\(k<=b.length∨c=0)/\c<65536/\M.length=L.length/\Qj M/\val M+65536^(i+k)*(c+ai*val (b.drop k))=val L+65536^i*(ai*val b)/\(∀j,i+k<=j->dg M j=dg L j)/\J 7= .int .u64 c/\J 8= .int .i64 k/\hp=Ql aw 16 ⟨1,128,bV M,false⟩) (b.length+1) ?_ ?_
  ·refine⟨0,0,L,rfl,by omega,by omega,by omega,rfl,hL,by simp,fun _ _=>rfl,?_⟩;refine Sz1 h6 ?_;simp
  rintro _ J2 _ ⟨k,c,M,rfl,hk,pd,hc,RZ,hM,hw,wy,h7,h8,rfl⟩;have e2:=xc b k;have d2:=vz hb k;refine Sz3 h6 h7 h8 ?_;refine Qo (fun Bl=>?_) (fun Bl=>?_)
  ·have aoo:k<=b.length:=by omega
   have hj:i+k<M.length:=by omega
   have hx:=dX hM hj;have nA:=fun v=>Mr (v:=v) hj;have wh:=tw Ff d2;have vW:dg M (i+k)=M[i+k]:=fN hj;generalize nB:M[i+k]=x at *
   have uw:=Kbl (x+ai*dg b k+c) 65536;have ny:=PR (T:=val L+65536^i*(ai*val b)) (nA ((x+ai*dg b k+c)%65536)) (by rw[<-e2];exact hw) uw;have hr:=Kbs (x+ai*dg b k+c) (show 0<65536 by omega);have hq:(x+ai*dg b k+c)/65536<65536:=by omega
   have kG:¬k<b.length->(x+ai*dg b k+c)/65536=0:=fun h=>by
    have z1:dg b k=0:=by rw[dg,fO (by omega)]
    have z2:x=0:=by rw[<-vW,wy _ (Kad _),show i+k=i+b.length by omega,BH]
    rw[z1,z2];omega
   have Bo:Qj (M.set (i+k) ((x+ai*dg b k+c)%65536)):=fun z hz=>by
    rcases List.mem_or_eq_of_mem_set hz with h|h
    ·exact hM z h
    ·omega
   have e5:IntKind.u64.wrap ((ai*dg b k:Nat):Int)=((ai*dg b k:Nat):Int):=se (by omega) (by omega);refine Sz5 h6 h7 h8 dA nB ?_;refine Qa hP (mL hb (by omega)) rfl rfl rfl ?_;refine Sz7 h6 h7 h8 dA nB e5 @Nat.mod_mod ?_;refine Qi (b.length+1-(k+1)) (by omega) ⟨k+1,(x+ai*dg b k+c)/65536,M.set (i+k) ((x+ai*dg b k+c)%65536),rfl,by omega,?_,hq,by rw[List.length_set];exact RZ,Bo,?_,?_,?_⟩
   ·by_cases h:k<b.length
    ·omega
    ·exact .inr (kG h)
   ·rw[<-Nat.add_assoc,Kbz];exact ny
   ·intro j JM;rw[PT (by omega)];exact wy j (by omega)
   ·exact Tz3 h6 h7 h8
  refine Sz3 h6 h7 h8 ?_;refine Qb (fun jt=>?_) (fun jt=>?_)
  ·have aoo:k<=b.length:=by omega
   have hj:i+k<M.length:=by omega
   have hx:=dX hM hj;have nA:=fun v=>Mr (v:=v) hj;have wh:=tw Ff d2;have vW:dg M (i+k)=M[i+k]:=fN hj;generalize nB:M[i+k]=x at *
   have uw:=Kbl (x+ai*dg b k+c) 65536;have ny:=PR (T:=val L+65536^i*(ai*val b)) (nA ((x+ai*dg b k+c)%65536)) (by rw[<-e2];exact hw) uw;have hr:=Kbs (x+ai*dg b k+c) (show 0<65536 by omega);have hq:(x+ai*dg b k+c)/65536<65536:=by omega
   have kG:¬k<b.length->(x+ai*dg b k+c)/65536=0:=fun h=>by
    have z1:dg b k=0:=by rw[dg,fO (by omega)]
    have z2:x=0:=by rw[<-vW,wy _ (Kad _),show i+k=i+b.length by omega,BH]
    rw[z1,z2];omega
   have Bo:Qj (M.set (i+k) ((x+ai*dg b k+c)%65536)):=fun z hz=>by
    rcases List.mem_or_eq_of_mem_set hz with h|h
    ·exact hM z h
    ·omega
   have e5:IntKind.u64.wrap ((ai*dg b k:Nat):Int)=((ai*dg b k:Nat):Int):=se (by omega) (by omega);refine Sz5 h6 h7 h8 dA nB ?_;refine Qa hP (mL hb (by omega)) rfl rfl rfl ?_;refine Sz7 h6 h7 h8 dA nB e5 @Nat.mod_mod ?_;refine Qi (b.length+1-(k+1)) (by omega) ⟨k+1,(x+ai*dg b k+c)/65536,M.set (i+k) ((x+ai*dg b k+c)%65536),rfl,by omega,?_,hq,by rw[List.length_set];exact RZ,Bo,?_,?_,?_⟩
   ·by_cases h:k<b.length
    ·omega
    ·exact .inr (kG h)
   ·rw[<-Nat.add_assoc,Kbz];exact ny
   ·intro j JM;rw[PT (by omega)];exact wy j (by omega)
   ·exact Tz3 h6 h7 h8
  ·obtain rfl:c=0:=by omega
   rw[Kan (by omega)]at hw;simp only[val,KbZ,KaO]at hw;refine Sz3 h6 h7 h8 ?_;simp (disch:=decide) only[jG,pI];refine Qi (a.length-(i+1)) (by omega) ⟨i+1,M,rfl,by omega,by omega,hM,?_,?_⟩
   ·rw[hw,hv,lC,KaG,Kba]
   ·exact Tz0
 ·obtain rfl:i=a.length:=by omega
  rw[KaE]at hv;refine Sz0 ?_;refine vd hP (nN hL (by omega)) (by simp+decide (disch:=try exact E0) only[go_sem,iB,KaP,KaY,KaR,KaV,Kas];simp[Kai,Fa]) rfl fun hp'=>?_;refine Sz0 ?_;exact Qc (by rw[hv]) rfl
theorem zk{x y:Nat}(hx:nl x<2^40)(hy:nl y<2^40):Qd Tryz.prog 66 [PV.num x,PV.num y] (· =PV.num (x*y)):=by
 have:=G3 (Qk x) (Qk y) hx hy
 rwa[Qt,Qt]at this
theorem W4{x y:Nat}(hx:nl x<2^42)(hy:nl y<2^42):Qd Tryz.prog 161 [PV.num x,PV.num y] (· = .int .i64 (gm x y)):=by
 have:=CP (Qk x) (Qk y) hx hy
 rwa[Qt,Qt]at this
theorem O2{x y:Nat}(hx:nl x<2^40)(hy:nl y<2^40)(h:y<=x):Qd Tryz.prog 119 [PV.num x,PV.num y] (· = .aG [PV.num (x-y),.int .i64 0]):=by
 have:=G2 (Qk x) (Qk y) hx hy
 rwa[Qt,Qt,if_neg (by omega)]at this
theorem L2{x y:Nat}:gm x y<=0↔x<=y:=by unfold gm;split<;>(try split)<;>omega
theorem N4{x y:Nat}(hx:nl x<2^38)(hy:nl y<2^38)(cU:0<y):Qd Tryz.prog 118 [PV.num x,PV.num y] (· = .int .u64 (min 65535 (x/y):Nat)):=by
 have ph:∀(n d:Nat) fr hp K,n<18446744073709551616->bO .quo false (.int .u64 (n:Int)) (.int .u64 2) d fr hp K=K (ae fr d (.int .u64 ((n/2:Nat):Int))) hp:=fun n d fr hp K h=>by rw[show(2:Int)=((2:Nat):Int)from rfl,Ab (by omega) h]
 refine aB Qg Tryz.func118 aee fun C hP=>?_;refine Sz0 ?_;refine Qn okB [(5,25)] [] (fun m J hp=>∃lo hi:Nat,m=hi-lo/\lo<=hi/\hi<=65535/\y*lo<=x/\(hi=65535∨x<y*(hi+1))/\J 5= .int .u64 lo/\J 6= .int .u64 hi) 65535 ?_ ?_
 ·refine⟨0,65535,rfl,by omega,by omega,by omega,.inl rfl,?_⟩;refine Sz0 ?_;simp
 rintro _ J h ⟨lo,hi,rfl,h1,h2,h3,h4,h5,h6⟩;refine Sz2 h5 h6 ?_;refine Qb (fun hg=>?_) (fun hg=>?_)
 ·have eE:nl ((lo+hi+1)/2)<=4:=qM (by omega);have hm:=iP y ((lo+hi+1)/2);generalize aoA:(lo+hi+1)/2=wI at *
  refine Sz4 h5 h6 ph aoA ?_;refine Qa hP (mO (n:=wI) (by omega)) rfl rfl rfl ?_;refine Sz2 h5 h6 ?_;refine Qa hP (zk (x:=y) (y:=wI) (by omega) (by omega)) rfl rfl rfl ?_;refine Sz2 h5 h6 ?_;refine Qa hP (W4 (x:=y*wI) (y:=x) (by omega) (by omega)) rfl rfl rfl ?_;refine Sz2 h5 h6 ?_;refine Qb (fun hc=>?_) (fun hc=>?_)
  ·rw[L2]at hc;refine Sz2 h5 h6 ?_;refine Qi (hi-wI) (by omega) ⟨wI,hi,rfl,by omega,h2,hc,h4,?_⟩;exact Tz1 h6
  ·rw[L2]at hc;obtain⟨n,rfl⟩:∃n,wI=n+1:=⟨wI-1,by omega⟩
   have e:((n+1:Nat):Int)-1=n:=by omega
   refine Sz3 h5 h6 e ?_;refine Qi (n-lo) (by omega) ⟨lo,n,rfl,by omega,by omega,h3,.inr (by omega),?_⟩;exact Tz1 h5
 ·obtain rfl:lo=hi:=by omega
  refine Sz1 h5 ?_;refine Qc ?_ rfl;have hle:lo<=x/y:=(Nat.le_div_iff_mul_le cU).2 (by rw[KaQ];exact h3);rcases h4 with rfl|h4
  ·rw[KbV hle]
  ·have:x/y<lo+1:=(Kbf cU).2 (by rw[KaQ];exact h4);congr 2;omega
theorem NS{a b:List Nat}(ha:Qj a)(hb:Qj b)(bu:a.length<2^36)(dz:b.length<2^36):Qd Tryz.prog 65 [PV.nat a,PV.nat b]
  (· =if val b=0 then .aG [PV.num 0,PV.num 0,.int .i64 3]else .aG [PV.num (val a/val b),PV.num (val a%val b),.int .i64 0]):=by
 have fV:=bF ha;have iK:=bF hb;refine aB Qg Tryz.func65 ahr fun C hP=>?_;refine Sz0 ?_;refine Qa hP (nN ha (by omega)) rfl rfl rfl ?_;refine Sz0 ?_;refine Qa hP (nN hb (by omega)) rfl rfl rfl ?_;refine Sz0 ?_;generalize val a=x at *
 generalize val b=y at *
 unfold nl at fV iK;refine Qb (fun hz=>?_) (fun hz=>?_)
 ·have cU:y=0:=lH.1 (pE (by omega));refine Sz0 ?_;rw[if_pos cU];exact tQ rfl rfl rfl rfl xl xl (Qf _)
 have cU:y≠0:=fun h=>by rw[h,ff]at hz;simp at hz
 rw[if_neg cU];have hyp:0<y:=KaU cU;have eM:=Qk x;have kJ:=Qk y;have qw:=Qt x;have wC:=Qt y;refine Sz0 ?_;refine Q4 (fun h1=>?_) (fun h1=>?_)
 ·refine Sz0 ?_;refine Qb (fun h2=>?_) (fun h2=>?_)
  ·have aro:=C8.1 (show nl x<=4 by unfold nl;omega);have arq:=C8.1 (show nl y<=4 by unfold nl;omega);have hq:=KcD x y;have hr:=Kbs x hyp;refine Sz0 ?_;refine Qa hP (Cu eM (by omega)) rfl rfl rfl ?_;refine Sz1 qw ?_;refine Qa hP (Cu kJ (by omega)) rfl rfl rfl ?_;refine Sz3 qw wC @Ab ?_;refine Qa hP (mO (n:=x/y) (by omega)) rfl rfl rfl ?_;refine Sz0 ?_;refine Qa hP (Cu eM (by omega)) rfl rfl rfl ?_;refine Sz1 qw ?_;refine Qa hP (Cu kJ (by omega)) rfl rfl rfl ?_;refine Sz3 qw wC @pH ?_;refine Qa hP (mO (n:=x%y) (by omega)) rfl rfl rfl ?_;refine Sz0 ?_;exact tQ rfl rfl rfl rfl (Qf _) (Qf _) (Qf _)
  ·have aoY:=trivial;refine Sz0 ?_;refine xp 7 1 Tz0 ?_;refine xp 8 1 Tz0 ?_;refine K9 okB [(7,10),(41,69)] [49,51,58,60] (fun k J hp=>∃qs,k<=(ak x).length/\qs.length=(ak x).length-k/\Qj qs/\val qs=val ((ak x).drop k)/y/\J 7= .sl 1 (bV qs)/\J 8=PV.num (val ((ak x).drop k)%y)/\J 9= .int .i64 ((k:Int)-1)) (ak x).length ?_ ?_
   ·refine⟨[],Kad _,by simp,nO,by simp[val],?_⟩;refine Sz0 ?_;simp[val,ff]
   rintro k J h ⟨qs,hk,yF,pj,rK,h7,h8,h9⟩;refine Sz3 h7 h8 h9 ?_;have hr:=Kbs (val ((ak x).drop k)) hyp;refine Qb (fun hg=>?_) (fun hg=>?_)
   ·obtain _|n:=k
    ·omega
    have hn:n<(ak x).length:=by omega
    have Jm:=dX eM hn;have e:((n+1:Nat):Int)-1=n:=by omega
    have aL:=Pm (x:=(ak x)[n]) hyp rK;rw[<-lI hn]at aL;generalize hV:val ((ak x).drop (n+1))%y=r at *
    generalize dA:(ak x)[n]=xi at *
    have wu:(ak r).length<=(ak y).length:=fh (Nat.le_of_lt hr);have qo:Qj ([xi]++ak r):=by rw[nM];exact⟨by intro z hz;simp at hz;omega,Qk r⟩
    have jA:val ([xi]++ak r)=r*65536+xi:=by rw[mN,Qt];simp[val];omega
    have aq:(r*65536+xi)/y<65536:=by rw[Kbf hyp];have:(r+1)*65536<=y*65536:=Kal _ hr;omega
    have JU:nl (r*65536+xi)<=(ak y).length+1:=by have:=bF qo;rw[jA,Kaw]at this;simp at this;omega
    have uw:=Kbl (r*65536+xi) y;have fY:nl (y*((r*65536+xi)/y))<=(ak y).length+1:=KaL (fh (by omega)) JU;have JT:nl ((r*65536+xi)/y)<=4:=qM (by omega);have Ke:r*65536+xi-y*((r*65536+xi)/y)=(r*65536+xi)%y:=by omega
    refine Sz5 h7 h8 h9 e dA ?_;rw[jI (f:=fun(x:Nat)=>.int .u16 x) (xs:=[xi]) (ys:=ak r) (n:=1) bf rfl (by omega) (by omega) (by omega)];refine Sz5 h7 h8 h9 e dA ?_;refine oJ hP (nN (l:=[xi]++ak r) qo (by simp;omega)) (by simp+decide (disch:=try exact E0) only[go_sem,iB,KaP,KaY,KaR,KaV,Kas];simp[KbY 1,Kai]) rfl ?_;rw[jA];refine Sz5 h7 h8 h9 e dA ?_;refine Qa hP (N4 (x:=r*65536+xi) (y:=y) (by omega) (by unfold nl;omega) hyp) rfl rfl rfl ?_;rw[KcZ (by omega:(r*65536+xi)/y<=65535)];generalize hD:(r*65536+xi)/y=D at *
    simp+decide (disch:=first|omega|rfl|(simp+decide only[go_sem,h7,h8,h9,e,dA,KaJ aq]<;>rfl)|fail) only[go_sem,h7,h8,h9,e,dA,KaJ aq];rw[jI (f:=fun(x:Nat)=>.int .u16 x) (xs:=[D]) (ys:=qs) (n:=1) bf rfl (by omega) (by omega) (by omega)];refine Sz5 h7 h8 h9 e dA ?_;refine Qa hP (mO (n:=D) (by omega)) rfl rfl rfl ?_;refine Sz4 h7 h8 h9 e ?_;refine Qa hP (zk (x:=y) (y:=D) (by unfold nl;omega) (by omega)) rfl rfl rfl ?_;refine Sz4 h7 h8 h9 e ?_;refine Qa hP (O2 (x:=r*65536+xi) (y:=y*D) (by omega) (by omega) (by omega)) rfl rfl rfl ?_;rw[Ke];refine Sz4 h7 h8 h9 e ?_;refine Pk 7 n rfl ?_ (by omega) ⟨D::qs,by omega,by simp;omega,?_,?_,?_⟩
    ·exact gJ
    ·rw[gB];exact⟨aq,pj⟩
    ·rw[val,aL.1]
    ·refine Rj aL.2 ?_;simp[KbY 1,Kai]
   ·obtain rfl:k=0:=by omega
    rw[Kbx,qw]at rK h8;refine Sz2 h7 h8 ?_;refine Qa hP (nN pj (by omega)) rfl rfl rfl ?_;refine Sz2 h7 h8 ?_;exact tQ rfl rfl rfl rfl (tD (by rw[rK])) (Qf _) (Qf _)
 ·have aoY:=trivial;refine Sz0 ?_;refine xp 7 1 Tz0 ?_;refine xp 8 1 Tz0 ?_;refine K9 okB [(7,10),(41,69)] [49,51,58,60] (fun k J hp=>∃qs,k<=(ak x).length/\qs.length=(ak x).length-k/\Qj qs/\val qs=val ((ak x).drop k)/y/\J 7= .sl 1 (bV qs)/\J 8=PV.num (val ((ak x).drop k)%y)/\J 9= .int .i64 ((k:Int)-1)) (ak x).length ?_ ?_
  ·refine⟨[],Kad _,by simp,nO,by simp[val],?_⟩;refine Sz0 ?_;simp[val,ff]
  rintro k J h ⟨qs,hk,yF,pj,rK,h7,h8,h9⟩;refine Sz3 h7 h8 h9 ?_;have hr:=Kbs (val ((ak x).drop k)) hyp;refine Qb (fun hg=>?_) (fun hg=>?_)
  ·obtain _|n:=k
   ·omega
   have hn:n<(ak x).length:=by omega
   have Jm:=dX eM hn;have e:((n+1:Nat):Int)-1=n:=by omega
   have aL:=Pm (x:=(ak x)[n]) hyp rK;rw[<-lI hn]at aL;generalize hV:val ((ak x).drop (n+1))%y=r at *
   generalize dA:(ak x)[n]=xi at *
   have wu:(ak r).length<=(ak y).length:=fh (Nat.le_of_lt hr);have qo:Qj ([xi]++ak r):=by rw[nM];exact⟨by intro z hz;simp at hz;omega,Qk r⟩
   have jA:val ([xi]++ak r)=r*65536+xi:=by rw[mN,Qt];simp[val];omega
   have aq:(r*65536+xi)/y<65536:=by rw[Kbf hyp];have:(r+1)*65536<=y*65536:=Kal _ hr;omega
   have JU:nl (r*65536+xi)<=(ak y).length+1:=by have:=bF qo;rw[jA,Kaw]at this;simp at this;omega
   have uw:=Kbl (r*65536+xi) y;have fY:nl (y*((r*65536+xi)/y))<=(ak y).length+1:=KaL (fh (by omega)) JU;have JT:nl ((r*65536+xi)/y)<=4:=qM (by omega);have Ke:r*65536+xi-y*((r*65536+xi)/y)=(r*65536+xi)%y:=by omega
   refine Sz5 h7 h8 h9 e dA ?_;rw[jI (f:=fun(x:Nat)=>.int .u16 x) (xs:=[xi]) (ys:=ak r) (n:=1) bf rfl (by omega) (by omega) (by omega)];refine Sz5 h7 h8 h9 e dA ?_;refine oJ hP (nN (l:=[xi]++ak r) qo (by simp;omega)) (by simp+decide (disch:=try exact E0) only[go_sem,iB,KaP,KaY,KaR,KaV,Kas];simp[KbY 1,Kai]) rfl ?_;rw[jA];refine Sz5 h7 h8 h9 e dA ?_;refine Qa hP (N4 (x:=r*65536+xi) (y:=y) (by omega) (by unfold nl;omega) hyp) rfl rfl rfl ?_;rw[KcZ (by omega:(r*65536+xi)/y<=65535)];generalize hD:(r*65536+xi)/y=D at *
   simp+decide (disch:=first|omega|rfl|(simp+decide only[go_sem,h7,h8,h9,e,dA,KaJ aq]<;>rfl)|fail) only[go_sem,h7,h8,h9,e,dA,KaJ aq];rw[jI (f:=fun(x:Nat)=>.int .u16 x) (xs:=[D]) (ys:=qs) (n:=1) bf rfl (by omega) (by omega) (by omega)];refine Sz5 h7 h8 h9 e dA ?_;refine Qa hP (mO (n:=D) (by omega)) rfl rfl rfl ?_;refine Sz4 h7 h8 h9 e ?_;refine Qa hP (zk (x:=y) (y:=D) (by unfold nl;omega) (by omega)) rfl rfl rfl ?_;refine Sz4 h7 h8 h9 e ?_;refine Qa hP (O2 (x:=r*65536+xi) (y:=y*D) (by omega) (by omega) (by omega)) rfl rfl rfl ?_;rw[Ke];refine Sz4 h7 h8 h9 e ?_;refine Pk 7 n rfl ?_ (by omega) ⟨D::qs,by omega,by simp;omega,?_,?_,?_⟩
   ·exact gJ
   ·rw[gB];exact⟨aq,pj⟩
   ·rw[val,aL.1]
   ·refine Rj aL.2 ?_;simp[KbY 1,Kai]
  ·obtain rfl:k=0:=by omega
   rw[Kbx,qw]at rK h8;refine Sz2 h7 h8 ?_;refine Qa hP (nN pj (by omega)) rfl rfl rfl ?_;refine Sz2 h7 h8 ?_;exact tQ rfl rfl rfl rfl (tD (by rw[rK])) (Qf _) (Qf _)
theorem N5{x y:Nat}(hx:nl x<2^36)(hy:nl y<2^36)(h0:y≠0):Qd Tryz.prog 65 [PV.num x,PV.num y] (· = .aG [PV.num (x/y),PV.num (x%y),.int .i64 0]):=by
 have:=NS (Qk x) (Qk y) hx hy
 rwa[Qt,Qt,if_neg h0]at this
theorem G4{a b:List Nat}(ha:Qj a)(hb:Qj b)(bu:a.length<2^36)(dz:b.length<2^36):Qd Tryz.prog 64 [PV.nat a,PV.nat b] (· =PV.num (Nat.gcd (val a) (val b))):=by
 have fV:=bF ha;have iK:=bF hb;refine aB Qg Tryz.func64 agS fun C hP=>?_;refine Sz0 ?_;refine Qa hP (nN ha (by omega)) rfl rfl rfl ?_;refine Sz0 ?_;refine Qa hP (nN hb (by omega)) rfl rfl rfl ?_;refine Sz0 ?_;refine Qn okB [(0,1),(5,7),(12,23)] [] (fun m J hp=>∃x y,m=y/\Nat.gcd x y=Nat.gcd (val a) (val b)/\nl x<2^36/\nl y<2^36/\J 0=PV.num x/\J 1=PV.num y/\hp=aw) (val b) ?_ ?_
 ·refine⟨val a,val b,rfl,rfl,by omega,by omega,?_⟩;exact Tz0
 rintro y J _ ⟨x,_,rfl,hg,hx,hy,h0,h1,rfl⟩;generalize Nat.gcd (val a) (val b)=g at *
 refine Sz2 h0 h1 ?_;refine Qb (fun hc=>?_) (fun hc=>?_)
 ·have cU:y≠0:=fun h=>by rw[h,ff]at hc;simp at hc
  have Br:=fh (Nat.le_of_lt (Kbs x (KaU cU)));refine Sz2 h0 h1 ?_;refine Qa hP (N5 (x:=x) (y:=y) hx hy cU) rfl rfl rfl ?_;refine Sz2 h0 h1 ?_;refine Qi (x%y) (Kbs _ (KaU cU)) ⟨y,x%y,rfl,?_,hy,by omega,?_⟩
  ·rw[<-hg,Kcr x y,Nat.gcd_rec y x,Kcr]
  ·exact Tz0
 ·have cU:y=0:=lH.1 (pE (by omega));subst cU;refine Sz1 h0 ?_;exact Qc (by rw[<-hg,KcU]) rfl
theorem O3{x y:Nat}(hx:nl x<2^36)(hy:nl y<2^36):Qd Tryz.prog 64 [PV.num x,PV.num y] (· =PV.num (Nat.gcd x y)):=by
 have:=G4 (Qk x) (Qk y) hx hy
 rwa[Qt,Qt]at this
theorem tA{n:Bool}{a:List Nat}(ha:Qj a)(bu:a.length<2^42):Qd Tryz.prog 74 [.bool n,PV.nat a] (· =PV.zz (zv n a)):=by
 refine aB Qg Tryz.func74 agT fun C hP=>?_;refine Sz0 ?_;refine Qa hP (nN ha bu) rfl rfl rfl ?_;refine Sz0 ?_;refine wZ (fun hn=>?_) (fun hn=>?_)
 all_goals
  refine Sz0 ?_;refine cY ?_;refine Sz0 ?_;exact Qc (by have:=Ix n (val a);rw[hn]at this;subst hn;simpa[zv]using this) rfl
theorem CF{n:Bool}{a:List Nat}(ha:Qj a)(bu:a.length<2^42):Qd Tryz.prog 73 [PV.zi n a] (· =PV.zz (zv n a)):=by refine aB Qg Tryz.func73 agU fun C hP=>?_;refine Sz0 ?_;refine Qa hP (tA ha bu) rfl rfl rfl ?_;refine Sz0 ?_;refine cY ?_;refine Sz0 ?_;exact Qc rfl rfl
theorem OA{n m:Bool}{a b:List Nat}(ha:Qj a)(hb:Qj b)(bu:a.length<2^40)(dz:b.length<2^40):Qd Tryz.prog 71 [PV.zi n a,PV.zi m b] (· =PV.zz (zv n a*zv m b)):=by
 have hr:nl (val a*val b)<2^42:=by have:=iP (val a) (val b);have:=bF ha;have:=bF hb;omega
 refine aB Qg Tryz.func71 agX fun C hP=>?_;refine Sz0 ?_;refine Qa hP (G3 ha hb bu dz) rfl rfl rfl ?_;refine Sz0 ?_;refine Qa hP (tA (n:= !(n==m)) (Qk (val a*val b)) hr) rfl rfl rfl ?_;refine Sz0 ?_;refine cY ?_;refine Sz0 ?_;exact Qc (congrArg PV.zz (by rw[sA];unfold zv;cases n<;>cases m<;>simp[Int.neg_mul,Int.mul_neg])) rfl
theorem W5{x:Int}(h1: -9223372036854775808<=x)(h2:x<=9223372036854775807):Qd Tryz.prog 35 [.int .i64 x] (· =PV.zz x):=by
 refine qK Qg Tryz.func35 rfl agV (by simp[IV]) fun C hP=>?_;simp only[IV];refine du ?_;refine Sz0 ?_;refine Qb (fun hc=>?_) (fun hc=>?_)
 ·obtain⟨y,hy⟩:∃y:Nat,x= -((y:Int)+1):=⟨(-(x+1)).toNat,by omega⟩
  have e1:IntKind.i64.wrap (x+1)= -(y:Int):=by rw[vf (by omega) (by omega)];omega
  have e2:IntKind.i64.wrap (0- -(y:Int))=(y:Int):=by rw[vf (by omega) (by omega)];omega
  have e3:IntKind.u64.wrap (y:Int)=(y:Int):=se (by omega) (by omega);have qn:nl y<=4:=qM (by omega);have nw:nl (y+1)<=4:=qM (by omega);refine Sz3 e1 e2 e3 ?_;refine Qa hP (mO (n:=y) (by omega)) rfl rfl rfl ?_;refine Sz0 ?_;refine Qa hP (mO (n:=1) (by omega)) rfl rfl rfl ?_;refine Sz0 ?_;refine Qa hP (Oy (Qk y) (Qk 1) (show nl y<_ by omega) (show nl 1<_ by rw[lO];omega)) rfl rfl rfl ?_;refine Sz0 ?_;refine Qa hP (tA (n:=true) (Qk (val (ak y)+val (ak 1))) (show nl _<_ by rw[Qt,Qt];omega)) rfl rfl rfl ?_;refine Sz0 ?_;refine cY ?_;refine Sz0 ?_;exact Qc (congrArg PV.zz (by rw[sA,Qt,Qt];simp;omega)) rfl
 ·obtain⟨y,rfl⟩:∃y:Nat,x=y:=⟨x.toNat,by omega⟩
  have qn:nl y<=4:=qM (by omega);refine Sz0 ?_;refine Qa hP (mO (by omega)) rfl rfl rfl ?_;refine Sz0 ?_;refine Qa hP (tA (n:=false) (Qk y) (show nl _<_ by omega)) rfl rfl rfl ?_;refine Sz0 ?_;refine cY ?_;refine Sz0 ?_;exact Qc (congrArg PV.zz (by rw[sA];simp)) rfl
theorem UO{n:Bool}{a:List Nat}(ha:Qj a)(bu:a.length<2^42):Qd Tryz.prog 68 [PV.zi n a] (· = .int .i64 (eO (zv n a))):=by
 refine aB Qg Tryz.func68 agW fun C hP=>?_;refine Sz0 ?_;refine Qa hP (CF ha bu) rfl rfl rfl ?_;generalize zv n a=z;refine Sz0 ?_;refine Qb (fun hz=>?_) (fun hz=>?_)
 ·have:z=0:=by have:=lH.1 (pE (n:=z.natAbs) (by omega));omega
  subst this;refine Sz0 ?_;exact Qc rfl rfl
 ·have h0:z≠0:=fun h=>by subst h;exact hz (by simp[ff])
  refine Sz0 ?_;refine zC (fun hn=>?_) (fun hn=>?_)
  ·have hn:z<0:=by simpa using hn
   refine Sz0 ?_;exact Qc (by rw[eO,if_pos hn]) rfl
  ·have hn:¬z<0:=by simpa using hn
   refine Sz0 ?_;exact Qc (by rw[eO,if_neg hn,if_pos (by omega)]) rfl
theorem Qz9{n:Bool}{a:List Nat}(ha:Qj a)(bu:a.length<2^42):Qd Tryz.prog 101 [PV.zi n a] (· = .bool (oS n a)):=by
 refine aB Qg Tryz.func101 aeh fun C hP=>?_;refine Sz0 ?_;refine Qa hP (N3 ha (by omega)) rfl rfl rfl ?_;refine Sz0 ?_;refine wZ (fun hv=>?_) (fun hv=>?_)
 ·refine Sz0 ?_;refine wZ (fun hn=>?_) (fun hn=>?_)
  ·refine Sz0 ?_;exact Qc (congrArg PV.bool (by unfold oS;subst hn;cases a<;>simp_all<;>omega)) rfl
  ·refine Sz0 ?_;exact Qc (congrArg PV.bool (by unfold oS;subst hn;cases a<;>simp_all)) rfl
 ·refine Sz0 ?_;exact Qc (congrArg PV.bool (by unfold oS;cases a<;>simp_all)) rfl
theorem VK{n m:Bool}{a b:List Nat}(ha:Qj a)(hb:Qj b)(bu:a.length<2^41)(dz:b.length<2^41):Qd Tryz.prog 162 [PV.zi n a,PV.zi m b] (· = .int .i64 (dk (zv n a) (zv m b))):=by
 have hx:nl (zv n a).natAbs<2^41:=by rw[iO];have:=bF ha;omega
 have hy:nl (zv m b).natAbs<2^41:=by rw[iO];have:=bF hb;omega
 refine aB Qg Tryz.func162 aei fun C hP=>?_;refine Sz0 ?_;refine Qa hP (CF ha (by omega)) rfl rfl rfl ?_;refine Sz0 ?_;refine Qa hP (CF hb (by omega)) rfl rfl rfl ?_;generalize zv n a=x at *
 generalize zv m b=y at *
 have lx:(ak x.natAbs).length<2^41:=hx;have ly:(ak y.natAbs).length<2^41:=hy;by_cases bY:x<0<;>by_cases cU:y<0
 ·refine Sz2 bY cU ?_;refine Qa hP (CP (Qk y.natAbs) (Qk x.natAbs) (by omega) (by omega)) rfl rfl rfl ?_;refine Sz0 ?_;exact Qc (congrArg (PV.int .i64) (by rw[Qt,Qt];unfold gm dk;split<;>split<;>(try split)<;>(try split)<;>omega)) rfl
 ·refine Sz2 bY cU ?_;exact Qc (congrArg (PV.int .i64) (by unfold dk;rw[if_pos (by omega)])) rfl
 ·refine Sz2 bY cU ?_;exact Qc (congrArg (PV.int .i64) (by unfold dk;rw[if_neg (by omega),if_pos (by omega)])) rfl
 ·refine Sz2 bY cU ?_;refine Qa hP (CP (Qk x.natAbs) (Qk y.natAbs) (by omega) (by omega)) rfl rfl rfl ?_;refine Sz0 ?_;exact Qc (congrArg (PV.int .i64) (by rw[Qt,Qt];unfold gm dk;split<;>split<;>(try split)<;>(try split)<;>omega)) rfl
theorem VL{n m:Bool}{a b:List Nat}(ha:Qj a)(hb:Qj b)(bu:a.length<2^40)(dz:b.length<2^40):Qd Tryz.prog 140 [PV.zi n a,PV.zi m b] (· =PV.zz (zv n a+zv m b)):=by
 have fV:=bF ha;have iK:=bF hb;refine aB Qg Tryz.func140 aek fun C hP=>?_;refine Sz0 ?_;refine zC (fun fY=>?_) (fun fY=>?_)
 ·have fY:n=m:=by simpa using fY
  subst fY;have hr:=Aj (val a) (val b);refine Sz0 ?_;refine Qa hP (Oy ha hb bu dz) rfl rfl rfl ?_;refine Sz0 ?_;refine Qa hP (tA (n:=n) (Qk (val a+val b)) (show nl _<_ by omega)) rfl rfl rfl ?_;refine Sz0 ?_;refine cY ?_;refine Sz0 ?_;exact Qc (congrArg PV.zz (by rw[sA];unfold zv;split<;>simp<;>omega)) rfl
 have fY:n= !m:=by cases n<;>cases m<;>simp_all
 subst fY;refine Sz0 ?_;refine Qa hP (G2 ha hb bu dz) rfl rfl rfl ?_;by_cases hc:val a<val b
 ·rw[if_pos hc];have hr:=fh (Nat.sub_le (val b) (val a));refine Sz0 ?_;refine Qa hP (G2 hb ha dz bu) rfl rfl rfl ?_;rw[if_neg (by omega)];refine Sz0 ?_;refine Qa hP (tA (n:=m) (Qk (val b-val a)) (show nl _<_ by omega)) rfl rfl rfl ?_;refine Sz0 ?_;refine cY ?_;refine Sz0 ?_;exact Qc (congrArg PV.zz (by rw[sA];unfold zv;cases m<;>simp<;>omega)) rfl
 ·rw[if_neg hc];have hr:=fh (Nat.sub_le (val a) (val b));refine Sz0 ?_;refine Qa hP (tA (n:= !m) (Qk (val a-val b)) (show nl _<_ by omega)) rfl rfl rfl ?_;refine Sz0 ?_;refine cY ?_;refine Sz0 ?_;exact Qc (congrArg PV.zz (by rw[sA];unfold zv;cases m<;>simp<;>omega)) rfl
theorem Ob{a:List Nat}{g:Nat}(ha:Qj a)(hx:a.length<2^36)(hy:nl g<2^36)(h0:g≠0):Qd Tryz.prog 65 [PV.nat a,PV.num g] (· = .aG [PV.num (val a/g),PV.num (val a%g),.int .i64 0]):=by
 have:=NS ha (Qk g) hx hy
 rwa[Qt,if_neg h0]at this
theorem ahG(n:Bool)(a:List Nat)(D:Nat):zv n (ak (val a/Nat.gcd (val a) D))=zv n a/(Nat.gcd (zv n a).natAbs D:Int):=by
 rw[iO,sA];unfold zv;cases n
 ·simp
 ·have hd:((Nat.gcd (val a) D:Nat):Int)∣(val a:Int):=Int.natCast_dvd_natCast.2 (KbO _ _);simp only[if_true];rw[Int.neg_ediv_of_dvd hd,Int.natCast_ediv]
theorem Oc{n:Bool}{a d:List Nat}(ha:Qj a)(hd:Qj d)(bu:a.length<2^36)(s6:d.length<2^36):Qd Tryz.prog 34 [PV.zi n a,PV.nat d] (· =PV.rat (rv n a d)):=by
 have mm:=bF ha;have JV:=bF hd;refine aB Qg Tryz.func34 agZ fun C hP=>?_;refine Sz0 ?_;refine Qa hP (nN hd (by omega)) rfl rfl rfl ?_;refine Sz0 ?_;refine Qb (fun hz=>?_) (fun hz=>?_)
 ·have h0:val d=0:=lH.1 (pE (n:=val d) (by omega));refine Sz0 ?_;refine Qa hP (mO (n:=1) (by omega)) rfl rfl rfl ?_;refine Sz0 ?_;refine cY ?_;refine Sz0 ?_;exact(by unfold rv;rw[Om (.inl h0),sr];exact oK Mm rfl)
 ·have h0:val d≠0:=fun h=>by rw[h,ff]at hz;exact hz rfl
  have iL:Nat.gcd (val a) (val d)≠0:=fun h=>h0 (Nat.gcd_eq_zero_iff.1 h).2;have hg:=fh (Kc0 (val a) (KaU h0));have hq:=xD (val a) (Nat.gcd (val a) (val d));refine Sz0 ?_;refine Qa hP (G4 ha hd bu s6) rfl rfl rfl ?_;refine Sz0 ?_;refine Qa hP (Ob ha bu (by omega) iL) rfl rfl rfl ?_;refine Sz0 ?_;refine Qa hP (Ob hd s6 (by omega) iL) rfl rfl rfl ?_;refine Sz0 ?_;refine Qa hP (CF (n:=n) (Qk (val a/Nat.gcd (val a) (val d))) (show nl _<_ by omega)) rfl rfl rfl ?_;rw[ahG];have hm:=zH (z:=zv n a) h0;refine Sz0 ?_;refine cY ?_;refine Sz0 ?_;exact Qc (by unfold rv;rw[PV.rat,hm.1,hm.2,iO]) rfl
theorem u9{n:Bool}{a d:List Nat}{k:Nat}(hp:Raw k n a d)(hk:k<2^36):Qd Tryz.prog 70 [PV.rr n a d] (· =PV.rat (rv n a d)):=by obtain⟨ha,hd,sa,sd,k1⟩:=hp;refine aB Qg Tryz.func70 ag0 fun C hP=>?_;refine Sz0 ?_;refine Qa hP (Oc (n:=n) ha hd (by omega) (by omega)) rfl rfl rfl ?_;refine Sz0 ?_;refine cY ?_;refine Sz0 ?_;exact Qc rfl rfl
theorem zs{z:Int}{D:Nat}(hz:nl z.natAbs<2^36)(hD:nl D<2^36):Qd Tryz.prog 34 [PV.zz z,PV.num D] (· =PV.rat (mkRat z D)):=by
 have:=Oc (n:=decide (z<0)) (Qk z.natAbs) (Qk D) hz hD
 rwa[rv,lR,Qt]at this
theorem r9{x:Int}(h1: -9223372036854775808<=x)(h2:x<=9223372036854775807):Qd Tryz.prog 14 [.int .i64 x] (· =PV.rat (x:Rat)):=by have qn:nl x.natAbs<=4:=qM (by omega);refine aB Qg Tryz.func14 ahC fun C hP=>?_;refine Sz0 ?_;refine Qa hP (W5 h1 h2) rfl rfl rfl ?_;refine Sz0 ?_;refine Qa hP (mO (n:=1) (by omega)) rfl rfl rfl ?_;refine Sz0 ?_;refine Qa hP (zs (z:=x) (D:=1) (by omega) (by rw[lO];omega)) rfl rfl rfl ?_;refine Sz0 ?_;refine cY ?_;refine Sz0 ?_;exact Qc (congrArg PV.rat (Rat.mkRat_one x)) rfl
theorem Cv(d:List Nat):Qd Tryz.prog 141 [PV.nat d] (· =PV.zi false d):=by refine aB Qg Tryz.func141 aeV fun C hP=>?_;refine Sz0 ?_;refine cY ?_;refine Sz0 ?_;exact Qc rfl rfl
theorem Ht{x:Int}(hx:nl x.natAbs<2^42):Qd Tryz.prog 68 [PV.zz x] (· = .int .i64 (eO x)):=by
 have:=UO (n:=decide (x<0)) (Qk x.natAbs) hx
 rwa[lR]at this
theorem CG{n:Bool}{a d:List Nat}{k:Nat}(hp:Raw k n a d)(hk:k<2^36):Qd Tryz.prog 32 [PV.rr n a d] (· = .int .i64 (fk (rv n a d))):=by have hs:=hp.rs;unfold FW.rs at hs;refine aB Qg Tryz.func32 ahD fun C hP=>?_;refine Sz0 ?_;refine Qa hP (u9 hp hk) rfl rfl rfl ?_;refine Sz0 ?_;refine Qa hP (Ht (x:=(rv n a d).num) (by omega)) rfl rfl rfl ?_;refine Sz0 ?_;exact Qc rfl rfl
theorem Dj{x:Int}{d:Nat}(hx:nl x.natAbs<2^40)(hy:nl d<2^40):Qd Tryz.prog 71 [PV.zz x,PV.zi false (ak d)] (· =PV.zz (x*(d:Int))):=by
 have:=OA (n:=decide (x<0)) (m:=false) (Qk x.natAbs) (Qk d) hx hy
 rwa[lR,sg,Qt]at this
theorem ZR{x y:Int}(hx:nl x.natAbs<2^40)(hy:nl y.natAbs<2^40):Qd Tryz.prog 140 [PV.zz x,PV.zz y] (· =PV.zz (x+y)):=by
 have:=VL (n:=decide (x<0)) (m:=decide (y<0)) (Qk x.natAbs) (Qk y.natAbs) hx hy
 rwa[lR,lR]at this
theorem ZS{x y:Int}(hx:nl x.natAbs<2^41)(hy:nl y.natAbs<2^41):Qd Tryz.prog 162 [PV.zz x,PV.zz y] (· = .int .i64 (dk x y)):=by
 have:=VK (n:=decide (x<0)) (m:=decide (y<0)) (Qk x.natAbs) (Qk y.natAbs) hx hy
 rwa[lR,lR]at this
theorem OB{n m:Bool}{a d b c:List Nat}{k:Nat}(hp:Raw k n a d)(hq:Raw k m b c)(hk:k<2^34):Qd Tryz.prog 33 [PV.rr n a d,PV.rr m b c] (· =PV.rat (rv n a d*rv m b c)):=by obtain⟨ha,hd,sa,sd,k1⟩:=hp;obtain⟨hb,hc,sb,sc,k2⟩:=hq;have h1:=kj (zv n a) (zv m b);have h2:=iP (val d) (val c);rw[iO,iO]at h1;have e1:=bF ha;have e2:=bF hd;have e3:=bF hb;have e4:=bF hc;refine aB Qg Tryz.func33 ahF fun C hP=>?_;refine Sz0 ?_;refine Qa hP (OA (n:=n) (m:=m) ha hb (by omega) (by omega)) rfl rfl rfl ?_;refine Sz0 ?_;refine Qa hP (G3 hd hc (by omega) (by omega)) rfl rfl rfl ?_;refine Sz0 ?_;refine Qa hP (zs (z:=zv n a*zv m b) (D:=val d*val c) (by omega) (by omega)) rfl rfl rfl ?_;refine Sz0 ?_;refine cY ?_;refine Sz0 ?_;exact Qc (congrArg PV.rat (Rat.mkRat_mul_mkRat _ _ _ _).symm) rfl
theorem VM{n m:Bool}{a d b c:List Nat}{k:Nat}(hp:Raw k n a d)(hq:Raw k m b c)(hk:k<2^34):Qd Tryz.prog 122 [PV.rr n a d,PV.rr m b c] (· = .int .i64 (n6 (rv n a d) (rv m b c))):=by
 have hx:=hp.rs;have hy:=hq.rs;unfold FW.rs at hx hy;refine aB Qg Tryz.func122 aeW fun C hP=>?_;refine Sz0 ?_;refine Qa hP (u9 hp (by omega)) rfl rfl rfl ?_;refine Sz0 ?_;refine Qa hP (u9 hq (by omega)) rfl rfl rfl ?_;generalize rv n a d=p at *
 generalize rv m b c=q at *
 have h1:=kj p.num (q.den:Int);have h2:=kj q.num (p.den:Int);rw[KaD]at h1 h2;refine Sz0 ?_;refine Qa hP (Cv (ak q.den)) rfl rfl rfl ?_;refine Sz0 ?_;refine Qa hP (Dj (x:=p.num) (d:=q.den) (by omega) (by omega)) rfl rfl rfl ?_;refine Sz0 ?_;refine Qa hP (Cv (ak p.den)) rfl rfl rfl ?_;refine Sz0 ?_;refine Qa hP (Dj (x:=q.num) (d:=p.den) (by omega) (by omega)) rfl rfl rfl ?_;refine Sz0 ?_;refine Qa hP (ZS (x:=p.num*(q.den:Int)) (y:=q.num*(p.den:Int)) (by omega) (by omega)) rfl rfl rfl ?_;refine Sz0 ?_;exact Qc (congrArg (PV.int .i64) (by rw[<-Mn p.den_nz q.den_nz,KcX,KcX])) rfl
theorem OC{n m:Bool}{a d b c:List Nat}{k:Nat}(hp:Raw k n a d)(hq:Raw k m b c)(hk:k<2^34):Qd Tryz.prog 87 [PV.rr n a d,PV.rr m b c] (· =PV.rat (rv n a d+rv m b c)):=by
 have hx:=hp.rs;have hy:=hq.rs;unfold FW.rs at hx hy;refine aB Qg Tryz.func87 ahE fun C hP=>?_;refine Sz0 ?_;refine Qa hP (u9 hp (by omega)) rfl rfl rfl ?_;refine Sz0 ?_;refine Qa hP (u9 hq (by omega)) rfl rfl rfl ?_;generalize rv n a d=p at *
 generalize rv m b c=q at *
 have h1:=kj p.num (q.den:Int);have h2:=kj q.num (p.den:Int);have h3:=zb (p.num*(q.den:Int)) (q.num*(p.den:Int));have h4:=iP p.den q.den;rw[KaD]at h1 h2;refine Sz0 ?_;refine Qa hP (Cv (ak q.den)) rfl rfl rfl ?_;refine Sz0 ?_;refine Qa hP (Dj (x:=p.num) (d:=q.den) (by omega) (by omega)) rfl rfl rfl ?_;refine Sz0 ?_;refine Qa hP (Cv (ak p.den)) rfl rfl rfl ?_;refine Sz0 ?_;refine Qa hP (Dj (x:=q.num) (d:=p.den) (by omega) (by omega)) rfl rfl rfl ?_;refine Sz0 ?_;refine Qa hP (ZR (x:=p.num*(q.den:Int)) (y:=q.num*(p.den:Int)) (by omega) (by omega)) rfl rfl rfl ?_;refine Sz0 ?_;refine Qa hP (zk (x:=p.den) (y:=q.den) (by omega) (by omega)) rfl rfl rfl ?_;refine Sz0 ?_;refine Qa hP (zs (z:=p.num*(q.den:Int)+q.num*(p.den:Int)) (D:=p.den*q.den) (by omega) (by omega)) rfl rfl rfl ?_;refine Sz0 ?_;refine cY ?_;refine Sz0 ?_;exact Qc (congrArg PV.rat (by rw[<-Rat.mkRat_add_mkRat _ _ p.den_nz q.den_nz,KcX,KcX])) rfl
theorem GV{n:Bool}{a d:List Nat}{k:Nat}(hp:Raw k n a d)(hk:k<2^36):Qd Tryz.prog 55 [PV.rr n a d] (· = .bool (ku n a d)):=by
 obtain⟨ha,hd,sa,sd,k1⟩:=hp;have uD:(ak (Nat.gcd (val a) (val d))).length<2^43:=by
  by_cases h0:val d=0
  ·rw[h0,KcU];have h4:=bF ha;unfold nl at h4;omega
  ·have h3:=fh (Kc0 (val a) (KaU h0));have h4:=bF hd;unfold nl at h3 h4;omega
 refine qK Qg Tryz.func55 rfl agY (by simp[IX]) fun C hP=>?_;simp only[IX];refine du ?_;refine Sz0 ?_;refine Qa hP (Qz9 ha (by omega)) rfl rfl rfl ?_;unfold ku;refine Sz0 ?_;cases hio:oS n a
 ·refine Sz0 ?_;exact Qc (by simp) rfl
 rw[KcH];refine Sz0 ?_;refine Qa hP (N3 hd (by omega)) rfl rfl rfl ?_;refine Sz0 ?_;refine wZ (fun hv=>?_) (fun hv=>?_)
 ·refine Sz0 ?_;refine Qa hP (G4 ha hd (by omega) (by omega)) rfl rfl rfl ?_;refine Sz0 ?_;refine Qa hP (mO (n:=1) (by omega)) rfl rfl rfl ?_;refine Sz0 ?_;refine Qa hP (UN uD (by rw[sr];decide)) rfl rfl rfl ?_;rw[sr,decide_eq_decide.2 (Ox (Nat.gcd (val a) (val d)))];refine Sz0 ?_;refine Q4 (fun hg=>?_) (fun hg=>?_)
  ·refine Sz0 ?_;exact Qc (congrArg PV.bool (by cases d<;>simp_all)) rfl
  ·refine Sz0 ?_;exact Qc (congrArg PV.bool (by simp[hg])) rfl
 ·refine Sz0 ?_;exact Qc (congrArg PV.bool (by simp_all)) rfl
def alk:ay:=⟨47,[.t 6],Zr (YG 6)<|Zr (jr 11<|
 Zo (.mx 15 (.t 12) (.t 14))<|
 Zo (.mk 16 1 8 3 (Zz 0) (.t 15) (.t 15))<|
 Zm 7 16 .nil)<| .seq (Zr (eT 17 7)<| .block 0<| .loop<|Zr (Yu 20 19 18)<| .seq (.cond (.t 20) .skip (.exit 0))<| .seq (.block 1<|Zr (dn 21 19 8)<|Zr (Zc 9 0<|
 Yi 10 0)<| .seq (Zr (YK 22 8 0)<| .cond (.t 25) (.rg (fE 26 0 8<|
 Yc 9 29)) .skip)<| .seq (Zr (YK 30 8 1)<| .cond (.t 33) (.rg (fE 34 1 8<|
 Yc 10 37)) .skip)<| .rg (Yf 38 7 8<|
 de 40 2 9 10<|
 Zo (.call (some 43) false (.t 40) [.t 41,.t 42])<|
 Zi 44 1 38 39<|
 Zs 1 44 43 .nil))<| .rg (Yz 45 19 19))<|Zr (dn 46 7 6) .ret⟩
theorem aeX:Qe Tryz.prog Tryz.f159=some alk:=by kernel_rfl
def ak7:ay:=⟨24,[.t 2],Zr (YG 2)<|Zr (Yq 4 0<|
 Zm 3 5 .nil)<| .seq (.block 0<| .loop<| .seq (Zr (YA 6 3 1<|
 Zg 8 true (.ld 13 1 false (.t 12))<|
 Zg 8 true (.bin 14 .eql false (.t 13) (.c (Zz 0)))<|
 Yk 15 8 14 .nil)<| .cond (.t 15) .skip (.exit 0))<| .block 1<| .rg (rm 16 3))<| .seq (Zr (Zm 18 3<|
 gp 19 18 0)<| .cond (.t 19) (Zr (YG 2) .ret) .skip)<|Zr (de 20 0 3 3<|
 Zo (.sl 23 1 (.t 20) none (some (.t 21)) (some (.t 22)))<|
 Yc 2 23) .ret⟩
theorem aeY:Qe Tryz.prog Tryz.f142=some ak7:=by kernel_rfl
def ala:ay:=⟨35,[.t 2],Zr (Ye 2)<| .seq (Zr (Yq 5 0<|
 Zk 7 .gtr 6 64<|
 Yw 8 7 0<|
 Zg 8 false (.len 10 (.t 9))<|
 Zg 8 false (.bin 11 .gtr false (.t 10) (.c (Zz 0)))<|
 Zg 8 false (.mv 12 (.t 11))<|
 uf 12 0 0<|
 n9 12<|
 Zg 12 true (.bin 16 .sub false (.t 15) (.c (Zz 1)))<|
 Zg 12 true (.idx 17 1 (.t 13) (.t 16))<|
 rp 12<|
 Zg 12 true (.bin 19 .eql false (.t 18) (.c (Zz 0)))<|
 Zg 8 false (.pick 20 (.t 12) (.t 19) (.c (.bool false)))<|
 ep 21 8 20)<| .cond (.t 21) (Zr (Ye 2) .ret) .skip)<| .seq (Zr (eT 22 0)<| .block 0<| .loop<|Zr (Yu 25 24 23)<| .seq (.cond (.t 25) .skip (.exit 0))<| .seq (.block 1<|Zr (Yo 26 22 24<|
 Yc 4 27)<|Zr (iX 28 4<|
 ri 30 29 4 1048576<|
 ep 33 30 32)<| .cond (.t 33) (Zr (Ye 2) .ret) .skip)<| .rg (YE 34 24 24))<|Zr (YL 2) .ret⟩
theorem aeZ:Qe Tryz.prog Tryz.f147=some ala:=by kernel_rfl
def c95:ay:=⟨17,[.t 2],Zr (Yi 2 0)<|Zr (Yi 3 0)<| .seq (Zr (eT 6 0)<| .block 0<| .loop<|Zr (Yu 9 8 7)<| .seq (.cond (.t 9) .skip (.exit 0))<| .seq (.block 1<|Zr (Yo 10 6 8<|
 Zm 5 11 .nil)<| .rg (Yf 12 3 5<|
 cT 14 12 13<|
 Zm 3 14 .nil))<| .rg (YE 15 8 8))<|Zr (dn 16 3 2) .ret⟩
theorem ahH:Qe Tryz.prog Tryz.f95=some c95:=by kernel_rfl
def alJ:ay:=⟨17,[.t 4],Zr (Yi 4 0)<| .seq (Zr (iX 5 1<|
 oa 7 6 1 0<|
 Zg 7 false (.len 10 (.t 9))<|
 Zg 7 false (.bin 11 .geq false (.t 8) (.t 10))<|
 ep 12 7 11)<| .cond (.t 12) (Zr (Yi 4 0) .ret) .skip)<|Zr (fE 13 0 1<|
 Zm 4 16 .nil) .ret⟩
theorem ae0:Qe Tryz.prog Tryz.f184=some alJ:=by kernel_rfl
def c89:ay:=⟨7,[.t 2],Zr (Yi 2 0)<|Zr (YH 3 0 142<|
 Zn 5 4<|
 Zk 6 .sub 5 1<|
 Zm 2 6 .nil) .ret⟩
theorem ahI:Qe Tryz.prog Tryz.f89=some c89:=by kernel_rfl
def IN:ay:=⟨9,[.t 4],Zr (YG 4)<|Zr (Yf 5 0 1<|
 Zq 7 false 159 [.t 5,.t 6,.c (.fn 160 [] [])]<|
 Yn 8 142 7<|
 Zm 4 8 .nil) .ret⟩
theorem ae1:Qe Tryz.prog Tryz.f116=some IN:=by kernel_rfl
def alm:ay:=⟨8,[.t 4],Zr (Yi 4 0)<|Zr (Yf 5 0 1<|
 Zb 7 .add 5 6<|
 Zm 4 7 .nil) .ret⟩
theorem ae2:Qe Tryz.prog Tryz.f160=some alm:=by kernel_rfl
def IU:ay:=⟨46,[.t 6],Zr (Yi 6 0)<| .seq (Zr (Zm 12 2<|
 gp 13 12 1)<| .cond (.t 13) (Zr (YH 14 0 95<|
 YH 16 1 95<|
 Zm 7 15<|
 Zm 8 17 .nil)<|Zr (Yf 18 7 8<|
 Zb 20 .neq 18 19 .nil)<| .cond (.t 20) (.seq (Zr (Yf 21 7 8<|
 Yu 23 21 22)<| .cond (.t 23) (Zr (jT 6) .ret) .skip)<|Zr (Yi 6 1) .ret) .skip) .skip)<| .seq (Zr (jr 24<|
 Zo (.mx 28 (.t 25) (.t 27))<|
 Zk 29 .sub 28 1<|
 Yc 9 29)<| .block 0<| .loop<| .seq (Zr (Zm 30 9<|
 Zk 31 .geq 30 0 .nil)<| .cond (.t 31) .skip (.exit 0))<| .seq (.block 1<|Zr (er 34 0 9 184<|
 er 37 1 9 184<|
 dS 10 36 39)<|Zr (Yf 40 10 11<|
 Zb 42 .neq 40 41 .nil)<| .cond (.t 42) (.seq (Zr (Yf 43 10 11<|
 Yu 45 43 44)<| .cond (.t 45) (Zr (jT 6) .ret) .skip)<|Zr (Yi 6 1) .ret) .skip)<| .rg (rm 32 9))<|Zr (Yi 6 0) .ret⟩
theorem ae3:Qe Tryz.prog Tryz.f157=some IU:=by kernel_rfl
theorem ZT{n m:Bool}{a d b c:List Nat}{k:Nat}(hp:Raw k n a d)(hq:Raw k m b c)(hk:k<2^36):Qd Tryz.prog 91 [PV.rr n a d,PV.rr m b c] (· =PV.rat (rv n a d*rv m b c)):=by
 refine qK Qg Tryz.func91 rfl agz (by simp[IY]) fun C hP=>?_;simp only[IY];refine du ?_;refine Sz0 ?_;refine fM hP (r8 hp.la hp.ld hp.k1 hp.sa hp.sd (by omega)) rfl rfl rfl ?_;rintro _ ⟨n',a',d',rfl,g1,g2,g3,g4,g5,g6⟩;refine Sz0 ?_;refine fM hP (r8 hq.la hq.ld hq.k1 hq.sa hq.sd (by omega)) rfl rfl rfl ?_;rintro _ ⟨m',b',c',rfl,e1,e2,e3,e4,e5,e6⟩;refine Sz0 ?_;have yK:nl (zv n' a').natAbs<=k:=by rw[iO];exact KaL (bF g1) g3
 have Km:nl (zv m' b').natAbs<=k:=by rw[iO];exact KaL (bF e1) e3
 have Ki:nl (val d')<=k:=KaL (bF g2) g4;have wB:nl (val c')<=k:=KaL (bF e2) e4;have h3:=kj (zv n' a') (zv m' b');have h6:=iP (val d') (val c');refine Qa hP (rZ (n:=n') (m:=m') g1 e1 (by omega) (by omega)) rfl rfl rfl ?_;refine Sz0 ?_;refine Qa hP (Ds g2 e2 (by omega) (by omega)) rfl rfl rfl ?_;refine Sz0 ?_;refine Qa hP (CV (z:=zv n' a'*zv m' b') (Qk _) (by omega) (by show nl _<_;omega)) rfl rfl rfl ?_;refine Sz0 ?_;refine cY ?_;refine Sz0 ?_;refine Qc ?_ rfl;rw[Qt,<-g6,<-e6];unfold rv;rw[Rat.mkRat_mul_mkRat]
theorem CZ{n:Bool}{a d:List Nat}{k:Nat}(hp:Raw k n a d)(hk:k<2^36):Qd Tryz.prog 49 [PV.rr n a d] (· = .int .i64 (fk (rv n a d))):=by refine aB Qg Tryz.func49 agx fun C hP=>?_;refine Sz0 ?_;refine fM hP (r8 hp.la hp.ld hp.k1 hp.sa hp.sd (by omega)) rfl rfl rfl ?_;rintro _ ⟨n',a',d',rfl,g1,g2,g3,g4,g5,g6⟩;refine Sz0 ?_;refine Qa hP (CN g1 (by omega)) rfl rfl rfl ?_;refine Sz0 ?_;exact Qc (by rw[<-g6];unfold rv;rw[XN g5]) rfl
theorem Ze{n m:Bool}{a d b c:List Nat}{k:Nat}(hp:Raw k n a d)(hq:Raw k m b c)(hk:k<2^36):Qd Tryz.prog 114 [PV.rr n a d,PV.rr m b c] (· = .int .i64 (n6 (rv n a d) (rv m b c))):=by
 refine aB Qg Tryz.func114 aer fun C hP=>?_;refine Sz0 ?_;refine Qa hP (CZ hp hk) rfl rfl rfl ?_;refine Sz0 ?_;refine Qa hP (CZ hq hk) rfl rfl rfl ?_;refine Sz0 ?_;refine Qb (fun h1=>?_) (fun h1=>?_)
 ·refine Sz0 ?_;refine Qb (fun h2=>?_) (fun h2=>?_)
  ·refine Sz0 ?_;exact Qc (by rw[Lv h2]) rfl
  ·refine Sz0 ?_;exact Qc (by rw[aba (by omega)]) rfl
 refine Sz0 ?_;refine fM hP (r8 hp.la hp.ld hp.k1 hp.sa hp.sd (by omega)) rfl rfl rfl ?_;rintro _ ⟨n',a',d',rfl,g1,g2,g3,g4,g5,g6⟩;refine Sz0 ?_;refine fM hP (r8 hq.la hq.ld hq.k1 hq.sa hq.sd (by omega)) rfl rfl rfl ?_;rintro _ ⟨m',b',c',rfl,e1,e2,e3,e4,e5,e6⟩;have yK:nl (zv n' a').natAbs<=k:=by rw[iO];exact KaL (bF g1) g3
 have Km:nl (zv m' b').natAbs<=k:=by rw[iO];exact KaL (bF e1) e3
 have Ki:nl (val d')<=k:=KaL (bF g2) g4;have wB:nl (val c')<=k:=KaL (bF e2) e4;have h3:=kj (zv n' a') (val c');have h4:=kj (zv m' b') (val d');rw[KaD]at h3 h4;refine Sz0 ?_;refine Qa hP (tz _) rfl rfl rfl ?_;refine Sz0 ?_;refine Qa hP (rZ (n:=n') (m:=false) g1 e2 (by omega) (by omega)) rfl rfl rfl ?_;refine Sz0 ?_;refine Qa hP (tz _) rfl rfl rfl ?_;refine Sz0 ?_;refine Qa hP (rZ (n:=m') (m:=false) e1 g2 (by omega) (by omega)) rfl rfl rfl ?_;rw[sg,sg];refine Sz0 ?_;refine Qa hP (ab1 (x:=zv n' a'*(val c':Int)) (y:=zv m' b'*(val d':Int)) (by omega) (by omega)) rfl rfl rfl ?_;refine Sz0 ?_;exact Qc (by rw[<-g6,<-e6];unfold rv;rw[Mn g5 e5]) rfl
theorem Zj{x:Int}(h1: -9223372036854775808<=x)(h2:x<=9223372036854775807):Qd Tryz.prog 143 [.int .i64 x] (· =PV.zz x):=by
 refine qK Qg Tryz.func143 rfl adJ (by simp[IS]) fun C hP=>?_;simp only[IS];refine du ?_;refine Sz0 ?_;refine Qb (fun hc=>?_) (fun hc=>?_)
 ·obtain⟨y,hy⟩:∃y:Nat,x= -((y:Int)+1):=⟨(-(x+1)).toNat,by omega⟩
  have e1:IntKind.i64.wrap (x+1)= -(y:Int):=by rw[vf (by omega) (by omega)];omega
  have e2:IntKind.i64.wrap (0- -(y:Int))=(y:Int):=by rw[vf (by omega) (by omega)];omega
  have e3:IntKind.u64.wrap (y:Int)=(y:Int):=se (by omega) (by omega);have e4:IntKind.u64.wrap ((y+1:Nat):Int)=((y+1:Nat):Int):=se (by omega) (by omega);refine Sz4 e1 e2 e3 e4 ?_;refine Qa hP (Ec (by omega)) rfl rfl rfl ?_;refine Sz0 ?_;refine Qa hP (wW true (y+1)) rfl rfl rfl ?_;refine Sz0 ?_;refine cY ?_;refine Sz0 ?_;exact Qc (congrArg PV.zz (by simp;omega)) rfl
 ·obtain⟨y,rfl⟩:∃y:Nat,x=y:=⟨x.toNat,by omega⟩
  refine Sz0 ?_;refine Qa hP (Ec (by omega)) rfl rfl rfl ?_;refine Sz0 ?_;refine Qa hP (wW false y) rfl rfl rfl ?_;refine Sz0 ?_;refine cY ?_;refine Sz0 ?_;exact Qc (congrArg PV.zz (by simp)) rfl
theorem Dk{x:Int}(h1: -9223372036854775808<=x)(h2:x<=9223372036854775807):Qd Tryz.prog 90 [.int .i64 x] (· =PV.rat (x:Rat)):=by refine aB Qg Tryz.func90 agw fun C hP=>?_;refine Sz0 ?_;refine Qa hP (Zj h1 h2) rfl rfl rfl ?_;refine Sz0 ?_;refine Qa hP Di rfl rfl rfl ?_;refine Sz0 ?_;refine cY ?_;refine Sz0 ?_;exact Qc (by rw[PV.rat,Rat.num_intCast,Rat.den_intCast,PV.num,PV.num,sr];rfl) rfl
theorem UP{n:Bool}{a:List Nat}(ha:Qj a)(bu:a.length<2^42):Qd Tryz.prog 172 [PV.zi n a] (· = .bool (oS n a)):=by
 refine aB Qg Tryz.func172 adH fun C hP=>?_;refine Sz0 ?_;refine Q4 (fun h0=>?_) (fun h0=>?_)
 ·have:a=[]:=Kar.1 (by omega);subst this;refine Sz0 ?_;cases n
  ·refine Sz0 ?_;refine Qc (congrArg PV.bool ?_) rfl;simp[oS]
  ·refine Sz0 ?_;refine Qc (congrArg PV.bool ?_) rfl;simp[oS]
 ·obtain⟨k,hk⟩:∃k,a.length=k+1:=⟨a.length-1,by omega⟩
  have aT:a≠[]:=fun h=>by rw[h]at hk;simp at hk
  have hl:=On hk;have e:((k+1:Nat):Int)-1=k:=by omega
  generalize hx:a[k]'(by omega)=x at *
  refine Sz3 hk e hx ?_;refine Q4 (fun h=>?_) (fun h=>absurd (by omega) h);refine Sz3 hk e hx ?_;refine Qc (congrArg PV.bool ?_) rfl;unfold oS;rw[if_neg aT,hl];exact decide_eq_decide.2 ⟨fun h h'=>h (by injection h' with h';rw[h'];rfl),fun h h'=>h (by rw[show x=0 by omega])⟩
theorem VN{n:Bool}{a d:List Nat}{k:Nat}(hp:Raw k n a d)(hk:k<2^36):Qd Tryz.prog 146 [PV.rr n a d] (· = .bool (ku n a d)):=by
 obtain⟨ha,hd,sa,sd,k1⟩:=hp;refine qK Qg Tryz.func146 rfl aeq (by simp[IT]) fun C hP=>?_;simp only[IT];refine du ?_;refine Sz0 ?_;refine Qa hP (UP ha (by omega)) rfl rfl rfl ?_;unfold ku;refine Sz0 ?_;cases hio:oS n a
 ·refine Sz1 @Bool.not_false ?_;exact Qc (by simp) rfl
 rw[KcH];refine Sz1 @Bool.not_true ?_;refine Qo (fun h0=>?_) (fun h0=>?_)
 ·have:d=[]:=Kar.1 (by omega);subst this;refine Sz0 ?_;exact Qc (by simp) rfl
 obtain⟨k',cP⟩:∃k,d.length=k+1:=⟨d.length-1,by omega⟩
 have aT:d≠[]:=fun h=>by rw[h]at cP;simp at cP
 have hl:=On cP;have e:((k'+1:Nat):Int)-1=k':=by omega
 generalize hx:d[k']'(by omega)=x at *
 refine Sz3 cP e hx ?_;refine Qb (fun h1=>?_) (fun h1=>?_)
 ·refine Sz0 ?_;refine Qc (congrArg PV.bool ?_) rfl;rw[hl,show x=0 by omega];simp
 have bY:x≠0:=by omega
 refine Sz0 ?_;refine Qa hP (Dt (by omega)) rfl rfl rfl ?_;refine Sz0 ?_;refine Qo (fun h2=>?_) (fun h2=>?_)
 ·subst h2;refine Sz0 ?_;refine Qc (congrArg PV.bool ?_) rfl;simp[val]
 ·refine Sz0 ?_;refine Qa hP (LG ha hd (by omega) (by omega)) rfl rfl rfl ?_;have hD:0<val d:=by apply KaU;intro h0;have Sq:=z7 hd (by rw[hl];simpa using bY);rw[h0,ff]at Sq;exact aT Sq.symm
  have uD:(ak (Nat.gcd (val a) (val d))).length<2^43:=by have h3:=fh (Kc0 (val a) hD);have h4:=bF hd;unfold nl at h3 h4;omega
  refine Sz0 ?_;refine Qa hP (ID uD) rfl rfl rfl ?_;refine Sz0 ?_;refine Qc (congrArg PV.bool ?_) rfl;rw[hl];simp[aT,bY]
theorem OD{a:List Int}(hl:a.length<2^42):Qd Tryz.prog 142 [PV.mono a] (· =PV.mono (qW a)):=by
 refine aB Qg Tryz.func142 aeY fun C hP=>?_;refine Sz0 ?_;refine Qn eH [(3,3),(6,17)] [] (fun n J hp=>n<=a.length/\n7 a n=qW a/\J 3= .int .i64 n/\hp=aw) a.length ?_ ?_
 ·refine⟨Kad _,rfl,?_⟩;exact Tz0
 rintro n J _ ⟨hn,hc,h3,rfl⟩;refine Sz1 h3 ?_;refine Q4 (fun hg=>?_) (fun hg=>?_)
 ·obtain _|n:=n
  ·omega
  have e:((n+1:Nat):Int)-1=n:=by omega
  simp only[n7]at hc;simp+decide (disch:=try exact D2 h3 e) only[go_sem,h3,e];refine Qb (fun hz=>?_) (fun hz=>?_)
  ·rw[if_pos (by simp[hz,show n<a.length by omega])]at hc;refine Sz2 h3 e ?_;refine Qi n (by omega) ⟨by omega,hc,?_⟩;exact Tz0
  ·rw[if_neg (by simpa[show n<a.length by omega]using hz)]at hc;refine Sz2 h3 e ?_;refine Qb (fun h=>by omega) (fun h=>?_);refine Sz2 h3 e ?_;exact Qc (congrArg PV.mono hc) rfl
 ·obtain rfl:n=0:=by omega
  refine Sz1 h3 ?_;exact oK (XO (by rw[<-hc];rfl)) rfl
theorem UQ{a:List Int}(hl:a.length<2^42):Qd Tryz.prog 147 [PV.mono a] (· = .bool (iR a)):=by
 refine aB Qg Tryz.func147 aeZ fun C hP=>?_;refine Sz0 ?_;have bad:(64<a.length∨a.getLast? =some 0∨∃x∈a,x<0∨1048576<x)->iR a=false:=fun h=>by
  cases hb:iR a with
  |false=>rfl
  |true=>
   have:=MB.uV hb;simp only[iR,Kav,decide_eq_true_eq]at hb;rcases h with h|h|⟨x,hx,h⟩
   ·omega
   ·exact absurd h hb.2.1
   ·have h5:=this.lo x hx;have h6:=this.hi x hx;omega
 refine Qo (fun h1=>?_) (fun h1=>?_)
 ·refine Sz0 ?_;exact Qc (by rw[bad (.inl (by omega))]) rfl
 refine Sz0 ?_;have fin:a.length<=64->a.getLast? ≠some 0->(∀x∈a,0<=x/\x<=1048576)->iR a=true:=fun h1 h2 h3=>by simp only[iR,Kav,decide_eq_true_eq,Kaq];exact⟨h1,h2,h3⟩
 refine Q4 (fun h2=>?_) (fun h2=>?_)
 ·obtain⟨k,hk⟩:∃k,a.length=k+1:=⟨a.length-1,by omega⟩
  have je:=HZ hk;have e:((k+1:Nat):Int)-1=k:=by omega
  generalize hy:a[k]'(by omega)=y at *
  refine Sz3 hk e hy ?_;refine Qb (fun h3=>?_) (fun h3=>?_)
  ·refine Sz0 ?_;exact Qc (by rw[bad (.inr (.inl (by rw[je,h3])))]) rfl
  have je:a.getLast? ≠some 0:=by rw[je];simpa using h3
  rw[<-hk]at *
  refine Sz0 ?_;refine Qn eH [(2,2),(4,4),(24,34)] [] (fun k J hp=>∃i,k=a.length-i/\i<=a.length/\(∀x∈a.take i,0<=x/\x<=1048576)/\J 24= .int .i64 i/\hp=aw) a.length ?_ ?_
  ·refine⟨0,rfl,by omega,by simp,?_⟩;refine Sz0 ?_;rfl
  rintro _ J _ ⟨i,rfl,hi,aW,gO,rfl⟩;refine Sz1 gO ?_;refine Qb (fun hg=>?_) (fun hg=>?_)
  ·have az:i<a.length:=by omega
   have im:=Kah az;have bN:∀x∈a.take (i+1),x∈a.take i∨x=a[i]:=fun x hx=>by
    rw[Kam az]at hx;rcases KaM.1 hx with h|h
    ·exact .inl h
    ·exact .inr (Kay.1 h)
   generalize hx:a[i]=x at *
   refine Sz2 gO hx ?_;refine Qo (fun h5=>?_) (fun h5=>?_)
   ·refine Sz0 ?_;exact Qc (by rw[bad (.inr (.inr ⟨x,im,.inl h5⟩))]) rfl
   ·refine Sz0 ?_;refine Qb (fun h6=>?_) (fun h6=>?_)
    ·refine Sz0 ?_;exact Qc (by rw[bad (.inr (.inr ⟨x,im,.inr h6⟩))]) rfl
    ·refine Sz1 gO ?_;refine Qi (a.length-(i+1)) (by omega) ⟨i+1,rfl,by omega,fun y hy=>?_,?_⟩
     ·rcases bN y hy with h|rfl
      ·exact aW y h
      ·omega
     ·exact Tz0
  ·rw[Kai (by omega)]at aW;refine Sz0 ?_;exact Qc (by rw[fin (by omega) je aW]) rfl
 ·have JW:a=[]:=Kar.1 (by omega);have je:a.getLast? ≠some 0:=by rw[JW];simp
  refine Sz0 ?_;refine Qn eH [(2,2),(4,4),(24,34)] [] (fun k J hp=>∃i,k=a.length-i/\i<=a.length/\(∀x∈a.take i,0<=x/\x<=1048576)/\J 24= .int .i64 i/\hp=aw) a.length ?_ ?_
  ·refine⟨0,rfl,by omega,by simp,?_⟩;refine Sz0 ?_;rfl
  rintro _ J _ ⟨i,rfl,hi,aW,gO,rfl⟩;refine Sz1 gO ?_;refine Qb (fun hg=>?_) (fun hg=>?_)
  ·have az:i<a.length:=by omega
   have im:=Kah az;have bN:∀x∈a.take (i+1),x∈a.take i∨x=a[i]:=fun x hx=>by
    rw[Kam az]at hx;rcases KaM.1 hx with h|h
    ·exact .inl h
    ·exact .inr (Kay.1 h)
   generalize hx:a[i]=x at *
   refine Sz2 gO hx ?_;refine Qo (fun h5=>?_) (fun h5=>?_)
   ·refine Sz0 ?_;exact Qc (by rw[bad (.inr (.inr ⟨x,im,.inl h5⟩))]) rfl
   ·refine Sz0 ?_;refine Qb (fun h6=>?_) (fun h6=>?_)
    ·refine Sz0 ?_;exact Qc (by rw[bad (.inr (.inr ⟨x,im,.inr h6⟩))]) rfl
    ·refine Sz1 gO ?_;refine Qi (a.length-(i+1)) (by omega) ⟨i+1,rfl,by omega,fun y hy=>?_,?_⟩
     ·rcases bN y hy with h|rfl
      ·exact aW y h
      ·omega
     ·exact Tz0
  ·rw[Kai (by omega)]at aW;refine Sz0 ?_;exact Qc (by rw[fin (by omega) je aW]) rfl
theorem GW{a:List Int}(hl:a.length<=1048576)(hb:∀x∈a,0<=x/\x<=1099511627776):Qd Tryz.prog 95 [PV.mono a] (· = .int .i64 (jN a)):=by
 refine aB Qg Tryz.func95 ahH fun C hP=>?_;refine Sz0 ?_;refine Qn eH [(3,3),(5,5),(8,15)] [] (fun k J hp=>∃(i:Nat)(s:Int),k=a.length-i/\i<=a.length/\0<=s/\s<=1099511627776*i/\s+(a.drop i).sum=jN a/\J 8= .int .i64 (i:Nat)/\J 3= .int .i64 s/\hp=aw) a.length ?_ ?_
 ·refine⟨0,0,rfl,by omega,by omega,by omega,by simp[jN],?_⟩;refine Sz0 ?_;simp
 rintro _ J _ ⟨i,s,rfl,hi,wv,ee,qu,h8,h3,rfl⟩;refine Sz2 h8 h3 ?_;refine Qb (fun hg=>?_) (fun hg=>?_)
 ·have az:i<a.length:=by omega
  have hx:=hb _ (Kah az);rw[Kau az,Kc3]at qu;generalize dA:a[i]=x at *
  refine Sz3 h8 h3 dA ?_;refine Qi (a.length-(i+1)) (by omega) ⟨i+1,s+x,rfl,by omega,by omega,by push_cast;omega,by omega,?_⟩;exact Tz0
 ·rw[Kan (by omega),List.sum_nil,Int.add_zero]at qu;refine Sz1 h3 ?_;exact Qc (by rw[qu]) rfl
theorem W6{a:List Int}{v:Int}(hl:a.length<2^42):Qd Tryz.prog 184 [PV.mono a,.int .i64 v] (· = .int .i64 (if v<0 then 0 else eN a v.toNat)):=by
 refine aB Qg Tryz.func184 ae0 fun C hP=>?_;refine Sz0 ?_;refine Qo (fun h1=>?_) (fun h1=>?_)
 ·refine Sz0 ?_;exact Qc (by rw[if_pos h1]) rfl
 ·obtain⟨n,rfl⟩:∃n:Nat,v=n:=⟨v.toNat,by omega⟩
  rw[if_neg h1];refine Sz0 ?_;refine Qb (fun h2=>?_) (fun h2=>?_)
  ·refine Sz0 ?_;exact Qc (by rw[kZ (by omega)]) rfl
  ·have hn:n<a.length:=by omega
   refine Sz0 ?_;exact Qc (by rw[gY hn]) rfl
theorem Dl{a:List Int}{i:Nat}(hl:a.length<2^42):Qd Tryz.prog 184 [PV.mono a,.int .i64 i] (· = .int .i64 (eN a i)):=by
 have:=W6 (v:=i) hl
 rwa[if_neg (by omega),KbF]at this
theorem Qx2{a b:List Int}{f:Nat}{g:Int->Int->Int}(bu:a.length<2^40)(dz:b.length<2^40)(hf:∀i,Qd Tryz.prog f [.int .i64 (eN a i),.int .i64 (eN b i)] (· = .int .i64 (g (eN a i) (eN b i)))):
  Qd Tryz.prog 159 [PV.mono a,PV.mono b,.fn f [] []] (· =PV.mono (kB g a b)):=by
 refine aB Qg Tryz.func159 aeX fun C hP=>?_;refine Sz0 ?_;refine Qn eH [(8,10),(19,45)] [] (fun k J hp=>∃i,k=max a.length b.length-i/\i<=max a.length b.length/\J 19= .int .i64 (i:Nat)/\hp=Ql aw 16 ⟨1,3,pU ((kB g a b).take i++List.replicate (max a.length b.length-i) 0),false⟩) (max a.length b.length) ?_ ?_
 ·refine⟨0,rfl,by omega,?_⟩;refine Sz0 ?_;simp
 rintro _ J _ ⟨i,rfl,hi,gM,rfl⟩;refine Sz1 gM ?_;refine Qb (fun hg=>?_) (fun hg=>?_)
 ·have az:i<max a.length b.length:=by omega
  have hfi:=hf i;have pq:((kB g a b).take i).length=i:=by rw[Kax,pA];omega
  have nA:=fun v=>XP (v:=v) (z:=(0:Int)) pq (show 0<max a.length b.length-i by omega);have hlen:i<((kB g a b).take i++List.replicate (max a.length b.length-i) (0:Int)).length:=by rw[Kaw,pq,List.length_replicate];omega
  have bN:=HH (g:=g) az;have fin:∀x y,x=eN a i->y=eN b i->Qd Tryz.prog f [.int .i64 x,.int .i64 y] (· = .int .i64 (g (eN a i) (eN b i))):=by rintro _ _ rfl rfl;exact hfi
  refine Sz1 gM ?_;refine Qb (fun h1=>?_) (fun h1=>?_)
  ·have ie:i<a.length:=by omega
   simp+decide (disch:=try exact D1 gM) only[go_sem,gM];refine Qb (fun h2=>?_) (fun h2=>?_)
   ·have lk:i<b.length:=by omega
    simp+decide (disch:=try exact D1 gM) only[go_sem,gM];refine Qa hP (fin _ _ (gY ie).symm (gY lk).symm) rfl rfl rfl ?_;simp+decide (disch:=first|omega|rfl|(simp+decide only[go_sem,gM,nA,<-bN]<;>rfl)|fail) only[go_sem,gM,nA,<-bN];refine Qi (max a.length b.length-(i+1)) (by omega) ⟨i+1,rfl,by omega,?_⟩;exact Tz1 @Nat.sub_sub
   ·refine Sz1 gM ?_;refine Qa hP (fin _ _ (gY ie).symm (kZ (by omega)).symm) rfl rfl rfl ?_;simp+decide (disch:=first|omega|rfl|(simp+decide only[go_sem,gM,nA,<-bN]<;>rfl)|fail) only[go_sem,gM,nA,<-bN];refine Qi (max a.length b.length-(i+1)) (by omega) ⟨i+1,rfl,by omega,?_⟩;exact Tz1 @Nat.sub_sub
  ·refine Sz1 gM ?_;refine Qb (fun h2=>?_) (fun h2=>by omega);have lk:i<b.length:=by omega
   simp+decide (disch:=try exact D1 gM) only[go_sem,gM];refine Qa hP (fin _ _ (kZ (by omega)).symm (gY lk).symm) rfl rfl rfl ?_;simp+decide (disch:=first|omega|rfl|(simp+decide only[go_sem,gM,nA,<-bN]<;>rfl)|fail) only[go_sem,gM,nA,<-bN];refine Qi (max a.length b.length-(i+1)) (by omega) ⟨i+1,rfl,by omega,?_⟩;exact Tz1 @Nat.sub_sub
 ·obtain rfl:i=max a.length b.length:=by omega
  refine bo ?_;exact Qc (by simp[Kai,pA]) rfl
theorem VO{x y:Int}(h1: -9223372036854775808<=x+y)(h2:x+y<=9223372036854775807):Qd Tryz.prog 160 [.int .i64 x,.int .i64 y] (· = .int .i64 (x+y)):=by refine aB Qg Tryz.func160 ae2 fun C hP=>?_;refine Sz0 ?_;exact Qc rfl rfl
theorem W7{k:Nat}{a b:List Int}(ha:MB k a)(hb:MB k b)(hk:k<=1099511627776):Qd Tryz.prog 116 [PV.mono a,PV.mono b] (· =PV.mono (di a b)):=by have h1:=ha.len;have h2:=hb.len;have hz:=pA (· + ·) a b;refine qK Qg Tryz.func116 rfl ae1 (by simp[IN]) fun C hP=>?_;simp only[IN];refine du ?_;refine Sz0 ?_;refine Qa hP (Qx2 (f:=160) (g:=(· + ·)) (by omega) (by omega) (fun i=>VO (by have:=ha.eN i;have:=hb.eN i;omega) (by have:=ha.eN i;have:=hb.eN i;omega))) rfl rfl rfl ?_;refine Sz0 ?_;refine Qa hP (OD (by omega)) rfl rfl rfl ?_;refine Sz0 ?_;exact Qc rfl rfl
theorem VP{a:List Int}(hl:a.length<2^42):Qd Tryz.prog 89 [PV.mono a] (· = .int .i64 ((qW a).length-1)):=by have:=Cy a;refine aB Qg Tryz.func89 ahI fun C hP=>?_;refine Sz0 ?_;refine Qa hP (OD hl) rfl rfl rfl ?_;refine Sz0 ?_;exact Qc rfl rfl
theorem O4{k:Nat}{a b:List Int}{o:Int}(ha:MB k a)(hb:MB k b)(hk:k<=1099511627776):Qd Tryz.prog 157 [PV.mono a,PV.mono b,.int .i64 o] (· = .int .i64 (jO o a b)):=by
 have h1:=ha.len;have h2:=hb.len;have fV:∀x∈a,0<=x/\x<=1099511627776:=fun x hx=>by have:=ha.lo x hx;have:=ha.hi x hx;omega
 have iK:∀x∈b,0<=x/\x<=1099511627776:=fun x hx=>by have:=hb.lo x hx;have:=hb.hi x hx;omega
 refine qK Qg Tryz.func157 rfl ae3 (by simp[IU]) fun C hP=>?_;simp only[IU];refine du ?_;refine Sz0 ?_;refine Qb (fun ho=>?_) (fun ho=>?_)
 ·refine Sz0 ?_;refine Qa hP (GW (by omega) fV) rfl rfl rfl ?_;refine Sz0 ?_;refine Qa hP (GW (by omega) iK) rfl rfl rfl ?_;refine Sz0 ?_;refine Qb (fun hd=>?_) (fun hd=>?_)
  ·have jY:jO o a b=dk (jN a) (jN b):=by unfold jO;rw[if_pos ⟨ho,hd⟩]
   refine Sz0 ?_;refine Qb (fun h5=>?_) (fun h5=>?_)
   ·refine Sz0 ?_;exact Qc (by rw[jY,dk,if_pos h5]) rfl
   ·refine Sz0 ?_;exact Qc (by rw[jY,dk,if_neg h5,if_pos (by omega)]) rfl
  have jY:jO o a b=aY a b:=by unfold jO;rw[if_neg (fun h=>hd h.2)]
  refine Sz0 ?_;refine Qn (by repeat (first|exact DB|exact Dd|exact De|exact Dg|exact Dh|apply Dc|apply DA|apply DX|apply Eo|apply Ep|apply CU)) [(6,6),(9,11),(30,45)] [] (fun n J hp=>n<=max a.length b.length/\dI a b n=aY a b/\J 9= .int .i64 ((n:Int)-1)/\hp=aw) (max a.length b.length) ?_ ?_
  ·refine⟨by omega,rfl,?_⟩;exact Tz0
  rintro n J _ ⟨hn,hc,h9,rfl⟩;refine Sz1 h9 ?_;refine Qb (fun hg=>?_) (fun hg=>?_)
  ·obtain _|n:=n
   ·omega
   have e:((n+1:Nat):Int)-1=n:=by omega
   rw[dI]at hc;refine Sz2 h9 e ?_;refine Qa hP (Dl (by omega)) rfl rfl rfl ?_;refine Sz2 h9 e ?_;refine Qa hP (Dl (by omega)) rfl rfl rfl ?_;refine Sz2 h9 e ?_;refine Qb (fun h4=>?_) (fun h4=>?_)
   ·rw[if_neg h4]at hc;refine Sz2 h9 e ?_;refine Qb (fun h5=>?_) (fun h5=>?_)
    ·refine Sz2 h9 e ?_;exact Qc (by rw[jY,<-hc,dk,if_pos h5]) rfl
    ·refine Sz2 h9 e ?_;exact Qc (by rw[jY,<-hc,dk,if_neg h5,if_pos (by omega)]) rfl
   ·rw[if_pos (by omega)]at hc;refine Sz2 h9 e ?_;refine Qi n (by omega) ⟨by omega,hc,?_⟩;exact Tz0
  ·obtain rfl:n=0:=by omega
   refine Sz0 ?_;exact Qc (by rw[jY,<-hc];rfl) rfl
 ·have jY:jO o a b=aY a b:=by unfold jO;rw[if_neg (fun h=>ho h.1)]
  refine Sz0 ?_;refine Qn (by repeat (first|exact DB|exact Dd|exact De|exact Dg|exact Dh|apply Dc|apply DA|apply DX|apply Eo|apply Ep|apply CU)) [(6,6),(9,11),(30,45)] [] (fun n J hp=>n<=max a.length b.length/\dI a b n=aY a b/\J 9= .int .i64 ((n:Int)-1)/\hp=aw) (max a.length b.length) ?_ ?_
  ·refine⟨by omega,rfl,?_⟩;exact Tz0
  rintro n J _ ⟨hn,hc,h9,rfl⟩;refine Sz1 h9 ?_;refine Qb (fun hg=>?_) (fun hg=>?_)
  ·obtain _|n:=n
   ·omega
   have e:((n+1:Nat):Int)-1=n:=by omega
   rw[dI]at hc;refine Sz2 h9 e ?_;refine Qa hP (Dl (by omega)) rfl rfl rfl ?_;refine Sz2 h9 e ?_;refine Qa hP (Dl (by omega)) rfl rfl rfl ?_;refine Sz2 h9 e ?_;refine Qb (fun h4=>?_) (fun h4=>?_)
   ·rw[if_neg h4]at hc;refine Sz2 h9 e ?_;refine Qb (fun h5=>?_) (fun h5=>?_)
    ·refine Sz2 h9 e ?_;exact Qc (by rw[jY,<-hc,dk,if_pos h5]) rfl
    ·refine Sz2 h9 e ?_;exact Qc (by rw[jY,<-hc,dk,if_neg h5,if_pos (by omega)]) rfl
   ·rw[if_pos (by omega)]at hc;refine Sz2 h9 e ?_;refine Qi n (by omega) ⟨by omega,hc,?_⟩;exact Tz0
  ·obtain rfl:n=0:=by omega
   refine Sz0 ?_;exact Qc (by rw[jY,<-hc];rfl) rfl
theorem GY(x:Int):Qd Tryz.prog 105 [.int .i64 x] (· = .int .i64 (eO x)):=by
 refine aB Qg Tryz.func105 aeJ fun C hP=>?_;refine Sz0 ?_;refine Qb (fun h=>?_) (fun h=>?_)
 ·refine Sz0 ?_;exact Qc (by rw[eO,if_pos h]) rfl
 refine Sz0 ?_;refine Qb (fun h2=>?_) (fun h2=>?_)
 ·refine Sz0 ?_;exact Qc (by rw[eO,if_neg h,if_pos h2]) rfl
 ·refine Sz0 ?_;exact Qc (by rw[eO,if_neg h,if_neg h2]) rfl
theorem VQ{a:List Int}{v:Int}(hl:a.length<2^42):Qd Tryz.prog 106 [PV.mono a,.int .i64 v] (· = .int .i64 (if v<0 then 0 else eN a v.toNat)):=by
 refine aB Qg Tryz.func106 aeI fun C hP=>?_;refine Sz0 ?_;refine Qo (fun h1=>?_) (fun h1=>?_)
 ·refine Sz0 ?_;exact Qc (by rw[if_pos h1]) rfl
 ·obtain⟨n,rfl⟩:∃n:Nat,v=n:=⟨v.toNat,by omega⟩
  rw[if_neg h1];refine Sz0 ?_;refine Qb (fun h2=>?_) (fun h2=>?_)
  ·refine Sz0 ?_;exact Qc (by rw[kZ (by omega)]) rfl
  ·have hn:n<a.length:=by omega
   refine Sz0 ?_;exact Qc (by rw[gY hn]) rfl
theorem oI{a:List Int}{i:Nat}(hl:a.length<2^42):Qd Tryz.prog 106 [PV.mono a,.int .i64 i] (· = .int .i64 (eN a i)):=by
 have:=VQ (v:=i) hl
 rwa[if_neg (by omega),KbF]at this
theorem Cw{a:List Int}(hl:a.length<=1048576)(hb:∀x∈a,0<=x/\x<=1099511627776):Qd Tryz.prog 104 [PV.mono a] (· = .int .i64 (jN a)):=by
 refine aB Qg Tryz.func104 aeH fun C hP=>?_;refine Sz0 ?_;refine Qn okB [(3,16)] [] (fun k J hp=>∃(i:Nat)(s:Int),k=a.length-i/\i<=a.length/\0<=s/\s<=1099511627776*i/\s+(a.drop i).sum=jN a/\J 4= .int .i64 (i:Nat)/\J 3= .int .i64 s/\hp=aw) a.length ?_ ?_
 ·refine⟨0,0,rfl,by omega,by omega,by omega,by simp[jN],?_⟩;refine Sz0 ?_;simp
 rintro _ J _ ⟨i,s,rfl,hi,wv,ee,qu,h4,h3,rfl⟩;refine Sz2 h4 h3 ?_;refine Qb (fun hg=>?_) (fun hg=>?_)
 ·have az:i<a.length:=by omega
  have hx:=hb _ (Kah az);rw[Kau az,Kc3]at qu;generalize dA:a[i]=x at *
  refine Sz3 h4 h3 dA ?_;refine Qi (a.length-(i+1)) (by omega) ⟨i+1,s+x,rfl,by omega,by omega,by push_cast;omega,by omega,?_⟩;exact Tz0
 ·rw[Kan (by omega),List.sum_nil,Int.add_zero]at qu;refine Sz1 h3 ?_;exact Qc (by rw[qu]) rfl
theorem Uv{a:List Int}(hl:a.length<2^42):Qd Tryz.prog 56 [PV.mono a] (· = .bool (iR a)):=by
 refine aB Qg Tryz.func56 ahk fun C hP=>?_;refine Sz0 ?_;have bad:(64<a.length∨a.getLast? =some 0∨∃x∈a,x<0∨1048576<x)->iR a=false:=fun h=>by
  cases hb:iR a with
  |false=>rfl
  |true=>
   have:=MB.uV hb;simp only[iR,Kav,decide_eq_true_eq]at hb;rcases h with h|h|⟨x,hx,h⟩
   ·omega
   ·exact absurd h hb.2.1
   ·have h5:=this.lo x hx;have h6:=this.hi x hx;omega
 refine Qo (fun h1=>?_) (fun h1=>?_)
 ·refine Sz0 ?_;exact Qc (by rw[bad (.inl (by omega))]) rfl
 refine Sz0 ?_;have fin:a.length<=64->a.getLast? ≠some 0->(∀x∈a,0<=x/\x<=1048576)->iR a=true:=fun h1 h2 h3=>by simp only[iR,Kav,decide_eq_true_eq,Kaq];exact⟨h1,h2,h3⟩
 refine Q4 (fun h2=>?_) (fun h2=>?_)
 ·obtain⟨k,hk⟩:∃k,a.length=k+1:=⟨a.length-1,by omega⟩
  have je:=HZ hk;have e:((k+1:Nat):Int)-1=k:=by omega
  generalize hy:a[k]'(by omega)=y at *
  refine Sz3 hk e hy ?_;refine Qb (fun h3=>?_) (fun h3=>?_)
  ·refine Sz0 ?_;exact Qc (by rw[bad (.inr (.inl (by rw[je,h3])))]) rfl
  have je:a.getLast? ≠some 0:=by rw[je];simpa using h3
  rw[<-hk]at *
  refine Sz0 ?_;refine Qn okB [(2,3),(21,38)] [] (fun k J hp=>∃i,k=a.length-i/\i<=a.length/\(∀x∈a.take i,0<=x/\x<=1048576)/\J 3= .int .i64 i/\hp=aw) a.length ?_ ?_
  ·refine⟨0,rfl,by omega,by simp,?_⟩;refine Sz0 ?_;rfl
  rintro _ J _ ⟨i,rfl,hi,aW,hj,rfl⟩;refine Sz1 hj ?_;refine Qb (fun hg=>?_) (fun hg=>?_)
  ·have az:i<a.length:=by omega
   have im:=Kah az;have bN:∀x∈a.take (i+1),x∈a.take i∨x=a[i]:=fun x hx=>by
    rw[Kam az]at hx;rcases KaM.1 hx with h|h
    ·exact .inl h
    ·exact .inr (Kay.1 h)
   generalize hx:a[i]=x at *
   refine Sz2 hj hx ?_;refine Qo (fun h5=>?_) (fun h5=>?_)
   ·refine Sz0 ?_;exact Qc (by rw[bad (.inr (.inr ⟨x,im,.inl h5⟩))]) rfl
   ·refine Sz2 hj hx ?_;refine Qb (fun h6=>?_) (fun h6=>?_)
    ·refine Sz0 ?_;exact Qc (by rw[bad (.inr (.inr ⟨x,im,.inr h6⟩))]) rfl
    ·refine Sz1 hj ?_;refine Qi (a.length-(i+1)) (by omega) ⟨i+1,rfl,by omega,fun y hy=>?_,?_⟩
     ·rcases bN y hy with h|rfl
      ·exact aW y h
      ·omega
     ·exact Tz0
  ·rw[Kai (by omega)]at aW;refine Sz0 ?_;exact Qc (by rw[fin (by omega) je aW]) rfl
 ·have JW:a=[]:=Kar.1 (by omega);have je:a.getLast? ≠some 0:=by rw[JW];simp
  refine Sz0 ?_;refine Qn okB [(2,3),(21,38)] [] (fun k J hp=>∃i,k=a.length-i/\i<=a.length/\(∀x∈a.take i,0<=x/\x<=1048576)/\J 3= .int .i64 i/\hp=aw) a.length ?_ ?_
  ·refine⟨0,rfl,by omega,by simp,?_⟩;refine Sz0 ?_;rfl
  rintro _ J _ ⟨i,rfl,hi,aW,hj,rfl⟩;refine Sz1 hj ?_;refine Qb (fun hg=>?_) (fun hg=>?_)
  ·have az:i<a.length:=by omega
   have im:=Kah az;have bN:∀x∈a.take (i+1),x∈a.take i∨x=a[i]:=fun x hx=>by
    rw[Kam az]at hx;rcases KaM.1 hx with h|h
    ·exact .inl h
    ·exact .inr (Kay.1 h)
   generalize hx:a[i]=x at *
   refine Sz2 hj hx ?_;refine Qo (fun h5=>?_) (fun h5=>?_)
   ·refine Sz0 ?_;exact Qc (by rw[bad (.inr (.inr ⟨x,im,.inl h5⟩))]) rfl
   ·refine Sz2 hj hx ?_;refine Qb (fun h6=>?_) (fun h6=>?_)
    ·refine Sz0 ?_;exact Qc (by rw[bad (.inr (.inr ⟨x,im,.inr h6⟩))]) rfl
    ·refine Sz1 hj ?_;refine Qi (a.length-(i+1)) (by omega) ⟨i+1,rfl,by omega,fun y hy=>?_,?_⟩
     ·rcases bN y hy with h|rfl
      ·exact aW y h
      ·omega
     ·exact Tz0
  ·rw[Kai (by omega)]at aW;refine Sz0 ?_;exact Qc (by rw[fin (by omega) je aW]) rfl
theorem VR{k:Nat}{a b:List Int}(ha:MB k a)(hb:MB k b)(hk:k<=1099511627776):Qd Tryz.prog 88 [PV.mono a,PV.mono b] (· =PV.mono (kB (· + ·) a b)):=by
 have h1:=ha.len;have h2:=hb.len;have hz:=pA (· + ·) a b;refine aB Qg Tryz.func88 ahl fun C hP=>?_;refine Sz0 ?_;refine oL 5 900 1 3 (by omega) Tz0 ?_;refine Qn okB [(5,28)] [27,28,900] (fun m J hp=>∃(i:Nat)(out:List Int),m=max a.length b.length-i/\i<=max a.length b.length/\out=(kB (· + ·) a b).take i/\J 5= .ms 900 out.length/\J 6= .int .i64 i/\hp 900=some ⟨1,3,pU out,false⟩) (max a.length b.length) ?_ ?_
 ·refine⟨0,[],rfl,by omega,by simp,?_⟩;refine Sz0 ?_;simp
 rintro _ J h ⟨i,out,rfl,hi,mu,h5,h6,hh⟩;have fq:out.length=i:=by rw[mu,Kax,hz];omega
 refine Sz2 h5 h6 ?_;refine Qo (fun hg=>?_) (fun hg=>?_)
 ·have aq:i<max a.length b.length:=by omega
  have bN:=HH (g:=(· + ·)) aq;have ea:=ha.eN i;have eb:=hb.eN i;refine Sz2 h5 h6 ?_;refine Qa hP (oI (a:=a) (i:=i) (by omega)) rfl rfl rfl ?_;refine Sz2 h5 h6 ?_;refine Qa hP (oI (a:=b) (i:=i) (by omega)) rfl rfl rfl ?_;refine Sz2 h5 h6 ?_;rw[Qz (f:=fun(x:Int)=>.int .i64 x) (y:=eN a i+eN b i) (xs:=out) (ty':=3) (fz:=false) (Tz1 hh) bf (by omega) rfl (by omega) (by omega)];refine Sz2 h5 h6 ?_;refine Qi (max a.length b.length-(i+1)) (by omega) ⟨i+1,out++[eN a i+eN b i],rfl,by omega,by rw[bN,mu],?_⟩;refine Sz0 ?_;simp
 refine Sz2 h5 h6 ?_;refine Qb (fun eW=>?_) (fun eW=>?_)
 ·have aq:i<max a.length b.length:=by omega
  have bN:=HH (g:=(· + ·)) aq;have ea:=ha.eN i;have eb:=hb.eN i;refine Sz2 h5 h6 ?_;refine Qa hP (oI (a:=a) (i:=i) (by omega)) rfl rfl rfl ?_;refine Sz2 h5 h6 ?_;refine Qa hP (oI (a:=b) (i:=i) (by omega)) rfl rfl rfl ?_;refine Sz2 h5 h6 ?_;rw[Qz (f:=fun(x:Int)=>.int .i64 x) (y:=eN a i+eN b i) (xs:=out) (ty':=3) (fz:=false) (Tz1 hh) bf (by omega) rfl (by omega) (by omega)];refine Sz2 h5 h6 ?_;refine Qi (max a.length b.length-(i+1)) (by omega) ⟨i+1,out++[eN a i+eN b i],rfl,by omega,by rw[bN,mu],?_⟩;refine Sz0 ?_;simp
 obtain rfl:i=max a.length b.length:=by omega
 rw[Kai (by omega)]at mu;subst mu;refine xY h5 hh ?_;exact Qc (by rw[Kai (by simp)]) rfl
theorem H5(x y:Int):eO (x-y)=dk x y:=by unfold eO dk;(repeat' split)<;>omega
theorem VS{k:Nat}{a b:List Int}{o:Int}(ha:MB k a)(hb:MB k b)(hk:k<=1099511627776):Qd Tryz.prog 57 [PV.mono a,PV.mono b,.int .i64 o] (· = .int .i64 (jO o a b)):=by
 have h1:=ha.len;have h2:=hb.len;have fV:∀x∈a,0<=x/\x<=1099511627776:=fun x hx=>by have:=ha.lo x hx;have:=ha.hi x hx;omega
 have iK:∀x∈b,0<=x/\x<=1099511627776:=fun x hx=>by have:=hb.lo x hx;have:=hb.hi x hx;omega
 have da:=IA ha;have db:=IA hb;refine aB Qg Tryz.func57 ahm fun C hP=>?_;refine Sz0 ?_;refine Q4 (fun ho=>?_) (fun ho=>?_)
 ·refine Sz0 ?_;refine Qa hP (Cw (by omega) fV) rfl rfl rfl ?_;refine Sz0 ?_;refine Qa hP (Cw (by omega) iK) rfl rfl rfl ?_;refine Sz0 ?_;refine Qb (fun hd=>?_) (fun hd=>?_)
  ·have jY:jO o a b=dk (jN a) (jN b):=by unfold jO;rw[if_pos ⟨ho,hd⟩]
   refine Sz0 ?_;refine Qa hP (Cw (by omega) fV) rfl rfl rfl ?_;refine Sz0 ?_;refine Qa hP (Cw (by omega) iK) rfl rfl rfl ?_;refine Sz0 ?_;refine Qa hP (GY _) rfl rfl rfl ?_;refine Sz0 ?_;exact Qc (by rw[jY,H5]) rfl
  have jY:jO o a b=aY a b:=by unfold jO;rw[if_neg (fun h=>hd h.2)]
  refine Sz0 ?_;refine Qn okB [(6,7),(29,47)] [] (fun n J hp=>n<=max a.length b.length/\dI a b n=aY a b/\J 7= .int .i64 ((n:Int)-1)/\hp=aw) (max a.length b.length) ?_ ?_
  ·refine⟨by omega,rfl,?_⟩;exact Tz0
  rintro n J _ ⟨hn,hc,h7,rfl⟩;refine Sz1 h7 ?_;refine Qb (fun hg=>?_) (fun hg=>?_)
  ·obtain _|n:=n
   ·omega
   have e:((n+1:Nat):Int)-1=n:=by omega
   have ea:=ha.eN n;have eb:=hb.eN n;rw[dI]at hc;refine Sz2 h7 e ?_;refine Qa hP (oI (by omega)) rfl rfl rfl ?_;refine Sz2 h7 e ?_;refine Qa hP (oI (by omega)) rfl rfl rfl ?_;refine Sz2 h7 e ?_;refine Qb (fun h4=>?_) (fun h4=>?_)
   ·rw[if_neg h4]at hc;refine Sz2 h7 e ?_;refine Qa hP (oI (by omega)) rfl rfl rfl ?_;refine Sz2 h7 e ?_;refine Qa hP (oI (by omega)) rfl rfl rfl ?_;refine Sz2 h7 e ?_;refine Qa hP (GY _) rfl rfl rfl ?_;refine Sz2 h7 e ?_;exact Qc (by rw[jY,<-hc,H5]) rfl
   ·rw[if_pos (by omega)]at hc;refine Sz2 h7 e ?_;refine Qi n (by omega) ⟨by omega,hc,?_⟩;exact Tz0
  ·obtain rfl:n=0:=by omega
   refine Sz0 ?_;exact Qc (by rw[jY,<-hc];rfl) rfl
 ·have jY:jO o a b=aY a b:=by unfold jO;rw[if_neg (fun h=>ho h.1)]
  refine Sz0 ?_;refine Qn okB [(6,7),(29,47)] [] (fun n J hp=>n<=max a.length b.length/\dI a b n=aY a b/\J 7= .int .i64 ((n:Int)-1)/\hp=aw) (max a.length b.length) ?_ ?_
  ·refine⟨by omega,rfl,?_⟩;exact Tz0
  rintro n J _ ⟨hn,hc,h7,rfl⟩;refine Sz1 h7 ?_;refine Qb (fun hg=>?_) (fun hg=>?_)
  ·obtain _|n:=n
   ·omega
   have e:((n+1:Nat):Int)-1=n:=by omega
   have ea:=ha.eN n;have eb:=hb.eN n;rw[dI]at hc;refine Sz2 h7 e ?_;refine Qa hP (oI (by omega)) rfl rfl rfl ?_;refine Sz2 h7 e ?_;refine Qa hP (oI (by omega)) rfl rfl rfl ?_;refine Sz2 h7 e ?_;refine Qb (fun h4=>?_) (fun h4=>?_)
   ·rw[if_neg h4]at hc;refine Sz2 h7 e ?_;refine Qa hP (oI (by omega)) rfl rfl rfl ?_;refine Sz2 h7 e ?_;refine Qa hP (oI (by omega)) rfl rfl rfl ?_;refine Sz2 h7 e ?_;refine Qa hP (GY _) rfl rfl rfl ?_;refine Sz2 h7 e ?_;exact Qc (by rw[jY,<-hc,H5]) rfl
   ·rw[if_pos (by omega)]at hc;refine Sz2 h7 e ?_;refine Qi n (by omega) ⟨by omega,hc,?_⟩;exact Tz0
  ·obtain rfl:n=0:=by omega
   refine Sz0 ?_;exact Qc (by rw[jY,<-hc];rfl) rfl
theorem ach{a b:Rat}{k:Nat}(ha:rs a<=k)(hb:rs b<=k)(hk:k<2^34):Qd Tryz.prog 87 [PV.rat a,PV.rat b] (· =PV.rat (a+b)):=by
 have:=OC (gV ha) (gV hb) hk
 rwa[gF,gF]at this
theorem LN{a b:Rat}{k:Nat}(ha:rs a<=k)(hb:rs b<=k)(hk:k<2^34):Qd Tryz.prog 33 [PV.rat a,PV.rat b] (· =PV.rat (a*b)):=by
 have:=OB (gV ha) (gV hb) hk
 rwa[gF,gF]at this
theorem aci{a b:Rat}{k:Nat}(ha:rs a<=k)(hb:rs b<=k)(hk:k<2^34):Qd Tryz.prog 122 [PV.rat a,PV.rat b] (· = .int .i64 (n6 a b)):=by
 have:=VM (gV ha) (gV hb) hk
 rwa[gF,gF]at this
theorem HM{a:Rat}(ha:rs a<2^36):Qd Tryz.prog 32 [PV.rat a] (· = .int .i64 (fk a)):=by
 have:=CG (gV (Kad (rs a))) ha
 rwa[gF]at this
theorem Ap{k:Nat}{a b:List Int}(ha:MB k a)(hb:MB k b)(hk:k<=1099511627776):Qd Tryz.prog 57 [PV.mono a,PV.mono b,.int .i64 0] (· = .int .i64 (aY a b)):=by
 have:=VS (o:=0) ha hb hk
 rwa[Er]at this
theorem VT{p q:List Tm}{K E:Nat}(hp:PB K E p)(hq:PB K E q)(hK:K<=2^33)(hE:E<=2^38)(fX:p.length<=2^36)(mj:q.length<=2^36):
  Qd Tryz.prog 69 [PV.ao p,PV.ao q] (· = .int .i64 (iG p q)):=by
 refine aB Qg Tryz.func69 ahc fun C hP=>?_;refine Sz0 ?_;refine Qn okB [(4,47)] [] (fun n J hp=>∃i,n=p.length-i/\i<=p.length/\i<=q.length/\iG (p.drop i) (q.drop i)=iG p q/\J 5= .int .i64 (i:Nat)) p.length ?_ ?_
 ·refine⟨0,rfl,by omega,by omega,rfl,?_⟩;refine Sz0 ?_;rfl
 rintro _ J h ⟨i,rfl,hi,nu,eX,h5⟩;refine Sz1 h5 ?_;refine Q4 (fun hg=>?_) (fun hg=>?_)
 ·have az:i<p.length:=by omega
  refine Sz1 h5 ?_;refine Qb (fun hk=>?_) (fun hk=>?_)
  ·have cP:i<q.length:=by omega
   have cx:=hp.get az;have ox:=hq.get cP;have c1:=cx.c;have c2:=ox.c;rw[PO az cP]at eX;generalize hx:p[i]=x at *
   generalize hy:q[i]=y at *
   refine Sz3 h5 hx hy ?_;refine Qa hP (Ap cx.m ox.m (by omega)) rfl rfl rfl ?_;refine Sz3 h5 hx hy ?_;refine Qb (fun hc=>?_) (fun hc=>?_)
   ·refine Sz0 ?_;exact Qc (by rw[<-eX,if_pos (by rw[mU,if_pos hc];exact hc),mU,if_pos hc]) rfl
   ·refine Sz3 h5 hx hy ?_;refine Qa hP (aci (a:=x.1) (b:=y.1) (k:=2^33) (by omega) (by omega) (by omega)) rfl rfl rfl ?_;refine Sz3 h5 hx hy ?_;refine Qb (fun eL=>?_) (fun eL=>?_)
    ·refine Sz0 ?_;exact Qc (by rw[<-eX,if_pos (by rw[mU,if_neg hc];exact eL),mU,if_neg hc]) rfl
    ·rw[if_neg (by rw[mU,if_neg hc];exact eL)]at eX;refine Sz1 h5 ?_;refine Qi (p.length-(i+1)) (by omega) ⟨i+1,rfl,by omega,by omega,eX,?_⟩;exact Tz0
  refine Sz0 ?_;refine Qb (fun hk=>?_) (fun hk=>?_)
  ·refine Sz0 ?_;exact Qc (by rw[<-eX,Kan (show p.length<=i by omega),zU,if_neg (by rw[Ka2];omega)]) rfl
  ·refine Sz0 ?_;refine Qb (fun pd=>?_) (fun pd=>?_)
   ·refine Sz0 ?_;refine Qc ?_ rfl;rw[<-eX,Kau (show i<p.length by omega),Kan (show q.length<=i by omega),iG]
   ·refine Sz0 ?_;exact Qc (by rw[<-eX,Kan (show p.length<=i by omega),zU,if_pos (by rw[Ka2];omega)]) rfl
 ·have az:i=p.length:=by omega
  refine Sz0 ?_;refine Qb (fun hk=>?_) (fun hk=>?_)
  ·refine Sz0 ?_;exact Qc (by rw[<-eX,Kan (show p.length<=i by omega),zU,if_neg (by rw[Ka2];omega)]) rfl
  ·refine Sz0 ?_;refine Qb (fun pd=>?_) (fun pd=>?_)
   ·refine Sz0 ?_;refine Qc ?_ rfl;rw[<-eX,Kau (show i<p.length by omega),Kan (show q.length<=i by omega),iG]
   ·refine Sz0 ?_;exact Qc (by rw[<-eX,Kan (show p.length<=i by omega),zU,if_pos (by rw[Ka2];omega)]) rfl
theorem Uw{p q:List Tm}{K E:Nat}(hp:PB K E p)(hq:PB K E q)(hK:K<=2^33)(hE:E<=2^38)(fX:p.length<=2^36)(mj:q.length<=2^36):Qd Tryz.prog 31 [PV.ao p,PV.ao q] (· = .bool (decide (p=q))):=by refine aB Qg Tryz.func31 ahe fun C hP=>?_;refine Sz0 ?_;refine Qa hP (VT hp hq hK hE fX mj) rfl rfl rfl ?_;refine Sz0 ?_;exact Qc (congrArg PV.bool (decide_eq_decide.2 (Iz hp.last hq.last))) rfl
theorem G5{p q:List Tm}{K E:Nat}(hp:PB K E p)(hq:PB K E q)(hK:K<=2^32)(hE:E<=2^38)(fX:p.length<=2^36)(mj:q.length<=2^36):
  Qd Tryz.prog 46 [PV.ao p,PV.ao q] (· =PV.ao (Qq p q)):=by
 refine aB Qg Tryz.func46 ahb fun C hP=>?_;refine Sz0 ?_;refine oL 5 900 4 77 (by omega) Tz0 ?_;refine Qn okB [(5,90)] [9,61,62,75,76,87,88,900] (fun n J hp=>∃i k out,n=(p.length-i)+(q.length-k)/\i<=p.length/\k<=q.length/\out.length<=i+k/\out++Qq (p.drop i) (q.drop k)=Qq p q/\
  J 5= .ms 900 out.length/\J 6= .int .i64 (i:Nat)/\J 7= .int .i64 (k:Nat)/\hp 900=some ⟨4,77,out.map PV.term,false⟩) (p.length+q.length) ?_ ?_
 ·refine⟨0,0,[],by omega,by omega,by omega,by simp,rfl,?_⟩;refine Sz0 ?_;simp
 rintro _ J h ⟨i,k,out,rfl,hi,hk,fq,dO,h5,h6,h7,hh⟩;refine Sz3 h5 h6 h7 ?_;refine Qo (fun hg=>?_) (fun hg=>?_)
 ·have az:i<p.length:=by omega
  refine Sz3 h5 h6 h7 ?_;refine Qb (fun h=>by omega) (fun _=>?_);refine Sz3 h5 h6 h7 ?_;refine Qb (fun eW=>?_) (fun eW=>?_)
  ·have cP:k<q.length:=by omega
   have cx:=hp.get az;have ox:=hq.get cP;rw[PN az cP]at dO;have c1:=cx.c;have c2:=ox.c;generalize hx:p[i]=x at *
   generalize hy:q[k]=y at *
   refine Sz5 h5 h6 h7 hx hy ?_;refine Qa hP (Ap cx.m ox.m (by omega)) rfl rfl rfl ?_;refine Sz5 h5 h6 h7 hx hy ?_;refine Qb (fun hc=>?_) (fun hc=>?_)
   ·rw[if_pos hc]at dO;refine Sz4 h5 h6 h7 hx ?_;rw[Qz (f:=PV.term) (y:=x) (xs:=out) (ty':=77) (fz:=false) (Tz1 hh) bf (by omega) rfl (by omega) (by omega)];refine Sz4 h5 h6 h7 hx ?_;refine Qi ((p.length-(i+1))+(q.length-k)) (by omega) ⟨i+1,k,out++[x],rfl,by omega,hk,by simp;omega,by simpa using dO,?_⟩;refine Sz3 h5 h6 h7 ?_;simp
   rw[if_neg hc]at dO;refine Sz5 h5 h6 h7 hx hy ?_;refine Qb (fun eL=>?_) (fun eL=>?_)
   ·rw[if_pos eL]at dO;refine Sz4 h5 h6 h7 hy ?_;rw[Qz (f:=PV.term) (y:=y) (xs:=out) (ty':=77) (fz:=false) (Tz1 hh) bf (by omega) rfl (by omega) (by omega)];refine Sz4 h5 h6 h7 hy ?_;refine Qi ((p.length-i)+(q.length-(k+1))) (by omega) ⟨i,k+1,out++[y],rfl,by omega,by omega,by simp;omega,by simpa using dO,?_⟩;refine Sz3 h5 h6 h7 ?_;simp
   rw[if_neg eL]at dO;have uL:=vk x.1 y.1;refine Sz5 h5 h6 h7 hx hy ?_;refine dp ?_ ?_
   all_goals
    refine Sz5 h5 h6 h7 hx hy ?_;refine Qa hP (ach (a:=x.1) (b:=y.1) (k:=2^32) (by omega) (by omega) (by omega)) rfl rfl rfl ?_;refine Sz5 h5 h6 h7 hx hy ?_;refine Qa hP (HM (a:=x.1+y.1) (by omega)) rfl rfl rfl ?_;refine Sz5 h5 h6 h7 hx hy ?_;refine Qb (fun hz=>?_) (fun hz=>?_)
    ·rw[if_neg (fun h=>hz (fZ.2 h))]at dO;refine Sz5 h5 h6 h7 hx hy ?_;rw[Qz (f:=PV.term) (y:=(x.1+y.1,x.2)) (xs:=out) (ty':=77) (fz:=false) (Tz1 hh) bf (by omega) rfl (by omega) (by omega)];refine Sz5 h5 h6 h7 hx hy ?_;refine Qi ((p.length-(i+1))+(q.length-(k+1))) (by omega) ⟨i+1,k+1,out++[(x.1+y.1,x.2)],rfl,by omega,by omega,by simp;omega,by simpa using dO,?_⟩;refine Sz3 h5 h6 h7 ?_;simp
    ·rw[if_pos (fZ.1 (Decidable.not_not.1 hz))]at dO;refine Sz5 h5 h6 h7 hx hy ?_;refine Qi ((p.length-(i+1))+(q.length-(k+1))) (by omega) ⟨i+1,k+1,out,rfl,by omega,by omega,by omega,dO,?_⟩;exact Tz4 h5 h6 h7 hh
  ·rw[Kan (show q.length<=k by omega),kW,Kau az]at dO;have dO:out++p[i]::Qq (p.drop (i+1)) (q.drop k)=Qq p q:=by rw[Kan (show q.length<=k by omega),kW];exact dO
   generalize hx:p[i]=x at *
   refine Sz4 h5 h6 h7 hx ?_;rw[Qz (f:=PV.term) (y:=x) (xs:=out) (ty':=77) (fz:=false) (Tz1 hh) bf (by omega) rfl (by omega) (by omega)];refine Sz4 h5 h6 h7 hx ?_;refine Qi ((p.length-(i+1))+(q.length-k)) (by omega) ⟨i+1,k,out++[x],rfl,by omega,hk,by simp;omega,by simpa using dO,?_⟩;refine Sz3 h5 h6 h7 ?_;simp
 ·have az:i=p.length:=by omega
  refine Sz3 h5 h6 h7 ?_;refine Qb (fun eW=>?_) (fun eW=>?_)
  ·have cP:k<q.length:=by omega
   rw[Kan (show p.length<=i by omega),sh,Kau cP]at dO;have dO:out++q[k]::Qq (p.drop i) (q.drop (k+1))=Qq p q:=by rw[Kan (show p.length<=i by omega),sh];exact dO
   generalize hy:q[k]=y at *
   refine Sz4 h5 h6 h7 hy ?_;refine Qb (fun _=>?_) (fun h=>by omega);refine Sz4 h5 h6 h7 hy ?_;rw[Qz (f:=PV.term) (y:=y) (xs:=out) (ty':=77) (fz:=false) (Tz1 hh) bf (by omega) rfl (by omega) (by omega)];refine Sz4 h5 h6 h7 hy ?_;refine Qi ((p.length-i)+(q.length-(k+1))) (by omega) ⟨i,k+1,out++[y],rfl,by omega,by omega,by simp;omega,by simpa using dO,?_⟩;refine Sz3 h5 h6 h7 ?_;simp
  ·rw[Kan (show p.length<=i by omega),sh,Kan (show q.length<=k by omega),Kas]at dO;refine Vz4 h5 h6 h7 hh ?_;exact Qc (by rw[Kai (by simp),dO]) rfl
def alC:ay:=⟨97,[.t 8],Zr (YG 8)<|Zr (jr 15<|
 cT 19 16 18<|
 Zo (.mk 20 4 80 77 (.agg [.bool false,.aa,.aa,.aa]) (.c (Zz 0)) (.t 19))<|
 Zm 9 20 .nil)<|Zr (Zc 10 0<|
 Yi 11 0)<| .seq (.block 0<| .loop<| .seq (Zr (Yf 21 10 0<|
 Zn 23 22<|
 Zb 24 .lss 21 23<|
 YJ 25 24 11<|
 Zg 25 true (.mv 27 (.t 1))<|
 n9 25<|
 Zg 25 true (.bin 29 .lss false (.t 26) (.t 28))<|
 Yk 30 25 29 .nil)<| .cond (.t 30) .skip (.exit 0))<| .block 1<|Zr (de 31 2 0 10<|
 YM 34 4 32 33<|
 Yf 36 1 11<|
 YM 38 4 36 37<|
 Zo (.call (some 40) false (.t 31) [.t 35,.t 39])<|
 Yc 12 40)<| .block 2<|Zr (Zm 64 12<|
 Zk 65 .gtr 64 0<|
 Zm 63 65 .nil)<| .cond (.t 63) (Zr (de 66 9 0 10<|
 YM 69 4 67 68<|
 Zo (.bs 71 4 77 [.t 70])<|
 Zo (.app 72 4 80 77 (.t 66) (.t 71))<|
 Yc 9 72)<| .rg (YX 73 10)) (Zr (iX 76 12<|
 Zm 75 77 .nil)<| .cond (.t 75) (Zr (de 78 9 1 11<|
 YM 81 4 79 80<|
 YB 83 4 77 82 80 78<|
 Yc 9 84)<| .rg (YX 85 11)) (.seq (Zr (de 42 3 0 10<|
 YM 45 4 43 44<|
 Yf 47 1 11<|
 YM 49 4 47 48<|
 .br (Zo (.call (some 51) true (.t 42) [.t 46,.t 50])<|
 Zm 41 51<|
 Yd 52 41<|
 qa 13<|
 Zs 4 13 52<|
 Yc 14 53) (qa 13<|
 Zo (.call (some 51) true (.t 42) [.t 46,.t 50])<|
 Zm 41 51<|
 Yd 52 41<|
 Zs 4 13 52<|
 Yc 14 53))<|Zr (Yc 54 14)<| .cond (.t 54) (.rg (Zm 55 9<|
 Zh 56 4 13<|
 YB 57 4 77 56 80 55<|
 Yc 9 58)) .skip)<|Zr (YX 59 10)<| .rg (YX 61 11))))<|Zr (yb 87 9 0 10 9)<|Zr (yb 92 9 1 11 8) .ret⟩
theorem ae4:Qe Tryz.prog Tryz.f175=some alC:=by kernel_rfl
def akI:ay:=⟨10,[.t 4],Zr (Zo (.box 2 4 77 (.t 0))<|
 YZ 3 77 1<|
 Yi 4 0)<|Zr (cF 5 3 2 3 3<|
 Zq 9 false 157 [.t 6,.t 8,.c (Zz 0)]<|
 Zm 4 9 .nil) .ret⟩
theorem L3:Qe Tryz.prog Tryz.f113=some akI:=by kernel_rfl
def alD:ay:=⟨19,[.cell 4 4 true,.t 5],Zr (Zo (.box 2 4 77 (.t 0))<|
 YZ 3 77 1<|
 Zo (.alloc 4 4 77 (.agg [.bool false,.aa,.aa,.aa]))<|
 Ye 5)<|Zr (dY 7 2 3<|
 dY 9 3 3<|
 Yl 11 93 8 10<|
 Yr 6<|
 Zs 3 6 11 .nil)<|Zr (Zh 12 3 6<|
 Yb 13 3 2<|
 rh 15 12 14<|
 Zh 16 3 6<|
 ek 17 49 16<|
 Zk 18 .neq 17 0<|
 Zs 4 4 15<|
 Yc 5 18) .ret⟩
theorem ae5:Qe Tryz.prog Tryz.f176=some alD:=by kernel_rfl
def alB:ay:=⟨25,[.t 2],Zr (YG 2)<| .seq (Zr (Yq 4 0 .nil)<| .block 0<|Zr (Ys 7 5 0 6)<| .cond (.t 6) (Zr (YG 2) .ret) (Zr (Ys 9 5 1 8)<| .cond (.t 8) (Zr (Zm 10 0<|
 Yv 11 10 0<|
 Zm 2 12 .nil) .ret) .skip))<|Zr (Yq 13 0<|
 Zk 15 .quo 14 2<|
 Zm 3 15 .nil)<|Zr (Yf 16 0 3<|
 Zo (.sl 18 1 (.t 16) none (some (.t 17)) none)<|
 Yf 20 0 3<|
 Zo (.sl 22 1 (.t 20) (some (.t 21)) none none)<|
 Yn 19 174 18<|
 Yn 23 174 22<|
 Yl 24 150 19 23<|
 Yc 2 24) .ret⟩
theorem L4:Qe Tryz.prog Tryz.f174=some alB:=by kernel_rfl
def alA:ay:=⟨12,[.t 4],Zr (YZ 2 53 0<|
 YG 4)<| .seq (Zr (fm 5 3 2 49<|
 gp 7 6 0)<| .cond (.t 7) (Zr (YG 4) .ret) .skip)<|Zr (fG 8 3 2 1<|
 rh 10 8 9<|
 Zo (.bs 11 4 77 [.t 10])<|
 Zm 4 11 .nil) .ret⟩
theorem ae6:Qe Tryz.prog Tryz.f173=some alA:=by kernel_rfl
def c96:ay:=⟨43,[.t 2],Zr (Ye 2)<| .seq (Zr (eT 5 0)<| .block 0<| .loop<|Zr (Yu 8 7 6)<| .seq (.cond (.t 8) .skip (.exit 0))<| .seq (.block 1<|Zr (Zm 9 7<|
 YM 10 4 5 7<|
 Zo (.alloc 4 4 77 (.agg [.bool false,.aa,.aa,.aa]))<|
 Zm 3 9<|
 Zs 4 4 11 .nil)<|Zr (dY 12 4 3<|
 ek 14 146 13<|
 Zu 15 14<|
 Zm 16 15<|
 Zg 16 false (.cc 17 0 (.t 4))<|
 Zg 16 false (.ld 18 3 true (.t 17))<|
 Zg 16 false (.call (some 19) true (.c (.fn 49 [] [])) [.t 18])<|
 Zg 16 false (.bin 20 .eql false (.t 19) (.c (Zz 0)))<|
 Yh 21 16 20<|
 Yx 22 21 3 4<|
 Zg 22 false (.call (some 25) true (.c (.fn 147 [] [])) [.t 24])<|
 Zg 22 false (.un 26 .not (.t 25))<|
 Yh 27 22 26<|
 ri 28 27 3 0<|
 Zg 28 false (.mv 31 (.t 30))<|
 uf 31 0 3<|
 Zg 31 true (.bin 34 .sub false (.t 33) (.c (Zz 1)))<|
 Zg 31 true (.idx 35 4 (.t 32) (.t 34))<|
 Zg 31 true (.ld 36 4 true (.t 35))<|
 Zg 31 true (.ld 37 4 true (.t 4))<|
 Zg 31 true (.call (some 38) true (.c (.fn 113 [] [])) [.t 36,.t 37])<|
 Zg 31 true (.bin 39 .leq false (.t 38) (.c (Zz 0)))<|
 Zg 28 false (.pick 40 (.t 31) (.t 39) (.c (.bool false)))<|
 ep 41 28 40)<| .cond (.t 41) (Zr (Ye 2) .ret) .skip)<| .rg (Yz 42 7 7))<|Zr (YL 2) .ret⟩
theorem ahJ:Qe Tryz.prog Tryz.f96=some c96:=by kernel_rfl
def alb:ay:=⟨7,[.t 2],Zr (Zo (.box 1 3 53 (.t 0))<|
 YG 2)<|Zr (Zh 3 3 1<|
 Zq 4 true 90 [.c (Zz 0)]<|
 Ym 5 93 3 4<|
 Zq 6 true 173 [.t 5,.c .aa]<|
 Zm 2 6 .nil) .ret⟩
theorem ae7:Qe Tryz.prog Tryz.f148=some alb:=by kernel_rfl
def c28:ay:=⟨9,[.t 4],Zr (Ye 4)<|Zr (er 5 0 1 62<|
 Ys 8 7 0 4) .ret⟩
theorem ahK:Qe Tryz.prog Tryz.f28=some c28:=by kernel_rfl
def c62:ay:=⟨10,[.t 4],Zr (Yi 4 0)<|Zr (Zo (.mv 5 (.c (.fn 112 [] []))) .nil)<|Zr (de 6 0 1 5<|
 Zq 9 false 115 [.t 6,.t 7,.t 8]<|
 Zm 4 9 .nil) .ret⟩
theorem ahL:Qe Tryz.prog Tryz.f62=some c62:=by kernel_rfl
def akH:ay:=⟨17,[.t 4],Zr (Zo (.box 2 4 77 (.t 0))<|
 YZ 3 77 1<|
 Yi 4 0)<| .seq (Zr (Zh 6 4 2<|
 Zh 7 4 3<|
 Yl 8 113 6 7<|
 Zm 5 8 .nil)<|Zr (YW 9 5)<| .cond (.t 10) (Zr (Zm 11 5<|
 Zm 4 11 .nil) .ret) .skip)<|Zr (dY 12 2 3<|
 dY 14 3 3<|
 Yl 16 114 13 15<|
 Zm 4 16 .nil) .ret⟩
theorem ae8:Qe Tryz.prog Tryz.f112=some akH:=by kernel_rfl
def ale:ay:=⟨8,[.t 4],Zr (YG 4)<|Zr (Yf 5 0 1<|
 Zq 7 false 175 [.t 5,.t 6,.c (.fn 113 [] []),.c (.fn 176 [] [])]<|
 Zm 4 7 .nil) .ret⟩
theorem ae9:Qe Tryz.prog Tryz.f150=some ale:=by kernel_rfl
def c63:ay:=⟨38,[.t 4],Zr (YZ 3 77 1<|
 YG 4)<|Zr (Yq 9 0<|
 Zo (.mk 11 4 80 77 (.agg [.bool false,.aa,.aa,.aa]) (.c (Zz 0)) (.t 10))<|
 Zm 5 11 .nil)<| .seq (Zr (eT 12 0)<| .block 0<| .loop<|Zr (Yu 15 14 13)<| .seq (.cond (.t 15) .skip (.exit 0))<| .seq (.block 1<|Zr (YM 16 4 12 14<|
 qa 7<|
 Zs 4 7 17 .nil)<|Zr (dY 18 7 3<|
 dY 20 3 3<|
 Yl 22 91 19 21<|
 Yr 8<|
 Zs 3 8 22 .nil)<|Zr (fm 23 3 8 49<|
 Zk 25 .neq 24 0 .nil)<| .cond (.t 25) (.rg (Zm 26 5<|
 Zh 27 3 8<|
 cF 28 3 7 3 3<|
 Ym 32 116 29 31<|
 rh 33 27 32<|
 YB 34 4 77 33 80 26<|
 Yc 5 35)) .skip)<| .rg (Yz 36 14 14))<|Zr (dn 37 5 4) .ret⟩
theorem ahM:Qe Tryz.prog Tryz.f63=some c63:=by kernel_rfl
def alc:ay:=⟨33,[.t 4],Zr (YG 4)<| .seq (Zr (jr 8<|
 Zb 12 .gtr 9 11 .nil)<| .cond (.t 12) (.rg (Yf 13 1 0<|
 dS 0 13 14)) .skip)<|Zr (Yq 15 0<|
 Zo (.mk 17 1 24 43 .aa (.c (Zz 0)) (.t 16))<|
 Zm 5 17 .nil)<| .seq (Zr (eT 18 0)<| .block 0<| .loop<|Zr (Yu 21 20 19)<| .seq (.cond (.t 21) .skip (.exit 0))<| .seq (.block 1<|Zr (YM 22 4 18 20<|
 qa 7<|
 Zs 4 7 23 .nil)<| .rg (Yf 24 5 1<|
 Zh 26 4 7<|
 Yl 27 63 25 26<|
 YB 28 1 43 27 24 24<|
 Yc 5 29))<| .rg (YE 30 20 20))<|Zr (YH 31 5 174<|
 Yc 4 32) .ret⟩
theorem afa:Qe Tryz.prog Tryz.f149=some alc:=by kernel_rfl
def c29:ay:=⟨12,[.t 4],Zr (fp 3 53 1<|
 YG 4)<| .seq (Zr (fm 5 3 3 49<|
 gp 7 6 0)<| .cond (.t 7) (Zr (YG 4) .ret) .skip)<|Zr (Zm 8 0<|
 Zh 9 3 3<|
 Zo (.dv 10 [.bool false,.aa,.aa,.aa] [(0,3,.t 9)])<|
 Yl 11 63 8 10<|
 Zm 4 11 .nil) .ret⟩
theorem ahN:Qe Tryz.prog Tryz.f29=some c29:=by kernel_rfl
def c50:ay:=⟨19,[.t 2],Zr (Yi 2 0)<|Zr (jT 3)<| .seq (Zr (eT 6 0)<| .block 0<| .loop<|Zr (Yu 9 8 7)<| .seq (.cond (.t 9) .skip (.exit 0))<| .seq (.block 1<|Zr (YM 10 4 6 8<|
 qa 5<|
 Zs 4 5 11 .nil)<| .rg (Zm 12 3<|
 Yb 13 3 5<|
 Yn 15 95 14<|
 Zo (.mx 16 (.t 12) (.t 15))<|
 Yc 3 16))<| .rg (YE 17 8 8))<|Zr (dn 18 3 2) .ret⟩
theorem ahO:Qe Tryz.prog Tryz.f50=some c50:=by kernel_rfl
def c92:ay:=⟨23,[.cell 4 3 true],Zr (YZ 2 53 0<|
 Yr 4 .nil)<|Zr (Zq 6 false 90 [.c (Zz 1)]<|
 Yr 5<|
 Zs 3 5 6 .nil)<| .seq (.block 0<| .loop<| .seq (Zr (Zm 7 1<|
 gK 8 7 0)<| .cond (.t 8) .skip (.exit 0))<| .seq (.block 1<| .seq (Zr (Zm 11 1<|
 Zk 12 .rem 11 2<|
 gp 13 12 1)<| .cond (.t 13) (.rg (Zh 14 3 5<|
 Zh 15 3 2<|
 lh 16 91 14 15 3 5)) .skip)<|Zr (Zm 17 1<|
 gK 18 17 1)<| .cond (.t 18) (.rg (Zh 19 3 2<|
 Zh 20 3 2<|
 lh 21 91 19 20 3 2)) .skip)<| .rg (Zm 9 1<|
 Zk 10 .quo 9 2<|
 Zm 1 10 .nil))<|Zr (Zh 22 3 5<|
 Zs 3 4 22 .nil) .ret⟩
theorem ahP:Qe Tryz.prog Tryz.f92=some c92:=by kernel_rfl
def c48:ay:=⟨61,[.cell 4 3 true,.t 5],Zr (Yr 4<|
 Yi 5 0)<| .seq (Zr (eT 14 0)<| .block 0<| .loop<|Zr (Yu 17 16 15)<| .seq (.cond (.t 17) .skip (.exit 0))<| .seq (.block 1<|Zr (YM 18 4 14 16<|
 qa 7<|
 Zs 4 7 19 .nil)<|Zr (Yb 20 3 7<|
 Yn 22 89 21<|
 Yq 23 1<|
 Zb 25 .geq 22 24 .nil)<| .cond (.t 25) (Zr (Zo (.dv 26 [.bool false,.aa,.aa] [])<|
 Zs 3 4 26<|
 Yi 5 2) .ret) .skip)<| .rg (YE 27 16 16))<|Zr (Zq 28 false 90 [.c (Zz 0)]<|
 Yr 8<|
 Zs 3 8 28 .nil)<| .seq (Zr (eT 29 0)<| .block 2<| .loop<|Zr (Yu 32 31 30)<| .seq (.cond (.t 32) .skip (.exit 2))<| .seq (.block 3<|Zr (YM 33 4 29 31<|
 qa 10<|
 Zs 4 10 34 .nil)<|Zr (dY 35 10 3<|
 Yr 11<|
 Zs 3 11 36 .nil)<| .seq (Zr (YT 37 3 10<|
 Yi 40 0)<| .block 4<| .loop<|Zr (Yu 41 40 39)<| .seq (.cond (.t 41) .skip (.exit 4))<| .seq (.block 5<|Zr (qb 42 40 38 12)<|Zr (Zm 45 13<|
 gK 46 45 0)<| .cond (.t 46) (.rg (Zh 47 3 11<|
 Yf 48 1 12<|
 YM 50 3 48 49<|
 Zm 52 13<|
 eD 53 92 51 52 91 47<|
 Zs 3 11 54 .nil)) .skip)<| .rg (Yz 55 40 40))<| .rg (Zh 56 3 8<|
 Zh 57 3 11<|
 lh 58 93 56 57 3 8))<| .rg (Yz 59 31 31))<|Zr (Zh 60 3 8<|
 Zs 3 4 60<|
 Yi 5 0) .ret⟩
theorem ahQ:Qe Tryz.prog Tryz.f48=some c48:=by kernel_rfl
def akK:ay:=⟨39,[.t 6],Zr (Yi 6 0)<| .seq (Zr (eT 11 0)<| .block 0<| .loop<|Zr (Yu 14 13 12)<| .seq (.cond (.t 14) .skip (.exit 0))<| .seq (.block 1<|Zr (Zm 15 13<|
 YM 16 4 11 13<|
 qa 8<|
 Zm 7 15<|
 Zs 4 8 17 .nil)<| .seq (Zr (Yf 18 7 1<|
 Zn 20 19<|
 Zb 21 .geq 18 20 .nil)<| .cond (.t 21) (Zr (Yi 6 1) .ret) .skip)<|Zr (Yf 22 1 7<|
 YM 24 4 22 23<|
 qa 9<|
 Zs 4 9 25 .nil)<|Zr (Zm 26 2<|
 Zh 27 4 8<|
 Zh 28 4 9<|
 Zo (.call (some 29) false (.t 26) [.t 27,.t 28])<|
 Yc 10 29)<|Zr (YW 30 10)<| .cond (.t 31) (Zr (dn 32 10 6) .ret) .skip)<| .rg (Yz 33 13 13))<| .seq (Zr (jr 34<|
 Yu 38 35 37)<| .cond (.t 38) (Zr (jT 6) .ret) .skip)<|Zr (Yi 6 0) .ret⟩
theorem afb:Qe Tryz.prog Tryz.f115=some akK:=by kernel_rfl
theorem NA{a b:Rat}{k:Nat}(ha:rs a<=k)(hb:rs b<=k)(hk:k<2^36):Qd Tryz.prog 93 [PV.rat a,PV.rat b] (· =PV.rat (a+b)):=by
 have:=QJ (gV ha) (gV hb) hk
 rwa[gF,gF]at this
theorem Az{a b:Rat}{k:Nat}(ha:rs a<=k)(hb:rs b<=k)(hk:k<2^36):Qd Tryz.prog 91 [PV.rat a,PV.rat b] (· =PV.rat (a*b)):=by
 have:=ZT (gV ha) (gV hb) hk
 rwa[gF,gF]at this
theorem ajx{a b:Rat}{k:Nat}(ha:rs a<=k)(hb:rs b<=k)(hk:k<2^36):Qd Tryz.prog 114 [PV.rat a,PV.rat b] (· = .int .i64 (n6 a b)):=by
 have:=Ze (gV ha) (gV hb) hk
 rwa[gF,gF]at this
theorem Aq{a:Rat}(ha:rs a<2^36):Qd Tryz.prog 49 [PV.rat a] (· = .int .i64 (fk a)):=by
 have:=CZ (gV (Kad (rs a))) ha
 rwa[gF]at this
theorem O5{s t:Tm}{E:Nat}(hs:MB E s.2)(ht:MB E t.2)(hE:E<=2^38):Qd Tryz.prog 113 [PV.term s,PV.term t] (· = .int .i64 (aY s.2 t.2)):=by refine aB Qg Tryz.func113 L3 fun C hP=>?_;refine Sz0 ?_;refine Qa hP (O4 (o:=0) hs ht (by omega)) rfl rfl rfl ?_;refine Sz0 ?_;exact Qc (by rw[Er]) rfl
theorem UR{s t:Tm}{k:Nat}(hs:rs s.1<=k)(ht:rs t.1<=k)(hk:k<2^34):Qd Tryz.prog 176 [PV.term s,PV.term t] (· = .aG [PV.term (s.1+t.1,s.2),.bool (decide (¬s.1+t.1=0))]):=by have hr:=vk s.1 t.1;refine aB Qg Tryz.func176 ae5 fun C hP=>?_;refine Sz0 ?_;refine Qa hP (NA (a:=s.1) (b:=t.1) hs ht (by omega)) rfl rfl rfl ?_;refine Sz0 ?_;refine Qa hP (Aq (a:=s.1+t.1) (by omega)) rfl rfl rfl ?_;refine Sz0 ?_;refine eA ?_;refine Sz0 ?_;exact cA rfl rfl rfl (Qf _) (tD (congrArg PV.bool (decide_eq_decide.2 (not_congr fZ))))
theorem Ux{c:Rat}{m:List Int}(hc:rs c<2^36):Qd Tryz.prog 173 [PV.rat c,PV.mono m] (· =PV.ao (if c=0 then []else [(c,m)])):=by
 refine aB Qg Tryz.func173 ae6 fun C hP=>?_;refine Sz0 ?_;refine Qa hP (Aq (a:=c) hc) rfl rfl rfl ?_;refine Sz0 ?_;refine Qb (fun h0=>?_) (fun h0=>?_)
 ·rw[if_pos (fZ.1 h0)];refine Sz0 ?_;exact oK si rfl
 ·rw[if_neg (fun h=>h0 (fZ.2 h))];refine bo ?_;exact Qc rfl rfl
theorem US{p q:List Tm}{K E:Nat}(hp:PB K E p)(hq:PB K E q)(hK:K<=2^33)(hE:E<=2^38)(fX:p.length<=2^36)(mj:q.length<=2^36):
  Qd Tryz.prog 175 [PV.ao p,PV.ao q,.fn 113 [] [],.fn 176 [] []] (· =PV.ao (Qq p q)):=by
 refine aB Qg Tryz.func175 ae4 fun C hP=>?_;refine Sz0 ?_;refine Qn eH [(9,14),(21,86)] [13,20,57,58,71,72,83,84] (fun n J hp=>∃i k out,n=(p.length-i)+(q.length-k)/\i<=p.length/\k<=q.length/\out.length<=i+k/\out++Qq (p.drop i) (q.drop k)=Qq p q/\
  J 9= .ms 20 out.length/\J 10= .int .i64 (i:Nat)/\J 11= .int .i64 (k:Nat)/\hp 20=some ⟨4,77,out.map PV.term,false⟩) (p.length+q.length) ?_ ?_
 ·refine⟨0,0,[],by omega,by omega,by omega,by simp,rfl,?_⟩;refine Sz0 ?_;simp
 rintro _ J h ⟨i,k,out,rfl,hi,hk,fq,dO,h9,bp,cj,hh⟩;refine Sz3 h9 bp cj ?_;refine Q4 (fun hg=>?_) (fun hg=>?_)
 ·have az:i<p.length:=by omega
  refine Sz3 h9 bp cj ?_;refine Qb (fun eW=>?_) (fun eW=>?_)
  ·have cP:k<q.length:=by omega
   have cx:=hp.get az;have ox:=hq.get cP;rw[PN az cP]at dO;have c1:=cx.c;have c2:=ox.c;generalize hx:p[i]=x at *
   generalize hy:q[k]=y at *
   refine Sz5 h9 bp cj hx hy ?_;refine Qa hP (O5 (s:=x) (t:=y) cx.m ox.m hE) rfl rfl rfl ?_;refine Sz5 h9 bp cj hx hy ?_;refine Qb (fun hc=>?_) (fun hc=>?_)
   ·rw[if_pos hc]at dO;refine Sz5 h9 bp cj hx hy ?_;rw[Qz (f:=PV.term) (y:=x) (xs:=out) (ty':=77) (fz:=false) (Tz1 hh) bf (by omega) rfl (by omega) (by omega)];refine Sz5 h9 bp cj hx hy ?_;refine Qi ((p.length-(i+1))+(q.length-k)) (by omega) ⟨i+1,k,out++[x],rfl,by omega,hk,by simp;omega,by simpa using dO,?_⟩;refine Sz3 h9 bp cj ?_;simp
   rw[if_neg hc]at dO;refine Sz5 h9 bp cj hx hy ?_;refine Qb (fun eL=>?_) (fun eL=>?_)
   ·rw[if_pos eL]at dO;refine Sz5 h9 bp cj hx hy ?_;rw[Qz (f:=PV.term) (y:=y) (xs:=out) (ty':=77) (fz:=false) (Tz1 hh) bf (by omega) rfl (by omega) (by omega)];refine Sz5 h9 bp cj hx hy ?_;refine Qi ((p.length-i)+(q.length-(k+1))) (by omega) ⟨i,k+1,out++[y],rfl,hi,by omega,by simp;omega,by simpa using dO,?_⟩;refine Sz3 h9 bp cj ?_;simp
   rw[if_neg eL]at dO;refine Sz5 h9 bp cj hx hy ?_;refine dp ?_ ?_
   all_goals
    refine Sz5 h9 bp cj hx hy ?_;refine Qa hP (UR (s:=x) (t:=y) (k:=2^33) (by omega) (by omega) (by omega)) rfl rfl rfl ?_;refine Sz5 h9 bp cj hx hy ?_;refine Qb (fun hz=>?_) (fun hz=>?_)
    ·rw[if_neg hz]at dO;refine Sz5 h9 bp cj hx hy ?_;rw[Qz (f:=PV.term) (y:=(x.1+y.1,x.2)) (xs:=out) (ty':=77) (fz:=false) (Tz1 hh) bf (by omega) rfl (by omega) (by omega)];refine Sz5 h9 bp cj hx hy ?_;refine Qi ((p.length-(i+1))+(q.length-(k+1))) (by omega) ⟨i+1,k+1,out++[(x.1+y.1,x.2)],rfl,by omega,by omega,by simp;omega,by simpa using dO,?_⟩;refine Sz3 h9 bp cj ?_;simp
    ·rw[if_pos (Decidable.not_not.1 hz)]at dO;refine Sz5 h9 bp cj hx hy ?_;refine Qi ((p.length-(i+1))+(q.length-(k+1))) (by omega) ⟨i+1,k+1,out,rfl,by omega,by omega,by omega,dO,?_⟩;exact Tz4 h9 bp cj hh
  ·have dT:(out++p.drop i++q.drop k).take (out.length+(p.drop i).length+(q.drop k).length)=Qq p q:=by rw[Kai (by simp;omega),<-dO,Kan (by omega:q.length<=k),kW,Kas]
   refine Sz3 h9 bp cj ?_;rw[jI (f:=PV.term) (xs:=out) (ys:=p.drop i) (Tz1 hh) rfl (by omega) (by simp;omega) (by simp;omega)];refine Sz3 h9 bp cj ?_;rw[jI (f:=PV.term) (xs:=out++p.drop i) (ys:=q.drop k) Tz0 (by simp) (by omega) (by simp;omega) (by simp;omega)];refine EG h9 bp cj ?_;exact Qc (by rw[<-List.map_take,dT]) rfl
 ·have dT:(out++p.drop i++q.drop k).take (out.length+(p.drop i).length+(q.drop k).length)=Qq p q:=by rw[Kai (by simp;omega),<-dO,Kan (by omega:p.length<=i),sh,Kas]
  refine Sz3 h9 bp cj ?_;rw[jI (f:=PV.term) (xs:=out) (ys:=p.drop i) (Tz1 hh) rfl (by omega) (by simp;omega) (by simp;omega)];refine Sz3 h9 bp cj ?_;rw[jI (f:=PV.term) (xs:=out++p.drop i) (ys:=q.drop k) Tz0 (by simp) (by omega) (by simp;omega) (by simp;omega)];refine EG h9 bp cj ?_;exact Qc (by rw[<-List.map_take,dT]) rfl
theorem O6{p q:List Tm}{K E:Nat}(hp:PB K E p)(hq:PB K E q)(hK:K<=2^33)(hE:E<=2^38)(fX:p.length<=2^36)(mj:q.length<=2^36):
  Qd Tryz.prog 150 [PV.ao p,PV.ao q] (· =PV.ao (Qq p q)):=by
 refine aB Qg Tryz.func150 ae9 fun C hP=>?_;refine Sz0 ?_;refine Qa hP (US hp hq hK hE fX mj) rfl rfl rfl ?_;refine Sz0 ?_;exact Qc rfl rfl
theorem Pv{K E:Nat}(hE:E<=2^38):∀(n:Nat)(l:List (List Tm)),l.length<=n->(∀p∈l,PB K E p)->l.length*K<=2^33->l.length<=2^36->sL l<=2^36->Qd Tryz.prog 174 [PV.eI l] (· =PV.ao (cB l)):=by
 intro n;induction n with
 |zero=>intro l hl _ _ _ _;have:l=[]:=Kar.1 (by omega);subst this;refine aB Qg Tryz.func174 L4 fun C hP=>?_;simp+decide (disch:=first|omega|rfl|(simp+decide only[go_sem,Kby,Kbo]<;>rfl)|fail) only[go_sem,Kby,Kbo];exact oK (HI (by rw[cB])) rfl
 | succ n ih=>
  intro l hl hb hK lA df;refine aB Qg Tryz.func174 L4 fun C hP=>?_;refine Sz0 ?_;refine Qb (fun h0=>?_) (fun h0=>?_)
  ·have:l=[]:=Kar.1 (by omega);subst this;refine Sz0 ?_;exact oK (HI (by rw[cB])) rfl
  refine Sz0 ?_;refine Qb (fun h1=>?_) (fun h1=>?_)
  ·obtain⟨p,rfl⟩:∃p,l=[p]:=KcA.1 (by omega);simp+decide (disch:=first|omega|rfl|(simp+decide only[go_sem,Kbe,Kby]<;>rfl)|fail) only[go_sem,Kbe,Kby];exact Qc (by rw[cB];rfl) rfl
  have h2:2<=l.length:=by omega
  have hs:=Ph l (l.length/2);have e:(2:Int)=((2:Nat):Int):=rfl;have hq:∀d fr hp K,bO .quo false (.int .i64 (l.length:Int)) (.int .i64 2) d fr hp K=K (ae fr d (.int .i64 ((l.length/2:Nat):Int))) hp:=fun d fr hp K=>by rw[e,DU (by omega) (by omega)]
  have b1:=Ho (K:=K) (E:=E) _ (l.take (l.length/2)) (Kad _) (fun p hp=>hb p (Ka8 hp));have b2:=Ho (K:=K) (E:=E) _ (l.drop (l.length/2)) (Kad _) (fun p hp=>hb p (Kbt hp));have l1:(l.take (l.length/2)).length*K<=l.length*K:=Kal _ (by rw[Kax];omega);have l2:(l.drop (l.length/2)).length*K<=l.length*K:=Kal _ (by rw[Ka2];omega);refine Sz1 hq ?_;refine Qa hP (ih (l.take (l.length/2)) (by rw[Kax];omega) (fun p hp=>hb p (Ka8 hp)) (by omega) (by rw[Kax];omega) (by omega)) rfl rfl rfl ?_;refine Sz1 hq ?_;refine Qa hP (ih (l.drop (l.length/2)) (by rw[Ka2];omega) (fun p hp=>hb p (Kbt hp)) (by omega) (by rw[Ka2];omega) (by omega)) rfl rfl rfl ?_;refine Sz1 hq ?_;refine Qa hP (O6 (b1.1.mono (K':=l.length*K) l1 (Kad _)) (b2.1.mono l2 (Kad _)) hK hE (by omega) (by omega)) rfl rfl rfl ?_;refine Sz0 ?_;exact Qc (by rw[zK h2]) rfl
theorem G6{p:List Tm}{t:Tm}{i:Nat}(h:i<p.length):Qw (p.take (i+1)) t=Qw (p.take i) t++(if p[i].1*t.1=0 then []else [(p[i].1*t.1,di p[i].2 t.2)]):=by rw[Kam h,Qw,List.filterMap_append,Qw];congr 1;simp only[Kcu,List.filterMap_nil];split<;>split<;>simp_all
theorem GZ{p:List Tm}{t:Tm}{K E:Nat}(hp:PB K E p)(ht:TB K E t)(hK:K<=2^33)(hE:E<=2^38)(fX:p.length<=2^36):
  Qd Tryz.prog 63 [PV.ao p,PV.term t] (· =PV.ao (Qw p t)):=by
 refine aB Qg Tryz.func63 ahM fun C hP=>?_;refine Sz0 ?_;refine Qn eH [(5,5),(7,8),(14,36)] [7,8,11,34,35] (fun n J hp=>∃i,n=p.length-i/\i<=p.length/\J 5= .ms 11 (Qw (p.take i) t).length/\J 14= .int .i64 (i:Nat)/\hp 3=some ⟨4,77,[PV.term t],false⟩/\hp 11=some ⟨4,77,(Qw (p.take i) t).map PV.term,false⟩) p.length ?_ ?_
 ·refine⟨0,rfl,by omega,?_⟩;refine Sz0 ?_;simp[Qw]
 rintro _ J h ⟨i,rfl,hi,h5,fS,bz,Fk⟩;refine Sz2 h5 fS ?_;refine Qb (fun hg=>?_) (fun hg=>?_)
 ·have az:i<p.length:=by omega
  have cx:=hp.get az;have bN:=G6 (t:=t) az;have hlen:=u6 (p.take i) t;rw[Kax]at hlen;have c1:=cx.c;have c2:=ht.c;have hrm:=vl p[i].1 t.1;generalize hx:p[i]=x at *
  refine Sz4 h5 fS bz hx ?_;refine Qa hP (Az (a:=x.1) (b:=t.1) (k:=2^33) (by omega) (by omega) (by omega)) rfl rfl rfl ?_;refine Sz4 h5 fS bz hx ?_;refine Qa hP (Aq (a:=x.1*t.1) (by omega)) rfl rfl rfl ?_;refine Sz4 h5 fS bz hx ?_;refine Qb (fun hz=>?_) (fun hz=>?_)
  ·rw[if_neg (fun h=>hz (fZ.2 h))]at bN;refine Sz4 h5 fS bz hx ?_;refine Qa hP (W7 cx.m ht.m (by omega)) rfl rfl rfl ?_;refine Sz4 h5 fS bz hx ?_;rw[Qz (f:=PV.term) (y:=(x.1*t.1,di x.2 t.2)) (xs:=Qw (p.take i) t) (ty':=77) (fz:=false) (Tz1 Fk) bf (by omega) rfl (by omega) (by omega)];rw[<-bN];refine Sz4 h5 fS bz hx ?_;refine Qi (p.length-(i+1)) (by omega) ⟨i+1,rfl,by omega,?_⟩;rw[bN];simp+decide (disch:=first|omega|rfl|(simp+decide only[go_sem,h5,fS,bz,Kaw]<;>rfl)|fail) only[go_sem,h5,fS,bz,Kaw]
  ·rw[if_pos (fZ.1 (Decidable.not_not.1 hz)),Kas]at bN;refine Sz4 h5 fS bz hx ?_;refine Qi (p.length-(i+1)) (by omega) ⟨i+1,rfl,by omega,?_⟩;rw[bN];exact Tz4 h5 fS bz Fk
 ·obtain rfl:i=p.length:=by omega
  rw[KaE]at h5 Fk;refine xY h5 Fk ?_;exact Qc (by simp[Kai]) rfl
theorem Pw{p q:List Tm}{K E:Nat}(hp:PB K E p)(hq:PB K E q)(hE:E<=2^37)(fX:p.length<=2^30)(mj:q.length<=2^30)(JP:p.length*q.length<=2^36)(hK:min p.length q.length*(K+K)<=2^33)(AT:K<=2^33):
  Qd Tryz.prog 149 [PV.ao p,PV.ao q] (· =PV.ao (aV p q)):=by
 have main:∀(p q:List Tm),PB K E p->PB K E q->p.length<=2^30->q.length<=2^30->p.length*q.length<=2^36->p.length*(K+K)<=2^33->p.length<=q.length->True:=fun _ _ _ _ _ _ _ _ _=>trivial;refine aB Qg Tryz.func149 afa fun C hP=>?_;refine Sz0 ?_;refine Qb (fun hg=>?_) (fun hg=>?_)
 ·have dT:oT q p=aV p q:=by rw[aV,if_pos (by omega)]
  have hK3:q.length*(K+K)<=2^33:=by rw[KcZ (by omega)]at hK;exact hK
  have aqY:q.length*p.length<=2^36:=by rw[KaQ];exact JP
  refine Sz0 ?_;refine Qn eH [(5,5),(7,7),(20,30)] [7,17,28,29] (fun n J hp=>∃i,n=q.length-i/\i<=q.length/\J 5= .ms 17 i/\J 20= .int .i64 (i:Nat)/\hp 17=some ⟨1,43,((q.take i).map (Qw p)).map PV.ao,false⟩) q.length ?_ ?_
  ·refine⟨0,rfl,by omega,?_⟩;refine Sz0 ?_;simp
  rintro _ J h ⟨i,rfl,hi,h5,qd,hh⟩;refine Sz2 h5 qd ?_;refine Qb (fun eW=>?_) (fun eW=>?_)
  ·have az:i<q.length:=by omega
   have cx:=hq.get az;have bN:(q.take (i+1)).map (Qw p)=(q.take i).map (Qw p)++[Qw p q[i]]:=by rw[Kam az,KbW];rfl
   generalize hx:q[i]=x at *
   refine Sz3 h5 qd hx ?_;refine Qa hP (GZ (t:=x) hp cx AT (by omega) (by omega)) rfl rfl rfl ?_;refine Sz3 h5 qd hx ?_;rw[Qz (f:=PV.ao) (y:=Qw p x) (xs:=(q.take i).map (Qw p)) (ty':=43) (fz:=false) (Tz1 hh) bf (by omega) (by simp;omega) (by omega) (by omega)];rw[<-bN];refine Sz3 h5 qd hx ?_;refine Qi (q.length-(i+1)) (by omega) ⟨i+1,rfl,by omega,?_⟩;exact Tz2 h5 qd
  ·obtain rfl:i=q.length:=by omega
   rw[KaE]at hh;have df:=GP q p;refine Sz2 h5 hh ?_;refine oJ hP (Pv (K:=K+K) (E:=E+E) (by omega) _ (q.map (Qw p)) (Kad _) (fun x hx=>by obtain⟨t,ht,rfl⟩:=KaF.1 hx;exact tx hp (hq t ht)) (by rw[Ka0];omega) (by rw[Ka0];omega) (by omega)) (by simp+decide (disch:=try exact E1 hh) only[go_sem,hh,iB,KaP,KaY,KaR,KaV,Kas];simp[Kai]) rfl ?_;refine Sz0 ?_;exact Qc (congrArg PV.ao dT) rfl
 ·have dT:oT p q=aV p q:=by rw[aV,if_neg (by omega)]
  have hK3:p.length*(K+K)<=2^33:=by rw[KbV (by omega)]at hK;exact hK
  refine Sz0 ?_;refine Qn eH [(5,5),(7,7),(20,30)] [7,17,28,29] (fun n J hp=>∃i,n=p.length-i/\i<=p.length/\J 5= .ms 17 i/\J 20= .int .i64 (i:Nat)/\hp 17=some ⟨1,43,((p.take i).map (Qw q)).map PV.ao,false⟩) p.length ?_ ?_
  ·refine⟨0,rfl,by omega,?_⟩;refine Sz0 ?_;simp
  rintro _ J h ⟨i,rfl,hi,h5,qd,hh⟩;refine Sz2 h5 qd ?_;refine Qb (fun eW=>?_) (fun eW=>?_)
  ·have az:i<p.length:=by omega
   have cx:=hp.get az;have bN:(p.take (i+1)).map (Qw q)=(p.take i).map (Qw q)++[Qw q p[i]]:=by rw[Kam az,KbW];rfl
   generalize hx:p[i]=x at *
   refine Sz3 h5 qd hx ?_;refine Qa hP (GZ (t:=x) hq cx AT (by omega) (by omega)) rfl rfl rfl ?_;refine Sz3 h5 qd hx ?_;rw[Qz (f:=PV.ao) (y:=Qw q x) (xs:=(p.take i).map (Qw q)) (ty':=43) (fz:=false) (Tz1 hh) bf (by omega) (by simp;omega) (by omega) (by omega)];rw[<-bN];refine Sz3 h5 qd hx ?_;refine Qi (p.length-(i+1)) (by omega) ⟨i+1,rfl,by omega,?_⟩;exact Tz2 h5 qd
  ·obtain rfl:i=p.length:=by omega
   rw[KaE]at hh;have df:=GP p q;refine Sz2 h5 hh ?_;refine oJ hP (Pv (K:=K+K) (E:=E+E) (by omega) _ (p.map (Qw q)) (Kad _) (fun x hx=>by obtain⟨t,ht,rfl⟩:=KaF.1 hx;exact tx hq (hp t ht)) (by rw[Ka0];omega) (by rw[Ka0];omega) (by omega)) (by simp+decide (disch:=try exact E1 hh) only[go_sem,hh,iB,KaP,KaY,KaR,KaV,Kas];simp[Kai]) rfl ?_;refine Sz0 ?_;exact Qc (congrArg PV.ao dT) rfl
theorem Zp{k l:Nat}{a b:List Int}(ha:MB k a)(hb:MB l b)(h1:a.getLast? ≠some 0)(h2:b.getLast? ≠some 0):kB (· + ·) a b=di a b:=by
 rw[di,K7];rw[Kbh,pA];intro h;obtain⟨hl,hv⟩:=Kaf.1 h;rw[<-gY hl,Mp (by simp)]at hv;rw[pA]at hl;have p1:=(ha.eN (max a.length b.length-1)).1;have p2:=(hb.eN (max a.length b.length-1)).1;by_cases hc:b.length<=a.length
 ·apply h1;have e:max a.length b.length-1=a.length-1:=by omega
  rw[e]at hv p1 p2;rw[Kbh,Kag (by omega),<-gY (by omega)];congr 1;omega
 ·apply h2;have e:max a.length b.length-1=b.length-1:=by omega
  rw[e]at hv p1 p2;rw[Kbh,Kag (by omega),<-gY (by omega)];congr 1;omega
theorem Uy{p:List Tm}{t:Tm}{K E:Nat}(hp:PB K E p)(ht:TB K E t)(mr:NZ p)(ht0:t.1≠0)(hK:K<=2^33)(hE:E<=2^38)(fX:p.length<=2^36):
  Qd Tryz.prog 47 [PV.ao p,PV.term t] (· =PV.ao (Qw p t)):=by
 refine aB Qg Tryz.func47 ahj fun C hP=>?_;refine Sz0 ?_;refine oL 5 900 4 77 (by omega) Tz0 ?_;refine Qn okB [(5,32)] [31,32,900] (fun n J hp=>∃i,n=p.length-i/\i<=p.length/\J 5= .ms 900 (Qw (p.take i) t).length/\J 6= .int .i64 (i:Nat)/\hp 3=some ⟨4,77,[PV.term t],false⟩/\hp 900=some ⟨4,77,(Qw (p.take i) t).map PV.term,false⟩) p.length ?_ ?_
 ·refine⟨0,rfl,by omega,?_⟩;refine Sz0 ?_;simp[Qw]
 rintro _ J h ⟨i,rfl,hi,h5,h6,bz,hh⟩;refine Sz2 h5 h6 ?_;refine Qb (fun hg=>?_) (fun hg=>?_)
 ·have az:i<p.length:=by omega
  have cx:=hp.get az;have bN:=G6 (t:=t) az;have hlen:=u6 (p.take i) t;rw[Kax]at hlen;have c1:=cx.c;have c2:=ht.c;have iq:=mr _ (Kah az);generalize hx:p[i]=x at *
  have hzz:=Zp cx.m ht.m cx.l ht.l;rw[if_neg (fun h=>by rcases Rat.mul_eq_zero.1 h with h|h<;>contradiction)]at bN;refine Sz4 h5 h6 bz hx ?_;refine Qa hP (LN (a:=x.1) (b:=t.1) (k:=2^33) (by omega) (by omega) (by omega)) rfl rfl rfl ?_;refine Sz4 h5 h6 bz hx ?_;refine Qa hP (VR cx.m ht.m (by omega)) rfl rfl rfl ?_;rw[hzz];refine Sz4 h5 h6 bz hx ?_;rw[Qz (f:=PV.term) (y:=(x.1*t.1,di x.2 t.2)) (xs:=Qw (p.take i) t) (ty':=77) (fz:=false) (Tz1 hh) bf (by omega) rfl (by omega) (by omega)];rw[<-bN];refine Sz4 h5 h6 bz hx ?_;refine Qi (p.length-(i+1)) (by omega) ⟨i+1,rfl,by omega,?_⟩;rw[bN];simp+decide (disch:=first|omega|rfl|(simp+decide only[go_sem,h5,h6,bz,Kaw]<;>rfl)|fail) only[go_sem,h5,h6,bz,Kaw]
 ·obtain rfl:i=p.length:=by omega
  rw[KaE]at h5 hh;refine xY h5 hh ?_;exact Qc (by simp[Kai]) rfl
theorem W8{p q:List Tm}{i:Nat}(h:i<q.length):oP p (q.take (i+1))=Qq (oP p (q.take i)) (Qw p q[i]):=by rw[Kam h,oP,Kb2,oP];rfl
theorem OE{K E:Nat}{p:List Tm}(hp:PB K E p):∀(q out:List Tm)(L:Nat),PB K E q->PB L (E+E) out->PB (q.length*(K+K)+L) (E+E) (q.foldl (fun out t=>Qq out (Qw p t)) out)/\(q.foldl (fun out t=>Qq out (Qw p t)) out).length<=q.length*p.length+out.length
 | [],out,L,_,ho=>⟨by simpa using ho,by simp⟩
 |t::q,out,L,hq,ho=>by obtain⟨h1,h2⟩:=OE hp q (Qq out (Qw p t)) (L+(K+K)) (PB.cons.1 hq).2 (DZ _ _ ho (tx hp (PB.cons.1 hq).1));have h3:=G9 out (Qw p t);have h4:=u6 p t;refine⟨h1.mono (by rw[KaT,KaG];omega) (Kad _),KaL h2 ?_⟩;rw[KaT,KaG];omega
theorem acj{K E:Nat}{p q:List Tm}(hp:PB K E p)(hq:PB K E q):PB (q.length*(K+K)) (E+E) (oP p q)/\(oP p q).length<=q.length*p.length:=by have:=OE hp q [] 0 hq (PB.nil _ _);simpa[oP]using this
theorem OF{p q:List Tm}{K E:Nat}(hp:PB K E p)(hq:PB K E q)(hnp:NZ p)(Bt:NZ q)(hE:E<=2^37)(fX:p.length<=2^30)(mj:q.length<=2^30)(JP:q.length*p.length<=2^36)(hK:q.length*(K+K)+(K+K)<=2^32):
  Qd Tryz.prog 19 [PV.ao p,PV.ao q] (· =PV.ao (oP p q)):=by
 refine aB Qg Tryz.func19 ahf fun C hP=>?_;refine Sz0 ?_;refine xp 5 4 Tz0 ?_;refine Qn okB [(5,20)] [] (fun n J hp=>∃i,n=q.length-i/\i<=q.length/\J 5=PV.ao (oP p (q.take i))/\J 6= .int .i64 (i:Nat)) q.length ?_ ?_
 ·refine⟨0,rfl,by omega,?_⟩;refine Sz0 ?_;simp[oP]
 rintro _ J h ⟨i,rfl,hi,h5,h6⟩;refine Sz2 h5 h6 ?_;refine Qb (fun hg=>?_) (fun hg=>?_)
 ·have az:i<q.length:=by omega
  have ox:=hq.get az;have bN:=W8 (p:=p) az;have iq:=Bt _ (Kah az);obtain⟨aZ,dN⟩:=acj hp (hq.take i);have jW:=tx hp ox;have aq:=u6 p q[i];generalize hx:q[i]=x at *
  have e1:(q.take i).length=i:=by rw[Kax];omega
  rw[e1]at aZ dN;have e2:i*(K+K)<=q.length*(K+K):=Kal _ hi;have e3:i*p.length<=q.length*p.length:=Kal _ hi;refine Sz3 h5 h6 hx ?_;refine Qa hP (Uy (t:=x) hp ox hnp iq (by omega) (by omega) (by omega)) rfl rfl rfl ?_;refine Sz3 h5 h6 hx ?_;refine Qa hP (G5 (K:=q.length*(K+K)+(K+K)) (E:=E+E) (aZ.mono (by omega) (by omega)) (jW.mono (by omega) (by omega)) hK (by omega) (by omega) (by omega)) rfl rfl rfl ?_;refine Sz3 h5 h6 hx ?_;refine Qi (q.length-(i+1)) (by omega) ⟨i+1,rfl,by omega,?_⟩;rw[bN];exact Tz0
 ·obtain rfl:i=q.length:=by omega
  rw[KaE]at h5;refine Sz1 h5 ?_;exact Qc rfl rfl
theorem zd{p:List Tm}{a:Rat}{K E:Nat}(hp:PB K E p)(mr:NZ p)(ha:rs a+1<=K)(hK:K<=2^33)(hE:E<=2^38)(fX:p.length<=2^36):
  Qd Tryz.prog 13 [PV.ao p,PV.rat a] (· =PV.ao (Q5 p a)):=by
 refine aB Qg Tryz.func13 ahh fun C hP=>?_;refine Sz0 ?_;refine oL 5 900 4 77 (by omega) Tz0 ?_;refine Qn okB [(5,33)] [32,33,900] (fun n J hp=>∃i,n=p.length-i/\i<=p.length/\J 5= .ms 900 (Qw (p.take i) (a,[])).length/\J 6= .int .i64 (i:Nat)/\hp 3=some ⟨3,53,[PV.rat a],false⟩/\hp 900=some ⟨4,77,(Qw (p.take i) (a,[])).map PV.term,false⟩) p.length ?_ ?_
 ·refine⟨0,rfl,by omega,?_⟩;refine Sz0 ?_;simp[Qw]
 rintro _ J h ⟨i,rfl,hi,h5,h6,bz,hh⟩;refine Sz2 h5 h6 ?_;refine Q4 (fun hg=>?_) (fun hg=>?_)
 ·have az:i<p.length:=by omega
  have cx:=hp.get az;have bN:=G6 (t:=(a,[])) az;have hlen:=u6 (p.take i) (a,[]);rw[Kax]at hlen;have c1:=cx.c;have iq:=mr _ (Kah az);generalize hx:p[i]=x at *
  refine Sz4 h5 h6 bz hx ?_;refine Qa hP (HM (a:=a) (by omega)) rfl rfl rfl ?_;refine Sz4 h5 h6 bz hx ?_;refine Qb (fun hz=>?_) (fun hz=>?_)
  ·rw[if_neg (fun h=>by rcases Rat.mul_eq_zero.1 h with h|h;exact iq h;exact hz (fZ.2 h)),zT cx.l]at bN;refine Sz4 h5 h6 bz hx ?_;refine Qa hP (LN (a:=x.1) (b:=a) (k:=2^33) (by omega) (by omega) (by omega)) rfl rfl rfl ?_;refine Sz4 h5 h6 bz hx ?_;rw[Qz (f:=PV.term) (y:=(x.1*a,x.2)) (xs:=Qw (p.take i) (a,[])) (ty':=77) (fz:=false) (Tz1 hh) bf (by omega) rfl (by omega) (by omega)];rw[<-bN];refine Sz4 h5 h6 bz hx ?_;refine Qi (p.length-(i+1)) (by omega) ⟨i+1,rfl,by omega,?_⟩;rw[bN];simp+decide (disch:=first|omega|rfl|(simp+decide only[go_sem,h5,h6,bz,Kaw]<;>rfl)|fail) only[go_sem,h5,h6,bz,Kaw]
  ·have kF:=fZ.1 (Decidable.not_not.1 hz);have e0:∀l:List Tm,Qw l (a,[])=[]:=fun l=>by rw[kF];simp[Qw]
   refine EG h5 hh bz ?_;refine Qc ?_ rfl;rw[e0,Q5,if_pos kF];rfl
 ·obtain rfl:i=p.length:=by omega
  rw[KaE]at h5 hh;refine EG h5 hh bz ?_;refine Qc ?_ rfl;rw[Kai (by simp),Q5];split
  ·rename_i kF;rw[kF];simp[Qw]
  ·rfl
theorem VU{p:List Tm}{K E:Nat}(hp:PB K E p)(mr:NZ p)(AT:2<=K)(hK:K<=2^33)(hE:E<=2^38)(fX:p.length<=2^36):Qd Tryz.prog 169 [PV.ao p] (· =PV.ao (tW p)):=by have h1:=B5;refine aB Qg Tryz.func169 aeF fun C hP=>?_;refine Sz0 ?_;refine Qa hP (r9 (x:= -1) (by omega) (by omega)) rfl rfl rfl ?_;refine Sz0 ?_;refine Qa hP (zd (a:=((-1:Int):Rat)) hp mr (by have:((-1:Int):Rat)= -1:=rfl;rw[this];omega) hK hE fX) rfl rfl rfl ?_;refine Sz0 ?_;exact Qc rfl rfl
theorem Vj{p q:List Tm}{K E:Nat}(hp:PB K E p)(hq:PB K E q)(mr:NZ q)(AT:2<=K)(hK:K<=2^31)(hE:E<=2^38)(fX:p.length<=2^36)(mj:q.length<=2^36):Qd Tryz.prog 137 [PV.ao p,PV.ao q] (· =PV.ao (bQ p q)):=by have hl:=zc q (-1);refine aB Qg Tryz.func137 aeG fun C hP=>?_;refine Sz0 ?_;refine Qa hP (VU hq mr AT (by omega) hE mj) rfl rfl rfl ?_;refine Sz0 ?_;refine Qa hP (G5 (hp.mono (K':=K+2) (by omega) (Kad _)) (ac4 hq) (by omega) hE fX (by show(Q5 q (-1)).length<=_;omega)) rfl rfl rfl ?_;refine Sz0 ?_;exact Qc rfl rfl
theorem Od{p:List Tm}{a:Rat}{K E:Nat}(hp:PB K E p)(ha:rs a+1<=K)(hK:K<=2^33)(hE:E<=2^38)(fX:p.length<=2^36):Qd Tryz.prog 29 [PV.ao p,PV.rat a] (· =PV.ao (Q5 p a)):=by
 refine aB Qg Tryz.func29 ahN fun C hP=>?_;refine Sz0 ?_;refine Qa hP (Aq (a:=a) (by omega)) rfl rfl rfl ?_;refine Sz0 ?_;refine Qb (fun h0=>?_) (fun h0=>?_)
 ·refine Sz0 ?_;exact oK (HI (by rw[Q5,if_pos (fZ.1 h0)])) rfl
 ·refine Sz0 ?_;refine Qa hP ((GZ (t:=(a,[])) hp (TB.num ha) hK hE fX).le (args':=[PV.ao p,.agg [.bool (decide (a.num<0)),PV.num a.num.natAbs,PV.num a.den,.aa]]) ⟨Qf _,⟨rfl,zQ _,zQ _,trivial,trivial⟩,trivial⟩) rfl rfl rfl ?_;refine Sz0 ?_;exact Qc (by rw[Q5,if_neg (fun h=>h0 (fZ.2 h))]) rfl
theorem W9{n:Bool}{a d:List Nat}{k:Nat}(hp:Raw k n a d)(hk:k<2^36):Qd Tryz.prog 93 [PV.rr n a d,PV.rat ((0:Int):Rat)] (· =PV.rat (rv n a d)):=by
 have h0:rs ((0:Int):Rat)<=k:=by have:=KK;have:=hp.k1;have e:((0:Int):Rat)=0:=rfl;rw[e];omega
 have:=QJ hp (gV h0) hk;rw[gF]at this;have e:rv n a d+((0:Int):Rat)=rv n a d:=Rat.add_zero _
 rwa[e]at this
theorem UT{n:Bool}{a d:List Nat}{k:Nat}(hp:Raw k n a d)(hk:k<2^36):Qd Tryz.prog 148 [PV.rr n a d] (· =PV.ao (cM (rv n a d))):=by have hr:=hp.rs;refine aB Qg Tryz.func148 ae7 fun C hP=>?_;refine Sz0 ?_;refine Qa hP (Dk (x:=0) (by omega) (by omega)) rfl rfl rfl ?_;refine Sz0 ?_;refine Qa hP (W9 hp hk) rfl rfl rfl ?_;refine Sz0 ?_;refine Qa hP ((Ux (c:=rv n a d) (m:=[]) (by omega)).le (args':=[PV.rat (rv n a d),.aa]) ⟨Qf _,trivial,trivial⟩) rfl rfl rfl ?_;refine Sz0 ?_;exact Qc rfl rfl
theorem Vk{s t:Tm}{K E:Nat}(hs:TB K E s)(ht:TB K E t)(hK:K<=2^33)(hE:E<=2^38):Qd Tryz.prog 112 [PV.term s,PV.term t] (· = .int .i64 (mU s t)):=by
 have c1:=hs.c;have c2:=ht.c;refine aB Qg Tryz.func112 ae8 fun C hP=>?_;refine Sz0 ?_;refine Qa hP (O5 (s:=s) (t:=t) hs.m ht.m hE) rfl rfl rfl ?_;refine Sz0 ?_;refine Qb (fun h=>?_) (fun h=>?_)
 ·refine Sz0 ?_;exact Qc (by rw[mU,if_pos h]) rfl
 ·refine Sz0 ?_;refine Qa hP (ajx (a:=s.1) (b:=t.1) (k:=2^33) (by omega) (by omega) (by omega)) rfl rfl rfl ?_;refine Sz0 ?_;exact Qc (by rw[mU,if_neg h]) rfl
theorem Qrw{p q:List Tm}{K E:Nat}(hp:PB K E p)(hq:PB K E q)(hK:K<=2^33)(hE:E<=2^38)(fX:p.length<=2^36)(mj:q.length<=2^36):
  Qd Tryz.prog 115 [PV.ao p,PV.ao q,.fn 112 [] []] (· = .int .i64 (iG p q)):=by
 refine aB Qg Tryz.func115 afb fun C hP=>?_;refine Sz0 ?_;refine Qn eH [(6,10),(13,33)] [8,9] (fun n J hp=>∃i,n=p.length-i/\i<=p.length/\(i<=q.length)/\iG (p.drop i) (q.drop i)=iG p q/\J 13= .int .i64 (i:Nat)) p.length ?_ ?_
 ·refine⟨0,rfl,by omega,by omega,rfl,?_⟩;refine Sz0 ?_;rfl
 rintro _ J h ⟨i,rfl,hi,nu,eX,eU⟩;refine Sz1 eU ?_;refine Qb (fun hg=>?_) (fun hg=>?_)
 ·have az:i<p.length:=by omega
  have cx:=hp.get az;have hdp:p.drop i=p[i]::p.drop (i+1):=Kau az;have J6:=fun hk=>PO (q:=q) az hk;generalize hx:p[i]=x at *
  refine Sz2 eU hx ?_;refine Qb (fun hk=>?_) (fun hk=>?_)
  ·rw[hdp,Kan (show q.length<=i by omega),iG]at eX;refine Sz0 ?_;exact Qc (by rw[eX]) rfl
  ·have cP:i<q.length:=by omega
   have ox:=hq.get cP;have J6:=J6 cP;generalize hy:q[i]=y at *
   rw[J6]at eX;refine Sz3 eU hx hy ?_;refine Qa hP (Vk (s:=x) (t:=y) cx ox hK hE) rfl rfl rfl ?_;refine Sz3 eU hx hy ?_;refine Qb (fun hc=>?_) (fun hc=>?_)
   ·rw[if_pos hc]at eX;refine Sz0 ?_;exact Qc (by rw[eX]) rfl
   ·rw[if_neg hc]at eX;refine Sz1 eU ?_;refine Qi (p.length-(i+1)) (by omega) ⟨i+1,rfl,by omega,by omega,eX,?_⟩;exact Tz0
 ·obtain rfl:i=p.length:=by omega
  rw[Kan (Kad _),zU]at eX;refine Sz0 ?_;refine Qb (fun hk=>?_) (fun hk=>?_)
  ·rw[if_neg (by rw[Ka2];omega)]at eX;refine Sz0 ?_;exact Qc (by rw[eX]) rfl
  ·rw[if_pos (by rw[Ka2];omega)]at eX;refine Sz0 ?_;exact Qc (by rw[eX]) rfl
theorem Xa{p q:List Tm}{K E:Nat}(hp:PB K E p)(hq:PB K E q)(hK:K<=2^33)(hE:E<=2^38)(fX:p.length<=2^36)(mj:q.length<=2^36):Qd Tryz.prog 62 [PV.ao p,PV.ao q] (· = .int .i64 (iG p q)):=by refine aB Qg Tryz.func62 ahL fun C hP=>?_;refine Sz0 ?_;refine Qa hP (Qrw hp hq hK hE fX mj) rfl rfl rfl ?_;refine Sz0 ?_;exact Qc rfl rfl
theorem CH{p q:List Tm}{K E:Nat}(hp:PB K E p)(hq:PB K E q)(hK:K<=2^33)(hE:E<=2^38)(fX:p.length<=2^36)(mj:q.length<=2^36):Qd Tryz.prog 28 [PV.ao p,PV.ao q] (· = .bool (decide (p=q))):=by refine aB Qg Tryz.func28 ahK fun C hP=>?_;refine Sz0 ?_;refine Qa hP (Xa hp hq hK hE fX mj) rfl rfl rfl ?_;refine Sz0 ?_;exact Qc (congrArg PV.bool (decide_eq_decide.2 (Iz hp.last hq.last))) rfl
theorem RB.raw{k:Nat}{t:cS}(h:RB k t)(hk:1<=k):Raw k t.n t.a t.d:=⟨h.r.1,h.r.2.1,h.r.2.2.1,h.r.2.2.2,hk⟩
theorem afc{s t:cS}{E:Nat}(hs:MB E s.m)(ht:MB E t.m)(hE:E<=2^38):Qd Tryz.prog 113 [PV.qC s,PV.qC t] (· = .int .i64 (aY s.m t.m)):=by refine aB Qg Tryz.func113 L3 fun C hP=>?_;refine Sz0 ?_;refine Qa hP (O4 (o:=0) hs ht (by omega)) rfl rfl rfl ?_;refine Sz0 ?_;exact Qc (by rw[Er]) rfl
theorem OG{l:List cS}{k:Nat}(hb:∀t∈l,RB k t)(jx:1<=k)(hk:k<2^36)(lA:l.length<2^40):Qd Tryz.prog 96 [PV.mD l] (· = .bool (dt l)):=by
 have vZ:=H2 l;have bad:∀ {b:Bool},(b=true->False)->b=false:=fun {b} h=>by cases b<;>simp_all
 refine aB Qg Tryz.func96 ahJ fun C hP=>?_;refine Sz0 ?_;refine Qn eH [(2,4),(7,42)] [4] (fun n J hp=>∃i,n=l.length-i/\i<=l.length/\(∀j (h:j<l.length),j<i->fJ l[j]=true)/\(∀j (h:j+1<l.length),j+1<i->0<aY l[j].m l[j+1].m)/\J 7= .int .i64 (i:Nat)) l.length ?_ ?_
 ·refine⟨0,rfl,by omega,by omega,by omega,?_⟩;refine Sz0 ?_;rfl
 rintro _ J h ⟨i,rfl,hi,h1,h2,h7⟩;refine Sz1 h7 ?_;refine Qb (fun hg=>?_) (fun hg=>?_)
 ·have az:i<l.length:=by omega
  have jW:=hb _ (Kah az);have hr:=(RB.raw jW jx).rs;have uH:=jW.l;have vU:dt l=true->fJ l[i]=true:=fun h=>(vZ.1 h).1 i az;have Jp:∀(j:Nat)(hj:j+1=i),dt l=true->0<aY (l[j]'(by omega)).m l[i].m:=fun j hj h=>by subst hj;exact(vZ.1 h).2 j az
  have Bb:fJ l[i]=true->∀j (h:j<l.length),j<i+1->fJ l[j]=true:=fun h j hj gP=>by
   by_cases e:j=i
   ·subst e;exact h
   ·exact h1 j hj (by omega)
  have J9:∀(j:Nat)(hj:j+1=i),MB 1048576 (l[j]'(by omega)).m:=fun j hj=>by have:=h1 j (by omega) (by omega);simp only[fJ,Kav]at this;exact MB.uV this.2.2
  have oe:(∀(j:Nat)(hj:j+1=i),0<aY (l[j]'(by omega)).m l[i].m)->∀j (h:j+1<l.length),j+1<i+1->0<aY l[j].m l[j+1].m:=fun h j hj gP=>by
   by_cases e:j+1=i
   ·subst e;exact h j rfl
   ·exact h2 j hj (by omega)
  generalize hx:l[i]=x at *
  have dP:rs (rv x.n x.a x.d)<2^36:=by omega
  refine Sz2 h7 hx ?_;refine Qa hP (VN (RB.raw jW jx) hk) rfl rfl rfl ?_;refine Sz1 h7 ?_;cases aO:ku x.n x.a x.d
  ·have hf:dt l=false:=bad fun h=>by have:=vU h;simp[fJ,aO]at this
   refine Sz2 h7 @Bool.not_false ?_;exact Qc (by rw[hf]) rfl
  refine Sz2 h7 @Bool.not_true ?_;refine Qa hP (CZ (RB.raw jW jx) hk) rfl rfl rfl ?_;refine Sz1 h7 ?_;refine Qo (fun hz=>?_) (fun hz=>?_)
  ·have hf:dt l=false:=bad fun h=>by have:=vU h;simp[fJ,cS.q,fZ.1 hz]at this
   refine Sz1 h7 ?_;exact Qc (by rw[hf]) rfl
  refine Sz1 h7 ?_;refine Qa hP (UQ (by omega)) rfl rfl rfl ?_;refine Sz1 h7 ?_;cases wg:iR x.m
  ·have hf:dt l=false:=bad fun h=>by have:=vU h;simp[fJ,wg]at this
   refine Sz2 h7 @Bool.not_false ?_;exact Qc (by rw[hf]) rfl
  have Bx:fJ x=true:=by simp only[fJ,aO,wg,KcH,Bool.and_true,decide_eq_true_eq];exact fun h=>hz (fZ.2 h)
  refine Sz2 h7 @Bool.not_true ?_;refine Q4 (fun vY=>?_) (fun vY=>?_)
  ·obtain⟨j,rfl⟩:∃j,i=j+1:=⟨i-1,by omega⟩
   have e:((j+1:Nat):Int)-1=j:=by omega
   have qm:j<l.length:=by omega
   have Bu:=J9 j rfl;have Jq:=Jp j rfl;have Jl:0<aY (l[j]'(by omega)).m x.m->∀j2 (h:j2+1<l.length),j2+1<j+1+1->0<aY l[j2].m l[j2+1].m:=fun h=>oe (fun j' dj=>by
    obtain rfl:j'=j:=by omega
    exact h)
   generalize hy:l[j]'(by omega)=y at *
   refine Sz3 h7 e hy ?_;refine Qa hP (afc (s:=y) (t:=x) Bu (MB.uV wg) (by omega)) rfl rfl rfl ?_;refine Sz2 h7 e ?_;refine Qb (fun hc=>?_) (fun hc=>?_)
   ·have hf:dt l=false:=bad fun h=>by have:=Jq h;omega
    refine Sz1 h7 ?_;exact Qc (by rw[hf]) rfl
   ·refine Sz1 h7 ?_;refine Qi (l.length-(j+1+1)) (by omega) ⟨j+1+1,rfl,by omega,Bb Bx,Jl (by omega),?_⟩;exact Tz0
  ·obtain rfl:i=0:=by omega
   refine Sz1 h7 ?_;refine Qi (l.length-1) (by omega) ⟨1,rfl,by omega,Bb Bx,oe (fun j hj=>by omega),?_⟩;exact Tz0
 ·obtain rfl:i=l.length:=by omega
  have hf:dt l=true:=vZ.2 ⟨fun j hj=>h1 j hj hj,fun j hj=>h2 j hj hj⟩;refine Sz0 ?_;exact Qc (by rw[hf]) rfl
theorem UU{l:List cS}{k:Nat}(hb:∀t∈l,RB k t)(jx:1<=k)(hk:k<2^36)(lA:l.length<2^40):Qd Tryz.prog 26 [PV.mD l] (· = .bool (dt l)):=by
 have vZ:=H2 l;have bad:∀ {b:Bool},(b=true->False)->b=false:=fun {b} h=>by cases b<;>simp_all
 refine aB Qg Tryz.func26 ahg fun C hP=>?_;refine Sz0 ?_;refine Qn okB [(2,51)] [] (fun n J hp=>∃i,n=l.length-i/\i<=l.length/\(∀j (h:j<l.length),j<i->fJ l[j]=true)/\(∀j (h:j+1<l.length),j+1<i->0<aY l[j].m l[j+1].m)/\J 3= .int .i64 (i:Nat)) l.length ?_ ?_
 ·refine⟨0,rfl,by omega,by omega,by omega,?_⟩;refine Sz0 ?_;rfl
 rintro _ J h ⟨i,rfl,hi,h1,h2,h7⟩;refine Sz1 h7 ?_;refine Qb (fun hg=>?_) (fun hg=>?_)
 ·have az:i<l.length:=by omega
  have jW:=hb _ (Kah az);have hr:=(RB.raw jW jx).rs;have uH:=jW.l;have vU:dt l=true->fJ l[i]=true:=fun h=>(vZ.1 h).1 i az;have Jp:∀(j:Nat)(hj:j+1=i),dt l=true->0<aY (l[j]'(by omega)).m l[i].m:=fun j hj h=>by subst hj;exact(vZ.1 h).2 j az
  have Bb:fJ l[i]=true->∀j (h:j<l.length),j<i+1->fJ l[j]=true:=fun h j hj gP=>by
   by_cases e:j=i
   ·subst e;exact h
   ·exact h1 j hj (by omega)
  have J9:∀(j:Nat)(hj:j+1=i),MB 1048576 (l[j]'(by omega)).m:=fun j hj=>by have:=h1 j (by omega) (by omega);simp only[fJ,Kav]at this;exact MB.uV this.2.2
  have oe:(∀(j:Nat)(hj:j+1=i),0<aY (l[j]'(by omega)).m l[i].m)->∀j (h:j+1<l.length),j+1<i+1->0<aY l[j].m l[j+1].m:=fun h j hj gP=>by
   by_cases e:j+1=i
   ·subst e;exact h j rfl
   ·exact h2 j hj (by omega)
  generalize hx:l[i]=x at *
  have dP:rs (rv x.n x.a x.d)<2^36:=by omega
  refine Sz2 h7 hx ?_;refine Qa hP (GV (RB.raw jW jx) hk) rfl rfl rfl ?_;refine Sz1 h7 ?_;cases aO:ku x.n x.a x.d
  ·have hf:dt l=false:=bad fun h=>by have:=vU h;simp[fJ,aO]at this
   refine Sz2 h7 @Bool.not_false ?_;exact Qc (by rw[hf]) rfl
  refine Sz3 h7 @Bool.not_true hx ?_;refine Qa hP (CG (RB.raw jW jx) hk) rfl rfl rfl ?_;refine Sz1 h7 ?_;refine Qo (fun hz=>?_) (fun hz=>?_)
  ·have hf:dt l=false:=bad fun h=>by have:=vU h;simp[fJ,cS.q,fZ.1 hz]at this
   refine Sz1 h7 ?_;exact Qc (by rw[hf]) rfl
  refine Sz2 h7 hx ?_;refine Qa hP (Uv (by omega)) rfl rfl rfl ?_;refine Sz1 h7 ?_;cases wg:iR x.m
  ·have hf:dt l=false:=bad fun h=>by have:=vU h;simp[fJ,wg]at this
   refine Sz2 h7 @Bool.not_false ?_;exact Qc (by rw[hf]) rfl
  have Bx:fJ x=true:=by simp only[fJ,aO,wg,KcH,Bool.and_true,decide_eq_true_eq];exact fun h=>hz (fZ.2 h)
  refine Sz2 h7 @Bool.not_true ?_;refine Q4 (fun vY=>?_) (fun vY=>?_)
  ·obtain⟨j,rfl⟩:∃j,i=j+1:=⟨i-1,by omega⟩
   have e:((j+1:Nat):Int)-1=j:=by omega
   have qm:j<l.length:=by omega
   have Bu:=J9 j rfl;have Jq:=Jp j rfl;have Jl:0<aY (l[j]'(by omega)).m x.m->∀j2 (h:j2+1<l.length),j2+1<j+1+1->0<aY l[j2].m l[j2+1].m:=fun h=>oe (fun j' dj=>by
    obtain rfl:j'=j:=by omega
    exact h)
   generalize hy:l[j]'(by omega)=y at *
   refine Sz4 h7 e hx hy ?_;refine Qa hP (Ap Bu (MB.uV wg) (by omega)) rfl rfl rfl ?_;refine Sz2 h7 e ?_;refine Qb (fun hc=>?_) (fun hc=>?_)
   ·have hf:dt l=false:=bad fun h=>by have:=Jq h;omega
    refine Sz1 h7 ?_;exact Qc (by rw[hf]) rfl
   ·refine Sz1 h7 ?_;refine Qi (l.length-(j+1+1)) (by omega) ⟨j+1+1,rfl,by omega,Bb Bx,Jl (by omega),?_⟩;exact Tz0
  ·obtain rfl:i=0:=by omega
   refine Sz1 h7 ?_;refine Qi (l.length-1) (by omega) ⟨1,rfl,by omega,Bb Bx,oe (fun j hj=>by omega),?_⟩;exact Tz0
 ·obtain rfl:i=l.length:=by omega
  have hf:dt l=true:=vZ.2 ⟨fun j hj=>h1 j hj hj,fun j hj=>h2 j hj hj⟩;refine Sz0 ?_;exact Qc (by rw[hf]) rfl
def c30:ay:=⟨94,[.t 2,.cell 3 3 true],Zr (Yj 2<|
 Zo (.alloc 3 3 53 (.agg [.bool false,.aa,.aa])) .nil)<| .seq (Zr (Yq 15 0<|
 gp 17 16 0)<| .cond (.t 17) (Zr (Zq 18 false 14 [.c (Zz 1)]<|
 Yj 2<|
 Zs 3 3 18 .nil) .ret) .skip)<|Zr (Zq 19 false 36 [.c (.int .u64 1)]<|
 Zq 20 false 36 [.c (.int .u64 0)]<|
 dS 4 19 20)<| .seq (Zr (Yi 6 0)<| .block 0<| .loop<| .seq (Zr (YK 21 6 0)<| .cond (.t 24) .skip (.exit 0))<| .seq (.block 1<|Zr (de 27 4 0 6<|
 Zi 30 4 28 29<|
 Zf 31 0 30<|
 Yb 32 2 31<|
 Yl 34 64 27 33<|
 Yc 7 34)<|Zr (jq 36 0 6<|
 Zf 39 0 38<|
 dC 40 2 39 7<|
 YV 43 65 41 42 35<|
 Zo (.ext 46 (.t 35) 2)<|
 Yf 8 44 45<|
 Yc 10 46)<| .rg (er 47 4 8 66<|
 Yc 4 49))<| .rg (YX 25 6))<| .seq (Zr (Yi 11 0)<| .block 2<| .loop<| .seq (Zr (YK 50 11 0)<| .cond (.t 53) .skip (.exit 2))<| .seq (.block 3<|Zr (jq 56 0 11<|
 dY 59 58 3<|
 Zm 61 4<|
 Zo (.dv 62 [.bool false,.aa] [(1,1,.t 61)])<|
 .br (Zq 63 true 36 [.c (.int .u64 1)]<|
 ud 64 62 63<|
 .br (Ym 65 33 60 64<|
 Yr 12<|
 Zs 3 12 65 .nil) (Yr 12<|
 Ym 65 33 60 64<|
 Zs 3 12 65 .nil)) (Yr 12<|
 Zq 63 true 36 [.c (.int .u64 1)]<|
 ud 64 62 63<|
 Ym 65 33 60 64<|
 Zs 3 12 65 .nil))<| .rg (Zm 66 5<|
 Zf 67 0 12<|
 Yb 68 1 67<|
 Yl 70 64 66 69<|
 Yc 5 70))<| .rg (YX 54 11))<|Zr (YO 72 0 4 0<|
 Zf 74 0 73<|
 Zf 75 0 74<|
 dC 76 0 75 4<|
 Zo (.dv 79 [.bool false,.aa] [(0,1,.t 77),(1,1,.t 78)])<|
 Zm 80 5<|
 Zo (.dv 81 [.bool false,.aa] [(1,1,.t 80)])<|
 YV 82 67 79 81 71<|
 Yr 13<|
 Zs 3 13 83<|
 Yc 14 84)<| .seq (Zr (dY 85 13 2<|
 Yn 87 68 86<|
 gp 88 87 0)<| .cond (.t 88) (Zr (Zq 89 false 14 [.c (Zz 1)]<|
 Yj 2<|
 Zs 3 3 89 .nil) .ret) .skip)<|Zr (Zm 90 0<|
 Zh 91 3 13<|
 Zh 93 3 13<|
 Ym 92 13 90 91<|
 Zm 2 92<|
 Zs 3 3 93 .nil) .ret⟩
theorem Nb:Qe Tryz.prog Tryz.f30=some c30:=by kernel_rfl
def AL:ay:=⟨19,[.t 2],Zr (YG 2)<| .seq (Zr (iX 4 0<|
 Yw 6 5 0<|
 Zg 6 false (.bin 8 .geq false (.t 7) (.c (Zz 64)))<|
 ep 9 6 8)<| .cond (.t 9) (Zr (YG 2) .ret) .skip)<|Zr (Zm 10 0<|
 Zk 11 .add 10 1<|
 Zo (.mk 12 1 8 3 (Zz 0) (.t 11) (.t 11))<|
 Zm 3 12 .nil)<|Zr (Yf 13 3 0<|
 Zi 15 1 13 14<|
 Zo (.st 1 (.t 15) (.c (Zz 1))) .nil)<|Zr (Zq 16 false 14 [.c (Zz 1)]<|
 Zm 17 3<|
 Zq 18 false 45 [.c .aa,.t 16,.t 17]<|
 Yc 2 18) .ret⟩
theorem ahR:Qe Tryz.prog Tryz.f18=some AL:=by kernel_rfl
end Go.Proofs.YtccppnepkfbpkaaGreat
namespace Go.FW
open Go
variable {C : Ctx} {ρ : Nat -> Option Nat} {fr aA : Fr} {hp : HP} {w : World} {K R : Qh}
theorem C1 {P : Program} {f : FuncId} {fn : Func} {sf : ay} {args : List PV} {Rr : PV -> Prop} (hm : P.follows .mixedOrders = true) (hf : P.funcs[f]? = some fn) (oo : (fn.name != "runtime.NumGoroutine") = true) (hc : Qe P fn = some sf.strip) (hn : args.length <= sf.n /\ sf.n <= 1000000)
  (hv:∀C:Ctx,C.P=P->C.N=sf.n->vc C (sN (fD sf.rs Rr)) [.c sf.body] (gG args) aw):Qd P f args Rr:=by
 simp only[Qe,Kab,Kaa]at hc;obtain⟨c,hb,sb,jb,rs,cG,Bz⟩:=hc;obtain⟨n,KJ,body⟩:=sf;simp only[ay.strip,ay.mk.injEq]at Bz;obtain⟨rfl,rfl,rfl⟩:=Bz;refine⟨by simp[oV,hf,hb];simpa using oo,fun w X bd hX eE fw=>?_⟩
 let C:Ctx:=Ctx.plain P fn.ntmps w X hX hn.2
 refine calls_of_wp hf hb ?_;have rN:(bd++Array.replicate (fn.ntmps-bd.size) undef).size=fn.ntmps:=by simp at hn ⊢;omega
 have ov:dB C (gG args) aw (bd++Array.replicate (fn.ntmps-bd.size) undef) w:=by
  refine⟨fun _=>none,rN,Ext.refl _ _,(fun _ _ h=>by cases h),by simp[aw],by simp[aw],fun i=>?_⟩;unfold gG;cases hi:args[i]? with
  |none=>trivial
  | some p=>
   simp only[Kbd];have fI:i<bd.size:=by rw[eE];exact(Kaf.1 hi).1
   have hr:=fw i p hi;have e:(bd++Array.replicate (fn.ntmps-bd.size) undef).getD i undef=bd.getD i undef:=by rw[ko,if_pos fI]
   rw[e];refine Qm.lG (hr.mono (fun _ _ _=>rfl) (fun b _ hn hx=>?_) (Kad _));rcases hx with hx|⟨_,_,h1,_⟩
   ·exact hn hx
   ·simp[aw]at h1
 have fin:∀(fr:Fr)(hp:HP)(a:Act)(w':World),a.defers=[]->dB C fr hp a.tmps w'->sN (fD rs Rr) fr hp->
   a.defers=[]/\∃v,(results fn a.tmps).run P w'= .ok v w'/\∃v' r,Ending.returned v= .returned v'/\Ext cg w w'/\eB w' X r v'/\Rr r:=by
  rintro fr hp a w' hd wv ⟨ma,ft,hw,hr⟩;obtain⟨ρ,hs⟩:=hw C _ _ wv;obtain⟨v,r,h1,h2,h3⟩:=P5 (C:=C) rfl cG hs hr;exact⟨hd,v,h1,v,r,rfl,Ctx.KF hs.ext,h2,h3⟩
 exact G7 (C:=C) (R:=sN (fD rs Rr)) hm c body [] _ (gG args) aw _ w jb ⟨fun fr hp a w' hd hs hv=>(by rw[tL]at hv;exact fin fr hp a w' hd hs hv),fun id dW he=>(by simp[FW.bW]at he),fin⟩ rfl ov (hv C rfl rfl)
theorem mP {P : Program} {f : FuncId} {fn : Func} {sf : ay} {args : List PV} {Rr : PV -> Prop} (hm : P.follows .mixedOrders = true) (hf : P.funcs[f]? = some fn) (oo : (fn.name != "runtime.NumGoroutine") = true) (hc : Qe P fn = some sf.strip) (hn : args.length <= sf.n /\ sf.n <= 1000000)
  (hv:∀C:Ctx,C.P=P->vc C (sN (fD sf.rs Rr)) [.c sf.body] (gG args) aw):Qd P f args Rr:=
 C1 hm hf oo hc hn fun C h _=>hv C h
theorem afd{ty w i d:Nat}{fz:Bool}{f:Nat->Rat}(h:i<w):iu (some ⟨3,ty,mV PV.rat f w,fz⟩) 3 true i 0 d fr hp K=K (ae fr d (PV.rat (f i))) hp:=by rw[oN (by rw[Hc];exact h) (by omega) (by simp),H3];rfl
theorem ahS:(vv (.aG [])=True)/\(∀(k:IntKind)(n:Int),vv (.int k n)=True)/\(∀b:Bool,vv (.bool b)=True)/\(∀(e:Nat)(xs:List PV),vv (.sl e xs)=True)/\(∀cs:List PV,vv (.agg cs)=True)/\(∀cs:List PV,vv (.aG cs)=True):=by refine⟨?_,?_,?_,?_,?_,?_⟩<;>intros<;>simp[vv,PV.refs,PV.aN,cE,cW]
attribute [go_sem] ahS afd
end Go.FW
namespace Go.FW
open Go
variable {C : Ctx} {ρ : Nat -> Option Nat} {fr aA : Fr} {hp : HP} {w : World} {K R : Qh}
def yN(p:PV)(γ n:Nat)(ag:Bool)(i o d:Nat)(fr:Fr)(hp:HP)(K:Qh):Prop:=match p with
 |.aF ba e _ xs=>ba=γ/\∃h:i<xs.length,o+n<=e/\(ag=false->n=1)/\K (ae fr d (rQ ag n o (xs[i]'h))) hp
 |_=>False
theorem ahT{γ n i o d:Nat}{ag:Bool}:bn n ag (.np γ i o) d fr hp K=yN (fr γ) γ n ag i o d fr hp K:=by simp only[bn,yN];cases fr γ<;>rfl
def yV(p:PV)(h:Option HB)(v:Option (List PV))(γ n i o:Nat)(fr:Fr)(hp:HP)(K:Qh):Prop:=match p with
 |.aF ba e ty xs=>ba=γ/\(∃hb,h=some hb/\hb.fz=false)/\∃h:i<xs.length,o+n<=e/\match v with
   |some cs=>cs.length=n/\K (ae (iE γ fr) γ (.aF γ e ty (xs.set i (fj (pS (xs[i]'h).aX o cs))))) hp
   |none=>False
 |_=>False
theorem ahU{γ n i o:Nat}{v:PV}:nK n (.np γ i o) v fr hp K=yV (fr γ) (hp γ) (eP v) γ n i o fr hp K:=by simp only[nK,yV];cases fr γ<;>rfl
theorem ajy{γ e ty n o d:Nat}{ag:Bool}{x:PV}(h1:o+n<=e)(h2:ag=true∨n=1):yN (.aF γ e ty [x]) γ n ag 0 o d fr hp K=K (ae fr d (rQ ag n o x)) hp:=by have:(ag=false->n=1):=fun h=>h2.resolve_left (by simp[h]);simp[yN,h1];exact fun _=>this
theorem ajz{γ e ty n o e0 KO:Nat}{x:PV}{KR cs:List PV}(h1:o+n<=e)(h2:cs.length=n):yV (.aF γ e ty [x]) (some ⟨e0,KO,KR,false⟩) (some cs) γ n 0 o fr hp K=K (ae (iE γ fr) γ (.aF γ e ty [fj (pS x.aX o cs)])) hp:=by simp[yV,h1,h2]
theorem ajA{γ ty B n w r d:Nat}{π:Nat->Nat}(h:r<n):yN (.aF γ 1 ty (jJ (gH B n w π))) γ 1 false r 0 d fr hp K=K (ae fr d (.ms (B+π r) w)) hp:=by
 have hl:r<(jJ (gH B n w π)).length:=by simpa[jJ,gH]using h
 simp only[yN,hl,exists_true_left,true_and,Kad,Ka9,implies_true];simp[rQ,jJ,gH,PV.aX,PV.cells]
theorem ajB{γ ty B n w r m e0 KO:Nat}{π:Nat->Nat}{KR:List PV}(h:r<n):yV (.aF γ 1 ty (jJ (gH B n w π))) (some ⟨e0,KO,KR,false⟩) (some [.ms (B+m) w]) γ 1 r 0 fr hp K=K (ae (iE γ fr) γ (.aF γ 1 ty (jJ (gH B n w fun x=>if x=r then m else π x)))) hp:=by
 have hl:r<(jJ (gH B n w π)).length:=by simpa[jJ,gH]using h
 have e:(gH B n w π).set r (B+m,w)=gH B n w fun x=>if x=r then m else π x:=by
  refine List.ext_getElem (by simp[gH]) fun j h1 h2=>?_;rw[List.getElem_set,LI,LI];split
  ·rename_i e;subst e;simp
  ·rename_i e;rw[if_neg fun e2=>e e2.symm]
 rw[<-e];simp only[yV,hl,exists_true_left,true_and,Kad,Ka9,Kaz,exists_eq_left',KaT,Kbo];simp[fj,pS,jJ,PV.aX,PV.cells,List.map_set]
theorem ap4:
  (∀(γ o n:Nat),eP (.aH γ o n)=some [.aH γ o n])/\
  (∀(k:IntKind)(n:Int),eP (.int k n)=some [.int k n])/\
  (∀(b:Bool),eP (.bool b)=some [.bool b])/\
  (eP .aa=some [.aa])/\
  (∀(e:Nat)(xs:List PV),eP (.sl e xs)=some [.sl e xs])/\
  (∀(cs:List PV),eP (.pt cs)=some [.pt cs])/\
  (∀(cs:List PV),eP (.agg cs)=some cs):=by
 refine⟨?_,?_,?_,?_,?_,?_,?_⟩<;>intros<;>rfl
theorem ahV{β o n:Nat}(h:1000000<=β):eP (.au β o n)=some [.au β o n]:=by simp[eP,bB,h]
theorem afe{cs:List PV}:eP (.aK cs)=if cs.all PV.gz then some cs else none:=rfl
theorem ajC:(∀(k:IntKind)(n:Int),(PV.int k n).gz=true)/\(∀b:Bool,(PV.bool b).gz=true)/\(PV.aa.gz=true)/\(∀(e:Nat)(xs:List PV),(PV.sl e xs).gz=true)/\(∀(β o n:Nat),(PV.au β o n).gz=true)/\(∀(β o n:Nat),(PV.aH β o n).gz=true)/\(∀cs:List PV,(PV.pt cs).gz=true)/\(PV.undef.gz=false):=by refine⟨?_,?_,?_,?_,?_,?_,?_,?_⟩<;>intros<;>rfl
theorem ajD:(∀(k:IntKind)(n:Int),(PV.int k n).oA=false)/\(∀b:Bool,(PV.bool b).oA=false)/\(PV.aa.oA=false)/\(∀(e:Nat)(xs:List PV),(PV.sl e xs).oA=false)/\(∀(β o n:Nat),(PV.au β o n).oA=true)/\(∀(β o n:Nat),(PV.aH β o n).oA=true)/\(∀cs:List PV,(PV.pt cs).oA=false)/\(PV.undef.oA=true):=by refine⟨?_,?_,?_,?_,?_,?_,?_,?_⟩<;>intros<;>rfl
theorem Zt{cs:List PV}(h:cs.any PV.oA=true):nQ cs= .aK cs:=by simp[nQ,h]
theorem Zv{cs:List PV}(h:cs.any PV.oA=false):nQ cs= .agg cs:=by simp[nQ,h]
theorem ahW{a b:PV}{cs:List PV}:fj (a::b::cs)=nQ (a::b::cs):=rfl
theorem ahX{a:PV}:fj [a]=a:=rfl
theorem ajE{n o:Nat}{x:PV}:rQ true n o x=nQ ((x.aX.drop o).take n):=rfl
theorem ajF{n o:Nat}{x:PV}:rQ false n o x=(x.aX.drop o).headD .undef:=rfl
theorem aff{l cs:List PV}{o:Nat}:pS l o cs=l.take o++cs++l.drop (o+cs.length):=rfl
theorem Xb{cs:List PV}:(PV.aK cs).aX=cs:=rfl
theorem Xc{cs:List PV}:(PV.agg cs).aX=cs:=rfl
theorem ajG{z:List PV}{ps:List (Nat×Nat×PV)}{d:Nat}(h:ps.any (fun p=>p.2.2.nF)=true):kC z ps d fr hp K=(tF z.length ps/\K (ae fr d (.aK (gE z (ps.map fun p=>(p.1,(eP p.2.2).getD []))))) hp):=by simp only[kC,if_pos h]
theorem Vl{len:Nat}:tF len []=True:=by simp[tF]
theorem UW{len o n:Nat}{v:PV}{ps:List (Nat×Nat×PV)}:tF len ((o,n,v)::ps)=((∃cs,eP v=some cs/\cs.length=n/\o+n<=len)/\tF len ps):=by simp[tF]
theorem ahY:(∀(γ o n:Nat),(PV.aH γ o n).nF=true)/\(∀(cs:List PV),(PV.aK cs).nF=true)/\(∀(β o n:Nat),(PV.au β o n).nF=decide (2000000<=β))/\(∀(cs:List PV),(PV.agg cs).nF=false)/\(∀(k:IntKind)(n:Int),(PV.int k n).nF=false)/\(∀b:Bool,(PV.bool b).nF=false)/\(PV.aa.nF=false)/\(∀(e:Nat)(xs:List PV),(PV.sl e xs).nF=false):=by refine⟨?_,?_,?_,?_,?_,?_,?_,?_⟩<;>intros<;>rfl
theorem afg:(∀(β:Nat)(k:IntKind)(n:Int),gX β (.int k n)= .int k n)/\(∀(β:Nat)(b:Bool),gX β (.bool b)= .bool b)/\(∀β:Nat,gX β .aa= .aa)/\(∀(β e:Nat)(xs:List PV),gX β (.sl e xs)= .sl e xs)/\(∀(β γ o n:Nat),gX β (.au γ o n)=if γ=β then .undef else .au γ o n)/\(∀(β γ o n:Nat),gX β (.aH γ o n)=if γ=β then .undef else .aH γ o n):=by refine⟨?_,?_,?_,?_,?_,?_⟩<;>intros<;>rfl
theorem afh{β γ e ty:Nat}{x:PV}(h:γ≠β):cR β (.aF γ e ty [x])= .aF γ e ty [fj (x.aX.map (gX β))]:=by simp[cR,h]
theorem afi{β γ ty B n w:Nat}{π:Nat->Nat}(h:γ≠β)(h2:β<B):cR β (.aF γ 1 ty (jJ (gH B n w π)))= .aF γ 1 ty (jJ (gH B n w π)):=by
 simp only[cR,if_neg h];congr 1;conv=>rhs;rw[<-List.map_id (jJ (gH B n w π))]
 refine Ka6 fun x hx=>?_;obtain⟨y,hy,rfl⟩:=KaF.1 hx;obtain⟨r,hr,rfl⟩:=KaF.1 hy;simp only[PV.aX,PV.cells,Kbe,Kby,gX,fj];rw[if_neg (by omega)];rfl
theorem apL{β δ γ ty B n w:Nat}{π:Nat->Nat}(aj:β<1000000)(hB:2000000<=B)(ah:2000000<=γ):cE (oB β δ) (.aF γ 1 ty (jJ (gH B n w π)))= .aF γ 1 ty (jJ (gH B n w π)):=by
 have e1:oB β δ γ=γ:=by unfold oB;rw[if_neg (by omega)]
 simp only[cE,e1];congr 1;conv=>rhs;rw[<-List.map_id (jJ (gH B n w π))]
 refine Ka6 fun x hx=>?_;obtain⟨y,hy,rfl⟩:=KaF.1 hx;obtain⟨r,hr,rfl⟩:=KaF.1 hy;refine aez (.inr ⟨_,_,rfl⟩) fun bA n' h=>?_;cases h;unfold oB;rw[if_neg (by omega)]
theorem ajH{δ γ ty B n w:Nat}{π:Nat->Nat}(h:γ≠δ)(nD:δ<B):dm δ (.aF γ 1 ty (jJ (gH B n w π)))= .aF γ 1 ty (jJ (gH B n w π)):=by
 simp only[dm,if_neg h];congr 1;conv=>rhs;rw[<-List.map_id (jJ (gH B n w π))]
 refine Ka6 fun x hx=>?_;obtain⟨y,hy,rfl⟩:=KaF.1 hx;obtain⟨r,hr,rfl⟩:=KaF.1 hy;simp only[PV.aX,PV.cells,Kbe,Kby,eC,fj];rw[if_neg (by omega)];rfl
theorem Zw{β:Nat}{cs:List PV}:bx β (.aK cs)= .aK cs:=rfl
theorem ack{γ:Nat}{cs:List PV}:dm γ (.aK cs)= .aK (cs.map (eC γ)):=rfl
theorem Zx{β:Nat}{cs:List PV}:cR β (.aK cs)= .aK (cs.map (gX β)):=rfl
theorem ajI:(∀(γ:Nat)(k:IntKind)(n:Int),eC γ (.int k n)= .int k n)/\(∀(γ:Nat)(b:Bool),eC γ (.bool b)= .bool b)/\(∀γ:Nat,eC γ .aa= .aa)/\(∀(γ e:Nat)(xs:List PV),eC γ (.sl e xs)= .sl e xs)/\(∀(γ β o n:Nat),eC γ (.au β o n)=if β=γ then .aH γ o n else .au β o n)/\(∀(γ β o n:Nat),eC γ (.aH β o n)= .aH β o n):=by refine⟨?_,?_,?_,?_,?_,?_⟩<;>intros<;>rfl
theorem ahZ{γ i o off d:Nat}:rf off (.np γ i o) d fr hp K=K (ae fr d (.np γ i (o+off))) hp:=rfl
theorem Zy{γ ba e ty:Nat}{xs:List PV}:iQ γ (.aF ba e ty xs)=if ba=γ then .undef else .aF ba e ty xs:=rfl
theorem ZA{γ:Nat}{cs:List PV}:iQ γ (.aK cs)= .aK cs:=rfl
attribute [go_sem] ahZ Zy ZA false_and List.all_cons List.all_nil Zw ack Zx ajI exists_eq_left' ahT ahU ajy ajz ajA ajB ap4 ahV afe ajC ajD Zt Zv ahW ahX ajE ajF aff Xb Xc ajG Vl UW ahY afg afh afi apL ajH
theorem L5{γ e ty:Nat}{cs cs':List PV}(δ e' ty':Nat)(uA:fr γ= .aF γ e ty [.aK cs])(h1:hp δ=none)(h2:2000000<=δ)(h3:0<e')(hl:cs'.length=cs.length)(hc:∀p∈cs.zip cs',p.2=p.1∨(p.1= .aa/\p.2= .au δ 0 0)):
  Wk fr hp (ae fr γ (.aF γ e ty [.aK cs'])) (Ql hp δ ⟨e',ty',[],false⟩):=by
 have h:=La (fr:=fr) (hp:=hp) (γ:=γ) (e:=e) (ty:=ty) (xs:=[.aK cs]) (xs':=[.aK cs']) (fun x=>if x=δ then some (e',ty')else none) uA (fun x y h=>?_) rfl (fun i x x' k1 k2=>?_)
 ·refine cast (congrArg (Wk fr hp (ae fr γ (.aF γ e ty [.aK cs']))) (funext fun x=>?_)) h;unfold Ql;by_cases hx:x=δ
  ·subst hx;simp
  ·simp[hx]
 ·split at h
  ·rename_i hx;subst hx;cases h;exact⟨h1,h2,h3⟩
  ·cases h
 ·cases i with
  |succ i=>cases k1
  | zero=>
   cases k1;cases k2;refine⟨hl,fun j y y' q1 q2=>?_⟩;have hz:(y,y')∈cs.zip cs':=by refine Kaj (i:=j) ?_;rw[List.getElem?_zip_eq_some];exact⟨q1,q2⟩
   rcases hc _ hz with h|⟨h,h'⟩
   ·exact .inl h
   ·exact .inr ⟨h,δ,(e',ty'),by simp,h'⟩
theorem Px{l:List Nat}{x:Nat}(hl:∀y∈l,2000000<=y)(hx:x<2000000):Qx hp l x=hp x:=by
 have:x ∉ l:=fun h=>by have:=hl x h;omega
 unfold Qx;cases hp x<;>simp[this]
theorem Nm{sk:List It}{r:RT}(s k:Nat){p D:PV}(h0:fr s=p)(ho:TS fr k p/\Cj fr hp k p=D/\∀x∈y5 fr k p,2000000<=x)(hv:∀l,(∀x∈l,2000000<=x)->vc C R (.o r::sk) (ae fr s D) (Qx hp l)):vc C R (.o (.wk r)::sk) fr hp:=by subst h0;obtain⟨h1,h2,h3⟩:=ho;refine bT (agQ s k h1) ?_;rw[h2];exact hv _ h3
theorem aab{γ:Nat}{F:Fr}:iE γ (vG F)=vG F:=by have:=QH (γ:=γ) (B:=[]) (F:=F);simpa only[eK,jG]using this
theorem aac{β:Nat}{F:Fr}(h:2000000<=β):e9 β (vG F)=vG F:=by have:=QG (B:=[]) (F:=F) h;simpa only[eK,jG]using this
attribute [go_sem] aab aac
theorem ai9:(∀(k:IntKind)(n:Int),(PV.int k n).aN=[])/\(∀b:Bool,(PV.bool b).aN=[])/\(PV.aa.aN=[])/\(PV.undef.aN=[])/\(∀(e:Nat)(xs:List PV),(PV.sl e xs).aN=[])/\(∀cs:List PV,(PV.agg cs).aN=[])/\(∀cs:List PV,(PV.aG cs).aN=[])/\(∀cs:List PV,(PV.pt cs).aN=[])/\
  (∀(β o n:Nat),(PV.au β o n).aN=[])/\(∀(β o n:Nat),(PV.mp β o n).aN=[])/\(∀(β o n:Nat),(PV.aH β o n).aN=[β])/\(∀(β o n:Nat),(PV.np β o n).aN=[β]):=by
 refine⟨?_,?_,?_,?_,?_,?_,?_,?_,?_,?_,?_,?_⟩<;>intros<;>rfl
attribute [go_sem] ai9
theorem acm{d w i:Nat}{k:IntKind}{f:Nat->Rat}(h:i<w):Q7 3 (.sl 3 (mV PV.rat f w)) (.int k (i:Nat)) d fr hp K=K (ae fr d (.pt (PV.rat (f i)).cells)) hp:=by unfold mV;rw[vh (by omega) (by simp;omega)];simp
theorem acn{α:Type}{p:α->PV}{f:Nat->α}{w d e:Nat}:oU (.sl e (mV p f w)) d fr hp K=K (ae fr d (.int .i64 (w:Nat))) hp:=by simp[oU,mV]
attribute [go_sem] acm acn
theorem afj{i c:Nat}(h:c<1600000):(1600000+i=c)=False:=by simp;omega
attribute [go_sem] afj
end Go.FW
namespace Go.FW
open Go
variable {C C' : Ctx} {ρ ρ' : Nat -> Option Nat} {fr aA : Fr} {hp hp' : HP} {w : World} {K R : Qh}
theorem LO{γ e ty:Nat}{cs cs':List PV}(δ e' ty':Nat)(uA:fr γ= .aF γ e ty [.agg cs])(h1:hp δ=none)(h2:2000000<=δ)(h3:0<e')(hl:cs'.length=cs.length)(hc:∀p∈cs.zip cs',p.2=p.1∨(p.1= .aa/\p.2= .au δ 0 0)):
  Wk fr hp (ae fr γ (.aF γ e ty [.aK cs'])) (Ql hp δ ⟨e',ty',[],false⟩):=by
 have h:=La (fr:=fr) (hp:=hp) (γ:=γ) (e:=e) (ty:=ty) (xs:=[.agg cs]) (xs':=[.aK cs']) (fun x=>if x=δ then some (e',ty')else none) uA (fun x y h=>?_) rfl (fun i x x' k1 k2=>?_)
 ·refine cast (congrArg (Wk fr hp (ae fr γ (.aF γ e ty [.aK cs']))) (funext fun x=>?_)) h;unfold Ql;by_cases hx:x=δ
  ·subst hx;simp
  ·simp[hx]
 ·split at h
  ·rename_i hx;subst hx;cases h;exact⟨h1,h2,h3⟩
  ·cases h
 ·cases i with
  |succ i=>cases k1
  | zero=>
   cases k1;cases k2;refine⟨hl,fun j y y' q1 q2=>?_⟩;have hz:(y,y')∈cs.zip cs':=by refine Kaj (i:=j) ?_;rw[List.getElem?_zip_eq_some];exact⟨q1,q2⟩
   rcases hc _ hz with h|⟨h,h'⟩
   ·exact .inl h
   ·exact .inr ⟨h,δ,(e',ty'),by simp,h'⟩
end Go.FW
namespace Go.FW
open Go
abbrev LF:=Rat×(Nat->Rat)
variable {C : Ctx} {fr : Fr} {hp : HP} {w : World} {K R : Qh}
abbrev PV.wP(w:Nat)(f:Nat->Rat):PV:=.sl 3 (mV PV.rat f w)
theorem afk{ty w n i d:Nat}{fz:Bool}{M:MF}(h:i<n):iu (some ⟨1,ty,mV (PV.wP w) M n,fz⟩) 1 false i 0 d fr hp K=K (ae fr d (PV.wP w (M i))) hp:=by rw[oN (by rw[Hc];exact h) (by omega) (by simp),H3];rfl
theorem aco{d w n i:Nat}{k:IntKind}{M:MF}(h:i<n):Q7 1 (.sl 1 (mV (PV.wP w) M n)) (.int k (i:Nat)) d fr hp K=K (ae fr d (.pt [PV.wP w (M i)])) hp:=by
 have hl:i<(mV (PV.wP w) M n).length:=by rw[Hc];exact h
 simp only[Q7];simp[hl,H3];rfl
attribute [go_sem] afk aco
theorem acp{ty i d:Nat}{fz:Bool}{α:Type}{p:α->PV}{L:List α}(h:i<L.length):iu (some ⟨1,ty,L.map p,fz⟩) 1 false i 0 d fr hp K=K (ae fr d (dQ false 1 0 (p (L[i]'h)))) hp:=by rw[oN (by rw[Ka0];exact h) (by omega) (by simp),Kb8]
theorem acq{ty i d:Nat}{fz:Bool}{L:List LF}(h:i<L.length):iu (some ⟨3,ty,L.map (fun f=>PV.rat f.1),fz⟩) 3 true i 0 d fr hp K=K (ae fr d (PV.rat (L[i]'h).1)) hp:=by rw[oN (by rw[Ka0];exact h) (by omega) (by simp),Kb8];rfl
theorem acr{ty i d w:Nat}{fz:Bool}{L:List LF}(h:i<L.length):iu (some ⟨1,ty,L.map (fun f=>PV.wP w f.2),fz⟩) 1 false i 0 d fr hp K=K (ae fr d (PV.wP w (L[i]'h).2)) hp:=by rw[acp h];rfl
attribute [go_sem] acq acr
def nm1(x:Nat):Bool:=decide (x=2000000)
theorem ah0:nm1 2000000=true:=decide_eq_true rfl
attribute [go_sem] ah0
theorem ah1{p:PV}{ps:List PV}{d:Nat}{fr:Fr}{hp:HP}{K:Qh}:lW (.dV (p::ps)) 0 d fr hp K=K (ae fr d p) hp:=rfl
theorem ahs{p q:PV}{ps:List PV}{d:Nat}{fr:Fr}{hp:HP}{K:Qh}:lW (.dV (p::q::ps)) 1 d fr hp K=K (ae fr d q) hp:=rfl
attribute [go_sem] ah1 ahs
end Go.FW
namespace Go.FW
open Go
variable {C : Ctx} {fr : Fr} {hp : HP} {w : World} {K R : Qh}
theorem xg{γ e ty:Nat}{cs:List PV}(h:fr γ= .aF γ e ty [.aK cs]):Wk fr hp (ae fr γ (.aF γ e ty [.aK (cs.map fun _=>.undef)])) hp:=by
 rintro C tmps w ⟨ρ,hs⟩;refine⟨ρ,hs.sz,hs.ext,hs.eG,hs.own,hs.inj,fun i=>?_⟩;unfold ae;split
 ·rename_i hi;subst hi;have bc:=hs.cH i;rw[h]at bc;obtain⟨h0,he,b,hb,cur,cap,h1,h2,h3,h4,h5,h6,h7,h8,h9,bp,cj⟩:=bc;refine⟨h0,he,b,hb,cur,cap,h1,h2,h3,h4,h5,h6,h7,h8,h9,fun k x hx=>?_,fun k x hx j y hy=>?_⟩
  ·match k,hx with
   |0,hx=>simp at hx;subst hx;have:=bp 0 _ rfl;simpa[PV.aX]using this
   |k+1,hx=>simp at hx
  ·match k,hx with
   |0,hx=>simp at hx;subst hx;simp only[PV.aX,Kat,Kaa]at hy;obtain⟨_,_,rfl⟩:=hy;trivial
   |k+1,hx=>simp at hx
 ·exact hs.cH i
def kP(x:Nat):Bool:=decide (x=2000000)||decide (x=2000001)
theorem xr{x:Nat}:kP x=true↔x=2000000∨x=2000001:=by simp[kP]
abbrev aoL(A B:HB):HP:=Ql (Ql aw 2000000 A) 2000001 B
abbrev Co(n m:Nat):PV:=.aK [.ms 2000000 n,.ms 2000001 m]
theorem aht{P:Program}(hP:C.P=P){g:FuncId}{args:List PV}{d n m:Nat}{A B A' B':HB}{q:PV}(h:xq P g args (fun _=>.undef) (aoL A B) fun r _ H=>r= .cO [.ms 2000000 n,.ms 2000001 m] q/\H 2000000=some A'/\H 2000001=some B')
  (hA:hp 2000000=some A) (hB:hp 2000001=some B) (fA:A.fz=false) (fB:B.fz=false)
  (aL:∀x∈args,∀γ e ty xs,x≠ .aF γ e ty xs) (mm:∀γ∈args.flatMap (fun x=>x.refs++x.aN),kP γ=true) (df:args.length<=1000000)
  (hK:K (ae (ia kP fr) d (.cO [.ms 2000000 n,.ms 2000001 m] q)) (Ql (Ql hp 2000000 A') 2000001 B')):fC C false (.fn g [] []) args (some d) fr hp K:=by
 refine ag4 hP h kP kP [] (fun x hx=>?_) (fun x=>?_) rfl df aL mm (fun s _=>.inl rfl) (fun x hx=>⟨.inr hx,?_⟩) (fun h=>by cases h) (fun r F H gR=>?_)
 ·rcases xr.1 hx with rfl|rfl
  ·exact⟨A,hA,fA,by omega⟩
  ·exact⟨B,hB,fB,by omega⟩
 ·by_cases e1:x=2000001
  ·subst e1;simp[kP,Ql,hB]
  ·by_cases e0:x=2000000
   ·subst e0;simp[kP,Ql,hA]
   ·simp[kP,Ql,e0,e1,aw]
 ·rcases xr.1 hx with rfl|rfl<;>omega
 ·obtain⟨rfl,h1,h2⟩:=gR;refine⟨fun x hx=>?_,(fun γ e ty xs h=>by cases h),fun β aj=>?_,(fun s hs=>by cases hs),?_⟩
  ·rcases xr.1 hx with rfl|rfl
   ·rw[h1];simp
   ·rw[h2];simp
  ·simp[PV.refs,PV.aN,PV.dh]at aj;exact xr.2 aj
  ·have e1:yl [] F (fQ (ia kP fr) (some d) (.cO [.ms 2000000 n,.ms 2000001 m] q))=ae (ia kP fr) d (.cO [.ms 2000000 n,.ms 2000001 m] q):=by funext s;simp[yl,fQ]
   have e2:uk kP kP H hp=Ql (Ql hp 2000000 A') 2000001 B':=by
    funext x;unfold uk Ql;by_cases e1:x=2000001
    ·subst e1;simp[kP,h2]
    ·by_cases e0:x=2000000
     ·subst e0;simp[kP,h1]
     ·simp[kP,e0,e1]
   rw[e1,e2];exact hK
theorem ahu{cs:List PV}{q:PV}{d:Nat}:lW (.cO cs q) 0 d fr hp K=K (ae fr d (.aK cs)) hp:=rfl
theorem ahv{cs:List PV}{q:PV}{d:Nat}:lW (.cO cs q) 1 d fr hp K=K (ae fr d q) hp:=rfl
theorem aja{n ty d:Nat}{cs:List PV}(h:cs.length=n)(h0:0<n)(hU:cs.all PV.gz=true)(oq:cs.all (fun x=> !(x.dh.contains (4000000+d)))=true):
  eQ n ty (.aK cs) d fr hp K=K (ae (ae (e9 (4000000+d) fr) (4000000+d) (.aF (4000000+d) n ty [.aK cs])) d (.np (4000000+d) 0 0)) (Ql hp (4000000+d) ⟨n,ty,[],false⟩):=by
 show tS n ty cs d fr hp K=_;unfold tS cQ;simp only[eq_iff_iff,and_iff_right_iff_imp];exact fun _=>⟨h,h0,hU,oq⟩
theorem ap0{σ:Nat->Nat}{γ e ty:Nat}{cs:List PV}:cE σ (.aF γ e ty [.aK cs])= .aF (σ γ) e ty [fj (cs.map (cW σ))]:=rfl
theorem ajb{γ ba e ty:Nat}{cs:List PV}(h:ba≠γ):dm γ (.aF ba e ty [.aK cs])= .aF ba e ty [fj (cs.map (eC γ))]:=by simp[dm,h,PV.aX]
theorem ajc{γ e ty:Nat}{cs:List PV}{nm:Nat->Bool}:oX nm (.aF γ e ty [.aK cs])=if(γ::cs.flatMap PV.dh).any nm then .undef else .aF γ e ty [.aK cs]:=by simp[oX,PV.refs,PV.aN,PV.aX]
attribute [go_sem] ahu ahv aja ap0 ajb ajc
end Go.FW
