/- Part 6 of the proof of InequalityPolys: CS3, CS2, CS, S1, S2, S3, S4, S5, S6, S7, S8, S9, CM, R3, R4, M1, M2, T1, T1b, T1c, T1d, U1, CP, P1, P2, U2, P3, P4, U3, CU, FwNH, FwNI, FwNJ, FwVB, FwVC, FwYA. Own lemmas; no conditions. -/
import Derived.Test.YtikalonaompbdaaGreatInequalityPolysPart5
set_option maxHeartbeats 1000000
set_option linter.all false
set_option maxRecDepth 100000
namespace Go.Proofs.YtikalonaompbdaaGreat
open Go.Proofs.Tryz
open Go Go.FW
def c45:ax:=⟨92,[.t 4],Zr (YI 4)<|Zr (YI 5)<|Zr (Zc 6 0<|Yf 7 0)<| .seq (.block 0<| .loop<| .seq (Zr (jm 10 6 7<|xy 19 14 18)<| .cond (.t 19) .skip (.exit 0))<| .block 1<|Zr (Yf 8 1)<| .seq (Zr (Yh 20 6 0<|Zn 22 21<|Zb 23 .eql 20 22 .nil)<| .cond (.t 23) (.rg (uq 8)) (Zr (mX 24 7 1)<| .cond (.t 27) (.rg (Yh 28 0 6<|Zi 30 4 28 29<|Ya 31 3 30<|Yh 33 1 7<|Zi 35 4 33 34<|Ya 36 3 35<|Zq 38 false 92 [.t 32,.t 37,.c (Zz 0)]<|Yc 8 38)) .skip))<| .block 2<|Zr (Zm 68 8<|Zk 69 .gtr 68 0<|Zm 67 69 .nil)<| .cond (.t 67) (Zr (dq 70 5 0 6<|YG 73 4 71 72<|Zo (.bs 75 4 114 [.t 74])<|Zo (.app 76 4 80 114 (.t 70) (.t 75))<|Yc 5 76)<| .rg (fO 77 6)) (Zr (BC 80 8<|Zm 79 81 .nil)<| .cond (.t 79) (Zr (dq 82 5 1 7<|YG 85 4 83 84<|YA 87 4 114 86 80 82<|Yc 5 88)<| .rg (fO 89 7)) (.seq (Zr (Yh 39 0 6<|Zi 41 4 39 40<|cM 42 0 41 3<|Yh 44 1 7<|Zi 46 4 44 45<|cM 47 0 46 3<| .br (Ys 49 93 43 48<|Ye 9<|Zs 3 9 49 .nil) (Ye 9<|uo 49 93 43 48 3 9))<|Zr (iB 50 3 9 94<|Zk 52 .neq 51 0 .nil)<| .cond (.t 52) (.rg (Zm 53 5<|Zh 54 3 9<|Yh 55 0 6<|Zi 57 4 55 56<|Ya 58 3 57<|YP 60 54 59<|YA 61 4 114 60 80 53<|Yc 5 62)) .skip)<|Zr (fO 63 6)<| .rg (fO 65 7))))<|Zr (MZ 91 5 4) .ret⟩
def aqv:Qc Tryz.prog f45=some c45:=by kernel_rfl
def c48:ax:=⟨58,[.t 4],Zr (Yf 4 0)<| .seq (Zr (Yf 5 0)<| .block 0<| .loop<| .seq (Zr (Yh 8 5 0<|Zn 10 9<|Zb 11 .lss 8 10<|YO 12 11 5<|Zg 12 true (.mv 14 (.t 1))<|Zg 12 true (.len 15 (.t 14))<|Zg 12 true (.bin 16 .lss false (.t 13) (.t 15))<|Ym 17 12 16 .nil)<| .cond (.t 17) .skip (.exit 0))<| .seq (.block 1<| .seq (Zr (Yh 20 0 5<|Zi 22 4 20 21<|Ya 23 3 22<|Yh 25 1 5<|Zi 27 4 25 26<|Ya 28 3 27<|Zq 30 false 92 [.t 24,.t 29,.c (Zz 0)]<|Yc 6 30)<|Zr (YQ 31 6)<| .cond (.t 32) (Zr (MZ 33 6 4) .ret) .skip)<|Zr (Yh 34 0 5<|Zi 36 4 34 35<|cM 37 0 36 3<|Yh 39 1 5<|Zi 41 4 39 40<|cM 42 0 41 3<|Yp 44 97 38 43<|Yc 7 44)<|Zr (YQ 45 7)<| .cond (.t 46) (Zr (MZ 47 7 4) .ret) .skip)<| .rg (fO 18 5))<| .seq (Zr (Yv 48 0<|Yv 50 1<|Yu 52 49 51)<| .cond (.t 52) (Zr (uq 4) .ret) .skip)<| .seq (Zr (Yv 53 0<|Yv 55 1<|Zb 57 .gtr 54 56 .nil)<| .cond (.t 57) (Zr (Yf 4 1) .ret) .skip)<|Zr (Yf 4 0) .ret⟩
def aqw:Qc Tryz.prog f48=some c48:=by kernel_rfl
def asO:ax:=⟨5,[.t 2],Zr (jA 1 49 0<|YI 2)<|Zr (Zh 3 3 1<|Zq 4 false 271 [.c .aa,.t 3,.c .aa]<|Zm 2 4 .nil) .ret⟩
def amK:Qc Tryz.prog f163=some asO:=by kernel_rfl
def vR:ax:=⟨9,[.t 4],Zr (Yl 4)<|Zr (YZ 5 0 1 48<|Yq 8 7 0 4) .ret⟩
def aqx:Qc Tryz.prog f12=some vR:=by kernel_rfl
def c47:ax:=⟨33,[.t 2],Zr (Yl 2)<| .seq (Zr (Yf 3 0)<| .block 0<| .loop<| .seq (Zr (mX 5 3 0)<| .cond (.t 8) .skip (.exit 0))<| .seq (.block 1<|Zr (Yf 4 0)<| .block 2<| .loop<| .seq (Zr (dq 11 4 0 3<|Zi 14 4 12 13<|YT 15 3 14<|Yu 18 11 17)<| .cond (.t 18) .skip (.exit 2))<| .seq (.block 3<|Zr (Yh 21 0 3<|Zi 23 4 21 22<|eF 24 3 23 4<|Yw 27 25 26<|Zk 29 .gtr 28 1048576 .nil)<| .cond (.t 29) (Zr (By 2) .ret) .skip)<| .rg (fO 19 4))<| .rg (Zm 9 3<|YH 10 9 3))<|Zr (Yv 30 0<|Zk 32 .gtr 31 4000<|Yc 2 32) .ret⟩
def aqy:Qc Tryz.prog f47=some c47:=by kernel_rfl
def asZ:ax:=⟨22,[.t 4],Zr (YI 4)<|Zr (YI 5)<| .seq (Zr (Yf 6 0)<| .block 0<| .loop<| .seq (Zr (mX 7 6 1)<| .cond (.t 10) .skip (.exit 0))<| .seq (.block 1<| .rg (Yh 13 5 0<|Yh 15 1 6<|YG 17 4 15 16<|Yp 19 274 14 18<|Yp 20 45 13 19<|Yc 5 20))<| .rg (Zm 11 6<|YH 12 11 6))<|Zr (MZ 21 5 4) .ret⟩
def amL:Qc Tryz.prog f176=some asZ:=by kernel_rfl
def c25:ax:=⟨6,[.t 2],Zr (YI 2)<|Zr (Zm 3 0<|Zq 4 false 53 [.c (Zz (-1))]<|Yp 5 70 3 4<|Zm 2 5 .nil) .ret⟩
def aqz:Qc Tryz.prog f25=some c25:=by kernel_rfl
def c70:ax:=⟨35,[.t 4],Zr (my 3 49 1<|YI 4)<|Zr (YI 5)<| .seq (Zr (Yf 6 0)<| .block 0<| .loop<| .seq (Zr (Yh 7 6 0<|Zn 9 8<|Zb 10 .lss 7 9<|Zm 11 10<|Zg 11 true (.ld 12 3 true (.t 3))<|Zg 11 true (.call (some 13) false (.c (.fn 94 [] [])) [.t 12])<|Zg 11 true (.bin 14 .neq false (.t 13) (.c (Zz 0)))<|Ym 15 11 14 .nil)<| .cond (.t 15) .skip (.exit 0))<| .seq (.block 1<| .rg (dq 18 5 0 6<|Zi 21 4 19 20<|cM 22 0 21 3<|Zh 24 3 3<|Yh 26 0 6<|Zi 28 4 26 27<|Ya 29 3 28<|Ys 25 132 23 24<|YP 31 25 30<|YA 32 4 114 31 80 18<|Yc 5 33))<| .rg (Zm 16 6<|YH 17 16 6))<|Zr (MZ 34 5 4) .ret⟩
def aqA:Qc Tryz.prog f70=some c70:=by kernel_rfl
def c95:ax:=⟨9,[.t 4],Zr (YI 4)<|Zr (Yh 5 0 1<|Yn 7 25 6<|Yp 8 45 5 7<|Zm 4 8 .nil) .ret⟩
def aq5:Qc Tryz.prog f95=some c95:=by kernel_rfl
def atZ:ax:=⟨88,[.t 6],Zr (dH 4 3 49 1<|YI 6)<|Zr (Yv 10 0<|Zm 7 11 .nil)<| .seq (.block 0<| .loop<| .seq (Zr (YX 12 7 4<|Zg 14 true (.dI 19 3 (.t 18))<|Zg 14 true (.ld 20 1 false (.t 19))<|Zg 14 true (.mv 21 (.t 2))<|Zg 14 true (.call (some 22) false (.c (.fn 92 [] [])) [.t 20,.t 21,.c (Zz 0)])<|Zg 14 true (.bin 23 .lss false (.t 22) (.c (Zz 0)))<|Ym 24 14 23 .nil)<| .cond (.t 24) .skip (.exit 0))<| .block 1<| .rg (DW 25 7))<|Zr (YI 8)<| .seq (Zr (YX 27 7 4<|Zg 29 true (.dI 34 3 (.t 33))<|Zg 29 true (.ld 35 1 false (.t 34))<|Zg 29 true (.mv 36 (.t 2))<|Zg 29 true (.call (some 37) false (.c (.fn 92 [] [])) [.t 35,.t 36,.c (Zz 0)])<|Zg 29 true (.bin 38 .eql false (.t 37) (.c (Zz 0)))<|Ym 39 29 38 .nil)<| .cond (.t 39) (Zr (dq 40 8 0 7<|Zk 43 .sub 42 1<|BD 44 4 41 43<|Zo (.app 45 4 80 114 (.t 40) (.t 44))<|Yc 8 45)<| .seq (Zr (Yh 46 0 7<|Zk 48 .sub 47 1<|Zi 49 4 46 48<|cM 50 0 49 3<|Zh 52 3 4<| .br (Ys 53 93 51 52<|Ye 9<|Zs 3 9 53 .nil) (Ye 9<|uo 53 93 51 52 3 9))<|Zr (iB 54 3 9 94<|Zk 56 .neq 55 0 .nil)<| .cond (.t 56) (.rg (Zm 57 8<|sV 58 3 9 2<|YP 60 58 59<|YA 61 4 114 60 80 57<|Yc 8 62)) .skip)<|Zr (qu 63 8 0 7 6) .ret) .skip)<|Zr (dq 68 8 0 7<|BD 71 4 69 70<|Zo (.app 72 4 80 114 (.t 68) (.t 71))<|Yc 8 72)<| .seq (Zr (iB 73 3 4 94<|Zk 75 .neq 74 0 .nil)<| .cond (.t 75) (.rg (Zm 76 8<|iB 77 3 4 170<|Zm 79 2<|YP 80 78 79<|YA 81 4 114 80 80 76<|Yc 8 82)) .skip)<|Zr (qu 83 8 0 7 6) .ret⟩
def amN:Qc Tryz.prog f271=some atZ:=by kernel_rfl
def at5:ax:=⟨34,[.t 4],Zr (uu 3 114 1<|YI 4)<|Zr (YI 5)<| .seq (Zr (Yf 6 0)<| .block 0<| .loop<| .seq (Zr (mX 7 6 0)<| .cond (.t 10) .skip (.exit 0))<| .seq (.block 1<| .rg (dq 13 5 0 6<|Zi 16 4 14 15<|cM 17 0 16 3<|cM 19 0 3 3<|Yh 22 0 6<|Zi 24 4 22 23<|dW 25 3 24 3 3<|Ys 21 132 18 20<|Ys 29 211 26 28<|YP 30 21 29<|YA 31 4 114 30 80 13<|Yc 5 32))<| .rg (Zm 11 6<|YH 12 11 6))<|Zr (MZ 33 5 4) .ret⟩
def amO:Qc Tryz.prog f274=some at5:=by kernel_rfl
def asQ:ax:=⟨18,[.t 2],Zr (Yf 2 0)<|Zr (Yf 3 0)<| .seq (Zr (Yf 4 0)<| .block 0<| .loop<| .seq (Zr (mX 5 4 0)<| .cond (.t 8) .skip (.exit 0))<| .seq (.block 1<| .rg (dq 11 3 0 4<|Yw 14 12 13<|Zb 16 .add 11 15<|Yc 3 16))<| .rg (Zm 9 4<|YH 10 9 4))<|Zr (MZ 17 3 2) .ret⟩
def amQ:Qc Tryz.prog f167=some asQ:=by kernel_rfl
def asS:ax:=⟨17,[.t 4],Zr (Yf 4 0)<| .seq (Zr (BC 5 1<|YE 7 6 1<|Zg 7 false (.mv 9 (.t 0))<|Zg 7 false (.len 10 (.t 9))<|Zg 7 false (.bin 11 .geq false (.t 8) (.t 10))<|xy 12 7 11)<| .cond (.t 12) (Zr (Yf 4 0) .ret) .skip)<|Zr (YW 13 0 1<|Zm 4 16 .nil) .ret⟩
def amR:Qc Tryz.prog f169=some asS:=by kernel_rfl
def ati:ax:=⟨30,[.t 4],Zr (YI 4)<|Zr (YI 5)<| .seq (Zr (Yf 6 0)<| .block 0<| .loop<| .seq (Zr (jm 7 6 6<|xy 16 11 15)<| .cond (.t 16) .skip (.exit 0))<| .seq (.block 1<| .rg (dq 19 5 0 6<|Yp 22 169 20 21<|YZ 23 1 6 169<|Zb 26 .add 22 25<|YA 27 1 3 26 8 19<|Yc 5 28))<| .rg (Zm 17 6<|YH 18 17 6))<|Zr (MZ 29 5 4) .ret⟩
def amS:Qc Tryz.prog f211=some ati:=by kernel_rfl
def c92:ax:=⟨48,[.t 6],Zr (Yf 6 0)<| .seq (Zr (Zm 8 2<|Zk 9 .eql 8 1<|YO 10 9 0<|Zg 10 true (.call (some 12) false (.c (.fn 167 [] [])) [.t 11])<|Zg 10 true (.mv 13 (.t 1))<|Zg 10 true (.call (some 14) false (.c (.fn 167 [] [])) [.t 13])<|Zg 10 true (.bin 15 .neq false (.t 12) (.t 14))<|Ym 16 10 15 .nil)<| .cond (.t 16) (Zr (YJ 17 0 167<|YJ 19 1 167<|Zb 21 .sub 18 20<|Yn 22 168 21<|Yc 6 22) .ret) .skip)<| .seq (Zr (Yv 23 0<|Yv 25 1<|Zo (.mx 27 (.t 24) (.t 26))<|Zk 28 .sub 27 1<|Yc 7 28)<| .block 0<| .loop<| .seq (Zr (Zm 29 7<|Zk 30 .geq 29 0 .nil)<| .cond (.t 30) .skip (.exit 0))<| .seq (.block 1<|Zr (YZ 33 0 7 169<|YZ 36 1 7 169<|Zb 39 .neq 35 38 .nil)<| .cond (.t 39) (Zr (YZ 40 0 7 169<|YZ 43 1 7 169<|Zb 46 .sub 42 45<|Yn 47 168 46<|Yc 6 47) .ret) .skip)<| .rg (DW 31 7))<|Zr (Yf 6 0) .ret⟩
def aq6:Qc Tryz.prog f92=some c92:=by kernel_rfl
def asR:ax:=⟨7,[.t 2],Zr (Yf 2 0)<| .seq (Zr (BC 3 0 .nil)<| .cond (.t 4) (Zr (uq 2) .ret) .skip)<| .seq (Zr (Zm 5 0<|Zk 6 .gtr 5 0 .nil)<| .cond (.t 6) (Zr (Yf 2 1) .ret) .skip)<|Zr (Yf 2 0) .ret⟩
def amT:Qc Tryz.prog f168=some asR:=by kernel_rfl
def asf:ax:=⟨24,[.t 2],Zr (YI 2)<|Zr (Yv 5 0<|Zm 3 6 .nil)<| .seq (.block 0<| .loop<| .seq (Zr (YX 7 3 1<|Zg 9 true (.ld 14 1 false (.t 13))<|Zg 9 true (.bin 15 .eql false (.t 14) (.c (.int .u16 0)))<|Ym 16 9 15 .nil)<| .cond (.t 16) .skip (.exit 0))<| .block 1<| .rg (DW 17 3))<|Zr (YI 4)<|Zr (dq 19 4 0 3<|BD 22 1 20 21<|Zo (.app 23 1 2 159 (.t 19) (.t 22))<|Yc 2 23) .ret⟩
def amU:Qc Tryz.prog f117=some asf:=by kernel_rfl
def c59:ax:=⟨15,[.t 2],Zr (YI 2)<|Zr (YI 3)<| .seq (.block 0<| .loop<| .seq (Zr (Zm 4 0<|Zo (.bin 5 .gtr false (.t 4) (.c (.int .u64 0))) .nil)<| .cond (.t 5) .skip (.exit 0))<| .block 1<|Zr (Yh 6 3 0<|Zo (.bin 8 .rem false (.t 7) (.c (.int .u64 65536)))<|Zo (.conv 9 .u16 (.t 8))<|YA 10 1 159 9 2 6<|Zm 3 11 .nil)<| .rg (Zm 12 0<|Zo (.bin 13 .quo false (.t 12) (.c (.int .u64 65536)))<|Yc 0 13))<|Zr (kO 14 3 2) .ret⟩
def aq7:Qc Tryz.prog f59=some c59:=by kernel_rfl
def atn:ax:=⟨21,[.t 2],Zr (Zo (.mv 2 (.c (.int .u64 0))) .nil)<|Zr (Zo (.mv 3 (.c (.int .u64 0))) .nil)<| .seq (Zr (Yv 5 0<|Zk 7 .sub 6 1<|Zm 4 7 .nil)<| .block 0<| .loop<| .seq (Zr (Zm 8 4<|Zk 9 .geq 8 0 .nil)<| .cond (.t 9) .skip (.exit 0))<| .seq (.block 1<| .rg (Zm 12 3<|Zo (.bin 13 .mul false (.t 12) (.c (.int .u64 65536)))<|YW 14 0 4<|Zo (.conv 18 .u64 (.t 17))<|Zb 19 .add 13 18<|Yc 3 19))<| .rg (Zm 10 4<|Zk 11 .sub 10 1<|Zm 4 11 .nil))<|Zr (MZ 20 3 2) .ret⟩
def amV:Qc Tryz.prog f223=some atn:=by kernel_rfl
def at4:ax:=⟨14,[.t 4],Zr (Yf 4 0)<| .seq (Zr (mX 5 1 0)<| .cond (.t 8) (Zr (YW 9 0 1<|Zo (.conv 13 .i64 (.t 12))<|Zm 4 13 .nil) .ret) .skip)<|Zr (Yf 4 0) .ret⟩
def amW:Qc Tryz.prog f273=some at4:=by kernel_rfl
def at6:ax:=⟨30,[.t 4],Zr (Yf 4 0)<| .seq (Zr (Yv 6 0<|Yv 8 1<|Zo (.mx 10 (.t 7) (.t 9))<|Zk 11 .sub 10 1<|Zm 5 11 .nil)<| .block 0<| .loop<| .seq (Zr (Zm 12 5<|Zk 13 .geq 12 0 .nil)<| .cond (.t 13) .skip (.exit 0))<| .seq (.block 1<| .seq (Zr (YZ 16 0 5 273<|YZ 19 1 5 273<|Yu 22 18 21)<| .cond (.t 22) (Zr (uq 4) .ret) .skip)<|Zr (YZ 23 0 5 273<|YZ 26 1 5 273<|Zb 29 .gtr 25 28 .nil)<| .cond (.t 29) (Zr (Yf 4 1) .ret) .skip)<| .rg (Zm 14 5<|Zk 15 .sub 14 1<|Zm 5 15 .nil))<|Zr (Yf 4 0) .ret⟩
def amX:Qc Tryz.prog f275=some at6:=by kernel_rfl
def atm:ax:=⟨44,[.t 4],Zr (YI 4)<|Zr (YI 5)<|Zr (Yf 6 0)<| .seq (Zr (Yf 7 0)<| .block 0<| .loop<| .seq (Zr (jm 9 7 7<|Yk 18 13 17<|YE 19 18 6<|Zg 19 false (.bin 21 .gtr false (.t 20) (.c (Zz 0)))<|xy 22 19 21)<| .cond (.t 22) .skip (.exit 0))<| .seq (.block 1<|Zr (YZ 25 0 7 273<|YZ 28 1 7 273<|Zb 31 .add 27 30<|Zm 32 6<|Zb 33 .add 31 32<|Yc 8 33)<|Zr (Yh 34 5 8<|Zk 36 .rem 35 65536<|Zo (.conv 37 .u16 (.t 36))<|YA 38 1 159 37 2 34<|Yc 5 39)<| .rg (Zm 40 8<|Zk 41 .quo 40 65536<|Yc 6 41))<| .rg (fO 23 7))<|Zr (YJ 42 5 117<|Yc 4 43) .ret⟩
def amY:Qc Tryz.prog f222=some atm:=by kernel_rfl
def atp:ax:=⟨40,[.t 4,.t 5],Zr (gz 4 0)<| .seq (Zr (YZ 10 0 1 275<|Zk 13 .lss 12 0 .nil)<| .cond (.t 13) (Zr (gz 4 2) .ret) .skip)<|Zr (YI 6)<|Zr (Yf 7 0)<| .seq (Zr (Yf 8 0)<| .block 0<| .loop<| .seq (Zr (mX 14 8 0)<| .cond (.t 17) .skip (.exit 0))<| .seq (.block 1<|Zr (YZ 20 0 8 273<|YZ 23 1 8 273<|Zb 26 .sub 22 25<|Zm 27 7<|Zb 28 .sub 26 27<|Yc 9 28)<|Zr (Yf 7 0)<| .seq (Zr (BC 29 9 .nil)<| .cond (.t 30) (Zr (Zm 31 9<|Zk 32 .add 31 65536<|Yc 9 32)<| .rg (Yf 7 1)) .skip)<| .rg (Yh 33 6 9<|Zo (.conv 35 .u16 (.t 34))<|YA 36 1 159 35 2 33<|Yc 6 37))<| .rg (Zm 18 8<|YH 19 18 8))<|Zr (YJ 38 6 117<|Zm 4 39<|Yf 5 0) .ret⟩
def amZ:Qc Tryz.prog f225=some atp:=by kernel_rfl
def asX:ax:=⟨65,[.t 4],Zr (YI 4)<|Zr (Yv 10 0<|Yv 12 1<|Zb 14 .add 11 13<|Zk 15 .add 14 1<|fb 16 15 15<|Zm 5 16 .nil)<| .seq (Zr (Yf 6 0)<| .block 0<| .loop<| .seq (Zr (mX 17 6 0)<| .cond (.t 20) .skip (.exit 0))<| .seq (.block 1<|Zr (Zo (.mv 7 (.c (.int .u64 0))) .nil)<|Zr (Yf 8 0)<| .block 2<| .loop<| .seq (Zr (Yh 23 8 1<|Zn 25 24<|Zb 26 .lss 23 25<|YE 27 26 7<|Zg 27 false (.bin 29 .gtr false (.t 28) (.c (.int .u64 0)))<|xy 30 27 29)<| .cond (.t 30) .skip (.exit 2))<| .seq (.block 3<|Zr (dq 33 5 6 8<|Zb 36 .add 34 35<|Yw 37 33 36<|Zo (.conv 39 .u64 (.t 38))<|YW 40 0 6<|Zo (.conv 44 .u64 (.t 43))<|Yh 45 1 8<|Zm 51 7<|Ys 47 273 45 46<|Zo (.conv 48 .u64 (.t 47))<|Zb 49 .mul 44 48<|Zb 50 .add 39 49<|Zb 52 .add 50 51<|Yc 9 52)<|Zr (dq 53 5 6 8<|Zb 56 .add 54 55<|Zm 57 9<|Zo (.bin 58 .rem false (.t 57) (.c (.int .u64 65536)))<|cW 59 58 53 56)<| .rg (Zm 61 9<|Zo (.bin 62 .quo false (.t 61) (.c (.int .u64 65536)))<|Yc 7 62))<| .rg (fO 31 8))<| .rg (fO 21 6))<|Zr (YJ 63 5 117<|Yc 4 64) .ret⟩
def am0:Qc Tryz.prog f174=some asX:=by kernel_rfl
def ato:ax:=⟨27,[.t 4],Zr (Zo (.mv 4 (.c (.int .u64 0))) .nil)<|Zr (Zo (.mv 5 (.c (.int .u64 0)))<|Zo (.mv 6 (.c (.int .u64 65535))) .nil)<| .seq (.block 0<| .loop<| .seq (Zr (Yh 8 5 6<|Yu 10 8 9)<| .cond (.t 10) .skip (.exit 0))<| .block 1<|Zr (Yh 11 5 6<|Zb 13 .add 11 12<|Zo (.bin 14 .add false (.t 13) (.c (.int .u64 1)))<|Zo (.bin 15 .quo false (.t 14) (.c (.int .u64 2)))<|Zm 7 15 .nil)<|Zr (Yh 16 1 7<|Yn 18 59 17<|Yp 19 174 16 18<|Zm 20 0<|Yp 21 275 19 20<|Zk 22 .leq 21 0 .nil)<| .cond (.t 22) (.rg (MZ 23 7 5)) (.rg (Zm 24 7<|Zo (.bin 25 .sub false (.t 24) (.c (.int .u64 1)))<|Yc 6 25)))<|Zr (MZ 26 5 4) .ret⟩
def am1:Qc Tryz.prog f224=some ato:=by kernel_rfl
def asg:ax:=⟨73,[.t 4,.t 5,.t 6],Zr (Yi 4<|gz 5 0)<|Zr (YJ 11 0 117<|YJ 13 1 117<|Zm 0 12<|Yc 1 14)<| .seq (Zr (Yv 15 1<|BA 17 16 0)<| .cond (.t 17) (Zr (Yi 4<|gz 5 3) .ret) .skip)<| .seq (Zr (Yv 18 0<|Zk 20 .leq 19 4<|YO 21 20 1<|Zg 21 true (.len 23 (.t 22))<|Zg 21 true (.bin 24 .leq false (.t 23) (.c (Zz 4)))<|Ym 25 21 24 .nil)<| .cond (.t 25) (Zr (YJ 26 0 223<|YJ 28 1 223<|Zb 30 .quo 27 29<|Yn 31 59 30<|YJ 32 0 223<|YJ 34 1 223<|Zb 36 .rem 33 35<|Yn 37 59 36<|Yh 4 31 37<|Yf 6 0) .ret) .skip)<|Zr (Yi 7<|YI 8)<| .seq (Zr (Yv 38 0<|Zk 40 .sub 39 1<|Yc 9 40)<| .block 0<| .loop<| .seq (Zr (Zm 41 9<|Zk 42 .geq 41 0 .nil)<| .cond (.t 42) .skip (.exit 0))<| .seq (.block 1<|Zr (YW 45 0 9<|Zo (.bs 49 1 159 [.t 48])<|Zm 50 8<|Zo (.app 51 1 2 159 (.t 49) (.t 50))<|Yn 52 117 51<|Yc 8 52)<|Zr (YZ 53 8 1 224<|Yc 10 55)<|Zr (Zm 56 10<|Zo (.conv 57 .u16 (.t 56))<|Zo (.bs 58 1 159 [.t 57])<|Zm 59 7<|Zo (.app 60 1 2 159 (.t 58) (.t 59))<|Yc 7 60)<| .rg (Yh 62 8 1<|YJ 64 10 59<|Yp 66 174 63 65<|Bz 67 225 62 66 61<|Yc 8 68))<| .rg (DW 43 9))<|Zr (YJ 70 7 117<|Zm 72 8<|Yh 4 71 72<|Yf 6 0) .ret⟩
def am2:Qc Tryz.prog f118=some asg:=by kernel_rfl
def c58:ax:=⟨25,[.t 4],Zr (YI 4)<|Zr (YJ 8 0 117<|YJ 10 1 117<|Zm 0 9<|Zm 1 11 .nil)<| .seq (.block 0<| .loop<| .seq (Zr (Yv 12 1<|Zk 14 .gtr 13 0 .nil)<| .cond (.t 14) .skip (.exit 0))<| .block 1<|Zr (YZ 16 0 1 118<|Zm 15 18<|Yd 19 15<|Zo (.ext 21 (.t 15) 2)<|Yh 5 19 20<|Yc 7 21)<| .rg (Yh 22 1 6<|ic 0 22 23))<|Zr (MZ 24 0 4) .ret⟩
def aq8:Qc Tryz.prog f58=some c58:=by kernel_rfl
def c56:ax:=⟨15,[.t 2],Zr (Yl 2)<|Zr (Yv 3 0<|Zk 5 .eql 4 0<|YE 6 5 0<|Zg 6 false (.mv 8 (.t 0))<|Zg 6 false (.len 9 (.t 8))<|Zg 6 false (.bin 10 .sub false (.t 9) (.c (Zz 1)))<|Zg 6 false (.idx 11 1 (.t 7) (.t 10))<|Zg 6 false (.ld 12 1 false (.t 11))<|Zg 6 false (.bin 13 .neq false (.t 12) (.c (.int .u16 0)))<|Yk 14 6 13<|Zm 2 14 .nil) .ret⟩
def aq9:Qc Tryz.prog f56=some c56:=by kernel_rfl
def c57:ax:=⟨26,[.t 4],Zr (Yl 4)<| .seq (Zr (Yv 6 0<|Yv 8 1<|Zb 10 .neq 7 9 .nil)<| .cond (.t 10) (Zr (Yl 4) .ret) .skip)<| .seq (Zr (Yf 5 0)<| .block 0<| .loop<| .seq (Zr (mX 11 5 0)<| .cond (.t 14) .skip (.exit 0))<| .seq (.block 1<|Zr (YW 17 0 5<|YW 21 1 5<|Zb 25 .neq 20 24 .nil)<| .cond (.t 25) (Zr (Yl 4) .ret) .skip)<| .rg (Zm 15 5<|YH 16 15 5))<|Zr (By 4) .ret⟩
def ara:Qc Tryz.prog f57=some c57:=by kernel_rfl
def c55:ax:=⟨17,[.t 2],Zr (uu 1 47 0<|Yl 2)<|Zr (Ya 3 1 1<|Yn 5 56 4<|Zm 6 5<|YK 6 0 1<|Zg 6 true (.mv 9 (.t 8))<|YK 9 1 1<|Zg 9 true (.len 12 (.t 11))<|Zg 9 true (.bin 13 .eql false (.t 12) (.c (Zz 0)))<|Zg 6 true (.pick 14 (.t 9) (.t 13) (.c (.bool false)))<|Zg 6 true (.un 15 .not (.t 14))<|Ym 16 6 15<|Yc 2 16) .ret⟩
def arb:Qc Tryz.prog f55=some c55:=by kernel_rfl
def atl:ax:=⟨15,[.cell 4 2 true],Zr (eu 4)<|Zr (YJ 5 1 117<|Zm 1 6 .nil)<|Zr (DV 7<|Zs 2 4 14 .nil) .ret⟩
def amt:Qc Tryz.prog f221=some atl:=by kernel_rfl
def atk:ax:=⟨8,[.cell 2 2 true],Zr (uu 1 47 0<|um 2)<|Zr (dW 3 0 1 1 1<|Yp 7 221 4 6<|Zs 2 2 7 .nil) .ret⟩
def amu:Qc Tryz.prog f220=some atk:=by kernel_rfl
def M3:ax:=⟨17,[.cell 2 2 true],Zr (um 2)<| .seq (Zr (BC 3 0 .nil)<| .cond (.t 4) (Zr (Zm 5 0<|Zk 6 .add 5 1<|Zo (.un 7 .neg (.t 6))<|Zo (.conv 8 .u64 (.t 7))<|Yn 9 59 8<|Zq 10 false 59 [.c (.int .u64 1)]<|Yp 11 222 9 10<|Zq 12 false 221 [.c (.bool true),.t 11]<|Zs 2 2 12 .nil) .ret) .skip)<|Zr (Zm 13 0<|Zo (.conv 14 .u64 (.t 13))<|Yn 15 59 14<|Zq 16 false 221 [.c (.bool false),.t 15]<|Zs 2 2 16 .nil) .ret⟩
def amv:Qc Tryz.prog f116=some M3:=by kernel_rfl
def asY:ax:=⟨11,[.t 2],Zr (uu 1 47 0<|Yf 2 0)<|Zr (iB 3 2 1 220<|Zs 2 1 4 .nil)<| .seq (Zr (YT 5 1 1<|BA 8 7 0)<| .cond (.t 8) (Zr (Yf 2 0) .ret) .skip)<| .seq (Zr (Ya 9 0 1 .nil)<| .cond (.t 10) (Zr (uq 2) .ret) .skip)<|Zr (Yf 2 1) .ret⟩
def amw:Qc Tryz.prog f175=some asY:=by kernel_rfl
def as0:ax:=⟨38,[.t 4],Zr (my 2 47 0<|dH 3 2 47 1<|Yf 4 0)<|Zr (Zh 5 2 2<|Zh 7 2 3<|nQ 6 220 5<|nQ 8 220 7<|Zs 2 2 6<|Zs 2 3 8 .nil)<| .seq (.block 0<|Zr (Ya 10 0 2<|Zm 12 11<|YK 12 0 3<|Zg 12 true (.un 15 .not (.t 14))<|Ym 16 12 15<|Zm 9 16 .nil)<| .cond (.t 9) (Zr (uq 4) .ret) (Zr (Ya 18 0 3<|Zm 20 19<|YK 20 0 2<|Zg 20 true (.un 23 .not (.t 22))<|Ym 24 20 23<|Zm 17 24 .nil)<| .cond (.t 17) (Zr (Yf 4 1) .ret) (Zr (Ya 26 0 2<|Zm 25 27 .nil)<| .cond (.t 25) (Zr (dW 28 1 3 1 2<|Yp 32 275 29 31<|Yc 4 32) .ret) .skip)))<|Zr (dW 33 1 2 1 3<|Yp 37 275 34 36<|Yc 4 37) .ret⟩
def amx:Qc Tryz.prog f177=some as0:=by kernel_rfl
def atF:ax:=⟨9,[.cell 2 2 true],Zr (uu 1 47 0<|um 2)<|Zr (Ya 3 0 1<|Zu 5 4<|Ya 6 1 1<|Yp 8 221 5 7<|Zs 2 2 8 .nil) .ret⟩
def amy:Qc Tryz.prog f254=some atF:=by kernel_rfl
def asU:ax:=⟨48,[.cell 4 2 true],Zr (my 2 47 0<|dH 3 2 47 1<|eu 4)<| .seq (Zr (dW 9 0 2 0 3<|Zo (.bin 13 .eql true (.t 10) (.t 12)) .nil)<| .cond (.t 13) (Zr (dW 14 0 2 1 2<|Ya 18 1 3<|Ys 20 222 17 19<|uo 21 221 15 20 2 4) .ret) .skip)<| .seq (Zr (dW 23 1 2 1 3<|Bz 27 225 24 26 22<|ic 5 28 29)<|Zr (Zm 30 6<|BA 31 30 0)<| .cond (.t 31) (Zr (eF 32 0 2 5<|Yp 35 221 33 34<|Zs 2 4 35 .nil) .ret) .skip)<|Zr (dW 37 1 3 1 2<|Bz 41 225 38 40 36<|ic 7 42 43)<|Zr (eF 44 0 3 7<|Yp 47 221 45 46<|Zs 2 4 47 .nil) .ret⟩
def amz:Qc Tryz.prog f171=some asU:=by kernel_rfl
def asV:ax:=⟨16,[.cell 4 2 true],Zr (my 2 47 0<|dH 3 2 47 1<|eu 4)<|Zr (dW 5 0 2 0 3<|Zo (.bin 9 .neq true (.t 6) (.t 8))<|dW 10 1 2 1 3<|Ys 14 174 11 13<|uo 15 221 9 14 2 4) .ret⟩
def amA:Qc Tryz.prog f172=some asV:=by kernel_rfl
def M7:ax:=⟨27,[.t 2],Zr (jA 1 49 0<|Yl 2)<|Zr (cM 3 0 1 2<|Yn 5 55 4<|Zm 6 5<|YK 6 2 1<|Zg 6 true (.call (some 9) false (.c (.fn 56 [] [])) [.t 8])<|Ym 10 6 9<|Zm 11 10<|Zg 11 true (.dI 12 0 (.t 1))<|Zg 11 true (.dI 13 1 (.t 12))<|Zg 11 true (.ld 14 1 false (.t 13))<|Zg 11 true (.dI 15 2 (.t 1))<|Zg 11 true (.ld 16 1 false (.t 15))<|Zg 11 true (.call (some 17) false (.c (.fn 58 [] [])) [.t 14,.t 16])<|Zg 11 true (.call (some 18) false (.c (.fn 59 [] [])) [.c (.int .u64 1)])<|Zg 11 true (.call (some 19) false (.c (.fn 57 [] [])) [.t 17,.t 18])<|Ym 20 11 19<|Zm 21 20<|YK 21 2 1<|Zg 21 true (.len 24 (.t 23))<|Zg 21 true (.bin 25 .gtr false (.t 24) (.c (Zz 0)))<|Ym 26 21 25<|Yc 2 26) .ret⟩
def arc:Qc Tryz.prog Tryz.f16=some M7:=by kernel_rfl
def ase:ax:=⟨44,[.cell 4 3 true],Zr (my 2 47 0<|Ye 4 .nil)<| .seq (Zr (YJ 12 1 117<|Zn 14 13<|BA 15 14 0)<| .cond (.t 15) (Zr (Zq 16 false 59 [.c (.int .u64 1)]<|Zo (.cD 17 [.bool false,.aa,.aa] [(2,1,.t 16)])<|Zs 3 4 17 .nil) .ret) .skip)<|Zr (eF 18 1 2 1<|Yp 21 58 19 20<|Yc 5 21)<|Zr (eF 23 1 2 5<|Bz 26 118 24 25 22<|Zo (.ext 29 (.t 22) 2)<|Yh 6 27 28<|Yc 8 29)<|Zr (YZ 31 1 5 118<|Zm 30 33<|Yd 34 30<|Zo (.ext 36 (.t 30) 2)<|Yh 9 34 35<|Yc 11 36)<|Zr (eF 37 0 2 6<|Zo (.cD 40 [.bool false,.aa] [(0,1,.t 38),(1,1,.t 39)])<|Yn 41 220 40<|Zm 42 9<|Zo (.cD 43 [.bool false,.aa,.aa] [(0,2,.t 41),(2,1,.t 42)])<|Zs 3 4 43 .nil) .ret⟩
def amB:Qc Tryz.prog f115=some ase:=by kernel_rfl
def asT:ax:=⟨8,[.cell 2 3 true],Zr (jA 1 49 0<|fC 2)<|Zr (cM 3 0 1 2<|Ya 5 2 1<|Yp 7 115 4 6<|Zs 3 2 7 .nil) .ret⟩
def amC:Qc Tryz.prog f170=some asT:=by kernel_rfl
def asy:ax:=⟨18,[.cell 4 3 true,.t 5],Zr (my 2 47 0<|dH 3 2 47 1<|Ye 4<|Yf 5 0)<| .seq (Zr (iB 6 2 3 175<|BA 8 7 0)<| .cond (.t 8) (Zr (Zo (.cD 9 [.bool false,.aa,.aa] [])<|Zs 3 4 9<|Yf 5 3) .ret) .skip)<| .seq (Zr (Ya 10 0 3 .nil)<| .cond (.t 11) (.rg (iB 12 2 2 254<|Zs 2 2 13 .nil)) .skip)<|Zr (Zh 14 2 2<|Ya 15 1 3<|Yp 17 115 14 16<|Zs 3 4 17<|Yf 5 0) .ret⟩
def ane:Qc Tryz.prog f139=some asy:=by kernel_rfl
def c53:ax:=⟨7,[.cell 2 3 true],Zr (fC 2)<|Zr (YJ 3 0 116<|Zq 5 false 59 [.c (.int .u64 1)]<|Yp 6 115 4 5<|Zs 3 2 6 .nil) .ret⟩
def ard:Qc Tryz.prog f53=some c53:=by kernel_rfl
def asW:ax:=⟨5,[.cell 2 2 true],Zr (um 2)<|Zr (Zm 3 0<|Zo (.cD 4 [.bool false,.aa] [(1,1,.t 3)])<|Zs 2 2 4 .nil) .ret⟩
def anf:Qc Tryz.prog f173=some asW:=by kernel_rfl
def c94:ax:=⟨7,[.t 2],Zr (jA 1 49 0<|Yf 2 0)<|Zr (Zh 3 3 1<|Yn 4 170 3<|Zo (.BJ 5 0 2 true (.t 4))<|Yn 6 175 5<|Zm 2 6 .nil) .ret⟩
def are:Qc Tryz.prog f94=some c94:=by kernel_rfl
def c97:ax:=⟨22,[.t 4],Zr (uu 2 49 0<|my 3 49 1<|Yf 4 0)<|Zr (Zh 5 3 2<|Zh 7 3 3<|nQ 6 170 5<|nQ 8 170 7<|Zs 3 2 6<|Zs 3 3 8 .nil)<|Zr (cM 9 0 2 2<|Ya 11 2 3<|cM 15 0 3 2<|Ya 17 2 2<|nQ 13 173 12<|Ys 14 172 10 13<|nQ 19 173 18<|Ys 20 172 16 19<|Ys 21 177 14 20<|Yc 4 21) .ret⟩
def arf:Qc Tryz.prog f97=some c97:=by kernel_rfl
def c93:ax:=⟨28,[.cell 4 3 true],Zr (uu 2 49 0<|my 3 49 1<|Ye 4 .nil)<|Zr (Zh 5 3 2<|Zh 7 3 3<|nQ 6 170 5<|nQ 8 170 7<|Zs 3 2 6<|Zs 3 3 8 .nil)<|Zr (cM 9 0 2 2<|Ya 11 2 3<|cM 15 0 3 2<|Ya 17 2 2<|dW 22 2 2 2 3<|nQ 13 173 12<|Ys 14 172 10 13<|nQ 19 173 18<|Ys 20 172 16 19<|Ys 21 171 14 20<|Ys 26 174 23 25<|uo 27 115 21 26 3 4) .ret⟩
def arh:Qc Tryz.prog f93=some c93:=by kernel_rfl
def ass:ax:=⟨16,[.cell 4 3 true],Zr (uu 2 49 0<|my 3 49 1<|Ye 4 .nil)<|Zr (cM 5 0 2 2<|cM 7 0 3 2<|dW 10 2 2 2 3<|Ys 9 172 6 8<|Ys 14 174 11 13<|uo 15 115 9 14 3 4) .ret⟩
def ang:Qc Tryz.prog f132=some ass:=by kernel_rfl
variable{a:List Nat}{i n:Nat}
def pZ{l:List Nat}(hv:Qk l)(hl:l.length<2^42):AC 117 [PV.nat l] (· =PV.num (val l)):=by
 have awD:=Di hv;refine aF Qd func117 amU λC hP=>?_;refine Sz0 ?_;refine Qh okB [(3,3),(7,18)] [] (λm J hp=>m<=l.length/\cut l m=aw (val l)/\J 3= .int .i64 m/\hp=aB) l.length ?_ ?_
 .refine⟨Kag _,awD,?_⟩;exact Tz0
 rintro n J _ ⟨hn,hc,h3,rfl⟩;refine Sz1 h3 ?_;refine fJ (λhg=>?_) (λhg=>?_)
 .obtain _|n:=n
  .omega
  have e:((n+1:Nat):Int)-1=n:=Oz;simp only[cut]at hc;simp+decide (disch:=try exact D2 h3 e) only[go_sem,h3,e];refine Qm (λhz=>?_) (λhz=>?_)
  .rw[if_pos (by grind)]at hc;refine Sz2 h3 e ?_;refine Qe n Oz ⟨by omega,hc,?_⟩;exact Tz0
  .rw[if_neg (by grind)]at hc;have aA:(l.take (n+1)).length<2^42:=by rw[Kay];omega
   refine mu h3 e ?_;exact Qb (by rw[Kaf (by simp),hc]) rfl
 .obtain rfl:n=0:=by omega
  simp+decide (disch:=first|omega|rfl|(simp+decide only[go_sem,h3,Kcn,Kbs,Kbm]<;>rfl)|fail) only[go_sem,h3,Kcn,Kbs,Kbm];rw[LU (ys:=[]) rfl Oz (by simp) (by simp)];refine de ?_;exact Qb (by show _=PV.nat (aw (val l));rw[<-hc];rfl) rfl
def sn(hn:n<18446744073709551616):AC 59 [.int .u64 n] (· =PV.num n):=by
 have hlen:=qf hn;unfold nl at hlen;refine aF Qd func59 aq7 λC hP=>?_;refine Sz0 ?_;refine kq 3 900 1 159 Oz Tz0 ?_;refine Qh okB [(0,0),(3,13)] [10,11,900] (λm J hp=>∃done:List Nat,aw n=done++aw m/\m<=n/\J 0= .int .u64 m/\J 3= .ms 900 done.length/\hp 900=some ⟨1,159,cK done,false⟩) n ?_ ?_
 .refine⟨[],rfl,Kag _,?_⟩;exact Tz0
 rintro m J hp ⟨done,hd,hm,h0,h3,hh⟩;rw[hd,Kaz]at hlen;refine cH h0 h3 (λhz=>?_) (λhz=>?_)
 .have aS:m≠0:=Oz;have qH:aw n=(done++[m%65536])++aw (m/65536):=by rw[hd,wS aS];simp
  refine Sz3 h0 h3 @Nat.mod_mod ?_;rw[Qq (f:=λ(x:Nat)=>.int .u16 x) (y:=m%65536) (xs:=done) (ty':=159) (fz:=false) (Tz1 hh) Qw Oz rfl Oz Oz];refine Sz2 h0 h3 ?_;refine Qe (m/65536) Oz ⟨done++[m%65536],qH,Oz,?_⟩;refine Sz2 h0 h3 ?_;simp
 .obtain rfl:m=0:=by omega
  rw[iu,Kai]at hd;refine mu h3 hh ?_;exact Qb (by show _=PV.nat (aw n);rw[hd,Kaf (by simp)]) rfl
def oX(ha:Qk a)(hl:a.length<2^43):AC 273 [PV.nat a,.int .i64 i] (· = .int .i64 (dg a i:Nat)):=by
 refine aF Qd func273 amW λC hP=>?_;refine bD (λhi=>?_) (λhi=>?_)
 .have au:i<a.length:=Oz;have IK:=fK ha au;have hg:dg a i=a[i]:=iZ au;refine Sz0 ?_;exact Qb (by rw[hg]) rfl
 .refine Sz0 ?_;exact Qb (by rw[dg,ja Oz];rfl) rfl
def F3(ha:Qk a)(hl:a.length<=4):AC 223 [PV.nat a] (· = .int .u64 (val a:Nat)):=by
 have aA:∀k,val (a.drop k)<18446744073709551616:=λk=>by have h1:=rz (Cz ha k);have:65536^(a.drop k).length<=65536^4:=KbG Oz (by rw[Ka4];omega);omega
 refine aF Qd func223 amV λC hP=>?_;refine Sz0 ?_;refine Qh okB [(3,4),(8,19)] [] (λk J hp=>k<=a.length/\J 3= .int .u64 (val (a.drop k):Nat)/\J 4= .int .i64 ((k:Int)-1)) a.length ?_ ?_
 .refine⟨Kag _,?_⟩;refine Sz0 ?_;simp[val]
 rintro k J h ⟨hk,h3,h4⟩;refine cH h3 h4 (λhg=>?_) (λhg=>?_)
 .obtain _|n:=k
  .omega
  have hn:n<a.length:=Oz;have NF:=fK ha hn;have e:((n+1:Nat):Int)-1=n:=Oz;have hv:=oc hn;have h1:=aA n;generalize e7:a[n]=x at *
  have e2:val (a.drop (n+1))*65536+x=val (a.drop n):=Oz;refine Sz5 h3 h4 e e7 e2 ?_;refine Qe n Oz ⟨by omega,?_⟩;exact Tz0
 .obtain rfl:k=0:=by omega
  simp+decide (disch:=first|omega|rfl|(simp+decide only[go_sem,h3,Ka6]<;>rfl)|fail) only[go_sem,h3,Ka6];exact Qb rfl rfl
def Gq{b:List Nat}(ha:Qk a)(hb:Qk b)(bU:a.length<2^42)(bZ:b.length<2^42):AC 275 [PV.nat a,PV.nat b] (· = .int .i64 (jy (val a) (val b))):=by
 refine aF Qd func275 amX λC hP=>?_;refine Sz1 @Sf ?_;refine Qh okB [(4,5),(12,29)] [] (λk J hp=>k<=max a.length b.length/\val (a.drop k)=val (b.drop k)/\J 5= .int .i64 ((k:Int)-1)) (max a.length b.length) ?_ ?_
 .refine⟨Kag _,?_,?_⟩
  .rw[Kar Oz,Kar Oz]
  .exact Tz0
 rintro k J h ⟨hk,hv,h5⟩;refine aZ h5 (λhg=>?_) (λhg=>?_)
 .obtain _|n:=k
  .omega
  have e:((n+1:Nat):Int)-1=n:=Oz;have e1:=Az a n;have e2:=Az b n;have d1:=yW ha n;have d2:=yW hb n;refine bE h5 e hP (oX ha Oz) ?_;refine bE h5 e hP (oX hb Oz) ?_;refine cH h5 e (λhc=>?_) (λhc=>?_)
  .have aA:=Vm (a:=a) (b:=b) ha (i:=n) Oz;refine Sz0 ?_;exact Qb (by rw[Kc aA]) rfl
  refine bE h5 e hP (oX ha Oz) ?_;refine bE h5 e hP (oX hb Oz) ?_;refine cH h5 e (λik=>?_) (λik=>?_)
  .have aA:=Vm (a:=b) (b:=a) hb (i:=n) Oz;refine Sz0 ?_;exact Qb (by rw[Kd aA]) rfl
  .refine Sz2 h5 e ?_;refine Qe n Oz ⟨by omega,Oz,?_⟩;exact Tz0
 .obtain rfl:k=0:=by omega
  refine Sz0 ?_;exact Qb (by rw[Sm (by simpa using hv)]) rfl
def Vc(ha:Qk a)(hl:a.length<2^43):AC 56 [PV.nat a] (· = .bool (decide (a.getLast? ≠some 0))):=by
 refine aF Qd func56 aq9 λC hP=>?_;refine Sz0 ?_;refine Qo (λh0=>?_) (λh0=>?_)
 .have:a=[]:=KaE.1 Oz;subst this;refine Sz0 ?_;exact Qb (by simp) rfl
 .obtain⟨k,hk⟩:∃k,a.length=k+1:=⟨a.length-1,Oz⟩
  have lA:=MP hk;have e:((k+1:Nat):Int)-1=k:=Oz;generalize hy:a[k]'Oz=y at *
  refine Sz3 hk e hy ?_;refine Qb (congrArg PV.bool ?_) rfl;rw[lA];exact decide_eq_decide.2 ⟨λh h'=>h (by injection h' with h';rw[h'];rfl),λh h'=>h (by rw[show y=0 by omega])⟩
def Q6g{b:List Nat}(bU:a.length<2^43)(bZ:b.length<2^43):AC 57 [PV.nat a,PV.nat b] (· = .bool (decide (a=b))):=by
 refine aF Qd func57 ara λC hP=>?_;refine bD (λh0=>?_) (λh0=>?_)
 .refine Sz0 ?_;exact Qb (congrArg PV.bool (by rw[decide_eq_false];rintro rfl;exact h0 rfl)) rfl
 have hlen:a.length=b.length:=Oz;refine Sz0 ?_;refine Qh okB [(4,5),(11,25)] [] (λn J hp=>∃i,n=a.length-i/\i<=a.length/\a.take i=b.take i/\J 5= .int .i64 (i:Nat)) a.length ?_ ?_
 .refine⟨0,rfl,Oz,by simp,?_⟩;refine Sz0 ?_;rfl
 rintro _ J h ⟨i,rfl,hi,he,h5⟩;refine aZ h5 (λhg=>?_) (λhg=>?_)
 .have au:i<a.length:=Oz;have EE:i<b.length:=Oz;have ta:=Kam au;have tb:=Kam EE;have aS:a=b->a[i]=b[i]:=λh=>by subst h;rfl
  generalize hx:a[i]=x at *
  generalize hy:b[i]=y at *
  refine iq h5 hx hy (λhc=>?_) (λhc=>?_)
  .refine Sz0 ?_;exact Qb (congrArg PV.bool (by rw[decide_eq_false];intro h;exact hc (by rw[aS h]))) rfl
  .refine Sz1 h5 ?_;refine Qe (a.length-(i+1)) Oz ⟨i+1,rfl,Oz,by rw[ta,tb,he,show x=y by omega],?_⟩;exact Tz0
 .obtain rfl:i=a.length:=by omega
  rw[KaQ,hlen,KaQ]at he;refine Sz0 ?_;exact Qb (congrArg PV.bool (by rw[he];simp)) rfl
def Vs{b:List Nat}(ha:Qk a)(hb:Qk b)(bU:a.length<2^40)(bZ:b.length<2^40):AC 222 [PV.nat a,PV.nat b] (· =PV.num (val a+val b)):=by
 refine aF Qd func222 amY λC hP=>?_;refine Sz0 ?_;refine kq 5 900 1 159 Oz Tz0 ?_;refine Qh okB [(5,41)] [38,39,900] (λm J hp=>∃(i c:Nat)(out:List Nat),m=2*(max a.length b.length-i)+c/\c<=1/\i<=max a.length b.length+1/\(i<=max a.length b.length\/c=0)/\out.length=i/\Qk out/\val out+65536^i*(c+val (a.drop i)+val (b.drop i))=val a+val b/\J 5= .ms 900 out.length/\J 6= .int .i64 c/\J 7= .int .i64 i/\hp 900=some ⟨1,159,cK out,false⟩) (2*max a.length b.length) ?_ ?_
 .refine⟨0,0,[],rfl,Oz,Oz,Oz,rfl,qc,by simp[val],?_⟩;refine Sz0 ?_;simp
 rintro _ J h ⟨i,c,out,rfl,hc,hi,jW,iH,oI,hv,h5,h6,h7,hh⟩;have e1:=Az a i;have e2:=Az b i;have d1:=yW ha i;have d2:=yW hb i;refine Sz3 h5 h6 h7 ?_;refine Qo (λhg=>?_) (λhg=>?_)
 .have aA:i<max a.length b.length:=Oz;have gI:(dg a i+dg b i+c)/65536<=1:=Oz;have oL:val (out++[(dg a i+dg b i+c)%65536])+65536^(i+1)*((dg a i+dg b i+c)/65536+val (a.drop (i+1))+val (b.drop (i+1)))=val a+val b:=by
   rw[Hn,iH,KbA,<-hv,e1,e2];have:=Kbe (dg a i+dg b i+c) 65536;generalize 65536^i=P at *
   generalize(dg a i+dg b i+c)/65536=q at *
   generalize(dg a i+dg b i+c)%65536=r at *
   have e:c+(dg a i+65536*val (a.drop (i+1)))+(dg b i+65536*val (b.drop (i+1)))=r+65536*(q+val (a.drop (i+1))+val (b.drop (i+1))):=Oz;rw[e,Ka0 P,Kbg];omega
  refine eL h5 h6 h7 hP (oX ha Oz) ?_;refine eL h5 h6 h7 hP (oX hb Oz) ?_;refine Sz4 h5 h6 h7 @Nat.mod_mod ?_;rw[Qq (f:=λ(x:Nat)=>.int .u16 x) (y:=(dg a i+dg b i+c)%65536) (xs:=out) (ty':=159) (fz:=false) (Tz1 hh) Qw Oz rfl Oz Oz];refine Sz3 h5 h6 h7 ?_;refine Qe (2*(max a.length b.length-(i+1))+(dg a i+dg b i+c)/65536) ?_ ⟨i+1,(dg a i+dg b i+c)/65536,out++[(dg a i+dg b i+c)%65536],rfl,gI,Oz,?_,by simp[iH],?_,oL,?_⟩
  .by_cases aA:i<max a.length b.length
   .omega
   .have z1:dg a i=0:=by rw[dg,ja Oz]
    have z2:dg b i=0:=by rw[dg,ja Oz]
    rw[z1,z2];omega
  .by_cases aA:i<max a.length b.length
   .omega
   .have z1:dg a i=0:=by rw[dg,ja Oz]
    have z2:dg b i=0:=by rw[dg,ja Oz]
    rw[z1,z2];omega
  .rw[pY];exact⟨oI,by intro z hz;simp at hz;omega⟩
  .refine Sz0 ?_;simp
 refine Sz3 h5 h6 h7 ?_;refine Qo (λgF=>?_) (λgF=>?_)
 .have aA:i<max a.length b.length:=Oz;have gI:(dg a i+dg b i+c)/65536<=1:=Oz;have oL:val (out++[(dg a i+dg b i+c)%65536])+65536^(i+1)*((dg a i+dg b i+c)/65536+val (a.drop (i+1))+val (b.drop (i+1)))=val a+val b:=by
   rw[Hn,iH,KbA,<-hv,e1,e2];have:=Kbe (dg a i+dg b i+c) 65536;generalize 65536^i=P at *
   generalize(dg a i+dg b i+c)/65536=q at *
   generalize(dg a i+dg b i+c)%65536=r at *
   have e:c+(dg a i+65536*val (a.drop (i+1)))+(dg b i+65536*val (b.drop (i+1)))=r+65536*(q+val (a.drop (i+1))+val (b.drop (i+1))):=Oz;rw[e,Ka0 P,Kbg];omega
  refine eL h5 h6 h7 hP (oX ha Oz) ?_;refine eL h5 h6 h7 hP (oX hb Oz) ?_;refine Sz4 h5 h6 h7 @Nat.mod_mod ?_;rw[Qq (f:=λ(x:Nat)=>.int .u16 x) (y:=(dg a i+dg b i+c)%65536) (xs:=out) (ty':=159) (fz:=false) (Tz1 hh) Qw Oz rfl Oz Oz];refine Sz3 h5 h6 h7 ?_;refine Qe (2*(max a.length b.length-(i+1))+(dg a i+dg b i+c)/65536) ?_ ⟨i+1,(dg a i+dg b i+c)/65536,out++[(dg a i+dg b i+c)%65536],rfl,gI,Oz,?_,by simp[iH],?_,oL,?_⟩
  .by_cases aA:i<max a.length b.length
   .omega
   .have z1:dg a i=0:=by rw[dg,ja Oz]
    have z2:dg b i=0:=by rw[dg,ja Oz]
    rw[z1,z2];omega
  .by_cases aA:i<max a.length b.length
   .omega
   .have z1:dg a i=0:=by rw[dg,ja Oz]
    have z2:dg b i=0:=by rw[dg,ja Oz]
    rw[z1,z2];omega
  .rw[pY];exact⟨oI,by intro z hz;simp at hz;omega⟩
  .refine Sz0 ?_;simp
 refine iq h5 h6 h7 (λN3=>?_) (λN3=>?_)
 .have EE:i<=max a.length b.length:=Oz;have gI:(dg a i+dg b i+c)/65536<=1:=Oz;have oL:val (out++[(dg a i+dg b i+c)%65536])+65536^(i+1)*((dg a i+dg b i+c)/65536+val (a.drop (i+1))+val (b.drop (i+1)))=val a+val b:=by
   rw[Hn,iH,KbA,<-hv,e1,e2];have:=Kbe (dg a i+dg b i+c) 65536;generalize 65536^i=P at *
   generalize(dg a i+dg b i+c)/65536=q at *
   generalize(dg a i+dg b i+c)%65536=r at *
   have e:c+(dg a i+65536*val (a.drop (i+1)))+(dg b i+65536*val (b.drop (i+1)))=r+65536*(q+val (a.drop (i+1))+val (b.drop (i+1))):=Oz;rw[e,Ka0 P,Kbg];omega
  refine eL h5 h6 h7 hP (oX ha Oz) ?_;refine eL h5 h6 h7 hP (oX hb Oz) ?_;refine Sz4 h5 h6 h7 @Nat.mod_mod ?_;rw[Qq (f:=λ(x:Nat)=>.int .u16 x) (y:=(dg a i+dg b i+c)%65536) (xs:=out) (ty':=159) (fz:=false) (Tz1 hh) Qw Oz rfl Oz Oz];refine Sz3 h5 h6 h7 ?_;refine Qe (2*(max a.length b.length-(i+1))+(dg a i+dg b i+c)/65536) ?_ ⟨i+1,(dg a i+dg b i+c)/65536,out++[(dg a i+dg b i+c)%65536],rfl,gI,Oz,?_,by simp[iH],?_,oL,?_⟩
  .by_cases aA:i<max a.length b.length
   .omega
   .have z1:dg a i=0:=by rw[dg,ja Oz]
    have z2:dg b i=0:=by rw[dg,ja Oz]
    rw[z1,z2];omega
  .by_cases aA:i<max a.length b.length
   .omega
   .have z1:dg a i=0:=by rw[dg,ja Oz]
    have z2:dg b i=0:=by rw[dg,ja Oz]
    rw[z1,z2];omega
  .rw[pY];exact⟨oI,by intro z hz;simp at hz;omega⟩
  .refine Sz0 ?_;simp
 .obtain rfl:c=0:=by omega
  rw[Kar Oz,Kar Oz]at hv;simp only[val,KaW,Kb3]at hv;refine Sz2 h5 hh ?_;refine yB hP (pZ oI Oz) (by simp+decide (disch:=try exact E1 hh) only[go_sem,hh,ch,Kak,Kao,Kal,Kaq,Kai];simp[Kaf]) rfl λhp'=>?_
  refine Sz0 ?_;exact Qb (by rw[hv]) rfl
def LI{b:List Nat}(ha:Qk a)(hb:Qk b)(bU:a.length<2^40)(bZ:b.length<2^40):AC 225 [PV.nat a,PV.nat b] (· =if val a<val b then .aI [PV.num 0,.int .i64 2]else .aI [PV.num (val a-val b),.int .i64 0]):=by
 refine aF Qd func225 amZ λC hP=>?_;refine ay hP (Gq ha hb Oz Oz) ?_;refine bD (λhc=>?_) (λhc=>?_)
 .rw[if_pos (Hj.1 hc)];refine Sz0 ?_;exact ek rfl rfl rfl AD (Qi _)
 have jE:¬val a<val b:=λh=>hc (Hj.2 h)
 rw[if_neg jE];refine Sz0 ?_;refine kq 6 900 1 159 Oz Tz0 ?_;refine Qh okB [(6,9),(14,37)] [36,37,900] (λm J hp=>∃(i c:Nat)(out:List Nat),m=a.length-i/\c<=1/\i<=a.length/\out.length=i/\Qk out/\val (a.take i)+65536^i*c=val out+val (b.take i)/\J 6= .ms 900 out.length/\J 7= .int .i64 c/\J 8= .int .i64 i/\hp 900=some ⟨1,159,cK out,false⟩) a.length ?_ ?_
 .refine⟨0,0,[],rfl,Oz,Oz,rfl,qc,by simp[val],?_⟩;refine Sz0 ?_;simp
 rintro _ J h ⟨i,c,out,rfl,oF,hi,iH,oI,hv,h6,h7,h8,hh⟩;refine iq h6 h7 h8 (λhg=>?_) (λhg=>?_)
 .have au:i<a.length:=Oz;have e1:=UT a i;have e2:=UT b i;have d1:=yW ha i;have d2:=yW hb i;refine eL h6 h7 h8 hP (oX ha Oz) ?_;refine eL h6 h7 h8 hP (oX hb Oz) ?_;refine Sz3 h6 h7 h8 ?_;have step:∀(d c':Nat),d<65536->c'<=1->dg a i+65536*c'=d+dg b i+c->val (a.take (i+1))+65536^(i+1)*c'=val (out++[d])+val (b.take (i+1)):=λd c' _ _ h3=>by
   rw[Hn,iH,e1,e2,KbA];generalize 65536^i=P at *
   have:P*(dg a i+65536*c')=P*(d+dg b i+c):=by rw[h3]
   rw[Ka0,<-Nat.mul_assoc,Ka0,Ka0]at this;omega
  refine Qm (λhd=>?_) (λhd=>?_)
  .obtain⟨d,zw⟩:∃d:Nat,(dg a i:Int)-(dg b i:Int)-(c:Int)+65536=d:=⟨((dg a i:Int)-(dg b i:Int)-(c:Int)+65536).toNat,Oz⟩
   have a9:=step d 1 Oz Oz Oz;refine Sz4 h6 h7 h8 zw ?_;rw[Qq (f:=λ(x:Nat)=>.int .u16 x) (y:=d) (xs:=out) (ty':=159) (fz:=false) (Tz1 hh) (by simp+decide (disch:=first|omega|rfl|(simp+decide only[go_sem,KaP (by omega:d<65536)]<;>rfl)|fail) only[go_sem,KaP (by omega:d<65536)]) Oz rfl Oz Oz];refine Sz3 h6 h7 h8 ?_;refine Qe (a.length-(i+1)) Oz ⟨i+1,1,out++[d],rfl,Oz,Oz,by simp[iH],?_,a9,?_⟩
   .rw[pY];exact⟨oI,by intro z hz;simp at hz;omega⟩
   .refine Sz0 ?_;simp
  .obtain⟨d,zw⟩:∃d:Nat,(dg a i:Int)-(dg b i:Int)-(c:Int)=d:=⟨((dg a i:Int)-(dg b i:Int)-(c:Int)).toNat,Oz⟩
   have a9:=step d 0 Oz Oz Oz;refine Sz4 h6 h7 h8 zw ?_;rw[Qq (f:=λ(x:Nat)=>.int .u16 x) (y:=d) (xs:=out) (ty':=159) (fz:=false) (Tz1 hh) (by simp+decide (disch:=first|omega|rfl|(simp+decide only[go_sem,KaP (by omega:d<65536)]<;>rfl)|fail) only[go_sem,KaP (by omega:d<65536)]) Oz rfl Oz Oz];refine Sz3 h6 h7 h8 ?_;refine Qe (a.length-(i+1)) Oz ⟨i+1,0,out++[d],rfl,Oz,Oz,by simp[iH],?_,a9,?_⟩
   .rw[pY];exact⟨oI,by intro z hz;simp at hz;omega⟩
   .refine Sz0 ?_;simp
 .obtain rfl:i=a.length:=by omega
  have hbz:val (b.drop a.length)=0:=Gk (by have:=rz ha;omega);have qF:=LX b a.length;rw[hbz,Kb3,KaW]at qF;rw[KaQ,<-qF]at hv;have hvo:=rz oI;rw[iH]at hvo;have rP:c=0:=by
   match c,oF with
   |0,_=>rfl
   |1,_=>exfalso;have:=rz ha;omega
  subst rP;refine Sz2 h6 hh ?_;refine yB hP (pZ oI Oz) (by simp+decide (disch:=try exact E1 hh) only[go_sem,hh,ch,Kak,Kao,Kal,Kaq,Kai];simp[Kaf]) rfl λhp'=>?_
  refine Sz0 ?_;exact ek rfl rfl rfl (wQ (congrArg PV.num Oz)) (Qi _)
def Lv{b:List Nat}(ha:Qk a)(hb:Qk b)(bU:a.length<2^40)(bZ:b.length<2^40):AC 174 [PV.nat a,PV.nat b] (· =PV.num (val a*val b)):=by
 refine aF Qd func174 am0 λC hP=>?_;refine Sz0 ?_;refine Qh okB [(6,9),(17,62)] [] (λm J hp=>∃(i:Nat)(L:List Nat),m=a.length-i/\i<=a.length/\L.length=a.length+b.length+1/\Qk L/\val L=val (a.take i)*val b/\J 6= .int .i64 i/\hp=Qg aB 16 ⟨1,159,cK L,false⟩) a.length ?_ ?_
 .refine⟨0,List.replicate (a.length+b.length+1) 0,rfl,Oz,by simp,?_,by simp[val,Pw],?_⟩
  .intro z hz;rw[Kcu hz];omega
  .refine Sz0 ?_;simp
 rintro _ J _ ⟨i,L,rfl,hi,Em,hL,hv,h6,rfl⟩;refine aZ h6 (λhg=>?_) (λhg=>?_)
 .have au:i<a.length:=Oz;have IK:=fK ha au;have nZ:=Cq au;have hz0:dg L (i+b.length)=0:=by apply afJ;apply Gk;rw[hv,Nat.pow_add];have h1:=wJ ha i Oz;have h2:=rz hb;exact Nat.mul_lt_mul'' h1 h2
  generalize e7:a[i]=ai at *
  refine Sz2 h6 e7 ?_;refine Qh okB [(7,9),(23,62)] [] (λm J hp=>∃(k c:Nat)(M:List Nat),m=b.length+1-k/\k<=b.length+1/\(k<=b.length\/c=0)/\c<65536/\M.length=L.length/\Qk M/\val M+65536^(i+k)*(c+ai*val (b.drop k))=val L+65536^i*(ai*val b)/\(∀j,i+k<=j->dg M j=dg L j)/\J 7= .int .u64 c/\J 8= .int .i64 k/\hp=Qg aB 16 ⟨1,159,cK M,false⟩) (b.length+1) ?_ ?_
  .refine⟨0,0,L,rfl,Oz,Oz,Oz,rfl,hL,by simp,λ_ _=>rfl,?_⟩;refine Sz1 h6 ?_;simp
  rintro _ J2 _ ⟨k,c,M,rfl,hk,qM,hc,En,hM,hw,zR,h7,h8,rfl⟩;have e2:=Az b k;have d2:=yW hb k;refine Sz3 h6 h7 h8 ?_;refine Qo (λEI=>?_) (λEI=>?_)
  .have axj:k<=b.length:=Oz;have hj:i+k<M.length:=Oz;have hx:=fK hM hj;have lD:=λv=>SD (v:=v) hj
   have zJ:=wM IK d2;have zy:dg M (i+k)=M[i+k]:=iZ hj;generalize pN:M[i+k]=x at *
   have xN:=Kbe (x+ai*dg b k+c) 65536;have pJ:=PK (T:=val L+65536^i*(ai*val b)) (lD ((x+ai*dg b k+c)%65536)) (by rw[<-e2];exact hw) xN;have hr:=Kbo (x+ai*dg b k+c) (show 0<65536 by omega);have hq:(x+ai*dg b k+c)/65536<65536:=Oz;have kT:¬k<b.length->(x+ai*dg b k+c)/65536=0:=λh=>by
    have z1:dg b k=0:=by rw[dg,ja Oz]
    have z2:x=0:=by rw[<-zy,zR _ (Kag _),show i+k=i+b.length by omega,hz0]
    rw[z1,z2];omega
   have EM:Qk (M.set (i+k) ((x+ai*dg b k+c)%65536)):=λz hz=>by
    rcases List.mem_or_eq_of_mem_set hz with h|h
    .exact hM z h
    .omega
   have e5:IntKind.u64.wrap ((ai*dg b k:Nat):Int)=((ai*dg b k:Nat):Int):=vf Oz Oz;refine kN h6 h7 h8 e7 pN hP (oX hb Oz) ?_;refine Sz7 h6 h7 h8 e7 pN e5 @Nat.mod_mod ?_;refine Qe (b.length+1-(k+1)) Oz ⟨k+1,(x+ai*dg b k+c)/65536,M.set (i+k) ((x+ai*dg b k+c)%65536),rfl,Oz,?_,hq,by rw[List.length_set];exact En,EM,?_,?_,?_⟩
   .by_cases h:k<b.length
    .omega
    .exact .inr (kT h)
   .rw[<-Nat.add_assoc,KbA];exact pJ
   .intro j tl;rw[PL Oz];exact zR j Oz
   .exact Tz3 h6 h7 h8
  refine iq h6 h7 h8 (λrP=>?_) (λrP=>?_)
  .have axj:k<=b.length:=Oz;have hj:i+k<M.length:=Oz;have hx:=fK hM hj;have lD:=λv=>SD (v:=v) hj
   have zJ:=wM IK d2;have zy:dg M (i+k)=M[i+k]:=iZ hj;generalize pN:M[i+k]=x at *
   have xN:=Kbe (x+ai*dg b k+c) 65536;have pJ:=PK (T:=val L+65536^i*(ai*val b)) (lD ((x+ai*dg b k+c)%65536)) (by rw[<-e2];exact hw) xN;have hr:=Kbo (x+ai*dg b k+c) (show 0<65536 by omega);have hq:(x+ai*dg b k+c)/65536<65536:=Oz;have kT:¬k<b.length->(x+ai*dg b k+c)/65536=0:=λh=>by
    have z1:dg b k=0:=by rw[dg,ja Oz]
    have z2:x=0:=by rw[<-zy,zR _ (Kag _),show i+k=i+b.length by omega,hz0]
    rw[z1,z2];omega
   have EM:Qk (M.set (i+k) ((x+ai*dg b k+c)%65536)):=λz hz=>by
    rcases List.mem_or_eq_of_mem_set hz with h|h
    .exact hM z h
    .omega
   have e5:IntKind.u64.wrap ((ai*dg b k:Nat):Int)=((ai*dg b k:Nat):Int):=vf Oz Oz;refine kN h6 h7 h8 e7 pN hP (oX hb Oz) ?_;refine Sz7 h6 h7 h8 e7 pN e5 @Nat.mod_mod ?_;refine Qe (b.length+1-(k+1)) Oz ⟨k+1,(x+ai*dg b k+c)/65536,M.set (i+k) ((x+ai*dg b k+c)%65536),rfl,Oz,?_,hq,by rw[List.length_set];exact En,EM,?_,?_,?_⟩
   .by_cases h:k<b.length
    .omega
    .exact .inr (kT h)
   .rw[<-Nat.add_assoc,KbA];exact pJ
   .intro j tl;rw[PL Oz];exact zR j Oz
   .exact Tz3 h6 h7 h8
  .obtain rfl:c=0:=by omega
   rw[Kar Oz]at hw;simp only[val,Kb3,KaW]at hw;refine Sz3 h6 h7 h8 ?_;simp (disch:=decide) only[iM,gY];refine Qe (a.length-(i+1)) Oz ⟨i+1,M,rfl,Oz,Oz,hM,?_,?_⟩
   .rw[hw,hv,nZ,KaL,Kbg]
   .exact Tz0
 .obtain rfl:i=a.length:=by omega
  rw[KaQ]at hv;refine Sz0 ?_;refine yB hP (pZ hL Oz) (by simp+decide (disch:=try exact E0) only[go_sem,ch,Kak,Kao,Kal,Kaq,Kai];simp[Kaf,Em]) rfl λhp'=>?_
  refine Sz0 ?_;exact Qb (by rw[hv]) rfl
variable{x y:Nat}
def Gs(hx:nl x<2^40)(hy:nl y<2^40):AC 174 [PV.num x,PV.num y] (· =PV.num (x*y)):=by
 have:=Lv (Ql x) (Ql y) hx hy
 rwa[Qx,Qx]at this
def afv(hx:nl x<2^42)(hy:nl y<2^42):AC 275 [PV.num x,PV.num y] (· = .int .i64 (jy x y)):=by
 have:=Gq (Ql x) (Ql y) hx hy
 rwa[Qx,Qx]at this
def WM(hx:nl x<2^40)(hy:nl y<2^40)(h:y<=x):AC 225 [PV.num x,PV.num y] (· = .aI [PV.num (x-y),.int .i64 0]):=by
 have:=LI (Ql x) (Ql y) hx hy
 rwa[Qx,Qx,if_neg Oz]at this
def SO:jy x y<=0↔x<=y:=by unfold jy;split<;>(try split)<;>omega
def UW(hx:nl x<2^38)(hy:nl y<2^38)(dZ:0<y):AC 224 [PV.num x,PV.num y] (· = .int .u64 (min 65535 (x/y):Nat)):=by
 have pL:∀(n d:Nat) fr hp K,n<18446744073709551616->cJ .quo false (.int .u64 (n:Int)) (.int .u64 2) d fr hp K=K (ae fr d (.int .u64 ((n/2:Nat):Int))) hp:=λn d fr hp K h=>by rw[show(2:Int)=((2:Nat):Int)from rfl,Dm Oz h]
 refine aF Qd func224 am1 λC hP=>?_;refine Sz0 ?_;refine Qh okB [(5,25)] [] (λm J hp=>∃lo hi:Nat,m=hi-lo/\lo<=hi/\hi<=65535/\y*lo<=x/\(hi=65535\/x<y*(hi+1))/\J 5= .int .u64 lo/\J 6= .int .u64 hi) 65535 ?_ ?_
 .refine⟨0,65535,rfl,Oz,Oz,Oz,.inl rfl,?_⟩;refine Sz0 ?_;simp
 rintro _ J h ⟨lo,hi,rfl,h1,h2,h3,h4,h5,h6⟩;refine cH h5 h6 (λhg=>?_) (λhg=>?_)
 .have fF:nl ((lo+hi+1)/2)<=4:=qf Oz;have hm:=sG y ((lo+hi+1)/2);generalize axu:(lo+hi+1)/2=z4 at *
  refine gy h5 h6 pL axu hP (sn (n:=z4) Oz) ?_;refine bE h5 h6 hP (Gs (x:=y) (y:=z4) Oz Oz) ?_;refine bE h5 h6 hP (afv (x:=y*z4) (y:=x) Oz Oz) ?_;refine cH h5 h6 (λhc=>?_) (λhc=>?_)
  .rw[SO]at hc;refine Sz2 h5 h6 ?_;refine Qe (hi-z4) Oz ⟨z4,hi,rfl,Oz,h2,hc,h4,?_⟩;exact Tz1 h6
  .rw[SO]at hc;obtain⟨n,rfl⟩:∃n,z4=n+1:=⟨z4-1,Oz⟩
   have e:((n+1:Nat):Int)-1=n:=Oz;refine Sz3 h5 h6 e ?_;refine Qe (n-lo) Oz ⟨lo,n,rfl,Oz,Oz,h3,.inr Oz,?_⟩;exact Tz1 h5
 .obtain rfl:lo=hi:=by omega
  refine Sz1 h5 ?_;refine Qb ?_ rfl;have hle:lo<=x/y:=(Nat.le_div_iff_mul_le dZ).2 (by rw[KaU];exact h3);rcases h4 with rfl|h4
  .rw[Kb1 hle]
  .have:x/y<lo+1:=(Kba dZ).2 (by rw[KaU];exact h4);congr 2;omega
def UU{b:List Nat}(ha:Qk a)(hb:Qk b)(bU:a.length<2^36)(bZ:b.length<2^36):AC 118 [PV.nat a,PV.nat b]
  (· =if val b=0 then .aI [PV.num 0,PV.num 0,.int .i64 3]else .aI [PV.num (val a/val b),PV.num (val a%val b),.int .i64 0]):=by
 have jo:=cB ha;have kR:=cB hb;refine aF Qd func118 am2 λC hP=>?_;refine ay hP (pZ ha Oz) ?_;refine ay hP (pZ hb Oz) ?_;refine Sz0 ?_;generalize val a=x at *
 generalize val b=y at *
 unfold nl at jo kR;refine Qm (λhz=>?_) (λhz=>?_)
 .have dZ:y=0:=mM.1 (sm Oz);refine Sz0 ?_;rw[if_pos dZ];exact ox rfl rfl rfl rfl AD AD (Qi _)
 have dZ:y≠0:=λh=>by rw[h,iu]at hz;simp at hz
 rw[if_neg dZ];have hyp:0<y:=Kbf dZ;have eM:=Ql x;have n5:=Ql y;have tw:=Qx x;have zV:=Qx y;refine Sz0 ?_;refine fJ (λh1=>?_) (λh1=>?_)
 .refine bD (λh2=>?_) (λh2=>?_)
  .have az8:=GS.1 (show nl x<=4 by unfold nl;omega);have aAa:=GS.1 (show nl y<=4 by unfold nl;omega);have hq:=KcG x y;have hr:=Kbo x hyp;refine ay hP (F3 eM Oz) ?_;refine gE tw hP (F3 n5 Oz) ?_;refine eL tw zV @Dm hP (sn (n:=x/y) Oz) ?_;refine ay hP (F3 eM Oz) ?_;refine gE tw hP (F3 n5 Oz) ?_;refine eL tw zV @sw hP (sn (n:=x%y) Oz) ?_;refine Sz0 ?_;exact ox rfl rfl rfl rfl (Qi _) (Qi _) (Qi _)
  .have axS:=trivial;refine Sz0 ?_;refine wT 7 1 Tz0 ?_;refine wT 8 1 Tz0 ?_;refine Rz okB [(7,10),(41,69)] [49,51,58,60] (λk J hp=>∃qs,k<=(aw x).length/\qs.length=(aw x).length-k/\Qk qs/\val qs=val ((aw x).drop k)/y/\J 7= .sl 1 (cK qs)/\J 8=PV.num (val ((aw x).drop k)%y)/\J 9= .int .i64 ((k:Int)-1)) (aw x).length ?_ ?_
   .refine⟨[],Kag _,by simp,qc,by simp[val],?_⟩;refine Sz0 ?_;simp[val,iu]
   rintro k J h ⟨qs,hk,ZQ,rX,uK,h7,h8,h9⟩;refine Sz3 h7 h8 h9 ?_;have hr:=Kbo (val ((aw x).drop k)) hyp;refine Qm (λhg=>?_) (λhg=>?_)
   .obtain _|n:=k
    .omega
    have hn:n<(aw x).length:=Oz;have NF:=fK eM hn;have e:((n+1:Nat):Int)-1=n:=Oz;have a9:=Wt (x:=(aw x)[n]) hyp uK;rw[<-oc hn]at a9;generalize hV:val ((aw x).drop (n+1))%y=r at *
    generalize e7:(aw x)[n]=xi at *
    have l9:(aw r).length<=(aw y).length:=kp (Kc0 hr);have tr:Qk ([xi]++aw r):=by rw[pY];exact⟨by intro z hz;simp at hz;omega,Ql r⟩
    have lE:val ([xi]++aw r)=r*65536+xi:=by rw[oW,Qx];simp[val];omega
    have aA:(r*65536+xi)/y<65536:=by rw[Kba hyp];have:(r+1)*65536<=y*65536:=Kap _ hr;omega
    have Of:nl (r*65536+xi)<=(aw y).length+1:=by have:=cB tr;rw[lE,Kaz]at this;simp at this;omega
    have xN:=Kbe (r*65536+xi) y;have fQ:nl (y*((r*65536+xi)/y))<=(aw y).length+1:=KaK (kp Oz) Of;have Oe:nl ((r*65536+xi)/y)<=4:=qf Oz;have OA:r*65536+xi-y*((r*65536+xi)/y)=(r*65536+xi)%y:=Oz;refine Sz5 h7 h8 h9 e e7 ?_;rw[oZ (f:=λ(x:Nat)=>.int .u16 x) (xs:=[xi]) (ys:=aw r) (n:=1) Qw rfl Oz Oz Oz];refine Sz5 h7 h8 h9 e e7 ?_;refine ko hP (pZ (l:=[xi]++aw r) tr (by simp;omega)) (by simp+decide (disch:=try exact E0) only[go_sem,ch,Kak,Kao,Kal,Kaq,Kai];simp[KbM 1,Kaf]) rfl ?_;rw[lE];refine kN h7 h8 h9 e e7 hP (UW (x:=r*65536+xi) (y:=y) Oz (by unfold nl;omega) hyp) ?_;rw[Kc2 (by omega:(r*65536+xi)/y<=65535)];generalize hD:(r*65536+xi)/y=D at *
    simp+decide (disch:=first|omega|rfl|(simp+decide only[go_sem,h7,h8,h9,e,e7,KaP aA]<;>rfl)|fail) only[go_sem,h7,h8,h9,e,e7,KaP aA];rw[oZ (f:=λ(x:Nat)=>.int .u16 x) (xs:=[D]) (ys:=qs) (n:=1) Qw rfl Oz Oz Oz];refine kN h7 h8 h9 e e7 hP (sn (n:=D) Oz) ?_;refine gy h7 h8 h9 e hP (Gs (x:=y) (y:=D) (by unfold nl;omega) Oz) ?_;refine gy h7 h8 h9 e hP (WM (x:=r*65536+xi) (y:=y*D) Oz Oz Oz) ?_;rw[OA];refine Sz4 h7 h8 h9 e ?_;refine VX 7 n rfl ?_ Oz ⟨D::qs,Oz,by simp;omega,?_,?_,?_⟩
    .exact sU
    .rw[jK];exact⟨aA,rX⟩
    .rw[val,a9.1]
    .refine jQ a9.2 ?_;simp[KbM 1,Kaf]
   .obtain rfl:k=0:=by omega
    rw[Ka6,tw]at uK h8;refine bE h7 h8 hP (pZ rX Oz) ?_;refine Sz2 h7 h8 ?_;exact ox rfl rfl rfl rfl (wQ (by rw[uK])) (Qi _) (Qi _)
 .have axS:=trivial;refine Sz0 ?_;refine wT 7 1 Tz0 ?_;refine wT 8 1 Tz0 ?_;refine Rz okB [(7,10),(41,69)] [49,51,58,60] (λk J hp=>∃qs,k<=(aw x).length/\qs.length=(aw x).length-k/\Qk qs/\val qs=val ((aw x).drop k)/y/\J 7= .sl 1 (cK qs)/\J 8=PV.num (val ((aw x).drop k)%y)/\J 9= .int .i64 ((k:Int)-1)) (aw x).length ?_ ?_
  .refine⟨[],Kag _,by simp,qc,by simp[val],?_⟩;refine Sz0 ?_;simp[val,iu]
  rintro k J h ⟨qs,hk,ZQ,rX,uK,h7,h8,h9⟩;refine Sz3 h7 h8 h9 ?_;have hr:=Kbo (val ((aw x).drop k)) hyp;refine Qm (λhg=>?_) (λhg=>?_)
  .obtain _|n:=k
   .omega
   have hn:n<(aw x).length:=Oz;have NF:=fK eM hn;have e:((n+1:Nat):Int)-1=n:=Oz;have a9:=Wt (x:=(aw x)[n]) hyp uK;rw[<-oc hn]at a9;generalize hV:val ((aw x).drop (n+1))%y=r at *
   generalize e7:(aw x)[n]=xi at *
   have l9:(aw r).length<=(aw y).length:=kp (Kc0 hr);have tr:Qk ([xi]++aw r):=by rw[pY];exact⟨by intro z hz;simp at hz;omega,Ql r⟩
   have lE:val ([xi]++aw r)=r*65536+xi:=by rw[oW,Qx];simp[val];omega
   have aA:(r*65536+xi)/y<65536:=by rw[Kba hyp];have:(r+1)*65536<=y*65536:=Kap _ hr;omega
   have Of:nl (r*65536+xi)<=(aw y).length+1:=by have:=cB tr;rw[lE,Kaz]at this;simp at this;omega
   have xN:=Kbe (r*65536+xi) y;have fQ:nl (y*((r*65536+xi)/y))<=(aw y).length+1:=KaK (kp Oz) Of;have Oe:nl ((r*65536+xi)/y)<=4:=qf Oz;have OA:r*65536+xi-y*((r*65536+xi)/y)=(r*65536+xi)%y:=Oz;refine Sz5 h7 h8 h9 e e7 ?_;rw[oZ (f:=λ(x:Nat)=>.int .u16 x) (xs:=[xi]) (ys:=aw r) (n:=1) Qw rfl Oz Oz Oz];refine Sz5 h7 h8 h9 e e7 ?_;refine ko hP (pZ (l:=[xi]++aw r) tr (by simp;omega)) (by simp+decide (disch:=try exact E0) only[go_sem,ch,Kak,Kao,Kal,Kaq,Kai];simp[KbM 1,Kaf]) rfl ?_;rw[lE];refine kN h7 h8 h9 e e7 hP (UW (x:=r*65536+xi) (y:=y) Oz (by unfold nl;omega) hyp) ?_;rw[Kc2 (by omega:(r*65536+xi)/y<=65535)];generalize hD:(r*65536+xi)/y=D at *
   simp+decide (disch:=first|omega|rfl|(simp+decide only[go_sem,h7,h8,h9,e,e7,KaP aA]<;>rfl)|fail) only[go_sem,h7,h8,h9,e,e7,KaP aA];rw[oZ (f:=λ(x:Nat)=>.int .u16 x) (xs:=[D]) (ys:=qs) (n:=1) Qw rfl Oz Oz Oz];refine kN h7 h8 h9 e e7 hP (sn (n:=D) Oz) ?_;refine gy h7 h8 h9 e hP (Gs (x:=y) (y:=D) (by unfold nl;omega) Oz) ?_;refine gy h7 h8 h9 e hP (WM (x:=r*65536+xi) (y:=y*D) Oz Oz Oz) ?_;rw[OA];refine Sz4 h7 h8 h9 e ?_;refine VX 7 n rfl ?_ Oz ⟨D::qs,Oz,by simp;omega,?_,?_,?_⟩
   .exact sU
   .rw[jK];exact⟨aA,rX⟩
   .rw[val,a9.1]
   .refine jQ a9.2 ?_;simp[KbM 1,Kaf]
  .obtain rfl:k=0:=by omega
   rw[Ka6,tw]at uK h8;refine bE h7 h8 hP (pZ rX Oz) ?_;refine Sz2 h7 h8 ?_;exact ox rfl rfl rfl rfl (wQ (by rw[uK])) (Qi _) (Qi _)
def Q3q(hx:nl x<2^36)(hy:nl y<2^36)(h0:y≠0):AC 118 [PV.num x,PV.num y] (· = .aI [PV.num (x/y),PV.num (x%y),.int .i64 0]):=by
 have:=UU (Ql x) (Ql y) hx hy
 rwa[Qx,Qx,if_neg h0]at this
def Vt{b:List Nat}(ha:Qk a)(hb:Qk b)(bU:a.length<2^36)(bZ:b.length<2^36):AC 58 [PV.nat a,PV.nat b] (· =PV.num (Nat.gcd (val a) (val b))):=by
 have jo:=cB ha;have kR:=cB hb;refine aF Qd func58 aq8 λC hP=>?_;refine ay hP (pZ ha Oz) ?_;refine ay hP (pZ hb Oz) ?_;refine Sz0 ?_;refine Qh okB [(0,1),(5,7),(12,23)] [] (λm J hp=>∃x,Nat.gcd x m=Nat.gcd (val a) (val b)/\nl x<2^36/\nl m<2^36/\J 0=PV.num x/\J 1=PV.num m/\hp=aB) (val b) ?_ ?_
 .refine⟨val a,rfl,Oz,Oz,?_⟩;exact Tz0
 rintro y J _ ⟨x,hg,hx,hy,h0,h1,rfl⟩;generalize Nat.gcd (val a) (val b)=g at *
 refine cH h0 h1 (λhc=>?_) (λhc=>?_)
 .have dZ:y≠0:=λh=>by rw[h,iu]at hc;simp at hc
  have zI:=kp (Kc0 (Kbo x (Kbf dZ)));refine bE h0 h1 hP (Q3q (x:=x) (y:=y) hx hy dZ) ?_;refine Sz2 h0 h1 ?_;refine Qe (x%y) (Kbo _ (Kbf dZ)) ⟨y,?_,hy,Oz,?_⟩
  .rw[<-hg,KcH x y,Nat.gcd_rec y x,KcH]
  .exact Tz0
 .have dZ:y=0:=mM.1 (sm Oz);subst dZ;refine Sz1 h0 ?_;exact Qb (by rw[<-hg,KcX]) rfl
variable{n:Bool}
def wI(ha:Qk a)(bU:a.length<2^42):AC 221 [.bool n,PV.nat a] (· =PV.zz (zv n a)):=by
 refine aF Qd func221 amt λC hP=>?_;refine ay hP (pZ ha bU) ?_;refine Sz0 ?_;refine Au (λhn=>?_) (λhn=>?_)
 all_goals
  refine Sz0 ?_;refine cx ?_;refine Sz0 ?_;exact Qb (by have:=Kh n (val a);rw[hn]at this;subst hn;simpa[zv]using this) rfl
def Gd(ha:Qk a)(bU:a.length<2^42):AC 220 [PV.zi n a] (· =PV.zz (zv n a)):=by refine aF Qd func220 amu λC hP=>?_;refine ay hP (wI ha bU) ?_;refine Sz0 ?_;refine cx ?_;exact cf
def Vu{m:Bool}{b:List Nat}(ha:Qk a)(hb:Qk b)(bU:a.length<2^40)(bZ:b.length<2^40):AC 172 [PV.zi n a,PV.zi m b] (· =PV.zz (zv n a*zv m b)):=by
 have hr:nl (val a*val b)<2^42:=by have:=sG (val a) (val b);have:=cB ha;have:=cB hb;omega
 refine aF Qd func172 amA λC hP=>?_;refine ay hP (Lv ha hb bU bZ) ?_;refine ay hP (wI (n:= !(n==m)) (Ql (val a*val b)) hr) ?_;refine Sz0 ?_;refine cx ?_;refine Sz0 ?_;exact Qb (congrArg PV.zz (by rw[vp];unfold zv;cases n<;>cases m<;>simp[Int.neg_mul,Int.mul_neg])) rfl
def LY{x:Int}(h1: -9223372036854775808<=x)(h2:x<=9223372036854775807):AC 116 [.int .i64 x] (· =PV.zz x):=by
 refine tQ Qd func116 rfl amv (by simp[M3]) λC hP=>?_;simp only[M3];refine cC ?_;refine Sz0 ?_;refine Qm (λhc=>?_) (λhc=>?_)
 .obtain⟨y,hy⟩:∃y:Nat,x= -((y:Int)+1):=⟨(-(x+1)).toNat,by omega⟩
  have e1:IntKind.i64.wrap (x+1)= -(y:Int):=by rw[yD (by omega) (by omega)];omega
  have e2:IntKind.i64.wrap (0- -(y:Int))=(y:Int):=by rw[yD (by omega) (by omega)];omega
  have e3:IntKind.u64.wrap (y:Int)=(y:Int):=vf (by omega) (by omega);have kS:nl y<=4:=qf (by omega);have jr:nl (y+1)<=4:=qf (by omega);refine Sz3 e1 e2 e3 ?_;refine Qv hP (sn (n:=y) (by omega)) rfl rfl rfl ?_;refine Sz0 ?_;refine Qv hP (sn (n:=1) (by omega)) rfl rfl rfl ?_;refine Sz0 ?_;refine Qv hP (Vs (Ql y) (Ql 1) (show nl y<_ by omega) (show nl 1<_ by rw[AW];omega)) rfl rfl rfl ?_;refine Sz0 ?_;refine Qv hP (wI (n:=true) (Ql (val (aw y)+val (aw 1))) (show nl _<_ by rw[Qx,Qx];omega)) rfl rfl rfl ?_;refine Sz0 ?_;refine cx ?_;refine Sz0 ?_;exact Qb (congrArg PV.zz (by rw[vp,Qx,Qx];simp;omega)) rfl
 .obtain⟨y,rfl⟩:∃y:Nat,x=y:=⟨x.toNat,by omega⟩
  have kS:nl y<=4:=qf (by omega);refine Sz0 ?_;refine Qv hP (sn (by omega)) rfl rfl rfl ?_;refine Sz0 ?_;refine Qv hP (wI (n:=false) (Ql y) (show nl _<_ by omega)) rfl rfl rfl ?_;refine Sz0 ?_;refine cx ?_;refine Sz0 ?_;exact Qb (congrArg PV.zz (by rw[vp];simp)) rfl
def Q6h(ha:Qk a)(bU:a.length<2^42):AC 175 [PV.zi n a] (· = .int .i64 (gL (zv n a))):=by
 refine aF Qd func175 amw λC hP=>?_;refine ay hP (Gd ha bU) ?_;generalize zv n a=z;refine bD (λhz=>?_) (λhz=>?_)
 .have:z=0:=by have:=mM.1 (sm (n:=z.natAbs) Oz);omega
  subst this;exact cf
 .have h0:z≠0:=λh=>by subst h;exact hz (by simp[iu])
  refine Sz0 ?_;refine CS (λhn=>?_) (λhn=>?_)
  .have hn:z<0:=by simpa using hn
   refine Sz0 ?_;exact Qb (by rw[gL,if_pos hn]) rfl
  .have hn:¬z<0:=by simpa using hn
   refine Sz0 ?_;exact Qb (by rw[gL,if_neg hn,if_pos Oz]) rfl
def Q3r(ha:Qk a)(bU:a.length<2^42):AC 55 [PV.zi n a] (· = .bool (qi n a)):=by
 refine aF Qd func55 arb λC hP=>?_;refine ay hP (Vc ha Oz) ?_;refine Sz0 ?_;refine Au (λhv=>?_) (λhv=>?_)
 .refine Sz0 ?_;refine Au (λhn=>?_) (λhn=>?_)
  .refine Sz0 ?_;exact Qb (congrArg PV.bool (by unfold qi;subst hn;cases a<;>simp_all<;>omega)) rfl
  .refine Sz0 ?_;exact Qb (congrArg PV.bool (by unfold qi;subst hn;cases a<;>simp_all)) rfl
 .refine Sz0 ?_;exact Qb (congrArg PV.bool (by unfold qi;cases a<;>simp_all)) rfl
def Q8w{m:Bool}{b:List Nat}(ha:Qk a)(hb:Qk b)(bU:a.length<2^41)(bZ:b.length<2^41):AC 177 [PV.zi n a,PV.zi m b] (· = .int .i64 (eR (zv n a) (zv m b))):=by
 have hx:nl (zv n a).natAbs<2^41:=by rw[lh];have:=cB ha;omega
 have hy:nl (zv m b).natAbs<2^41:=by rw[lh];have:=cB hb;omega
 refine aF Qd func177 amx λC hP=>?_;refine ay hP (Gd ha Oz) ?_;refine ay hP (Gd hb Oz) ?_;generalize zv n a=x at *
 generalize zv m b=y at *
 have lx:(aw x.natAbs).length<2^41:=hx;have ly:(aw y.natAbs).length<2^41:=hy;by_cases bQ:x<0<;>by_cases dZ:y<0
 .refine bE bQ dZ hP (Gq (Ql y.natAbs) (Ql x.natAbs) Oz Oz) ?_;refine Sz0 ?_;exact Qb (congrArg (PV.int .i64) (by rw[Qx,Qx];unfold jy eR;split<;>split<;>(try split)<;>(try split)<;>omega)) rfl
 .refine Sz2 bQ dZ ?_;exact Qb (congrArg (PV.int .i64) (by unfold eR;rw[if_pos Oz])) rfl
 .refine Sz2 bQ dZ ?_;exact Qb (congrArg (PV.int .i64) (by unfold eR;rw[if_neg Oz,if_pos Oz])) rfl
 .refine bE bQ dZ hP (Gq (Ql x.natAbs) (Ql y.natAbs) Oz Oz) ?_;refine Sz0 ?_;exact Qb (congrArg (PV.int .i64) (by rw[Qx,Qx];unfold jy eR;split<;>split<;>(try split)<;>(try split)<;>omega)) rfl
def Q8x{m:Bool}{b:List Nat}(ha:Qk a)(hb:Qk b)(bU:a.length<2^40)(bZ:b.length<2^40):AC 171 [PV.zi n a,PV.zi m b] (· =PV.zz (zv n a+zv m b)):=by
 have jo:=cB ha;have kR:=cB hb;refine aF Qd func171 amz λC hP=>?_;refine Sz0 ?_;refine CS (λfQ=>?_) (λfQ=>?_)
 .have fQ:n=m:=by simpa using fQ
  subst fQ;have hr:=Ty (val a) (val b);refine ay hP (Vs ha hb bU bZ) ?_;refine ay hP (wI (n:=n) (Ql (val a+val b)) (show nl _<_ by omega)) ?_;refine Sz0 ?_;refine cx ?_;refine Sz0 ?_;exact Qb (congrArg PV.zz (by rw[vp];unfold zv;split<;>simp<;>omega)) rfl
 have fQ:n= !m:=by cases n<;>cases m<;>simp_all
 subst fQ;refine ay hP (LI ha hb bU bZ) ?_;by_cases hc:val a<val b
 .rw[if_pos hc];have hr:=kp (Nat.sub_le (val b) (val a));refine ay hP (LI hb ha bZ bU) ?_;rw[if_neg Oz];refine ay hP (wI (n:=m) (Ql (val b-val a)) (show nl _<_ by omega)) ?_;refine Sz0 ?_;refine cx ?_;refine Sz0 ?_;exact Qb (congrArg PV.zz (by rw[vp];unfold zv;cases m<;>simp<;>omega)) rfl
 .rw[if_neg hc];have hr:=kp (Nat.sub_le (val a) (val b));refine ay hP (wI (n:= !m) (Ql (val a-val b)) (show nl _<_ by omega)) ?_;refine Sz0 ?_;refine cx ?_;refine Sz0 ?_;exact Qb (congrArg PV.zz (by rw[vp];unfold zv;cases m<;>simp<;>omega)) rfl
variable{D k:Nat}{x z:Int}
def Vd{g:Nat}(ha:Qk a)(hx:a.length<2^36)(hy:nl g<2^36)(h0:g≠0):AC 118 [PV.nat a,PV.num g] (· = .aI [PV.num (val a/g),PV.num (val a%g),.int .i64 0]):=by
 have:=UU ha (Ql g) hx hy
 rwa[Qx,if_neg h0]at this
def ari(n:Bool)(a:List Nat)(D:Nat):zv n (aw (val a/Nat.gcd (val a) D))=zv n a/(Nat.gcd (zv n a).natAbs D:Int):=by
 rw[lh,vp];unfold zv;cases n
 .simp
 .have hd:((Nat.gcd (val a) D:Nat):Int)∣(val a:Int):=Int.natCast_dvd_natCast.2 (Kc1 _ _);simp only[if_true];rw[Int.neg_ediv_of_dvd hd,Int.natCast_ediv]
def Ve{d:List Nat}(ha:Qk a)(hd:Qk d)(bU:a.length<2^36)(tq:d.length<2^36):AC 115 [PV.zi n a,PV.nat d] (· =PV.rat (rv n a d)):=by
 have js:=cB ha;have BT:=cB hd;refine aF Qd func115 amB λC hP=>?_;refine ay hP (pZ hd Oz) ?_;refine bD (λhz=>?_) (λhz=>?_)
 .have h0:val d=0:=mM.1 (sm (n:=val d) Oz);refine ay hP (sn (n:=1) Oz) ?_;refine Sz0 ?_;refine cx ?_;refine Sz0 ?_;exact(by unfold rv;rw[VG (.inl h0),vk];exact od Sa rfl)
 .have h0:val d≠0:=λh=>by rw[h,iu]at hz;exact hz rfl
  have rS:Nat.gcd (val a) (val d)≠0:=λh=>h0 (Nat.gcd_eq_zero_iff.1 h).2
  have hg:=kp (Kc4 (val a) (Kbf h0));have hq:=TI (val a) (Nat.gcd (val a) (val d));refine ay hP (Vt ha hd bU tq) ?_;refine ay hP (Vd ha bU Oz rS) ?_;refine ay hP (Vd hd tq Oz rS) ?_;refine ay hP (Gd (n:=n) (Ql (val a/Nat.gcd (val a) (val d))) (show nl _<_ by omega)) ?_;rw[ari];have hm:=CH (z:=zv n a) h0;refine Sz0 ?_;refine cx ?_;refine Sz0 ?_;exact Qb (by unfold rv;rw[PV.rat,hm.1,hm.2,lh]) rfl
def yw{d:List Nat}(hp:Raw k n a d)(hk:k<2^36):AC 170 [PV.rr n a d] (· =PV.rat (rv n a d)):=by obtain⟨ha,hd,sa,sd,k1⟩:=hp;refine aF Qd func170 amC λC hP=>?_;refine ay hP (Ve (n:=n) ha hd Oz Oz) ?_;refine Sz0 ?_;refine cx ?_;exact cf
def CD(hz:nl z.natAbs<2^36)(hD:nl D<2^36):AC 115 [PV.zz z,PV.num D] (· =PV.rat (mkRat z D)):=by
 have:=Ve (n:=decide (z<0)) (Ql z.natAbs) (Ql D) hz hD
 rwa[rv,om,Qx]at this
def Gt(h1: -9223372036854775808<=x)(h2:x<=9223372036854775807):AC 53 [.int .i64 x] (· =PV.rat (x:Rat)):=by have kS:nl x.natAbs<=4:=qf Oz;refine aF Qd func53 ard λC hP=>?_;refine ay hP (LY h1 h2) ?_;refine ay hP (sn (n:=1) Oz) ?_;refine ay hP (CD (z:=x) (D:=1) Oz (by rw[AW];omega)) ?_;refine Sz0 ?_;refine cx ?_;refine Sz0 ?_;exact Qb (congrArg PV.rat (Rat.mkRat_one x)) rfl
def F4(d:List Nat):AC 173 [PV.nat d] (· =PV.zi false d):=by refine aF Qd func173 anf λC hP=>?_;refine Sz0 ?_;refine cx ?_;exact cf
def WN(hx:nl x.natAbs<2^42):AC 175 [PV.zz x] (· = .int .i64 (gL x)):=by
 have:=Q6h (n:=decide (x<0)) (Ql x.natAbs) hx
 rwa[om]at this
def Cn{d:List Nat}(hp:Raw k n a d)(hk:k<2^36):AC 94 [PV.rr n a d] (· = .int .i64 (ji (rv n a d))):=by have hs:=hp.rs;unfold FW.rs at hs;refine aF Qd func94 are λC hP=>?_;refine ay hP (yw hp hk) ?_;refine ay hP (WN (x:=(rv n a d).num) Oz) ?_;exact cf
def G1{d:Nat}(hx:nl x.natAbs<2^40)(hy:nl d<2^40):AC 172 [PV.zz x,PV.zi false (aw d)] (· =PV.zz (x*(d:Int))):=by
 have:=Vu (n:=decide (x<0)) (m:=false) (Ql x.natAbs) (Ql d) hx hy
 rwa[om,wP,Qx]at this
def ahG{y:Int}(hx:nl x.natAbs<2^40)(hy:nl y.natAbs<2^40):AC 171 [PV.zz x,PV.zz y] (· =PV.zz (x+y)):=by
 have:=Q8x (n:=decide (x<0)) (m:=decide (y<0)) (Ql x.natAbs) (Ql y.natAbs) hx hy
 rwa[om,om]at this
def ahH{y:Int}(hx:nl x.natAbs<2^41)(hy:nl y.natAbs<2^41):AC 177 [PV.zz x,PV.zz y] (· = .int .i64 (eR x y)):=by
 have:=Q8w (n:=decide (x<0)) (m:=decide (y<0)) (Ql x.natAbs) (Ql y.natAbs) hx hy
 rwa[om,om]at this
def Q8y{m:Bool}{d b c:List Nat}(hp:Raw k n a d)(hq:Raw k m b c)(hk:k<2^34):AC 132 [PV.rr n a d,PV.rr m b c] (· =PV.rat (rv n a d*rv m b c)):=by obtain⟨ha,hd,sa,sd,k1⟩:=hp;obtain⟨hb,hc,sb,sc,k2⟩:=hq;have h1:=mL (zv n a) (zv m b);have h2:=sG (val d) (val c);rw[lh,lh]at h1;have e1:=cB ha;have e2:=cB hd;have e3:=cB hb;have e4:=cB hc;refine aF Qd func132 ang λC hP=>?_;refine ay hP (Vu (n:=n) (m:=m) ha hb Oz Oz) ?_;refine ay hP (Lv hd hc Oz Oz) ?_;refine ay hP (CD (z:=zv n a*zv m b) (D:=val d*val c) Oz Oz) ?_;refine Sz0 ?_;refine cx ?_;refine Sz0 ?_;exact Qb (congrArg PV.rat (Rat.mkRat_mul_mkRat _ _ _ _).symm) rfl
def Q8z{m:Bool}{d b c:List Nat}(hp:Raw k n a d)(hq:Raw k m b c)(hk:k<2^34):AC 97 [PV.rr n a d,PV.rr m b c] (· = .int .i64 (qn (rv n a d) (rv m b c))):=by
 have hx:=hp.rs;have hy:=hq.rs;unfold FW.rs at hx hy;refine aF Qd func97 arf λC hP=>?_;refine ay hP (yw hp Oz) ?_;refine ay hP (yw hq Oz) ?_;generalize rv n a d=p at *
 generalize rv m b c=q at *
 have h1:=mL p.num (q.den:Int);have h2:=mL q.num (p.den:Int);rw[KbH]at h1 h2;refine ay hP (F4 (aw q.den)) ?_;refine ay hP (G1 (x:=p.num) (d:=q.den) Oz Oz) ?_;refine ay hP (F4 (aw p.den)) ?_;refine ay hP (G1 (x:=q.num) (d:=p.den) Oz Oz) ?_;refine ay hP (ahH (x:=p.num*(q.den:Int)) (y:=q.num*(p.den:Int)) Oz Oz) ?_;refine Sz0 ?_;exact Qb (congrArg (PV.int .i64) (by rw[<-Sb p.den_nz q.den_nz,KcZ,KcZ])) rfl
def Vv{m:Bool}{d b c:List Nat}(hp:Raw k n a d)(hq:Raw k m b c)(hk:k<2^34):AC 93 [PV.rr n a d,PV.rr m b c] (· =PV.rat (rv n a d+rv m b c)):=by
 have hx:=hp.rs;have hy:=hq.rs;unfold FW.rs at hx hy;refine aF Qd func93 arh λC hP=>?_;refine ay hP (yw hp Oz) ?_;refine ay hP (yw hq Oz) ?_;generalize rv n a d=p at *
 generalize rv m b c=q at *
 have h1:=mL p.num (q.den:Int);have h2:=mL q.num (p.den:Int);have h3:=Cr (p.num*(q.den:Int)) (q.num*(p.den:Int));have h4:=sG p.den q.den;rw[KbH]at h1 h2;refine ay hP (F4 (aw q.den)) ?_;refine ay hP (G1 (x:=p.num) (d:=q.den) Oz Oz) ?_;refine ay hP (F4 (aw p.den)) ?_;refine ay hP (G1 (x:=q.num) (d:=p.den) Oz Oz) ?_;refine ay hP (ahG (x:=p.num*(q.den:Int)) (y:=q.num*(p.den:Int)) Oz Oz) ?_;refine ay hP (Gs (x:=p.den) (y:=q.den) Oz Oz) ?_;refine ay hP (CD (z:=p.num*(q.den:Int)+q.num*(p.den:Int)) (D:=p.den*q.den) Oz Oz) ?_;refine Sz0 ?_;refine cx ?_;refine Sz0 ?_;exact Qb (congrArg PV.rat (by rw[<-Rat.mkRat_add_mkRat _ _ p.den_nz q.den_nz,KcZ,KcZ])) rfl
def Cs{d:List Nat}(hp:Raw k n a d)(hk:k<2^36):AC 16 [PV.rr n a d] (· = .bool (fL n a d)):=by
 obtain⟨ha,hd,sa,sd,k1⟩:=hp;have xQ:(aw (Nat.gcd (val a) (val d))).length<2^43:=by
  by_cases h0:val d=0
  .rw[h0,KcX];have h4:=cB ha;unfold nl at h4;omega
  .have h3:=kp (Kc4 (val a) (Kbf h0));have h4:=cB hd;unfold nl at h3 h4;omega
 refine tQ Qd func16 rfl arc (by simp[M7]) λC hP=>?_;simp only[M7];refine cC ?_;refine Sz0 ?_;refine Qv hP (Q3r ha (by omega)) rfl rfl rfl ?_;unfold fL;refine Sz0 ?_;cases hio:qi n a
 .refine Sz0 ?_;exact Qb (by simp) rfl
 rw[KcK];refine Sz0 ?_;refine Qv hP (Vc hd (by omega)) rfl rfl rfl ?_;refine Sz0 ?_;refine Au (λhv=>?_) (λhv=>?_)
 .refine Sz0 ?_;refine Qv hP (Vt ha hd (by omega) (by omega)) rfl rfl rfl ?_;refine Sz0 ?_;refine Qv hP (sn (n:=1) (by omega)) rfl rfl rfl ?_;refine Sz0 ?_;refine Qv hP (Q6g xQ (by rw[vk];decide)) rfl rfl rfl ?_;rw[vk,decide_eq_decide.2 (Vp (Nat.gcd (val a) (val d)))];refine Sz0 ?_;refine fJ (λhg=>?_) (λhg=>?_)
  .refine Sz0 ?_;exact Qb (congrArg PV.bool (by cases d<;>simp_all)) rfl
  .refine Sz0 ?_;exact Qb (congrArg PV.bool (by simp[hg])) rfl
 .refine Sz0 ?_;exact Qb (congrArg PV.bool (by simp_all)) rfl
def atV:ax:=⟨47,[.t 6],Zr (YI 6)<|Zr (Yv 11 0<|Yv 13 1<|Zo (.mx 15 (.t 12) (.t 14))<|Zo (.mk 16 1 8 3 (Zz 0) (.t 15) (.t 15))<|Zm 7 16 .nil)<| .seq (Zr (dS 17 7)<| .block 0<| .loop<|Zr (Yu 20 19 18)<| .seq (.cond (.t 20) .skip (.exit 0))<| .seq (.block 1<|Zr (MZ 21 19 8)<|Zr (Zc 9 0<|Yf 10 0)<| .seq (Zr (mX 22 8 0)<| .cond (.t 25) (.rg (YW 26 0 8<|Yc 9 29)) .skip)<| .seq (Zr (mX 30 8 1)<| .cond (.t 33) (.rg (YW 34 1 8<|Yc 10 37)) .skip)<| .rg (Yh 38 7 8<|dq 40 2 9 10<|Zo (.call (some 43) false (.t 40) [.t 41,.t 42])<|Zi 44 1 38 39<|Zs 1 44 43 .nil))<| .rg (YC 45 19 19))<|Zr (MZ 46 7 6) .ret⟩
def anh:Qc Tryz.prog f268=some atV:=by kernel_rfl
def atU:ax:=⟨24,[.t 2],Zr (YI 2)<|Zr (Yv 4 0<|Zm 3 5 .nil)<| .seq (.block 0<| .loop<| .seq (Zr (YX 6 3 1<|Zg 8 true (.ld 13 1 false (.t 12))<|Zg 8 true (.bin 14 .eql false (.t 13) (.c (Zz 0)))<|Ym 15 8 14 .nil)<| .cond (.t 15) .skip (.exit 0))<| .block 1<| .rg (DW 16 3))<| .seq (Zr (Zm 18 3<|BA 19 18 0)<| .cond (.t 19) (Zr (YI 2) .ret) .skip)<|Zr (dq 20 0 3 3<|Zo (.sl 23 1 (.t 20) none (some (.t 21)) (some (.t 22)))<|Yc 2 23) .ret⟩
def ani:Qc Tryz.prog f267=some atU:=by kernel_rfl
def as1:ax:=⟨35,[.t 2],Zr (Yl 2)<| .seq (Zr (Yv 5 0<|Zk 7 .gtr 6 64<|YE 8 7 0<|Zg 8 false (.len 10 (.t 9))<|Zg 8 false (.bin 11 .gtr false (.t 10) (.c (Zz 0)))<|Zg 8 false (.mv 12 (.t 11))<|Zg 12 true (.mv 13 (.t 0))<|Zg 12 true (.mv 14 (.t 0))<|Zg 12 true (.len 15 (.t 14))<|Zg 12 true (.bin 16 .sub false (.t 15) (.c (Zz 1)))<|Zg 12 true (.idx 17 1 (.t 13) (.t 16))<|Zg 12 true (.ld 18 1 false (.t 17))<|Zg 12 true (.bin 19 .eql false (.t 18) (.c (Zz 0)))<|Zg 8 false (.pick 20 (.t 12) (.t 19) (.c (.bool false)))<|xy 21 8 20)<| .cond (.t 21) (Zr (Yl 2) .ret) .skip)<| .seq (Zr (dS 22 0)<| .block 0<| .loop<|Zr (Yu 25 24 23)<| .seq (.cond (.t 25) .skip (.exit 0))<| .seq (.block 1<|Zr (Yw 26 22 24<|Yc 4 27)<|Zr (BC 28 4<|YE 30 29 4<|Zg 30 false (.bin 32 .gtr false (.t 31) (.c (Zz 1048576)))<|xy 33 30 32)<| .cond (.t 33) (Zr (Yl 2) .ret) .skip)<| .rg (YH 34 24 24))<|Zr (By 2) .ret⟩
def anj:Qc Tryz.prog f178=some as1:=by kernel_rfl
def aub:ax:=⟨10,[.t 2],Zr (YI 2)<|Zr (YJ 3 0 267<|Zm 0 4 .nil)<| .seq (Zr (YJ 5 0 178<|Zu 7 6 .nil)<| .cond (.t 7) (Zr (YI 2) .ret) .skip)<|Zr (Zm 8 0<|Zo (.app 9 1 8 3 (.c .aa) (.t 8))<|Zm 2 9 .nil) .ret⟩
def ank:Qc Tryz.prog f285=some aub:=by kernel_rfl
def as2:ax:=⟨17,[.t 2],Zr (Yf 2 0)<|Zr (Yf 3 0)<| .seq (Zr (dS 6 0)<| .block 0<| .loop<|Zr (Yu 9 8 7)<| .seq (.cond (.t 9) .skip (.exit 0))<| .seq (.block 1<|Zr (Yw 10 6 8<|Zm 5 11 .nil)<| .rg (Yh 12 3 5<|Zb 14 .add 12 13<|Zm 3 14 .nil))<| .rg (YH 15 8 8))<|Zr (MZ 16 3 2) .ret⟩
def anl:Qc Tryz.prog f179=some as2:=by kernel_rfl
def atY:ax:=⟨17,[.t 4],Zr (Yf 4 0)<| .seq (Zr (BC 5 1<|YE 7 6 1<|Zg 7 false (.mv 9 (.t 0))<|Zg 7 false (.len 10 (.t 9))<|Zg 7 false (.bin 11 .geq false (.t 8) (.t 10))<|xy 12 7 11)<| .cond (.t 12) (Zr (Yf 4 0) .ret) .skip)<|Zr (YW 13 0 1<|Zm 4 16 .nil) .ret⟩
def anm:Qc Tryz.prog f270=some atY:=by kernel_rfl
def auO:ax:=⟨7,[.t 2],Zr (Yf 2 0)<|Zr (YJ 3 0 267<|Zn 5 4<|Zk 6 .sub 5 1<|Zm 2 6 .nil) .ret⟩
def ann:Qc Tryz.prog f365=some auO:=by kernel_rfl
def M5:ax:=⟨9,[.t 4],Zr (YI 4)<|Zr (Yh 5 0 1<|Zq 7 false 268 [.t 5,.t 6,.c (.fn 269 [] [])]<|Yn 8 267 7<|Zm 4 8 .nil) .ret⟩
def ano:Qc Tryz.prog f157=some M5:=by kernel_rfl
def atW:ax:=⟨8,[.t 4],Zr (Yf 4 0)<|Zr (Yh 5 0 1<|Zb 7 .add 5 6<|Zm 4 7 .nil) .ret⟩
def anp:Qc Tryz.prog f269=some atW:=by kernel_rfl
def M6:ax:=⟨46,[.t 6],Zr (Yf 6 0)<| .seq (Zr (Zm 12 2<|BA 13 12 1)<| .cond (.t 13) (Zr (YJ 14 0 179<|YJ 16 1 179<|Zm 7 15<|Zm 8 17 .nil)<|Zr (Yh 18 7 8<|Zb 20 .neq 18 19 .nil)<| .cond (.t 20) (.seq (Zr (Yh 21 7 8<|Yu 23 21 22)<| .cond (.t 23) (Zr (uq 6) .ret) .skip)<|Zr (Yf 6 1) .ret) .skip) .skip)<| .seq (Zr (Yv 24 0<|Yv 26 1<|Zo (.mx 28 (.t 25) (.t 27))<|Zk 29 .sub 28 1<|Yc 9 29)<| .block 0<| .loop<| .seq (Zr (Zm 30 9<|Zk 31 .geq 30 0 .nil)<| .cond (.t 31) .skip (.exit 0))<| .seq (.block 1<|Zr (YZ 34 0 9 270<|YZ 37 1 9 270<|ic 10 36 39)<|Zr (Yh 40 10 11<|Zb 42 .neq 40 41 .nil)<| .cond (.t 42) (.seq (Zr (Yh 43 10 11<|Yu 45 43 44)<| .cond (.t 45) (Zr (uq 6) .ret) .skip)<|Zr (Yf 6 1) .ret) .skip)<| .rg (DW 32 9))<|Zr (Yf 6 0) .ret⟩
def anq:Qc Tryz.prog f158=some M6:=by kernel_rfl
def ahI{m:Bool}{d b c:List Nat}(hp:Raw k n a d)(hq:Raw k m b c)(hk:k<2^36):AC 67 [PV.rr n a d,PV.rr m b c] (· =PV.rat (rv n a d*rv m b c)):=by
 refine tQ Qd func67 rfl aqR (by simp[Nb]) λC hP=>?_;simp only[Nb];refine cC ?_;refine Sz0 ?_;refine kG hP (tH hp.la hp.ld hp.k1 hp.sa hp.sd (by omega)) rfl rfl rfl ?_;rintro _ ⟨n',a',d',rfl,g1,g2,g3,g4,g5,g6⟩;refine Sz0 ?_;refine kG hP (tH hq.la hq.ld hq.k1 hq.sa hq.sd (by omega)) rfl rfl rfl ?_;rintro _ ⟨m',b',c',rfl,e1,e2,e3,e4,e5,e6⟩;refine Sz0 ?_;have OM:nl (zv n' a').natAbs<=k:=by rw[lh];exact KaK (cB g1) g3
 have ON:nl (zv m' b').natAbs<=k:=by rw[lh];exact KaK (cB e1) e3
 have OF:nl (val d')<=k:=KaK (cB g2) g4;have zU:nl (val c')<=k:=KaK (cB e2) e4;have h3:=mL (zv n' a') (zv m' b');have h6:=sG (val d') (val c');refine Qv hP (ve (n:=n') (m:=m') g1 e1 (by omega) (by omega)) rfl rfl rfl ?_;refine Sz0 ?_;refine Qv hP (G8 g2 e2 (by omega) (by omega)) rfl rfl rfl ?_;refine Sz0 ?_;refine Qv hP (GF (z:=zv n' a'*zv m' b') (Ql _) (by omega) (by show nl _<_;omega)) rfl rfl rfl ?_;refine Sz0 ?_;refine cx ?_;refine Sz0 ?_;refine Qb ?_ rfl;rw[Qx,<-g6,<-e6];unfold rv;rw[Rat.mkRat_mul_mkRat]
def CE{d:List Nat}(hp:Raw k n a d)(hk:k<2^36):AC 19 [PV.rr n a d] (· = .int .i64 (ji (rv n a d))):=by refine aF Qd func19 aqO λC hP=>?_;refine Sz0 ?_;refine kG hP (tH hp.la hp.ld hp.k1 hp.sa hp.sd Oz) rfl rfl rfl ?_;rintro _ ⟨n',a',d',rfl,g1,g2,g3,g4,g5,g6⟩;refine ay hP (Gm g1 Oz) ?_;refine Sz0 ?_;exact Qb (by rw[<-g6];unfold rv;rw[ahj g5]) rfl
def P6{m:Bool}{d b c:List Nat}(hp:Raw k n a d)(hq:Raw k m b c)(hk:k<2^36):AC 337 [PV.rr n a d,PV.rr m b c] (· = .int .i64 (qn (rv n a d) (rv m b c))):=by
 refine aF Qd func337 amr λC hP=>?_;refine ay hP (CE hp hk) ?_;refine ay hP (CE hq hk) ?_;refine bD (λh1=>?_) (λh1=>?_)
 .refine bD (λh2=>?_) (λh2=>?_)
  .refine Sz0 ?_;exact Qb (by rw[Ru h2]) rfl
  .refine Sz0 ?_;exact Qb (by rw[aiU Oz]) rfl
 refine Sz0 ?_;refine kG hP (tH hp.la hp.ld hp.k1 hp.sa hp.sd Oz) rfl rfl rfl ?_;rintro _ ⟨n',a',d',rfl,g1,g2,g3,g4,g5,g6⟩;refine Sz0 ?_;refine kG hP (tH hq.la hq.ld hq.k1 hq.sa hq.sd Oz) rfl rfl rfl ?_;rintro _ ⟨m',b',c',rfl,e1,e2,e3,e4,e5,e6⟩;have OM:nl (zv n' a').natAbs<=k:=by rw[lh];exact KaK (cB g1) g3
 have ON:nl (zv m' b').natAbs<=k:=by rw[lh];exact KaK (cB e1) e3
 have OF:nl (val d')<=k:=KaK (cB g2) g4;have zU:nl (val c')<=k:=KaK (cB e2) e4;have h3:=mL (zv n' a') (val c');have h4:=mL (zv m' b') (val d');rw[KbH]at h3 h4;refine ay hP (wH _) ?_;refine ay hP (ve (n:=n') (m:=false) g1 e2 Oz Oz) ?_;refine ay hP (wH _) ?_;refine ay hP (ve (n:=m') (m:=false) e1 g2 Oz Oz) ?_;rw[wP,wP];refine ay hP (ajJ (x:=zv n' a'*(val c':Int)) (y:=zv m' b'*(val d':Int)) Oz Oz) ?_;refine Sz0 ?_;exact Qb (by rw[<-g6,<-e6];unfold rv;rw[Sb g5 e5]) rfl
def Vw{m:Bool}{d b c:List Nat}(hp:Raw k n a d)(hq:Raw k m b c)(hk:k<2^36):AC 345 [PV.rr n a d,PV.rr m b c] (· = .bool (decide (rv n a d=rv m b c))):=by refine aF Qd func345 ams λC hP=>?_;refine ay hP (P6 hp hq hk) ?_;refine Sz0 ?_;exact Qb (congrArg PV.bool (decide_eq_decide.2 Mf)) rfl
def L7(h1: -9223372036854775808<=x)(h2:x<=9223372036854775807):AC 80 [.int .i64 x] (· =PV.zz x):=by
 refine tQ Qd func80 rfl aqI (by simp[Nd]) λC hP=>?_;simp only[Nd];refine cC ?_;refine Sz0 ?_;refine Qm (λhc=>?_) (λhc=>?_)
 .obtain⟨y,hy⟩:∃y:Nat,x= -((y:Int)+1):=⟨(-(x+1)).toNat,by omega⟩
  have e1:IntKind.i64.wrap (x+1)= -(y:Int):=by rw[yD (by omega) (by omega)];omega
  have e2:IntKind.i64.wrap (0- -(y:Int))=(y:Int):=by rw[yD (by omega) (by omega)];omega
  have e3:IntKind.u64.wrap (y:Int)=(y:Int):=vf (by omega) (by omega);have e4:IntKind.u64.wrap ((y+1:Nat):Int)=((y+1:Nat):Int):=vf (by omega) (by omega);refine Sz4 e1 e2 e3 e4 ?_;refine Qv hP (Hy (by omega)) rfl rfl rfl ?_;refine Sz0 ?_;refine Qv hP (Ap true (y+1)) rfl rfl rfl ?_;refine Sz0 ?_;refine cx ?_;refine Sz0 ?_;exact Qb (congrArg PV.zz (by simp;omega)) rfl
 .obtain⟨y,rfl⟩:∃y:Nat,x=y:=⟨x.toNat,by omega⟩
  refine Sz0 ?_;refine Qv hP (Hy (by omega)) rfl rfl rfl ?_;refine Sz0 ?_;refine Qv hP (Ap false y) rfl rfl rfl ?_;refine Sz0 ?_;refine cx ?_;refine Sz0 ?_;exact Qb (congrArg PV.zz (by simp)) rfl
def vb(h1: -9223372036854775808<=x)(h2:x<=9223372036854775807):AC 35 [.int .i64 x] (· =PV.rat (x:Rat)):=by refine aF Qd func35 aqN λC hP=>?_;refine ay hP (L7 h1 h2) ?_;refine ay hP GZ ?_;refine Sz0 ?_;refine cx ?_;refine Sz0 ?_;exact Qb (by rw[PV.rat,Rat.num_intCast,Rat.den_intCast,PV.num,PV.num,vk];rfl) rfl
def Q6i(ha:Qk a)(bU:a.length<2^42):AC 153 [PV.zi n a] (· = .bool (qi n a)):=by
 refine aF Qd func153 ami λC hP=>?_;refine Sz0 ?_;refine fJ (λh0=>?_) (λh0=>?_)
 .have:a=[]:=KaE.1 Oz;subst this;refine Sz0 ?_;cases n
  .refine Sz0 ?_;refine Qb (congrArg PV.bool ?_) rfl;simp[qi]
  .refine Sz0 ?_;refine Qb (congrArg PV.bool ?_) rfl;simp[qi]
 .obtain⟨k,hk⟩:∃k,a.length=k+1:=⟨a.length-1,Oz⟩
  have aS:a≠[]:=λh=>by rw[h]at hk;simp at hk
  have hl:=VH hk;have e:((k+1:Nat):Int)-1=k:=Oz;generalize hx:a[k]'Oz=x at *
  refine Sz3 hk e hx ?_;refine fJ (λh=>?_) (λh=>absurd Oz h);refine Sz3 hk e hx ?_;refine Qb (congrArg PV.bool ?_) rfl;unfold qi;rw[if_neg aS,hl];exact decide_eq_decide.2 ⟨λh h'=>h (by injection h' with h';rw[h'];rfl),λh h'=>h (by rw[show x=0 by omega])⟩
def Ar{d:List Nat}(hp:Raw k n a d)(hk:k<2^36):AC 77 [PV.rr n a d] (· = .bool (fL n a d)):=by
 obtain⟨ha,hd,sa,sd,k1⟩:=hp;refine tQ Qd func77 rfl aqM (by simp[Nc]) λC hP=>?_;simp only[Nc];refine cC ?_;refine Sz0 ?_;refine Qv hP (Q6i ha (by omega)) rfl rfl rfl ?_;unfold fL;refine Sz0 ?_;cases hio:qi n a
 .refine Sz1 @Bool.not_false ?_;exact Qb (by simp) rfl
 rw[KcK];refine Sz1 @Bool.not_true ?_;refine Qo (λh0=>?_) (λh0=>?_)
 .have:d=[]:=KaE.1 (by omega);subst this;refine Sz0 ?_;exact Qb (by simp) rfl
 obtain⟨k',cY⟩:∃k,d.length=k+1:=⟨d.length-1,by omega⟩
 have aS:d≠[]:=λh=>by rw[h]at cY;simp at cY
 have hl:=VH cY;have e:((k'+1:Nat):Int)-1=k':=by omega
 generalize hx:d[k']'(by omega)=x at *
 refine Sz3 cY e hx ?_;refine Qm (λh1=>?_) (λh1=>?_)
 .refine Sz0 ?_;refine Qb (congrArg PV.bool ?_) rfl;rw[hl,show x=0 by omega];simp
 have bQ:x≠0:=by omega
 refine Sz0 ?_;refine Qv hP (G9 (by omega)) rfl rfl rfl ?_;refine Sz0 ?_;refine Qo (λh2=>?_) (λh2=>?_)
 .subst h2;refine Sz0 ?_;refine Qb (congrArg PV.bool ?_) rfl;simp[val]
 .refine Sz0 ?_;refine Qv hP (QZ ha hd (by omega) (by omega)) rfl rfl rfl ?_;have hD:0<val d:=by apply Kbf;intro h0;have X6:=Dh hd (by rw[hl];simpa using bQ);rw[h0,iu]at X6;exact aS X6.symm
  have xQ:(aw (Nat.gcd (val a) (val d))).length<2^43:=by have h3:=kp (Kc4 (val a) hD);have h4:=cB hd;unfold nl at h3 h4;omega
  refine Sz0 ?_;refine Qv hP (Kn xQ) rfl rfl rfl ?_;refine Sz0 ?_;refine Qb (congrArg PV.bool ?_) rfl;rw[hl];simp[aS,bQ]
variable{a:List Int}
def Lw{a:List Int}(hl:a.length<2^42):AC 267 [PV.mono a] (· =PV.mono (fa a)):=by
 refine aF Qd func267 ani λC hP=>?_;refine Sz0 ?_;refine Qh eO [(3,3),(6,17)] [] (λn J hp=>n<=a.length/\oy a n=fa a/\J 3= .int .i64 n/\hp=aB) a.length ?_ ?_
 .refine⟨Kag _,rfl,?_⟩;exact Tz0
 rintro n J _ ⟨hn,hc,h3,rfl⟩;refine Sz1 h3 ?_;refine fJ (λhg=>?_) (λhg=>?_)
 .obtain _|n:=n
  .omega
  have e:((n+1:Nat):Int)-1=n:=Oz;simp only[oy]at hc;simp+decide (disch:=try exact D2 h3 e) only[go_sem,h3,e];refine Qm (λhz=>?_) (λhz=>?_)
  .rw[if_pos (by simp[hz,show n<a.length by omega])]at hc;refine Sz2 h3 e ?_;refine Qe n Oz ⟨by omega,hc,?_⟩;exact Tz0
  .rw[if_neg (by simpa[show n<a.length by omega]using hz)]at hc;refine Sz2 h3 e ?_;refine Qm (λh=>by omega) (λh=>?_);refine Sz2 h3 e ?_;exact Qb (congrArg PV.mono hc) rfl
 .obtain rfl:n=0:=by omega
  refine Sz1 h3 ?_;exact od (Pg (by rw[<-hc];rfl)) rfl
def Co(hl:a.length<2^42):AC 178 [PV.mono a] (· = .bool (eH a)):=by
 refine aF Qd func178 anj λC hP=>?_;refine Sz0 ?_;have bad:(64<a.length\/a.getLast? =some 0\/∃x∈a,x<0\/1048576<x)->eH a=false:=λh=>by
  cases hb:eH a with
  |false=>rfl
  |true=>
   have:=MB.wC hb;simp only[eH,Kav,decide_eq_true_eq]at hb;rcases h with h|h|⟨x,hx,h⟩
   .omega
   .exact absurd h hb.2.1
   .have h5:=this.lo x hx;have h6:=this.hi x hx;omega
 refine Qo (λh1=>?_) (λh1=>?_)
 .refine Sz0 ?_;exact Qb (by rw[bad (.inl Oz)]) rfl
 refine Sz0 ?_;have fin:a.length<=64->a.getLast? ≠some 0->(∀x∈a,0<=x/\x<=1048576)->eH a=true:=λh1 h2 h3=>by simp only[eH,Kav,decide_eq_true_eq,Kas];exact⟨h1,h2,h3⟩
 refine fJ (λh2=>?_) (λh2=>?_)
 .obtain⟨k,hk⟩:∃k,a.length=k+1:=⟨a.length-1,Oz⟩
  have lA:=MP hk;have e:((k+1:Nat):Int)-1=k:=Oz;generalize hy:a[k]'Oz=y at *
  refine iq hk e hy (λh3=>?_) (λh3=>?_)
  .refine Sz0 ?_;exact Qb (by rw[bad (.inr (.inl (by rw[lA,h3])))]) rfl
  have lA:a.getLast? ≠some 0:=by rw[lA];simpa using h3
  rw[<-hk]at *
  refine Sz0 ?_;refine Qh eO [(2,2),(4,4),(24,34)] [] (λk J hp=>∃i,k=a.length-i/\i<=a.length/\(∀x∈a.take i,0<=x/\x<=1048576)/\J 24= .int .i64 i/\hp=aB) a.length ?_ ?_
  .refine⟨0,rfl,Oz,by simp,?_⟩;refine Sz0 ?_;rfl
  rintro _ J _ ⟨i,rfl,hi,bY,jT,rfl⟩;refine aZ jT (λhg=>?_) (λhg=>?_)
  .have au:i<a.length:=Oz;have eV:=Kad au;have bl:∀x∈a.take (i+1),x∈a.take i\/x=a[i]:=λx hx=>by
    rw[Kam au]at hx;rcases KaN.1 hx with h|h
    .exact .inl h
    .exact .inr (Kax.1 h)
   generalize hx:a[i]=x at *
   refine Sz2 jT hx ?_;refine Qo (λh5=>?_) (λh5=>?_)
   .refine Sz0 ?_;exact Qb (by rw[bad (.inr (.inr ⟨x,eV,.inl h5⟩))]) rfl
   .refine bD (λh6=>?_) (λh6=>?_)
    .refine Sz0 ?_;exact Qb (by rw[bad (.inr (.inr ⟨x,eV,.inr h6⟩))]) rfl
    .refine Sz1 jT ?_;refine Qe (a.length-(i+1)) Oz ⟨i+1,rfl,Oz,λy hy=>?_,?_⟩
     .rcases bl y hy with h|rfl
      .exact bY y h
      .omega
     .exact Tz0
  .rw[Kaf Oz]at bY;refine Sz0 ?_;exact Qb (by rw[fin Oz lA bY]) rfl
 .have Og:a=[]:=KaE.1 Oz;have lA:a.getLast? ≠some 0:=by rw[Og];simp
  refine Sz0 ?_;refine Qh eO [(2,2),(4,4),(24,34)] [] (λk J hp=>∃i,k=a.length-i/\i<=a.length/\(∀x∈a.take i,0<=x/\x<=1048576)/\J 24= .int .i64 i/\hp=aB) a.length ?_ ?_
  .refine⟨0,rfl,Oz,by simp,?_⟩;refine Sz0 ?_;rfl
  rintro _ J _ ⟨i,rfl,hi,bY,jT,rfl⟩;refine aZ jT (λhg=>?_) (λhg=>?_)
  .have au:i<a.length:=Oz;have eV:=Kad au;have bl:∀x∈a.take (i+1),x∈a.take i\/x=a[i]:=λx hx=>by
    rw[Kam au]at hx;rcases KaN.1 hx with h|h
    .exact .inl h
    .exact .inr (Kax.1 h)
   generalize hx:a[i]=x at *
   refine Sz2 jT hx ?_;refine Qo (λh5=>?_) (λh5=>?_)
   .refine Sz0 ?_;exact Qb (by rw[bad (.inr (.inr ⟨x,eV,.inl h5⟩))]) rfl
   .refine bD (λh6=>?_) (λh6=>?_)
    .refine Sz0 ?_;exact Qb (by rw[bad (.inr (.inr ⟨x,eV,.inr h6⟩))]) rfl
    .refine Sz1 jT ?_;refine Qe (a.length-(i+1)) Oz ⟨i+1,rfl,Oz,λy hy=>?_,?_⟩
     .rcases bl y hy with h|rfl
      .exact bY y h
      .omega
     .exact Tz0
  .rw[Kaf Oz]at bY;refine Sz0 ?_;exact Qb (by rw[fin Oz lA bY]) rfl
def VK{a:List Int}(hl:a.length<2^42):AC 285 [PV.mono a] (· =PV.mono (if eH (fa a)then fa a else [])):=by
 have ht:=Gc a;refine aF Qd func285 ank λC hP=>?_;refine Sz0 ?_;refine Qy hP (Lw hl) ?_;refine Sz0 ?_;refine Qy hP (Co Oz) ?_;refine Sz0 ?_;cases aT:eH (fa a)
 .refine Sz1 @Bool.not_false ?_;exact od (Pg (by simp)) rfl
 .have:(fa a).length<=64:=(MB.wC aT).len;refine jQ @Bool.not_true ?_;exact Qb (by simp[Kaf]) rfl
def Ll(hl:a.length<=1048576)(hb:∀x∈a,0<=x/\x<=1099511627776):AC 179 [PV.mono a] (· = .int .i64 (ml a)):=by
 refine aF Qd func179 anl λC hP=>?_;refine Sz0 ?_;refine Qh eO [(3,3),(5,5),(8,15)] [] (λk J hp=>∃(i:Nat)(s:Int),k=a.length-i/\i<=a.length/\0<=s/\s<=1099511627776*i/\s+(a.drop i).sum=ml a/\J 8= .int .i64 (i:Nat)/\J 3= .int .i64 s/\hp=aB) a.length ?_ ?_
 .refine⟨0,0,rfl,Oz,Oz,Oz,by simp[ml],?_⟩;refine Sz0 ?_;simp
 rintro _ J _ ⟨i,s,rfl,hi,uN,gI,tt,h8,h3,rfl⟩;refine cH h8 h3 (λhg=>?_) (λhg=>?_)
 .have au:i<a.length:=Oz;have hx:=hb _ (Kad au);rw[KaB au,KcW]at tt;generalize e7:a[i]=x at *
  refine Sz3 h8 h3 e7 ?_;refine Qe (a.length-(i+1)) Oz ⟨i+1,s+x,rfl,Oz,Oz,by push_cast;omega,Oz,?_⟩;exact Tz0
 .rw[Kar Oz,List.sum_nil,Int.add_zero]at tt;refine Sz1 h3 ?_;exact Qb (by rw[tt]) rfl
def afw{v:Int}(hl:a.length<2^42):AC 270 [PV.mono a,.int .i64 v] (· = .int .i64 (if v<0 then 0 else eN a v.toNat)):=by
 refine aF Qd func270 anm λC hP=>?_;refine Sz0 ?_;refine Qo (λh1=>?_) (λh1=>?_)
 .refine Sz0 ?_;exact Qb (by rw[if_pos h1]) rfl
 .obtain⟨n,rfl⟩:∃n:Nat,v=n:=⟨v.toNat,Oz⟩
  rw[if_neg h1];refine bD (λh2=>?_) (λh2=>?_)
  .refine Sz0 ?_;exact Qb (by rw[mR Oz]) rfl
  .have hn:n<a.length:=Oz;refine Sz0 ?_;exact Qb (by rw[mQ hn]) rfl
def G2(hl:a.length<2^42):AC 270 [PV.mono a,.int .i64 i] (· = .int .i64 (eN a i)):=by
 have:=afw (v:=i) hl
 rwa[if_neg Oz,Kbi]at this
def Q01{a b:List Int}{f:Nat}{g:Int->Int->Int}(bU:a.length<2^40)(bZ:b.length<2^40)(hf:∀i,AC f [.int .i64 (eN a i),.int .i64 (eN b i)] (· = .int .i64 (g (eN a i) (eN b i)))):
  AC 268 [PV.mono a,PV.mono b,.fn f [] []] (· =PV.mono (nM g a b)):=by
 refine aF Qd func268 anh λC hP=>?_;refine Sz0 ?_;refine Qh eO [(8,10),(19,45)] [] (λk J hp=>∃i,k=max a.length b.length-i/\i<=max a.length b.length/\J 19= .int .i64 (i:Nat)/\hp=Qg aB 16 ⟨1,3,nL ((nM g a b).take i++List.replicate (max a.length b.length-i) 0),false⟩) (max a.length b.length) ?_ ?_
 .refine⟨0,rfl,by omega,?_⟩;refine Sz0 ?_;simp
 rintro _ J _ ⟨i,rfl,hi,nS,rfl⟩;refine aZ nS (λhg=>?_) (λhg=>?_)
 .have au:i<max a.length b.length:=by omega
  have uA:=hf i;have oM:((nM g a b).take i).length=i:=by rw[Kay,tF];omega
  have lD:=λv=>ahk (v:=v) (z:=(0:Int)) oM (show 0<max a.length b.length-i by omega)
  have hlen:i<((nM g a b).take i++List.replicate (max a.length b.length-i) (0:Int)).length:=by rw[Kaz,oM,List.length_replicate];omega
  have bl:=Mi (g:=g) au;have fin:∀x y,x=eN a i->y=eN b i->AC f [.int .i64 x,.int .i64 y] (· = .int .i64 (g (eN a i) (eN b i))):=by rintro _ _ rfl rfl;exact uA
  refine aZ nS (λh1=>?_) (λh1=>?_)
  .have jC:i<a.length:=by omega
   simp+decide (disch:=try exact D1 nS) only[go_sem,nS];refine Qm (λh2=>?_) (λh2=>?_)
   .have m8:i<b.length:=by omega
    simp+decide (disch:=try exact D1 nS) only[go_sem,nS];refine Qy hP (fin _ _ (mQ jC).symm (mQ m8).symm) ?_;simp+decide (disch:=first|omega|rfl|(simp+decide only[go_sem,nS,lD,<-bl]<;>rfl)|fail) only[go_sem,nS,lD,<-bl];refine Qe (max a.length b.length-(i+1)) (by omega) ⟨i+1,rfl,by omega,?_⟩;exact Tz1 @Nat.sub_sub
   .refine gE nS hP (fin _ _ (mQ jC).symm (mR (by omega)).symm) ?_;simp+decide (disch:=first|omega|rfl|(simp+decide only[go_sem,nS,lD,<-bl]<;>rfl)|fail) only[go_sem,nS,lD,<-bl];refine Qe (max a.length b.length-(i+1)) (by omega) ⟨i+1,rfl,by omega,?_⟩;exact Tz1 @Nat.sub_sub
  .refine Sz1 nS ?_;refine Qm (λh2=>?_) (λh2=>by omega);have m8:i<b.length:=by omega
   simp+decide (disch:=try exact D1 nS) only[go_sem,nS];refine Qy hP (fin _ _ (mR (by omega)).symm (mQ m8).symm) ?_;simp+decide (disch:=first|omega|rfl|(simp+decide only[go_sem,nS,lD,<-bl]<;>rfl)|fail) only[go_sem,nS,lD,<-bl];refine Qe (max a.length b.length-(i+1)) (by omega) ⟨i+1,rfl,by omega,?_⟩;exact Tz1 @Nat.sub_sub
 .obtain rfl:i=max a.length b.length:=by omega
  refine de ?_;exact Qb (by simp[Kaf,tF]) rfl
def Q80{y:Int}(h1: -9223372036854775808<=x+y)(h2:x+y<=9223372036854775807):AC 269 [.int .i64 x,.int .i64 y] (· = .int .i64 (x+y)):=by refine aF Qd func269 anp λC hP=>?_;exact cf
def WO{b:List Int}(ha:MB k a)(hb:MB k b)(hk:k<=1099511627776):AC 157 [PV.mono a,PV.mono b] (· =PV.mono (eJ a b)):=by have h1:=ha.len;have h2:=hb.len;have hz:=tF (· + ·) a b;refine tQ Qd func157 rfl ano (by simp[M5]) λC hP=>?_;simp only[M5];refine cC ?_;refine Sz0 ?_;refine Qv hP (Q01 (f:=269) (g:=(· + ·)) (by omega) (by omega) (λi=>Q80 (by have:=ha.eN i;have:=hb.eN i;omega) (by have:=ha.eN i;have:=hb.eN i;omega))) rfl rfl rfl ?_;refine Sz0 ?_;refine Qv hP (Lw (by omega)) rfl rfl rfl ?_;refine Sz0 ?_;exact Qb rfl rfl
def Q81(hl:a.length<2^42):AC 365 [PV.mono a] (· = .int .i64 ((fa a).length-1)):=by have:=Gc a;refine aF Qd func365 ann λC hP=>?_;refine ay hP (Lw hl) ?_;exact cf
def LZ{b:List Int}{o:Int}(ha:MB k a)(hb:MB k b)(hk:k<=1099511627776):AC 158 [PV.mono a,PV.mono b,.int .i64 o] (· = .int .i64 (nN o a b)):=by
 have h1:=ha.len;have h2:=hb.len;have jo:∀x∈a,0<=x/\x<=1099511627776:=λx hx=>by have:=ha.lo x hx;have:=ha.hi x hx;omega
 have kR:∀x∈b,0<=x/\x<=1099511627776:=λx hx=>by have:=hb.lo x hx;have:=hb.hi x hx;omega
 refine tQ Qd func158 rfl anq (by simp[M6]) λC hP=>?_;simp only[M6];refine cC ?_;refine Sz0 ?_;refine Qm (λho=>?_) (λho=>?_)
 .refine Sz0 ?_;refine Qv hP (Ll (by omega) jo) rfl rfl rfl ?_;refine Sz0 ?_;refine Qv hP (Ll (by omega) kR) rfl rfl rfl ?_;refine Sz0 ?_;refine Qm (λhd=>?_) (λhd=>?_)
  .have mD:nN o a b=eR (ml a) (ml b):=by unfold nN;rw[if_pos ⟨ho,hd⟩]
   refine Sz0 ?_;refine Qm (λh5=>?_) (λh5=>?_)
   .refine Sz0 ?_;exact Qb (by rw[mD,eR,if_pos h5]) rfl
   .refine Sz0 ?_;exact Qb (by rw[mD,eR,if_neg h5,if_pos (by omega)]) rfl
  have mD:nN o a b=bC a b:=by unfold nN;rw[if_neg (λh=>hd h.2)]
  refine Sz0 ?_;refine Qh (by repeat (first|exact Hh|exact GY|exact GH|exact GN|exact GO|apply GX|apply Hg|apply Hu|apply HL|apply HM|apply GC)) [(6,6),(9,11),(30,45)] [] (λn J hp=>n<=max a.length b.length/\fN a b n=bC a b/\J 9= .int .i64 ((n:Int)-1)/\hp=aB) (max a.length b.length) ?_ ?_
  .refine⟨by omega,rfl,?_⟩;exact Tz0
  rintro n J _ ⟨hn,hc,h9,rfl⟩;refine Sz1 h9 ?_;refine Qm (λhg=>?_) (λhg=>?_)
  .obtain _|n:=n
   .omega
   have e:((n+1:Nat):Int)-1=n:=by omega
   rw[fN]at hc;refine Sz2 h9 e ?_;refine Qv hP (G2 (by omega)) rfl rfl rfl ?_;refine Sz2 h9 e ?_;refine Qv hP (G2 (by omega)) rfl rfl rfl ?_;refine Sz2 h9 e ?_;refine Qm (λh4=>?_) (λh4=>?_)
   .rw[if_neg h4]at hc;refine Sz2 h9 e ?_;refine Qm (λh5=>?_) (λh5=>?_)
    .refine Sz2 h9 e ?_;exact Qb (by rw[mD,<-hc,eR,if_pos h5]) rfl
    .refine Sz2 h9 e ?_;exact Qb (by rw[mD,<-hc,eR,if_neg h5,if_pos (by omega)]) rfl
   .rw[if_pos (by omega)]at hc;refine Sz2 h9 e ?_;refine Qe n (by omega) ⟨by omega,hc,?_⟩;exact Tz0
  .obtain rfl:n=0:=by omega
   refine Sz0 ?_;exact Qb (by rw[mD,<-hc];rfl) rfl
 .have mD:nN o a b=bC a b:=by unfold nN;rw[if_neg (λh=>ho h.1)]
  refine Sz0 ?_;refine Qh (by repeat (first|exact Hh|exact GY|exact GH|exact GN|exact GO|apply GX|apply Hg|apply Hu|apply HL|apply HM|apply GC)) [(6,6),(9,11),(30,45)] [] (λn J hp=>n<=max a.length b.length/\fN a b n=bC a b/\J 9= .int .i64 ((n:Int)-1)/\hp=aB) (max a.length b.length) ?_ ?_
  .refine⟨by omega,rfl,?_⟩;exact Tz0
  rintro n J _ ⟨hn,hc,h9,rfl⟩;refine Sz1 h9 ?_;refine Qm (λhg=>?_) (λhg=>?_)
  .obtain _|n:=n
   .omega
   have e:((n+1:Nat):Int)-1=n:=by omega
   rw[fN]at hc;refine Sz2 h9 e ?_;refine Qv hP (G2 (by omega)) rfl rfl rfl ?_;refine Sz2 h9 e ?_;refine Qv hP (G2 (by omega)) rfl rfl rfl ?_;refine Sz2 h9 e ?_;refine Qm (λh4=>?_) (λh4=>?_)
   .rw[if_neg h4]at hc;refine Sz2 h9 e ?_;refine Qm (λh5=>?_) (λh5=>?_)
    .refine Sz2 h9 e ?_;exact Qb (by rw[mD,<-hc,eR,if_pos h5]) rfl
    .refine Sz2 h9 e ?_;exact Qb (by rw[mD,<-hc,eR,if_neg h5,if_pos (by omega)]) rfl
   .rw[if_pos (by omega)]at hc;refine Sz2 h9 e ?_;refine Qe n (by omega) ⟨by omega,hc,?_⟩;exact Tz0
  .obtain rfl:n=0:=by omega
   refine Sz0 ?_;exact Qb (by rw[mD,<-hc];rfl) rfl
def Ls(x:Int):AC 168 [.int .i64 x] (· = .int .i64 (gL x)):=by
 refine aF Qd func168 amT λC hP=>?_;refine bD (λh=>?_) (λh=>?_)
 .refine Sz0 ?_;exact Qb (by rw[gL,if_pos h]) rfl
 refine bD (λh2=>?_) (λh2=>?_)
 .refine Sz0 ?_;exact Qb (by rw[gL,if_neg h,if_pos h2]) rfl
 .refine Sz0 ?_;exact Qb (by rw[gL,if_neg h,if_neg h2]) rfl
def Q82{v:Int}(hl:a.length<2^42):AC 169 [PV.mono a,.int .i64 v] (· = .int .i64 (if v<0 then 0 else eN a v.toNat)):=by
 refine aF Qd func169 amR λC hP=>?_;refine Sz0 ?_;refine Qo (λh1=>?_) (λh1=>?_)
 .refine Sz0 ?_;exact Qb (by rw[if_pos h1]) rfl
 .obtain⟨n,rfl⟩:∃n:Nat,v=n:=⟨v.toNat,Oz⟩
  rw[if_neg h1];refine bD (λh2=>?_) (λh2=>?_)
  .refine Sz0 ?_;exact Qb (by rw[mR Oz]) rfl
  .have hn:n<a.length:=Oz;refine Sz0 ?_;exact Qb (by rw[mQ hn]) rfl
def rj(hl:a.length<2^42):AC 169 [PV.mono a,.int .i64 i] (· = .int .i64 (eN a i)):=by
 have:=Q82 (v:=i) hl
 rwa[if_neg Oz,Kbi]at this
def F7(hl:a.length<=1048576)(hb:∀x∈a,0<=x/\x<=1099511627776):AC 167 [PV.mono a] (· = .int .i64 (ml a)):=by
 refine aF Qd func167 amQ λC hP=>?_;refine Sz0 ?_;refine Qh okB [(3,16)] [] (λk J hp=>∃(i:Nat)(s:Int),k=a.length-i/\i<=a.length/\0<=s/\s<=1099511627776*i/\s+(a.drop i).sum=ml a/\J 4= .int .i64 (i:Nat)/\J 3= .int .i64 s/\hp=aB) a.length ?_ ?_
 .refine⟨0,0,rfl,Oz,Oz,Oz,by simp[ml],?_⟩;refine Sz0 ?_;simp
 rintro _ J _ ⟨i,s,rfl,hi,uN,gI,tt,h4,h3,rfl⟩;refine cH h4 h3 (λhg=>?_) (λhg=>?_)
 .have au:i<a.length:=Oz;have hx:=hb _ (Kad au);rw[KaB au,KcW]at tt;generalize e7:a[i]=x at *
  refine Sz3 h4 h3 e7 ?_;refine Qe (a.length-(i+1)) Oz ⟨i+1,s+x,rfl,Oz,Oz,by push_cast;omega,Oz,?_⟩;exact Tz0
 .rw[Kar Oz,List.sum_nil,Int.add_zero]at tt;refine Sz1 h3 ?_;exact Qb (by rw[tt]) rfl
def Q83{b:List Int}(ha:MB k a)(hb:MB k b)(hk:k<=1099511627776):AC 211 [PV.mono a,PV.mono b] (· =PV.mono (nM (· + ·) a b)):=by
 have h1:=ha.len;have h2:=hb.len;have hz:=tF (· + ·) a b;refine aF Qd func211 amS λC hP=>?_;refine Sz0 ?_;refine kq 5 900 1 3 Oz Tz0 ?_;refine Qh okB [(5,28)] [27,28,900] (λm J hp=>∃(i:Nat)(out:List Int),m=max a.length b.length-i/\i<=max a.length b.length/\out=(nM (· + ·) a b).take i/\J 5= .ms 900 out.length/\J 6= .int .i64 i/\hp 900=some ⟨1,3,nL out,false⟩) (max a.length b.length) ?_ ?_
 .refine⟨0,[],rfl,Oz,by simp,?_⟩;refine Sz0 ?_;simp
 rintro _ J h ⟨i,out,rfl,hi,oI,h5,h6,hh⟩;have iH:out.length=i:=by rw[oI,Kay,hz];omega
 refine Sz2 h5 h6 ?_;refine Qo (λhg=>?_) (λhg=>?_)
 .have aA:i<max a.length b.length:=Oz;have bl:=Mi (g:=(· + ·)) aA;have ea:=ha.eN i;have eb:=hb.eN i;refine bE h5 h6 hP (rj (a:=a) (i:=i) Oz) ?_;refine bE h5 h6 hP (rj (a:=b) (i:=i) Oz) ?_;refine Sz2 h5 h6 ?_;rw[Qq (f:=λ(x:Int)=>.int .i64 x) (y:=eN a i+eN b i) (xs:=out) (ty':=3) (fz:=false) (Tz1 hh) Qw Oz rfl Oz Oz];refine Sz2 h5 h6 ?_;refine Qe (max a.length b.length-(i+1)) Oz ⟨i+1,out++[eN a i+eN b i],rfl,Oz,by rw[bl,oI],?_⟩;refine Sz0 ?_;simp
 refine cH h5 h6 (λgF=>?_) (λgF=>?_)
 .have aA:i<max a.length b.length:=Oz;have bl:=Mi (g:=(· + ·)) aA;have ea:=ha.eN i;have eb:=hb.eN i;refine bE h5 h6 hP (rj (a:=a) (i:=i) Oz) ?_;refine bE h5 h6 hP (rj (a:=b) (i:=i) Oz) ?_;refine Sz2 h5 h6 ?_;rw[Qq (f:=λ(x:Int)=>.int .i64 x) (y:=eN a i+eN b i) (xs:=out) (ty':=3) (fz:=false) (Tz1 hh) Qw Oz rfl Oz Oz];refine Sz2 h5 h6 ?_;refine Qe (max a.length b.length-(i+1)) Oz ⟨i+1,out++[eN a i+eN b i],rfl,Oz,by rw[bl,oI],?_⟩;refine Sz0 ?_;simp
 obtain rfl:i=max a.length b.length:=by omega
 rw[Kaf Oz]at oI;subst oI;refine mu h5 hh ?_;exact Qb (by rw[Kaf (by simp)]) rfl
def Mz(x y:Int):gL (x-y)=eR x y:=by unfold gL eR;(repeat' split)<;>omega
def Q84{k:Nat}{a b:List Int}{o:Int}(ha:MB k a)(hb:MB k b)(hk:k<=1099511627776):AC 92 [PV.mono a,PV.mono b,.int .i64 o] (· = .int .i64 (nN o a b)):=by
 have h1:=ha.len;have h2:=hb.len;have jo:∀x∈a,0<=x/\x<=1099511627776:=λx hx=>by have:=ha.lo x hx;have:=ha.hi x hx;omega
 have kR:∀x∈b,0<=x/\x<=1099511627776:=λx hx=>by have:=hb.lo x hx;have:=hb.hi x hx;omega
 have da:=Kk ha;have db:=Kk hb;refine aF Qd func92 aq6 λC hP=>?_;refine Sz0 ?_;refine fJ (λho=>?_) (λho=>?_)
 .refine Sz0 ?_;refine Qy hP (F7 (by omega) jo) ?_;refine Sz0 ?_;refine Qy hP (F7 (by omega) kR) ?_;refine Sz0 ?_;refine Qm (λhd=>?_) (λhd=>?_)
  .have mD:nN o a b=eR (ml a) (ml b):=by unfold nN;rw[if_pos ⟨ho,hd⟩]
   refine Sz0 ?_;refine Qy hP (F7 (by omega) jo) ?_;refine Sz0 ?_;refine Qy hP (F7 (by omega) kR) ?_;refine Sz0 ?_;refine Qy hP (Ls _) ?_;refine Sz0 ?_;exact Qb (by rw[mD,Mz]) rfl
  have mD:nN o a b=bC a b:=by unfold nN;rw[if_neg (λh=>hd h.2)]
  refine Sz0 ?_;refine Qh okB [(6,7),(29,47)] [] (λn J hp=>n<=max a.length b.length/\fN a b n=bC a b/\J 7= .int .i64 ((n:Int)-1)/\hp=aB) (max a.length b.length) ?_ ?_
  .refine⟨by omega,rfl,?_⟩;exact Tz0
  rintro n J _ ⟨hn,hc,h7,rfl⟩;refine Sz1 h7 ?_;refine Qm (λhg=>?_) (λhg=>?_)
  .obtain _|n:=n
   .omega
   have e:((n+1:Nat):Int)-1=n:=by omega
   have ea:=ha.eN n;have eb:=hb.eN n;rw[fN]at hc;refine Sz2 h7 e ?_;refine Qy hP (rj (by omega)) ?_;refine Sz2 h7 e ?_;refine Qy hP (rj (by omega)) ?_;refine Sz2 h7 e ?_;refine Qm (λh4=>?_) (λh4=>?_)
   .rw[if_neg h4]at hc;refine Sz2 h7 e ?_;refine Qy hP (rj (by omega)) ?_;refine Sz2 h7 e ?_;refine Qy hP (rj (by omega)) ?_;refine Sz2 h7 e ?_;refine Qy hP (Ls _) ?_;refine Sz2 h7 e ?_;exact Qb (by rw[mD,<-hc,Mz]) rfl
   .rw[if_pos (by omega)]at hc;refine Sz2 h7 e ?_;refine Qe n (by omega) ⟨by omega,hc,?_⟩;exact Tz0
  .obtain rfl:n=0:=by omega
   refine Sz0 ?_;exact Qb (by rw[mD,<-hc];rfl) rfl
 .have mD:nN o a b=bC a b:=by unfold nN;rw[if_neg (λh=>ho h.1)]
  refine Sz0 ?_;refine Qh okB [(6,7),(29,47)] [] (λn J hp=>n<=max a.length b.length/\fN a b n=bC a b/\J 7= .int .i64 ((n:Int)-1)/\hp=aB) (max a.length b.length) ?_ ?_
  .refine⟨by omega,rfl,?_⟩;exact Tz0
  rintro n J _ ⟨hn,hc,h7,rfl⟩;refine Sz1 h7 ?_;refine Qm (λhg=>?_) (λhg=>?_)
  .obtain _|n:=n
   .omega
   have e:((n+1:Nat):Int)-1=n:=by omega
   have ea:=ha.eN n;have eb:=hb.eN n;rw[fN]at hc;refine Sz2 h7 e ?_;refine Qy hP (rj (by omega)) ?_;refine Sz2 h7 e ?_;refine Qy hP (rj (by omega)) ?_;refine Sz2 h7 e ?_;refine Qm (λh4=>?_) (λh4=>?_)
   .rw[if_neg h4]at hc;refine Sz2 h7 e ?_;refine Qy hP (rj (by omega)) ?_;refine Sz2 h7 e ?_;refine Qy hP (rj (by omega)) ?_;refine Sz2 h7 e ?_;refine Qy hP (Ls _) ?_;refine Sz2 h7 e ?_;exact Qb (by rw[mD,<-hc,Mz]) rfl
   .rw[if_pos (by omega)]at hc;refine Sz2 h7 e ?_;refine Qe n (by omega) ⟨by omega,hc,?_⟩;exact Tz0
  .obtain rfl:n=0:=by omega
   refine Sz0 ?_;exact Qb (by rw[mD,<-hc];rfl) rfl
variable{E K:Nat}{a:Rat}{p q:List Tm}
def ajs{b:Rat}(ha:rs a<=k)(hb:rs b<=k)(hk:k<2^34):AC 93 [PV.rat a,PV.rat b] (· =PV.rat (a+b)):=by
 have:=Vv (jf ha) (jf hb) hk
 rwa[gm,gm]at this
def RN{b:Rat}(ha:rs a<=k)(hb:rs b<=k)(hk:k<2^34):AC 132 [PV.rat a,PV.rat b] (· =PV.rat (a*b)):=by
 have:=Q8y (jf ha) (jf hb) hk
 rwa[gm,gm]at this
def ajt{b:Rat}(ha:rs a<=k)(hb:rs b<=k)(hk:k<2^34):AC 97 [PV.rat a,PV.rat b] (· = .int .i64 (qn a b)):=by
 have:=Q8z (jf ha) (jf hb) hk
 rwa[gm,gm]at this
def L8(ha:rs a<2^36):AC 94 [PV.rat a] (· = .int .i64 (ji a)):=by
 have:=Cn (jf (Kag (rs a))) ha
 rwa[gm]at this
def Dv{a b:List Int}(ha:MB k a)(hb:MB k b)(hk:k<=1099511627776):AC 92 [PV.mono a,PV.mono b,.int .i64 0] (· = .int .i64 (bC a b)):=by
 have:=Q84 (o:=0) ha hb hk
 rwa[HN]at this
def Q85(hp:PB K E p)(hq:PB K E q)(hK:K<=2^33)(hE:E<=2^38)(dC:p.length<=2^36)(nb:q.length<=2^36):
  AC 48 [PV.aC p,PV.aC q] (· = .int .i64 (kK p q)):=by
 refine aF Qd func48 aqw λC hP=>?_;refine Sz0 ?_;refine Qh okB [(4,47)] [] (λn J hp=>∃i,n=p.length-i/\i<=p.length/\i<=q.length/\kK (p.drop i) (q.drop i)=kK p q/\J 5= .int .i64 (i:Nat)) p.length ?_ ?_
 .refine⟨0,rfl,Oz,Oz,rfl,?_⟩;refine Sz0 ?_;rfl
 rintro _ J h ⟨i,rfl,hi,jW,iJ,h5⟩;refine Sz1 h5 ?_;refine fJ (λhg=>?_) (λhg=>?_)
 .have au:i<p.length:=Oz;refine aZ h5 (λhk=>?_) (λhk=>?_)
  .have cY:i<q.length:=Oz;have dv:=hp.get au;have qT:=hq.get cY;have c1:=dv.c;have c2:=qT.c;rw[PJ au cY]at iJ;generalize hx:p[i]=x at *
   generalize hy:q[i]=y at *
   refine eL h5 hx hy hP (Dv dv.m qT.m Oz) ?_;refine iq h5 hx hy (λhc=>?_) (λhc=>?_)
   .refine Sz0 ?_;exact Qb (by rw[<-iJ,if_pos (by rw[pj,if_pos hc];exact hc),pj,if_pos hc]) rfl
   .refine eL h5 hx hy hP (ajt (a:=x.1) (b:=y.1) (k:=2^33) Oz Oz Oz) ?_;refine iq h5 hx hy (λik=>?_) (λik=>?_)
    .refine Sz0 ?_;exact Qb (by rw[<-iJ,if_pos (by rw[pj,if_neg hc];exact ik),pj,if_neg hc]) rfl
    .rw[if_neg (by rw[pj,if_neg hc];exact ik)]at iJ;refine Sz1 h5 ?_;refine Qe (p.length-(i+1)) Oz ⟨i+1,rfl,Oz,Oz,iJ,?_⟩;exact Tz0
  refine bD (λhk=>?_) (λhk=>?_)
  .refine Sz0 ?_;exact Qb (by rw[<-iJ,Kar (show p.length<=i by omega),C0,if_neg (by rw[Ka4];omega)]) rfl
  .refine bD (λqM=>?_) (λqM=>?_)
   .refine Sz0 ?_;refine Qb ?_ rfl;rw[<-iJ,KaB (show i<p.length by omega),Kar (show q.length<=i by omega),kK]
   .refine Sz0 ?_;exact Qb (by rw[<-iJ,Kar (show p.length<=i by omega),C0,if_pos (by rw[Ka4];omega)]) rfl
 .have au:i=p.length:=Oz;refine bD (λhk=>?_) (λhk=>?_)
  .refine Sz0 ?_;exact Qb (by rw[<-iJ,Kar (show p.length<=i by omega),C0,if_neg (by rw[Ka4];omega)]) rfl
  .refine bD (λqM=>?_) (λqM=>?_)
   .refine Sz0 ?_;refine Qb ?_ rfl;rw[<-iJ,KaB (show i<p.length by omega),Kar (show q.length<=i by omega),kK]
   .refine Sz0 ?_;exact Qb (by rw[<-iJ,Kar (show p.length<=i by omega),C0,if_pos (by rw[Ka4];omega)]) rfl
def Q3t(hp:PB K E p)(hq:PB K E q)(hK:K<=2^33)(hE:E<=2^38)(dC:p.length<=2^36)(nb:q.length<=2^36):AC 12 [PV.aC p,PV.aC q] (· = .bool (decide (p=q))):=by refine aF Qd func12 aqx λC hP=>?_;refine ay hP (Q85 hp hq hK hE dC nb) ?_;refine Sz0 ?_;exact Qb (congrArg PV.bool (decide_eq_decide.2 (Kj hp.last hq.last))) rfl
def Gr(hp:PB K E p)(hq:PB K E q)(hK:K<=2^32)(hE:E<=2^38)(dC:p.length<=2^36)(nb:q.length<=2^36):
  AC 45 [PV.aC p,PV.aC q] (· =PV.aC (Qp p q)):=by
 refine aF Qd func45 aqv λC hP=>?_;refine Sz0 ?_;refine kq 5 900 4 114 Oz Tz0 ?_;refine Qh okB [(5,90)] [9,61,62,75,76,87,88,900] (λn J hp=>∃i k out,n=(p.length-i)+(q.length-k)/\i<=p.length/\k<=q.length/\out.length<=i+k/\out++Qp (p.drop i) (q.drop k)=Qp p q/\
  J 5= .ms 900 out.length/\J 6= .int .i64 (i:Nat)/\J 7= .int .i64 (k:Nat)/\hp 900=some ⟨4,114,out.map PV.term,false⟩) (p.length+q.length) ?_ ?_
 .refine⟨0,0,[],Oz,Oz,Oz,by simp,rfl,?_⟩;refine Sz0 ?_;simp
 rintro _ J h ⟨i,k,out,rfl,hi,hk,iH,fp,h5,h6,h7,hh⟩;refine Sz3 h5 h6 h7 ?_;refine Qo (λhg=>?_) (λhg=>?_)
 .have au:i<p.length:=Oz;refine Sz3 h5 h6 h7 ?_;refine Qm (λh=>by omega) (λ_=>?_);refine iq h5 h6 h7 (λgF=>?_) (λgF=>?_)
  .have cY:k<q.length:=Oz;have dv:=hp.get au;have qT:=hq.get cY;rw[Ph au cY]at fp;have c1:=dv.c;have c2:=qT.c;generalize hx:p[i]=x at *
   generalize hy:q[k]=y at *
   refine kN h5 h6 h7 hx hy hP (Dv dv.m qT.m Oz) ?_;refine Sz5 h5 h6 h7 hx hy ?_;refine Qm (λhc=>?_) (λhc=>?_)
   .rw[if_pos hc]at fp;refine Sz4 h5 h6 h7 hx ?_;rw[Qq (f:=PV.term) (y:=x) (xs:=out) (ty':=114) (fz:=false) (Tz1 hh) Qw Oz rfl Oz Oz];refine Sz4 h5 h6 h7 hx ?_;refine Qe ((p.length-(i+1))+(q.length-k)) Oz ⟨i+1,k,out++[x],rfl,Oz,hk,by simp;omega,by simpa using fp,?_⟩;refine Sz3 h5 h6 h7 ?_;simp
   rw[if_neg hc]at fp;refine Sz5 h5 h6 h7 hx hy ?_;refine Qm (λik=>?_) (λik=>?_)
   .rw[if_pos ik]at fp;refine Sz4 h5 h6 h7 hy ?_;rw[Qq (f:=PV.term) (y:=y) (xs:=out) (ty':=114) (fz:=false) (Tz1 hh) Qw Oz rfl Oz Oz];refine Sz4 h5 h6 h7 hy ?_;refine Qe ((p.length-i)+(q.length-(k+1))) Oz ⟨i,k+1,out++[y],rfl,Oz,Oz,by simp;omega,by simpa using fp,?_⟩;refine Sz3 h5 h6 h7 ?_;simp
   rw[if_neg ik]at fp;have Ow:=o7 x.1 y.1;refine Sz5 h5 h6 h7 hx hy ?_;refine fU ?_ ?_
   all_goals
    refine kN h5 h6 h7 hx hy hP (ajs (a:=x.1) (b:=y.1) (k:=2^32) Oz Oz Oz) ?_;refine kN h5 h6 h7 hx hy hP (L8 (a:=x.1+y.1) Oz) ?_;refine Sz5 h5 h6 h7 hx hy ?_;refine Qm (λhz=>?_) (λhz=>?_)
    .rw[if_neg (λh=>hz (fy.2 h))]at fp;refine Sz5 h5 h6 h7 hx hy ?_;rw[Qq (f:=PV.term) (y:=(x.1+y.1,x.2)) (xs:=out) (ty':=114) (fz:=false) (Tz1 hh) Qw Oz rfl Oz Oz];refine Sz5 h5 h6 h7 hx hy ?_;refine Qe ((p.length-(i+1))+(q.length-(k+1))) Oz ⟨i+1,k+1,out++[(x.1+y.1,x.2)],rfl,Oz,Oz,by simp;omega,by simpa using fp,?_⟩;refine Sz3 h5 h6 h7 ?_;simp
    .rw[if_pos (fy.1 (Decidable.not_not.1 hz))]at fp;refine Sz5 h5 h6 h7 hx hy ?_;refine Qe ((p.length-(i+1))+(q.length-(k+1))) Oz ⟨i+1,k+1,out,rfl,Oz,Oz,Oz,fp,?_⟩;exact Tz4 h5 h6 h7 hh
  .rw[Kar (show q.length<=k by omega),oY,KaB au]at fp;have fp:out++p[i]::Qp (p.drop (i+1)) (q.drop k)=Qp p q:=by rw[Kar (show q.length<=k by omega),oY];exact fp
   generalize hx:p[i]=x at *
   refine Sz4 h5 h6 h7 hx ?_;rw[Qq (f:=PV.term) (y:=x) (xs:=out) (ty':=114) (fz:=false) (Tz1 hh) Qw Oz rfl Oz Oz];refine Sz4 h5 h6 h7 hx ?_;refine Qe ((p.length-(i+1))+(q.length-k)) Oz ⟨i+1,k,out++[x],rfl,Oz,hk,by simp;omega,by simpa using fp,?_⟩;refine Sz3 h5 h6 h7 ?_;simp
 .have au:i=p.length:=Oz;refine iq h5 h6 h7 (λgF=>?_) (λgF=>?_)
  .have cY:k<q.length:=Oz;rw[Kar (show p.length<=i by omega),yE,KaB cY]at fp;have fp:out++q[k]::Qp (p.drop i) (q.drop (k+1))=Qp p q:=by rw[Kar (show p.length<=i by omega),yE];exact fp
   generalize hy:q[k]=y at *
   refine Sz4 h5 h6 h7 hy ?_;refine Qm (λ_=>?_) (λh=>by omega);refine Sz4 h5 h6 h7 hy ?_;rw[Qq (f:=PV.term) (y:=y) (xs:=out) (ty':=114) (fz:=false) (Tz1 hh) Qw Oz rfl Oz Oz];refine Sz4 h5 h6 h7 hy ?_;refine Qe ((p.length-i)+(q.length-(k+1))) Oz ⟨i,k+1,out++[y],rfl,Oz,Oz,by simp;omega,by simpa using fp,?_⟩;refine Sz3 h5 h6 h7 ?_;simp
  .rw[Kar (show p.length<=i by omega),yE,Kar (show q.length<=k by omega),Kai]at fp;refine Vz4 h5 h6 h7 hh ?_;exact Qb (by rw[Kaf (by simp),fp]) rfl
def c84:ax:=⟨97,[.t 8],Zr (YI 8)<|Zr (Yv 15 0<|Yv 17 1<|Zb 19 .add 16 18<|Zo (.mk 20 4 80 114 (.agg [.bool false,.aa,.aa,.aa]) (.c (Zz 0)) (.t 19))<|Zm 9 20 .nil)<|Zr (Zc 10 0<|Yf 11 0)<| .seq (.block 0<| .loop<| .seq (Zr (Yh 21 10 0<|Zn 23 22<|Zb 24 .lss 21 23<|YO 25 24 11<|Zg 25 true (.mv 27 (.t 1))<|Zg 25 true (.len 28 (.t 27))<|Zg 25 true (.bin 29 .lss false (.t 26) (.t 28))<|Ym 30 25 29 .nil)<| .cond (.t 30) .skip (.exit 0))<| .block 1<|Zr (dq 31 2 0 10<|YG 34 4 32 33<|Yh 36 1 11<|YG 38 4 36 37<|Zo (.call (some 40) false (.t 31) [.t 35,.t 39])<|Yc 12 40)<| .block 2<|Zr (Zm 64 12<|Zk 65 .gtr 64 0<|Zm 63 65 .nil)<| .cond (.t 63) (Zr (dq 66 9 0 10<|YG 69 4 67 68<|Zo (.bs 71 4 114 [.t 70])<|Zo (.app 72 4 80 114 (.t 66) (.t 71))<|Yc 9 72)<| .rg (fO 73 10)) (Zr (BC 76 12<|Zm 75 77 .nil)<| .cond (.t 75) (Zr (dq 78 9 1 11<|YG 81 4 79 80<|YA 83 4 114 82 80 78<|Yc 9 84)<| .rg (fO 85 11)) (.seq (Zr (dq 42 3 0 10<|YG 45 4 43 44<|Yh 47 1 11<|YG 49 4 47 48<| .br (Zo (.call (some 51) true (.t 42) [.t 46,.t 50])<|Zm 41 51<|Yd 52 41<|Zo (.alloc 13 4 114 (.agg [.bool false,.aa,.aa,.aa]))<|Zs 4 13 52<|Yc 14 53) (Zo (.alloc 13 4 114 (.agg [.bool false,.aa,.aa,.aa]))<|Zo (.call (some 51) true (.t 42) [.t 46,.t 50])<|Zm 41 51<|kA 52 41 4 13 14))<|Zr (Yc 54 14)<| .cond (.t 54) (.rg (Zm 55 9<|Zh 56 4 13<|YA 57 4 114 56 80 55<|Yc 9 58)) .skip)<|Zr (fO 59 10)<| .rg (fO 61 11))))<|Zr (qu 87 9 0 10 9)<|Zr (qu 92 9 1 11 8) .ret⟩
def arj:Qc Tryz.prog f84=some c84:=by kernel_rfl
def c85:ax:=⟨10,[.t 4],Zr (jA 2 114 0<|uu 3 114 1<|Yf 4 0)<|Zr (dW 5 3 2 3 3<|Zq 9 false 158 [.t 6,.t 8,.c (Zz 0)]<|Zm 4 9 .nil) .ret⟩
def TW:Qc Tryz.prog f85=some c85:=by kernel_rfl
def c86:ax:=⟨19,[.cell 4 4 true,.t 5],Zr (jA 2 114 0<|uu 3 114 1<|Zo (.alloc 4 4 114 (.agg [.bool false,.aa,.aa,.aa]))<|Yl 5)<|Zr (cM 7 0 2 3<|cM 9 0 3 3<|Yp 11 64 8 10<|Ye 6<|Zs 3 6 11 .nil)<|Zr (Zh 12 3 6<|Ya 13 3 2<|YP 15 12 14<|Zh 16 3 6<|Zq 17 true 19 [.t 16]<|Zk 18 .neq 17 0<|Zs 4 4 15<|Yc 5 18) .ret⟩
def ark:Qc Tryz.prog f86=some c86:=by kernel_rfl
def atS:ax:=⟨25,[.t 2],Zr (YI 2)<| .seq (Zr (Yv 4 0 .nil)<| .block 0<|Zr (Yq 7 5 0 6)<| .cond (.t 6) (Zr (YI 2) .ret) (Zr (Yq 9 5 1 8)<| .cond (.t 8) (Zr (Yo 10 0 1 0<|Zl 12 1 11<|Zm 2 12 .nil) .ret) .skip))<|Zr (Yv 13 0<|Zk 15 .quo 14 2<|Zm 3 15 .nil)<|Zr (Yh 16 0 3<|BD 18 1 16 17<|Yh 20 0 3<|Zo (.sl 22 1 (.t 20) (some (.t 21)) none none)<|Yn 19 265 18<|Yn 23 265 22<|Yp 24 40 19 23<|Yc 2 24) .ret⟩
def SP:Qc Tryz.prog f265=some atS:=by kernel_rfl
def aua:ax:=⟨12,[.t 4],Zr (uu 2 49 0<|YI 4)<| .seq (Zr (iB 5 3 2 19<|BA 7 6 0)<| .cond (.t 7) (Zr (YI 4) .ret) .skip)<|Zr (sV 8 3 2 1<|YP 10 8 9<|Zo (.bs 11 4 114 [.t 10])<|Zm 4 11 .nil) .ret⟩
def anr:Qc Tryz.prog f284=some aua:=by kernel_rfl
def c98:ax:=⟨43,[.t 2],Zr (Yl 2)<| .seq (Zr (dS 5 0)<| .block 0<| .loop<|Zr (Yu 8 7 6)<| .seq (.cond (.t 8) .skip (.exit 0))<| .seq (.block 1<|Zr (Zm 9 7<|YG 10 4 5 7<|Zo (.alloc 4 4 114 (.agg [.bool false,.aa,.aa,.aa]))<|Zm 3 9<|Zs 4 4 11 .nil)<|Zr (cM 12 0 4 3<|nQ 14 77 13<|Zu 15 14<|Zm 16 15<|Zg 16 false (.dI 17 0 (.t 4))<|Zg 16 false (.ld 18 3 true (.t 17))<|Zg 16 false (.call (some 19) true (.c (.fn 19 [] [])) [.t 18])<|Zg 16 false (.bin 20 .eql false (.t 19) (.c (Zz 0)))<|Yk 21 16 20<|Yx 22 21 3 4<|Zg 22 false (.call (some 25) true (.c (.fn 178 [] [])) [.t 24])<|Zg 22 false (.un 26 .not (.t 25))<|Yk 27 22 26<|YE 28 27 3<|Zg 28 false (.bin 30 .gtr false (.t 29) (.c (Zz 0)))<|Zg 28 false (.mv 31 (.t 30))<|Zg 31 true (.mv 32 (.t 0))<|Zg 31 true (.mv 33 (.t 3))<|Zg 31 true (.bin 34 .sub false (.t 33) (.c (Zz 1)))<|Zg 31 true (.idx 35 4 (.t 32) (.t 34))<|Zg 31 true (.ld 36 4 true (.t 35))<|Zg 31 true (.ld 37 4 true (.t 4))<|Zg 31 true (.call (some 38) true (.c (.fn 85 [] [])) [.t 36,.t 37])<|Zg 31 true (.bin 39 .leq false (.t 38) (.c (Zz 0)))<|Zg 28 false (.pick 40 (.t 31) (.t 39) (.c (.bool false)))<|xy 41 28 40)<| .cond (.t 41) (Zr (Yl 2) .ret) .skip)<| .rg (YC 42 7 7))<|Zr (By 2) .ret⟩
def arl:Qc Tryz.prog f98=some c98:=by kernel_rfl
def as7:ax:=⟨54,[.t 2],Zr (YI 2)<|Zr (YI 3)<| .seq (Zr (dS 8 0)<| .block 0<| .loop<|Zr (Yu 11 10 9)<| .seq (.cond (.t 11) .skip (.exit 0))<| .seq (.block 1<|Zr (YL 12 8 10 5 114)<|Zr (YT 14 3 5<|Zm 6 16 .nil)<| .seq (.block 2<| .loop<| .seq (Zr (Zm 17 6<|Zk 18 .gtr 17 0<|Zm 19 18<|YK 19 3 5<|Zg 19 true (.mv 22 (.t 6))<|Zg 19 true (.bin 23 .sub false (.t 22) (.c (Zz 1)))<|Zg 19 true (.idx 24 1 (.t 21) (.t 23))<|Zg 19 true (.ld 25 1 false (.t 24))<|Zg 19 true (.bin 26 .eql false (.t 25) (.c (Zz 0)))<|Ym 27 19 26 .nil)<| .cond (.t 27) .skip (.exit 2))<| .block 3<| .rg (DW 28 6))<| .seq (Zr (eF 30 3 5 6<|BD 33 1 31 32<|Yn 34 178 33<|Zu 35 34 .nil)<| .cond (.t 35) (.exit 1) .skip)<|Zr (cM 36 0 5 3<|Ya 40 3 5<|Zq 38 true 35 [.c (Zz 0)]<|Ys 39 64 37 38<|nQ 42 285 41<|Ys 43 284 39 42<|Yc 7 43)<|Zr (Yv 44 7<|Zk 46 .gtr 45 0 .nil)<| .cond (.t 46) (.rg (Yh 47 3 7<|YA 49 1 29 48 24 47<|Yc 3 50)) .skip)<| .rg (YC 51 10 10))<|Zr (YJ 52 3 265<|Yc 2 53) .ret⟩
def ans:Qc Tryz.prog f185=some as7:=by kernel_rfl
def atQ:ax:=⟨19,[.t 2],Zr (YI 2)<| .seq (Zr (BC 4 0<|YE 6 5 0<|Zg 6 false (.bin 8 .geq false (.t 7) (.c (Zz 64)))<|xy 9 6 8)<| .cond (.t 9) (Zr (YI 2) .ret) .skip)<|Zr (Zm 10 0<|Zk 11 .add 10 1<|Zo (.mk 12 1 8 3 (Zz 0) (.t 11) (.t 11))<|Zm 3 12 .nil)<|Zr (Yh 13 3 0<|Zi 15 1 13 14<|Zo (.st 1 (.t 15) (.c (Zz 1))) .nil)<|Zr (Zq 16 false 35 [.c (Zz 1)]<|Zm 17 3<|Yp 18 284 16 17<|Yc 2 18) .ret⟩
def ant:Qc Tryz.prog f264=some atQ:=by kernel_rfl
def asq:ax:=⟨9,[.t 4],Zr (Yl 4)<|Zr (YZ 5 0 1 249<|Yq 8 7 0 4) .ret⟩
def anu:Qc Tryz.prog f130=some asq:=by kernel_rfl
def atz:ax:=⟨10,[.t 4],Zr (Yf 4 0)<|Zr (Zo (.mv 5 (.c (.fn 336 [] []))) .nil)<|Zr (dq 6 0 1 5<|mY 9 338 6 7 8<|Zm 4 9 .nil) .ret⟩
def anv:Qc Tryz.prog f249=some atz:=by kernel_rfl
def auu:ax:=⟨17,[.t 4],Zr (jA 2 114 0<|uu 3 114 1<|Yf 4 0)<| .seq (Zr (Zh 6 4 2<|Zh 7 4 3<|Yp 8 85 6 7<|Zm 5 8 .nil)<|Zr (YQ 9 5)<| .cond (.t 10) (Zr (kO 11 5 4) .ret) .skip)<|Zr (cM 12 0 2 3<|cM 14 0 3 3<|Yp 16 337 13 15<|Zm 4 16 .nil) .ret⟩
def anw:Qc Tryz.prog f336=some auu:=by kernel_rfl
def c82:ax:=⟨6,[.t 2],Zr (YI 2)<|Zr (Zm 3 0<|Zq 4 false 35 [.c (Zz (-1))]<|Yp 5 37 3 4<|Zm 2 5 .nil) .ret⟩
def arn:Qc Tryz.prog f82=some c82:=by kernel_rfl
def c40:ax:=⟨8,[.t 4],Zr (YI 4)<|Zr (Yh 5 0 1<|Zq 7 false 84 [.t 5,.t 6,.c (.fn 85 [] []),.c (.fn 86 [] [])]<|Zm 4 7 .nil) .ret⟩
def aro:Qc Tryz.prog f40=some c40:=by kernel_rfl
def c36:ax:=⟨9,[.t 4],Zr (YI 4)<|Zr (Yh 5 0 1<|Yn 7 82 6<|Yp 8 40 5 7<|Zm 4 8 .nil) .ret⟩
def arp:Qc Tryz.prog f36=some c36:=by kernel_rfl
def c83:ax:=⟨38,[.t 4],Zr (uu 3 114 1<|YI 4)<|Zr (Yv 9 0<|Zo (.mk 11 4 80 114 (.agg [.bool false,.aa,.aa,.aa]) (.c (Zz 0)) (.t 10))<|Zm 5 11 .nil)<| .seq (Zr (dS 12 0)<| .block 0<| .loop<|Zr (Yu 15 14 13)<| .seq (.cond (.t 15) .skip (.exit 0))<| .seq (.block 1<|Zr (YL 16 12 14 7 114)<|Zr (cM 18 0 7 3<|cM 20 0 3 3<|Yp 22 67 19 21<|Ye 8<|iR 3 22)<|Zr (iB 23 3 8 19<|Zk 25 .neq 24 0 .nil)<| .cond (.t 25) (.rg (Zm 26 5<|Zh 27 3 8<|dW 28 3 7 3 3<|Ys 32 157 29 31<|YP 33 27 32<|YA 34 4 114 33 80 26<|Yc 5 35)) .skip)<| .rg (YC 36 14 14))<|Zr (MZ 37 5 4) .ret⟩
def arq:Qc Tryz.prog f83=some c83:=by kernel_rfl
def asG:ax:=⟨33,[.t 4],Zr (YI 4)<| .seq (Zr (Yv 8 0<|Yv 10 1<|Zb 12 .gtr 9 11 .nil)<| .cond (.t 12) (.rg (Yh 13 1 0<|ic 0 13 14)) .skip)<|Zr (Yv 15 0<|Zo (.mk 17 1 24 29 .aa (.c (Zz 0)) (.t 16))<|Zm 5 17 .nil)<| .seq (Zr (dS 18 0)<| .block 0<| .loop<|Zr (Yu 21 20 19)<| .seq (.cond (.t 21) .skip (.exit 0))<| .seq (.block 1<|Zr (YL 22 18 20 7 114)<| .rg (Yh 24 5 1<|Zh 26 4 7<|Yp 27 83 25 26<|Zo (.bs 28 1 29 [.t 27])<|Zo (.app 29 1 24 29 (.t 24) (.t 28))<|Yc 5 29))<| .rg (YH 30 20 20))<|Zr (YJ 31 5 265<|Yc 4 32) .ret⟩
def anx:Qc Tryz.prog f151=some asG:=by kernel_rfl
def c37:ax:=⟨12,[.t 4],Zr (my 3 49 1<|YI 4)<| .seq (Zr (iB 5 3 3 19<|BA 7 6 0)<| .cond (.t 7) (Zr (YI 4) .ret) .skip)<|Zr (Zm 8 0<|Zh 9 3 3<|Zo (.cD 10 [.bool false,.aa,.aa,.aa] [(0,3,.t 9)])<|Yp 11 83 8 10<|Zm 4 11 .nil) .ret⟩
def art:Qc Tryz.prog f37=some c37:=by kernel_rfl
def c99:ax:=⟨19,[.t 2],Zr (Yf 2 0)<|Zr (uq 3)<| .seq (Zr (dS 6 0)<| .block 0<| .loop<|Zr (Yu 9 8 7)<| .seq (.cond (.t 9) .skip (.exit 0))<| .seq (.block 1<|Zr (YL 10 6 8 5 114)<| .rg (Zm 12 3<|Ya 13 3 5<|Yn 15 179 14<|Zo (.mx 16 (.t 12) (.t 15))<|Yc 3 16))<| .rg (YH 17 8 8))<|Zr (MZ 18 3 2) .ret⟩
def aru:Qc Tryz.prog f99=some c99:=by kernel_rfl
def as3:ax:=⟨47,[.t 2],Zr (YI 2)<|Zr (Zo (.alloc 3 64 264 (.agg [.bool false,.bool false,.bool false,.bool false,.bool false,.bool false,.bool false,.bool false,.bool false,.bool false,.bool false,.bool false,.bool false,.bool false,.bool false,.bool false,.bool false,.bool false,.bool false,.bool false,.bool false,.bool false,.bool false,.bool false,.bool false,.bool false,.bool false,.bool false,.bool false,.bool false,.bool false,.bool false,.bool false,.bool false,.bool false,.bool false,.bool false,.bool false,.bool false,.bool false,.bool false,.bool false,.bool false,.bool false,.bool false,.bool false,.bool false,.bool false,.bool false,.bool false,.bool false,.bool false,.bool false,.bool false,.bool false,.bool false,.bool false,.bool false,.bool false,.bool false,.bool false,.bool false,.bool false,.bool false])) .nil)<| .seq (Zr (dS 11 0)<| .block 0<| .loop<|Zr (Yu 14 13 12)<| .seq (.cond (.t 14) .skip (.exit 0))<| .seq (.block 1<|Zr (YL 15 11 13 5 114)<|Zr (YT 17 3 5<|Yf 20 0)<| .block 2<| .loop<|Zr (Yu 21 20 19)<| .seq (.cond (.t 21) .skip (.exit 2))<| .seq (.block 3<|Zr (Zm 22 20<|Yw 23 18 20<|ic 6 22 24)<|Zr (Zm 25 7<|Zk 26 .neq 25 0<|YO 27 26 6<|Zg 27 true (.bin 29 .lss false (.t 28) (.c (Zz 64)))<|Ym 30 27 29 .nil)<| .cond (.t 30) (.rg (Zm 31 6<|Zo (.qW 32 64 1 (.t 3) (.t 31))<|Zo (.st 1 (.t 32) (.c (.bool true))) .nil)) .skip)<| .rg (YC 33 20 20))<| .rg (YC 34 13 13))<|Zr (YI 8)<| .seq (Zr (Zh 35 64 3<|Yf 36 0)<| .block 4<| .loop<|Zr (Zk 37 .lss 36 64 .nil)<| .seq (.cond (.t 37) .skip (.exit 4))<| .seq (.block 5<|Zr (Zm 38 36<|Zo (.B3 39 64 1 false (.t 35) (.t 36))<|ic 9 38 39)<|Zr (Yc 40 10)<| .cond (.t 40) (.rg (Yh 41 8 9<|YA 43 1 3 42 8 41<|Yc 8 44)) .skip)<| .rg (YH 45 36 36))<|Zr (MZ 46 8 2) .ret⟩
def anz:Qc Tryz.prog f180=some as3:=by kernel_rfl
def auP:ax:=⟨23,[.cell 4 3 true],Zr (uu 2 49 0<|Ye 4 .nil)<|Zr (Zq 6 false 35 [.c (Zz 1)]<|Ye 5<|Zs 3 5 6 .nil)<| .seq (.block 0<| .loop<| .seq (Zr (Zm 7 1<|Zk 8 .gtr 7 0 .nil)<| .cond (.t 8) .skip (.exit 0))<| .seq (.block 1<| .seq (Zr (Zm 11 1<|Zk 12 .rem 11 2<|BA 13 12 1)<| .cond (.t 13) (.rg (Zh 14 3 5<|Zh 15 3 2<|Yp 16 67 14 15<|Zs 3 5 16 .nil)) .skip)<|Zr (Zm 17 1<|Zk 18 .gtr 17 1 .nil)<| .cond (.t 18) (.rg (Zh 19 3 2<|Zh 20 3 2<|Yp 21 67 19 20<|Zs 3 2 21 .nil)) .skip)<| .rg (Zm 9 1<|Zk 10 .quo 9 2<|Zm 1 10 .nil))<|Zr (Zh 22 3 5<|Zs 3 4 22 .nil) .ret⟩
def anA:Qc Tryz.prog f366=some auP:=by kernel_rfl
def auG:ax:=⟨61,[.cell 4 3 true,.t 5],Zr (Ye 4<|Yf 5 0)<| .seq (Zr (dS 14 0)<| .block 0<| .loop<|Zr (Yu 17 16 15)<| .seq (.cond (.t 17) .skip (.exit 0))<| .seq (.block 1<|Zr (YL 18 14 16 7 114)<|Zr (Ya 20 3 7<|Yn 22 365 21<|Yv 23 1<|Zb 25 .geq 22 24 .nil)<| .cond (.t 25) (Zr (Zo (.cD 26 [.bool false,.aa,.aa] [])<|Zs 3 4 26<|Yf 5 2) .ret) .skip)<| .rg (YH 27 16 16))<|Zr (Zq 28 false 35 [.c (Zz 0)]<|Ye 8<|iR 3 28)<| .seq (Zr (dS 29 0)<| .block 2<| .loop<|Zr (Yu 32 31 30)<| .seq (.cond (.t 32) .skip (.exit 2))<| .seq (.block 3<|Zr (YL 33 29 31 10 114)<|Zr (cM 35 0 10 3<|Ye 11<|Zs 3 11 36 .nil)<| .seq (Zr (YT 37 3 10<|Yf 40 0)<| .block 4<| .loop<|Zr (Yu 41 40 39)<| .seq (.cond (.t 41) .skip (.exit 4))<| .seq (.block 5<|Zr (Zm 42 40<|Yw 43 38 40<|ic 12 42 44)<|Zr (Zm 45 13<|Zk 46 .gtr 45 0 .nil)<| .cond (.t 46) (.rg (Zh 47 3 11<|Yh 48 1 12<|YG 50 3 48 49<|Zm 52 13<|Ys 53 366 51 52<|uo 54 67 47 53 3 11)) .skip)<| .rg (YC 55 40 40))<| .rg (Zh 56 3 8<|Zh 57 3 11<|Zq 58 false 64 [.t 56,.t 57]<|iR 3 58))<| .rg (YC 59 31 31))<|Zr (Zh 60 3 8<|Zs 3 4 60<|Yf 5 0) .ret⟩
def anB:Qc Tryz.prog f349=some auG:=by kernel_rfl
def auw:ax:=⟨39,[.t 6],Zr (Yf 6 0)<| .seq (Zr (dS 11 0)<| .block 0<| .loop<|Zr (Yu 14 13 12)<| .seq (.cond (.t 14) .skip (.exit 0))<| .seq (.block 1<|Zr (Zm 15 13<|YG 16 4 11 13<|Zo (.alloc 8 4 114 (.agg [.bool false,.aa,.aa,.aa]))<|Zm 7 15<|Zs 4 8 17 .nil)<| .seq (Zr (Yh 18 7 1<|Zn 20 19<|Zb 21 .geq 18 20 .nil)<| .cond (.t 21) (Zr (Yf 6 1) .ret) .skip)<|Zr (Yh 22 1 7<|YL 24 22 23 9 114)<|Zr (Zm 26 2<|Zh 27 4 8<|Zh 28 4 9<|Zo (.call (some 29) false (.t 26) [.t 27,.t 28])<|Yc 10 29)<|Zr (YQ 30 10)<| .cond (.t 31) (Zr (MZ 32 10 6) .ret) .skip)<| .rg (YC 33 13 13))<| .seq (Zr (Yv 34 0<|Yv 36 1<|Yu 38 35 37)<| .cond (.t 38) (Zr (uq 6) .ret) .skip)<|Zr (Yf 6 0) .ret⟩
def anC:Qc Tryz.prog f338=some auw:=by kernel_rfl
def c87:ax:=⟨9,[.t 4],Zr (Yl 4)<|Zr (YZ 5 0 1 159<|Zk 8 .geq 7 0<|Zm 4 8 .nil) .ret⟩
def arv:Qc Tryz.prog f87=some c87:=by kernel_rfl
def c89:ax:=⟨9,[.t 4],Zr (Yl 4)<|Zr (YZ 5 0 1 160<|Zk 8 .geq 7 0<|Zm 4 8 .nil) .ret⟩
def arw:Qc Tryz.prog f89=some c89:=by kernel_rfl
def asL:ax:=⟨19,[.t 4],Zr (Yf 4 0)<| .seq (Zr (dS 6 0)<| .block 0<| .loop<|Zr (Yu 9 8 7)<| .seq (.cond (.t 9) .skip (.exit 0))<| .seq (.block 1<|Zr (kO 10 8 5)<|Zr (dq 11 1 0 5<|YG 14 4 12 13<|Zo (.call (some 16) false (.t 11) [.t 15]) .nil)<| .cond (.t 16) (Zr (MZ 17 5 4) .ret) .skip)<| .rg (YH 18 8 8))<|Zr (uq 4) .ret⟩
def anD:Qc Tryz.prog f159=some asL:=by kernel_rfl
def asM:ax:=⟨19,[.t 4],Zr (Yf 4 0)<| .seq (Zr (dS 6 0)<| .block 0<| .loop<|Zr (Yu 9 8 7)<| .seq (.cond (.t 9) .skip (.exit 0))<| .seq (.block 1<|Zr (kO 10 8 5)<|Zr (dq 11 1 0 5<|Yw 14 12 13<|Zo (.call (some 16) false (.t 11) [.t 15]) .nil)<| .cond (.t 16) (Zr (MZ 17 5 4) .ret) .skip)<| .rg (YH 18 8 8))<|Zr (uq 4) .ret⟩
def anE:Qc Tryz.prog f160=some asM:=by kernel_rfl
variable{s t:Tm}
def tY{b:Rat}(ha:rs a<=k)(hb:rs b<=k)(hk:k<2^36):AC 64 [PV.rat a,PV.rat b] (· =PV.rat (a+b)):=by
 have:=Mn (jf ha) (jf hb) hk
 rwa[gm,gm]at this
def nI{b:Rat}(ha:rs a<=k)(hb:rs b<=k)(hk:k<2^36):AC 67 [PV.rat a,PV.rat b] (· =PV.rat (a*b)):=by
 have:=ahI (jf ha) (jf hb) hk
 rwa[gm,gm]at this
def aeH{b:Rat}(ha:rs a<=k)(hb:rs b<=k)(hk:k<2^36):AC 337 [PV.rat a,PV.rat b] (· = .int .i64 (qn a b)):=by
 have:=P6 (jf ha) (jf hb) hk
 rwa[gm,gm]at this
def am3{b:Rat}(ha:rs a<=k)(hb:rs b<=k)(hk:k<2^36):AC 345 [PV.rat a,PV.rat b] (· = .bool (decide (a=b))):=by
 have:=Vw (jf ha) (jf hb) hk
 rwa[gm,gm]at this
def o8(ha:rs a<2^36):AC 19 [PV.rat a] (· = .int .i64 (ji a)):=by
 have:=CE (jf (Kag (rs a))) ha
 rwa[gm]at this
def WR(hs:MB E s.2)(ht:MB E t.2)(hE:E<=2^38):AC 85 [PV.term s,PV.term t] (· = .int .i64 (bC s.2 t.2)):=by refine aF Qd func85 TW λC hP=>?_;refine ay hP (LZ (o:=0) hs ht Oz) ?_;refine Sz0 ?_;exact Qb (by rw[HN]) rfl
def Q6k(hs:rs s.1<=k)(ht:rs t.1<=k)(hk:k<2^34):AC 86 [PV.term s,PV.term t] (· = .aI [PV.term (s.1+t.1,s.2),.bool (decide (¬s.1+t.1=0))]):=by have hr:=o7 s.1 t.1;refine aF Qd func86 ark λC hP=>?_;refine ay hP (tY (a:=s.1) (b:=t.1) hs ht Oz) ?_;refine ay hP (o8 (a:=s.1+t.1) Oz) ?_;refine Sz0 ?_;refine nH ?_;refine Sz0 ?_;exact ek rfl rfl rfl (Qi _) (wQ (congrArg PV.bool (decide_eq_decide.2 (not_congr fy))))
def Lm{c:Rat}{m:List Int}(hc:rs c<2^36):AC 284 [PV.rat c,PV.mono m] (· =PV.aC (if c=0 then []else [(c,m)])):=by
 refine aF Qd func284 anr λC hP=>?_;refine ay hP (o8 (a:=c) hc) ?_;refine bD (λh0=>?_) (λh0=>?_)
 .rw[if_pos (fy.1 h0)];refine Sz0 ?_;exact od yF rfl
 .rw[if_neg (λh=>h0 (fy.2 h))];refine de ?_;exact Qb rfl rfl
def Q6l(hp:PB K E p)(hq:PB K E q)(hK:K<=2^33)(hE:E<=2^38)(dC:p.length<=2^36)(nb:q.length<=2^36):
  AC 84 [PV.aC p,PV.aC q,.fn 85 [] [],.fn 86 [] []] (· =PV.aC (Qp p q)):=by
 refine aF Qd func84 arj λC hP=>?_;refine Sz0 ?_;refine Qh eO [(9,14),(21,86)] [13,20,57,58,71,72,83,84] (λn J hp=>∃i k out,n=(p.length-i)+(q.length-k)/\i<=p.length/\k<=q.length/\out.length<=i+k/\out++Qp (p.drop i) (q.drop k)=Qp p q/\
  J 9= .ms 20 out.length/\J 10= .int .i64 (i:Nat)/\J 11= .int .i64 (k:Nat)/\hp 20=some ⟨4,114,out.map PV.term,false⟩) (p.length+q.length) ?_ ?_
 .refine⟨0,0,[],Oz,Oz,Oz,by simp,rfl,?_⟩;refine Sz0 ?_;simp
 rintro _ J h ⟨i,k,out,rfl,hi,hk,iH,fp,h9,bp,cE,hh⟩;refine Sz3 h9 bp cE ?_;refine fJ (λhg=>?_) (λhg=>?_)
 .have au:i<p.length:=Oz;refine iq h9 bp cE (λgF=>?_) (λgF=>?_)
  .have cY:k<q.length:=Oz;have dv:=hp.get au;have qT:=hq.get cY;rw[Ph au cY]at fp;have c1:=dv.c;have c2:=qT.c;generalize hx:p[i]=x at *
   generalize hy:q[k]=y at *
   refine kN h9 bp cE hx hy hP (WR (s:=x) (t:=y) dv.m qT.m hE) ?_;refine Sz5 h9 bp cE hx hy ?_;refine Qm (λhc=>?_) (λhc=>?_)
   .rw[if_pos hc]at fp;refine Sz5 h9 bp cE hx hy ?_;rw[Qq (f:=PV.term) (y:=x) (xs:=out) (ty':=114) (fz:=false) (Tz1 hh) Qw Oz rfl Oz Oz];refine Sz5 h9 bp cE hx hy ?_;refine Qe ((p.length-(i+1))+(q.length-k)) Oz ⟨i+1,k,out++[x],rfl,Oz,hk,by simp;omega,by simpa using fp,?_⟩;refine Sz3 h9 bp cE ?_;simp
   rw[if_neg hc]at fp;refine Sz5 h9 bp cE hx hy ?_;refine Qm (λik=>?_) (λik=>?_)
   .rw[if_pos ik]at fp;refine Sz5 h9 bp cE hx hy ?_;rw[Qq (f:=PV.term) (y:=y) (xs:=out) (ty':=114) (fz:=false) (Tz1 hh) Qw Oz rfl Oz Oz];refine Sz5 h9 bp cE hx hy ?_;refine Qe ((p.length-i)+(q.length-(k+1))) Oz ⟨i,k+1,out++[y],rfl,hi,Oz,by simp;omega,by simpa using fp,?_⟩;refine Sz3 h9 bp cE ?_;simp
   rw[if_neg ik]at fp;refine Sz5 h9 bp cE hx hy ?_;refine fU ?_ ?_
   all_goals
    refine kN h9 bp cE hx hy hP (Q6k (s:=x) (t:=y) (k:=2^33) Oz Oz Oz) ?_;refine Sz5 h9 bp cE hx hy ?_;refine Qm (λhz=>?_) (λhz=>?_)
    .rw[if_neg hz]at fp;refine Sz5 h9 bp cE hx hy ?_;rw[Qq (f:=PV.term) (y:=(x.1+y.1,x.2)) (xs:=out) (ty':=114) (fz:=false) (Tz1 hh) Qw Oz rfl Oz Oz];refine Sz5 h9 bp cE hx hy ?_;refine Qe ((p.length-(i+1))+(q.length-(k+1))) Oz ⟨i+1,k+1,out++[(x.1+y.1,x.2)],rfl,Oz,Oz,by simp;omega,by simpa using fp,?_⟩;refine Sz3 h9 bp cE ?_;simp
    .rw[if_pos (Decidable.not_not.1 hz)]at fp;refine Sz5 h9 bp cE hx hy ?_;refine Qe ((p.length-(i+1))+(q.length-(k+1))) Oz ⟨i+1,k+1,out,rfl,Oz,Oz,Oz,fp,?_⟩;exact Tz4 h9 bp cE hh
  .have cX:(out++p.drop i++q.drop k).take (out.length+(p.drop i).length+(q.drop k).length)=Qp p q:=by rw[Kaf (by simp;omega),<-fp,Kar (by omega:q.length<=k),oY,Kai]
   refine Sz3 h9 bp cE ?_;rw[oZ (f:=PV.term) (xs:=out) (ys:=p.drop i) (Tz1 hh) rfl Oz (by simp;omega) (by simp;omega)];refine Sz3 h9 bp cE ?_;rw[oZ (f:=PV.term) (xs:=out++p.drop i) (ys:=q.drop k) Tz0 (by simp) Oz (by simp;omega) (by simp;omega)];refine ze h9 bp cE ?_;exact Qb (by rw[<-List.map_take,cX]) rfl
 .have cX:(out++p.drop i++q.drop k).take (out.length+(p.drop i).length+(q.drop k).length)=Qp p q:=by rw[Kaf (by simp;omega),<-fp,Kar (by omega:p.length<=i),yE,Kai]
  refine Sz3 h9 bp cE ?_;rw[oZ (f:=PV.term) (xs:=out) (ys:=p.drop i) (Tz1 hh) rfl Oz (by simp;omega) (by simp;omega)];refine Sz3 h9 bp cE ?_;rw[oZ (f:=PV.term) (xs:=out++p.drop i) (ys:=q.drop k) Tz0 (by simp) Oz (by simp;omega) (by simp;omega)];refine ze h9 bp cE ?_;exact Qb (by rw[<-List.map_take,cX]) rfl
def Gu(hp:PB K E p)(hq:PB K E q)(hK:K<=2^33)(hE:E<=2^38)(dC:p.length<=2^36)(nb:q.length<=2^36):
  AC 40 [PV.aC p,PV.aC q] (· =PV.aC (Qp p q)):=by
 refine aF Qd func40 aro λC hP=>?_;refine ay hP (Q6l hp hq hK hE dC nb) ?_;exact cf
def L0(hE:E<=2^38):∀(n:Nat)(l:List (List Tm)),l.length<=n->(∀p∈l,PB K E p)->l.length*K<=2^33->l.length<=2^36->rI l<=2^36->AC 265 [PV.ayE l] (· =PV.aC (hO l)):=by
 intro n;induction n with
 |zero=>intro l hl _ _ _ _;have:l=[]:=KaE.1 Oz;subst this;refine aF Qd func265 SP λC hP=>?_;simp+decide (disch:=first|omega|rfl|(simp+decide only[go_sem,Kbs,Kbm]<;>rfl)|fail) only[go_sem,Kbs,Kbm];exact od (CK (by rw[hO])) rfl
 | succ n ih=>
  intro l hl hb hK mB bx;refine aF Qd func265 SP λC hP=>?_;refine bD (λh0=>?_) (λh0=>?_)
  .have:l=[]:=KaE.1 Oz;subst this;refine Sz0 ?_;exact od (CK (by rw[hO])) rfl
  refine bD (λh1=>?_) (λh1=>?_)
  .obtain⟨p,rfl⟩:∃p,l=[p]:=KcB.1 Oz;simp+decide (disch:=first|omega|rfl|(simp+decide only[go_sem,Ka3,Kbs]<;>rfl)|fail) only[go_sem,Ka3,Kbs];exact Qb (by rw[hO];rfl) rfl
  have h2:2<=l.length:=Oz;have hs:=VW l (l.length/2);have e:(2:Int)=((2:Nat):Int):=rfl;have hq:∀d fr hp K,cJ .quo false (.int .i64 (l.length:Int)) (.int .i64 2) d fr hp K=K (ae fr d (.int .i64 ((l.length/2:Nat):Int))) hp:=λd fr hp K=>by rw[e,Ht Oz Oz]
  have b1:=LV (K:=K) (E:=E) _ (l.take (l.length/2)) (Kag _) (λp hp=>hb p (Kby hp));have b2:=LV (K:=K) (E:=E) _ (l.drop (l.length/2)) (Kag _) (λp hp=>hb p (Kb2 hp));have l1:(l.take (l.length/2)).length*K<=l.length*K:=Kap _ (by rw[Kay];omega);have l2:(l.drop (l.length/2)).length*K<=l.length*K:=Kap _ (by rw[Ka4];omega);refine gE hq hP (ih (l.take (l.length/2)) (by rw[Kay];omega) (λp hp=>hb p (Kby hp)) Oz (by rw[Kay];omega) Oz) ?_;refine gE hq hP (ih (l.drop (l.length/2)) (by rw[Ka4];omega) (λp hp=>hb p (Kb2 hp)) Oz (by rw[Ka4];omega) Oz) ?_;refine gE hq hP (Gu (b1.1.mono (K':=l.length*K) l1 (Kag _)) (b2.1.mono l2 (Kag _)) hK hE Oz Oz) ?_;refine Sz0 ?_;exact Qb (by rw[GJ h2]) rfl
def Lx(h:i<p.length):cr (p.take (i+1)) t=cr (p.take i) t++(if p[i].1*t.1=0 then []else [(p[i].1*t.1,eJ p[i].2 t.2)]):=by rw[Kam h,cr,List.filterMap_append,cr];congr 1;simp only[Kcx,Kcl];split<;>split<;>simp_all
def Lt(hp:PB K E p)(ht:TB K E t)(hK:K<=2^33)(hE:E<=2^38)(dC:p.length<=2^36):
  AC 83 [PV.aC p,PV.term t] (· =PV.aC (cr p t)):=by
 refine aF Qd func83 arq λC hP=>?_;refine Sz0 ?_;refine Qh eO [(5,5),(7,8),(14,36)] [7,8,11,34,35] (λn J hp=>∃i,n=p.length-i/\i<=p.length/\J 5= .ms 11 (cr (p.take i) t).length/\J 14= .int .i64 (i:Nat)/\hp 3=some ⟨4,114,[PV.term t],false⟩/\hp 11=some ⟨4,114,(cr (p.take i) t).map PV.term,false⟩) p.length ?_ ?_
 .refine⟨0,rfl,Oz,?_⟩;refine Sz0 ?_;simp[cr]
 rintro _ J h ⟨i,rfl,hi,h5,fD,cj,IT⟩;refine cH h5 fD (λhg=>?_) (λhg=>?_)
 .have au:i<p.length:=Oz;have dv:=hp.get au;have bl:=Lx (t:=t) au;have hlen:=yr (p.take i) t;rw[Kay]at hlen;have c1:=dv.c;have c2:=ht.c;have ZS:=mO p[i].1 t.1;generalize hx:p[i]=x at *
  refine gy h5 fD cj hx hP (nI (a:=x.1) (b:=t.1) (k:=2^33) Oz Oz Oz) ?_;refine gy h5 fD cj hx hP (o8 (a:=x.1*t.1) Oz) ?_;refine Sz4 h5 fD cj hx ?_;refine Qm (λhz=>?_) (λhz=>?_)
  .rw[if_neg (λh=>hz (fy.2 h))]at bl;refine gy h5 fD cj hx hP (WO dv.m ht.m Oz) ?_;refine Sz4 h5 fD cj hx ?_;rw[Qq (f:=PV.term) (y:=(x.1*t.1,eJ x.2 t.2)) (xs:=cr (p.take i) t) (ty':=114) (fz:=false) (Tz1 IT) Qw Oz rfl Oz Oz];rw[<-bl];refine Sz4 h5 fD cj hx ?_;refine Qe (p.length-(i+1)) Oz ⟨i+1,rfl,Oz,?_⟩;rw[bl];simp+decide (disch:=first|omega|rfl|(simp+decide only[go_sem,h5,fD,cj,Kaz]<;>rfl)|fail) only[go_sem,h5,fD,cj,Kaz]
  .rw[if_pos (fy.1 (Decidable.not_not.1 hz)),Kai]at bl;refine Sz4 h5 fD cj hx ?_;refine Qe (p.length-(i+1)) Oz ⟨i+1,rfl,Oz,?_⟩;rw[bl];exact Tz4 h5 fD cj IT
 .obtain rfl:i=p.length:=by omega
  rw[KaQ]at h5 IT;refine mu h5 IT ?_;exact Qb (by simp[Kaf]) rfl
def Wp(hp:PB K E p)(hq:PB K E q)(hE:E<=2^37)(dC:p.length<=2^30)(nb:q.length<=2^30)(EN:p.length*q.length<=2^36)(hK:min p.length q.length*(K+K)<=2^33)(uz:K<=2^33):
  AC 151 [PV.aC p,PV.aC q] (· =PV.aC (dD p q)):=by
 have main:∀(p q:List Tm),PB K E p->PB K E q->p.length<=2^30->q.length<=2^30->p.length*q.length<=2^36->p.length*(K+K)<=2^33->p.length<=q.length->True:=λ_ _ _ _ _ _ _ _ _=>trivial
 refine aF Qd func151 anx λC hP=>?_;refine bD (λhg=>?_) (λhg=>?_)
 .have cX:vE q p=dD p q:=by rw[dD,if_pos Oz]
  have hK3:q.length*(K+K)<=2^33:=by rw[Kc2 Oz]at hK;exact hK
  have azL:q.length*p.length<=2^36:=by rw[KaU];exact EN
  refine Sz0 ?_;refine Qh eO [(5,5),(7,7),(20,30)] [7,17,28,29] (λn J hp=>∃i,n=q.length-i/\i<=q.length/\J 5= .ms 17 i/\J 20= .int .i64 (i:Nat)/\hp 17=some ⟨1,29,((q.take i).map (cr p)).map PV.aC,false⟩) q.length ?_ ?_
  .refine⟨0,rfl,Oz,?_⟩;refine Sz0 ?_;simp
  rintro _ J h ⟨i,rfl,hi,h5,lY,hh⟩;refine cH h5 lY (λgF=>?_) (λgF=>?_)
  .have au:i<q.length:=Oz;have dv:=hq.get au;have bl:(q.take (i+1)).map (cr p)=(q.take i).map (cr p)++[cr p q[i]]:=by rw[Kam au,KbN];rfl
   generalize hx:q[i]=x at *
   refine eL h5 lY hx hP (Lt (t:=x) hp dv uz Oz Oz) ?_;refine Sz3 h5 lY hx ?_;rw[Qq (f:=PV.aC) (y:=cr p x) (xs:=(q.take i).map (cr p)) (ty':=29) (fz:=false) (Tz1 hh) Qw Oz (by simp;omega) Oz Oz];rw[<-bl];refine Sz3 h5 lY hx ?_;refine Qe (q.length-(i+1)) Oz ⟨i+1,rfl,Oz,?_⟩;exact Tz2 h5 lY
  .obtain rfl:i=q.length:=by omega
   rw[KaQ]at hh;have bx:=Li q p;refine Sz2 h5 hh ?_;refine ko hP (L0 (K:=K+K) (E:=E+E) Oz _ (q.map (cr p)) (Kag _) (λx hx=>by obtain⟨t,ht,rfl⟩:=KaD.1 hx;exact Ay hp (hq t ht)) (by rw[KaC];omega) (by rw[KaC];omega) Oz) (by simp+decide (disch:=try exact E1 hh) only[go_sem,hh,ch,Kak,Kao,Kal,Kaq,Kai];simp[Kaf]) rfl ?_;refine Sz0 ?_;exact Qb (congrArg PV.aC cX) rfl
 .have cX:vE p q=dD p q:=by rw[dD,if_neg Oz]
  have hK3:p.length*(K+K)<=2^33:=by rw[Kb1 Oz]at hK;exact hK
  refine Sz0 ?_;refine Qh eO [(5,5),(7,7),(20,30)] [7,17,28,29] (λn J hp=>∃i,n=p.length-i/\i<=p.length/\J 5= .ms 17 i/\J 20= .int .i64 (i:Nat)/\hp 17=some ⟨1,29,((p.take i).map (cr q)).map PV.aC,false⟩) p.length ?_ ?_
  .refine⟨0,rfl,Oz,?_⟩;refine Sz0 ?_;simp
  rintro _ J h ⟨i,rfl,hi,h5,lY,hh⟩;refine cH h5 lY (λgF=>?_) (λgF=>?_)
  .have au:i<p.length:=Oz;have dv:=hp.get au;have bl:(p.take (i+1)).map (cr q)=(p.take i).map (cr q)++[cr q p[i]]:=by rw[Kam au,KbN];rfl
   generalize hx:p[i]=x at *
   refine eL h5 lY hx hP (Lt (t:=x) hq dv uz Oz Oz) ?_;refine Sz3 h5 lY hx ?_;rw[Qq (f:=PV.aC) (y:=cr q x) (xs:=(p.take i).map (cr q)) (ty':=29) (fz:=false) (Tz1 hh) Qw Oz (by simp;omega) Oz Oz];rw[<-bl];refine Sz3 h5 lY hx ?_;refine Qe (p.length-(i+1)) Oz ⟨i+1,rfl,Oz,?_⟩;exact Tz2 h5 lY
  .obtain rfl:i=p.length:=by omega
   rw[KaQ]at hh;have bx:=Li p q;refine Sz2 h5 hh ?_;refine ko hP (L0 (K:=K+K) (E:=E+E) Oz _ (p.map (cr q)) (Kag _) (λx hx=>by obtain⟨t,ht,rfl⟩:=KaD.1 hx;exact Ay hq (hp t ht)) (by rw[KaC];omega) (by rw[KaC];omega) Oz) (by simp+decide (disch:=try exact E1 hh) only[go_sem,hh,ch,Kak,Kao,Kal,Kaq,Kai];simp[Kaf]) rfl ?_;refine Sz0 ?_;exact Qb (congrArg PV.aC cX) rfl
def ahJ{l:Nat}{a b:List Int}(ha:MB k a)(hb:MB l b)(h1:a.getLast? ≠some 0)(h2:b.getLast? ≠some 0):nM (· + ·) a b=eJ a b:=by
 rw[eJ,Rx];rw[Kbh,tF];intro h;obtain⟨hl,hv⟩:=Kah.1 h;rw[<-mQ hl,Se (by simp)]at hv;rw[tF]at hl;have p1:=(ha.eN (max a.length b.length-1)).1;have p2:=(hb.eN (max a.length b.length-1)).1;by_cases hc:b.length<=a.length
 .apply h1;have e:max a.length b.length-1=a.length-1:=Oz;rw[e]at hv p1 p2;rw[Kbh,Kae Oz,<-mQ Oz];congr 1;omega
 .apply h2;have e:max a.length b.length-1=b.length-1:=Oz;rw[e]at hv p1 p2;rw[Kbh,Kae Oz,<-mQ Oz];congr 1;omega
def Q3u(hp:PB K E p)(ht:TB K E t)(qP:NZ p)(ht0:t.1≠0)(hK:K<=2^33)(hE:E<=2^38)(dC:p.length<=2^36):
  AC 274 [PV.aC p,PV.term t] (· =PV.aC (cr p t)):=by
 refine aF Qd func274 amO λC hP=>?_;refine Sz0 ?_;refine kq 5 900 4 114 Oz Tz0 ?_;refine Qh okB [(5,32)] [31,32,900] (λn J hp=>∃i,n=p.length-i/\i<=p.length/\J 5= .ms 900 (cr (p.take i) t).length/\J 6= .int .i64 (i:Nat)/\hp 3=some ⟨4,114,[PV.term t],false⟩/\hp 900=some ⟨4,114,(cr (p.take i) t).map PV.term,false⟩) p.length ?_ ?_
 .refine⟨0,rfl,Oz,?_⟩;refine Sz0 ?_;simp[cr]
 rintro _ J h ⟨i,rfl,hi,h5,h6,cj,hh⟩;refine cH h5 h6 (λhg=>?_) (λhg=>?_)
 .have au:i<p.length:=Oz;have dv:=hp.get au;have bl:=Lx (t:=t) au;have hlen:=yr (p.take i) t;rw[Kay]at hlen;have c1:=dv.c;have c2:=ht.c;have lB:=qP _ (Kad au);generalize hx:p[i]=x at *
  have hzz:=ahJ dv.m ht.m dv.l ht.l;rw[if_neg (λh=>by rcases Rat.mul_eq_zero.1 h with h|h<;>contradiction)]at bl;refine gy h5 h6 cj hx hP (RN (a:=x.1) (b:=t.1) (k:=2^33) Oz Oz Oz) ?_;refine gy h5 h6 cj hx hP (Q83 dv.m ht.m Oz) ?_;rw[hzz];refine Sz4 h5 h6 cj hx ?_;rw[Qq (f:=PV.term) (y:=(x.1*t.1,eJ x.2 t.2)) (xs:=cr (p.take i) t) (ty':=114) (fz:=false) (Tz1 hh) Qw Oz rfl Oz Oz];rw[<-bl];refine Sz4 h5 h6 cj hx ?_;refine Qe (p.length-(i+1)) Oz ⟨i+1,rfl,Oz,?_⟩;rw[bl];simp+decide (disch:=first|omega|rfl|(simp+decide only[go_sem,h5,h6,cj,Kaz]<;>rfl)|fail) only[go_sem,h5,h6,cj,Kaz]
 .obtain rfl:i=p.length:=by omega
  rw[KaQ]at h5 hh;refine mu h5 hh ?_;exact Qb (by simp[Kaf]) rfl
def afx(h:i<q.length):rD p (q.take (i+1))=Qp (rD p (q.take i)) (cr p q[i]):=by rw[Kam h,rD,List.foldl_append,rD];rfl
def VL{K E:Nat}{p:List Tm}(hp:PB K E p):∀(q out:List Tm)(L:Nat),PB K E q->PB L (E+E) out->PB (q.length*(K+K)+L) (E+E) (q.foldl (λout t=>Qp out (cr p t)) out)/\(q.foldl (λout t=>Qp out (cr p t)) out).length<=q.length*p.length+out.length
 | [],out,L,_,ho=>⟨by simpa using ho,by simp⟩
 |t::q,out,L,hq,ho=>by obtain⟨h1,h2⟩:=VL hp q (Qp out (cr p t)) (L+(K+K)) (PB.cons.1 hq).2 (Hw _ _ ho (Ay hp (PB.cons.1 hq).1));have h3:=Gl out (cr p t);have h4:=yr p t;refine⟨h1.mono (by rw[KaX,KaL];omega) (Kag _),KaK h2 ?_⟩;rw[KaX,KaL];omega
def aju(hp:PB K E p)(hq:PB K E q):PB (q.length*(K+K)) (E+E) (rD p q)/\(rD p q).length<=q.length*p.length:=by have:=VL hp q [] 0 hq (PB.nil _ _);simpa[rD]using this
def VM(hp:PB K E p)(hq:PB K E q)(hnp:NZ p)(ES:NZ q)(hE:E<=2^37)(dC:p.length<=2^30)(nb:q.length<=2^30)(EN:q.length*p.length<=2^36)(hK:q.length*(K+K)+(K+K)<=2^32):
  AC 176 [PV.aC p,PV.aC q] (· =PV.aC (rD p q)):=by
 refine aF Qd func176 amL λC hP=>?_;refine Sz0 ?_;refine wT 5 4 Tz0 ?_;refine Qh okB [(5,20)] [] (λn J hp=>∃i,n=q.length-i/\i<=q.length/\J 5=PV.aC (rD p (q.take i))/\J 6= .int .i64 (i:Nat)) q.length ?_ ?_
 .refine⟨0,rfl,Oz,?_⟩;refine Sz0 ?_;simp[rD]
 rintro _ J h ⟨i,rfl,hi,h5,h6⟩;refine cH h5 h6 (λhg=>?_) (λhg=>?_)
 .have au:i<q.length:=Oz;have qT:=hq.get au;have bl:=afx (p:=p) au;have lB:=ES _ (Kad au);obtain⟨hb1,hb2⟩:=aju hp (hq.take i);have dX:=Ay hp qT;have aA:=yr p q[i];generalize hx:q[i]=x at *
  have e1:(q.take i).length=i:=by rw[Kay];omega
  rw[e1]at hb1 hb2;have e2:i*(K+K)<=q.length*(K+K):=Kap _ hi;have e3:i*p.length<=q.length*p.length:=Kap _ hi;refine eL h5 h6 hx hP (Q3u (t:=x) hp qT hnp lB Oz Oz Oz) ?_;refine eL h5 h6 hx hP (Gr (K:=q.length*(K+K)+(K+K)) (E:=E+E) (hb1.mono Oz Oz) (dX.mono Oz Oz) hK Oz Oz Oz) ?_;refine Sz3 h5 h6 hx ?_;refine Qe (q.length-(i+1)) Oz ⟨i+1,rfl,Oz,?_⟩;rw[bl];exact Tz0
 .obtain rfl:i=q.length:=by omega
  rw[KaQ]at h5;refine Sz1 h5 ?_;exact Qb rfl rfl
def Ln(hp:PB K E p)(qP:NZ p)(ha:rs a+1<=K)(hK:K<=2^33)(hE:E<=2^38)(dC:p.length<=2^36):
  AC 70 [PV.aC p,PV.rat a] (· =PV.aC (ee p a)):=by
 refine aF Qd func70 aqA λC hP=>?_;refine Sz0 ?_;refine kq 5 900 4 114 Oz Tz0 ?_;refine Qh okB [(5,33)] [32,33,900] (λn J hp=>∃i,n=p.length-i/\i<=p.length/\J 5= .ms 900 (cr (p.take i) (a,[])).length/\J 6= .int .i64 (i:Nat)/\hp 3=some ⟨3,49,[PV.rat a],false⟩/\hp 900=some ⟨4,114,(cr (p.take i) (a,[])).map PV.term,false⟩) p.length ?_ ?_
 .refine⟨0,rfl,Oz,?_⟩;refine Sz0 ?_;simp[cr]
 rintro _ J h ⟨i,rfl,hi,h5,h6,cj,hh⟩;refine Sz2 h5 h6 ?_;refine fJ (λhg=>?_) (λhg=>?_)
 .have au:i<p.length:=Oz;have dv:=hp.get au;have bl:=Lx (t:=(a,[])) au;have hlen:=yr (p.take i) (a,[]);rw[Kay]at hlen;have c1:=dv.c;have lB:=qP _ (Kad au);generalize hx:p[i]=x at *
  refine gy h5 h6 cj hx hP (L8 (a:=a) Oz) ?_;refine Sz4 h5 h6 cj hx ?_;refine Qm (λhz=>?_) (λhz=>?_)
  .rw[if_neg (λh=>by rcases Rat.mul_eq_zero.1 h with h|h;exact lB h;exact hz (fy.2 h)),MO dv.l]at bl;refine gy h5 h6 cj hx hP (RN (a:=x.1) (b:=a) (k:=2^33) Oz Oz Oz) ?_;refine Sz4 h5 h6 cj hx ?_;rw[Qq (f:=PV.term) (y:=(x.1*a,x.2)) (xs:=cr (p.take i) (a,[])) (ty':=114) (fz:=false) (Tz1 hh) Qw Oz rfl Oz Oz];rw[<-bl];refine Sz4 h5 h6 cj hx ?_;refine Qe (p.length-(i+1)) Oz ⟨i+1,rfl,Oz,?_⟩;rw[bl];simp+decide (disch:=first|omega|rfl|(simp+decide only[go_sem,h5,h6,cj,Kaz]<;>rfl)|fail) only[go_sem,h5,h6,cj,Kaz]
  .have xH:=fy.1 (Decidable.not_not.1 hz);have e0:∀l:List Tm,cr l (a,[])=[]:=λl=>by rw[xH];simp[cr]
   refine ze h5 hh cj ?_;refine Qb ?_ rfl;rw[e0,ee,if_pos xH];rfl
 .obtain rfl:i=p.length:=by omega
  rw[KaQ]at h5 hh;refine ze h5 hh cj ?_;refine Qb ?_ rfl;rw[Kaf (by simp),ee];split
  .rename_i xH;rw[xH];simp[cr]
  .rfl
def Q86(hp:PB K E p)(qP:NZ p)(uz:2<=K)(hK:K<=2^33)(hE:E<=2^38)(dC:p.length<=2^36):AC 25 [PV.aC p] (· =PV.aC (vH p)):=by have h1:=FE;refine aF Qd func25 aqz λC hP=>?_;refine ay hP (Gt (x:= -1) Oz Oz) ?_;refine ay hP (Ln (a:=((-1:Int):Rat)) hp qP (by have:((-1:Int):Rat)= -1:=rfl;rw[this];omega) hK hE dC) ?_;exact cf
def Q87(hp:PB K E p)(hq:PB K E q)(qP:NZ q)(uz:2<=K)(hK:K<=2^31)(hE:E<=2^38)(dC:p.length<=2^36)(nb:q.length<=2^36):AC 95 [PV.aC p,PV.aC q] (· =PV.aC (bX p q)):=by have hl:=FZ q (-1);refine aF Qd func95 aq5 λC hP=>?_;refine ay hP (Q86 hq qP uz Oz hE nb) ?_;refine ay hP (Gr (hp.mono (K':=K+2) Oz (Kag _)) (SB hq) Oz hE dC (by show(ee q (-1)).length<=_;omega)) ?_;exact cf
def Lu(hp:PB K E p)(ha:rs a+1<=K)(hK:K<=2^33)(hE:E<=2^38)(dC:p.length<=2^36):AC 37 [PV.aC p,PV.rat a] (· =PV.aC (ee p a)):=by
 refine aF Qd func37 art λC hP=>?_;refine ay hP (o8 (a:=a) Oz) ?_;refine bD (λh0=>?_) (λh0=>?_)
 .refine Sz0 ?_;exact od (CK (by rw[ee,if_pos (fy.1 h0)])) rfl
 .refine ay hP ((Lt (t:=(a,[])) hp (TB.num ha) hK hE dC).le (args':=[PV.aC p,.agg [.bool (decide (a.num<0)),PV.num a.num.natAbs,PV.num a.den,.aa]]) ⟨Qi _,⟨rfl,tP _,tP _,trivial,trivial⟩,trivial⟩) ?_;refine Sz0 ?_;exact Qb (by rw[ee,if_neg (λh=>h0 (fy.2 h))]) rfl
def Wq(hp:PB K E p)(uz:2<=K)(hK:K<=2^33)(hE:E<=2^38)(dC:p.length<=2^36):AC 82 [PV.aC p] (· =PV.aC (vH p)):=by have h1:=FE;refine aF Qd func82 arn λC hP=>?_;refine ay hP (vb (x:= -1) Oz Oz) ?_;refine ay hP (Lu (a:=((-1:Int):Rat)) hp (by have:((-1:Int):Rat)= -1:=rfl;rw[this];omega) hK hE dC) ?_;exact cf
def afy(hp:PB K E p)(hq:PB K E q)(uz:2<=K)(hK:K<=2^32)(hE:E<=2^38)(dC:p.length<=2^36)(nb:q.length<=2^36):AC 36 [PV.aC p,PV.aC q] (· =PV.aC (bX p q)):=by have hl:=FZ q (-1);refine aF Qd func36 arp λC hP=>?_;refine ay hP (Wq hq uz Oz hE nb) ?_;refine ay hP (Gu (hp.mono (K':=K+2) Oz (Kag _)) (SB hq) Oz hE dC (by show(ee q (-1)).length<=_;omega)) ?_;exact cf
def Wr{a d:List Nat}(hp:Raw k n a d)(hk:k<2^36):AC 64 [PV.rr n a d,PV.rat ((0:Int):Rat)] (· =PV.rat (rv n a d)):=by
 have h0:rs ((0:Int):Rat)<=k:=by have:=Af;have:=hp.k1;have e:((0:Int):Rat)=0:=rfl;rw[e];omega
 have:=Mn hp (jf h0) hk;rw[gm]at this;have e:rv n a d+((0:Int):Rat)=rv n a d:=Rat.add_zero _
 rwa[e]at this
def afz{v:Int}(h1: -9223372036854775808<=v)(h2:v<9223372036854775807):AC 264 [.int .i64 v] (· =PV.aC (bJ v)):=by
 refine aF Qd func264 ant λC hP=>?_;refine Sz0 ?_;refine Qo (λh=>?_) (λh=>?_)
 .refine Sz0 ?_;exact od (CK (by rw[bJ,if_pos (.inl h)])) rfl
 obtain⟨n,rfl⟩:∃n:Nat,v=n:=⟨v.toNat,Oz⟩
 refine bD (λh=>?_) (λh=>?_)
 .refine Sz0 ?_;exact od (CK (by rw[bJ,if_pos (.inr h)])) rfl
 have lD:(List.replicate (n+1) (0:Int)).set n 1=rJ n:=by rw[KcP,rJ,List.set_append_right _ _ (by simp)];simp
 have hl:n<(List.replicate (n+1) (0:Int)).length:=by simp
 have hr:=ph;refine gE lD hP (vb (x:=1) Oz Oz) ?_;refine Sz0 ?_;refine ko hP (Lm (c:=((1:Int):Rat)) (m:=rJ n) (by have:((1:Int):Rat)=1:=rfl;rw[this];omega)) (by simp+decide (disch:=try exact E0) only[go_sem,ch,Kak,Kao,Kal,Kaq,Kai];simp[rJ,Kaf]) rfl ?_;refine Sz0 ?_;refine Qb ?_ rfl;rw[bJ,if_neg (show ¬((n:Int)<0\/64<=(n:Int))by omega),Kbi];rfl
def Q88(hs:TB K E s)(ht:TB K E t)(hK:K<=2^33)(hE:E<=2^38):AC 336 [PV.term s,PV.term t] (· = .int .i64 (pj s t)):=by
 have c1:=hs.c;have c2:=ht.c;refine aF Qd func336 anw λC hP=>?_;refine ay hP (WR (s:=s) (t:=t) hs.m ht.m hE) ?_;refine bD (λh=>?_) (λh=>?_)
 .refine Sz0 ?_;exact Qb (by rw[pj,if_pos h]) rfl
 .refine ay hP (aeH (a:=s.1) (b:=t.1) (k:=2^33) Oz Oz Oz) ?_;refine Sz0 ?_;exact Qb (by rw[pj,if_neg h]) rfl
def Qua(hp:PB K E p)(hq:PB K E q)(hK:K<=2^33)(hE:E<=2^38)(dC:p.length<=2^36)(nb:q.length<=2^36):
  AC 338 [PV.aC p,PV.aC q,.fn 336 [] []] (· = .int .i64 (kK p q)):=by
 refine aF Qd func338 anC λC hP=>?_;refine Sz0 ?_;refine Qh eO [(6,10),(13,33)] [8,9] (λn J hp=>∃i,n=p.length-i/\i<=p.length/\(i<=q.length)/\kK (p.drop i) (q.drop i)=kK p q/\J 13= .int .i64 (i:Nat)) p.length ?_ ?_
 .refine⟨0,rfl,Oz,Oz,rfl,?_⟩;refine Sz0 ?_;rfl
 rintro _ J h ⟨i,rfl,hi,jW,iJ,dN⟩;refine aZ dN (λhg=>?_) (λhg=>?_)
 .have au:i<p.length:=Oz;have dv:=hp.get au;have BO:p.drop i=p[i]::p.drop (i+1):=KaB au;have Ol:=λhk=>PJ (q:=q) au hk
  generalize hx:p[i]=x at *
  refine cH dN hx (λhk=>?_) (λhk=>?_)
  .rw[BO,Kar (show q.length<=i by omega),kK]at iJ;refine Sz0 ?_;exact Qb (by rw[iJ]) rfl
  .have cY:i<q.length:=Oz;have qT:=hq.get cY;have Ol:=Ol cY;generalize hy:q[i]=y at *
   rw[Ol]at iJ;refine eL dN hx hy hP (Q88 (s:=x) (t:=y) dv qT hK hE) ?_;refine iq dN hx hy (λhc=>?_) (λhc=>?_)
   .rw[if_pos hc]at iJ;refine Sz0 ?_;exact Qb (by rw[iJ]) rfl
   .rw[if_neg hc]at iJ;refine Sz1 dN ?_;refine Qe (p.length-(i+1)) Oz ⟨i+1,rfl,Oz,Oz,iJ,?_⟩;exact Tz0
 .obtain rfl:i=p.length:=by omega
  rw[Kar (Kag _),C0]at iJ;refine bD (λhk=>?_) (λhk=>?_)
  .rw[if_neg (by rw[Ka4];omega)]at iJ;refine Sz0 ?_;exact Qb (by rw[iJ]) rfl
  .rw[if_pos (by rw[Ka4];omega)]at iJ;refine Sz0 ?_;exact Qb (by rw[iJ]) rfl
def af1(hp:PB K E p)(hq:PB K E q)(hK:K<=2^33)(hE:E<=2^38)(dC:p.length<=2^36)(nb:q.length<=2^36):AC 249 [PV.aC p,PV.aC q] (· = .int .i64 (kK p q)):=by refine aF Qd func249 anv λC hP=>?_;refine ay hP (Qua hp hq hK hE dC nb) ?_;exact cf
def Q6m(hp:PB K E p)(hq:PB K E q)(hK:K<=2^33)(hE:E<=2^38)(dC:p.length<=2^36)(nb:q.length<=2^36):AC 130 [PV.aC p,PV.aC q] (· = .bool (decide (p=q))):=by refine aF Qd func130 anu λC hP=>?_;refine ay hP (af1 hp hq hK hE dC nb) ?_;refine Sz0 ?_;exact Qb (congrArg PV.bool (decide_eq_decide.2 (Kj hp.last hq.last))) rfl
def RB.raw{t:bO}(h:RB k t)(hk:1<=k):Raw k t.n t.a t.d:=⟨h.r.1,h.r.2.1,h.r.2.2.1,h.r.2.2.2,hk⟩
def am4{s t:bO}(hs:MB E s.m)(ht:MB E t.m)(hE:E<=2^38):AC 85 [PV.sh s,PV.sh t] (· = .int .i64 (bC s.m t.m)):=by refine aF Qd func85 TW λC hP=>?_;refine ay hP (LZ (o:=0) hs ht Oz) ?_;refine Sz0 ?_;exact Qb (by rw[HN]) rfl
def Ly{l:List bO}{k:Nat}(hb:∀t∈l,RB k t)(eU:1<=k)(hk:k<2^36)(mB:l.length<2^40):AC 98 [PV.tD l] (· = .bool (eC l)):=by
 have uC:=MQ l;have bad:∀ {b:Bool},(b=true->False)->b=false:=fun {b} h=>by cases b<;>simp_all
 refine aF Qd func98 arl λC hP=>?_;refine Sz0 ?_;refine Qh eO [(2,4),(7,42)] [4] (λn J hp=>∃i,n=l.length-i/\i<=l.length/\(∀j (h:j<l.length),j<i->gV l[j]=true)/\(∀j (h:j+1<l.length),j+1<i->0<bC l[j].m l[j+1].m)/\J 7= .int .i64 (i:Nat)) l.length ?_ ?_
 .refine⟨0,rfl,by omega,by omega,by omega,?_⟩;refine Sz0 ?_;rfl
 rintro _ J h ⟨i,rfl,hi,h1,h2,h7⟩;refine Sz1 h7 ?_;refine Qm (λhg=>?_) (λhg=>?_)
 .have au:i<l.length:=by omega
  have dX:=hb _ (Kad au);have hr:=(RB.raw dX eU).rs;have qN:=dX.l;have zt:eC l=true->gV l[i]=true:=λh=>(uC.1 h).1 i au
  have NJ:∀(j:Nat)(hj:j+1=i),eC l=true->0<bC (l[j]'(by omega)).m l[i].m:=λj hj h=>by subst hj;exact(uC.1 h).2 j au
  have Et:gV l[i]=true->∀j (h:j<l.length),j<i+1->gV l[j]=true:=λh j hj fP=>by
   by_cases e:j=i
   .subst e;exact h
   .exact h1 j hj (by omega)
  have Oo:∀(j:Nat)(hj:j+1=i),MB 1048576 (l[j]'(by omega)).m:=λj hj=>by have:=h1 j (by omega) (by omega);simp only[gV,Kav]at this;exact MB.wC this.2.2
  have qE:(∀(j:Nat)(hj:j+1=i),0<bC (l[j]'(by omega)).m l[i].m)->∀j (h:j+1<l.length),j+1<i+1->0<bC l[j].m l[j+1].m:=λh j hj fP=>by
   by_cases e:j+1=i
   .subst e;exact h j rfl
   .exact h2 j hj (by omega)
  generalize hx:l[i]=x at *
  have dO:rs (rv x.n x.a x.d)<2^36:=by omega
  refine Sz2 h7 hx ?_;refine Qy hP (Ar (RB.raw dX eU) hk) ?_;refine Sz1 h7 ?_;cases aT:fL x.n x.a x.d
  .have hf:eC l=false:=bad λh=>by have:=zt h;simp[gV,aT]at this
   refine Sz2 h7 @Bool.not_false ?_;exact Qb (by rw[hf]) rfl
  refine Sz2 h7 @Bool.not_true ?_;refine Qy hP (CE (RB.raw dX eU) hk) ?_;refine Sz1 h7 ?_;refine Qo (λhz=>?_) (λhz=>?_)
  .have hf:eC l=false:=bad λh=>by have:=zt h;simp[gV,bO.q,fy.1 hz]at this
   refine Sz1 h7 ?_;exact Qb (by rw[hf]) rfl
  refine Sz1 h7 ?_;refine Qy hP (Co (by omega)) ?_;refine Sz1 h7 ?_;cases oH:eH x.m
  .have hf:eC l=false:=bad λh=>by have:=zt h;simp[gV,oH]at this
   refine Sz2 h7 @Bool.not_false ?_;exact Qb (by rw[hf]) rfl
  have EW:gV x=true:=by simp only[gV,aT,oH,KcK,Bool.and_true,decide_eq_true_eq];exact λh=>hz (fy.2 h)
  refine Sz2 h7 @Bool.not_true ?_;refine fJ (λrU=>?_) (λrU=>?_)
  .obtain⟨j,rfl⟩:∃j,i=j+1:=⟨i-1,by omega⟩
   have e:((j+1:Nat):Int)-1=j:=by omega
   have tn:j<l.length:=by omega
   have zM:=Oo j rfl;have NK:=NJ j rfl;have ND:0<bC (l[j]'(by omega)).m x.m->∀j2 (h:j2+1<l.length),j2+1<j+1+1->0<bC l[j2].m l[j2+1].m:=λh=>qE (λj' dz=>by
    obtain rfl:j'=j:=by omega
    exact h)
   generalize hy:l[j]'(by omega)=y at *
   refine Sz3 h7 e hy ?_;refine Qy hP (am4 (s:=y) (t:=x) zM (MB.wC oH) (by omega)) ?_;refine Sz2 h7 e ?_;refine Qm (λhc=>?_) (λhc=>?_)
   .have hf:eC l=false:=bad λh=>by have:=NK h;omega
    refine Sz1 h7 ?_;exact Qb (by rw[hf]) rfl
   .refine Sz1 h7 ?_;refine Qe (l.length-(j+1+1)) (by omega) ⟨j+1+1,rfl,by omega,Et EW,ND (by omega),?_⟩;exact Tz0
  .obtain rfl:i=0:=by omega
   refine Sz1 h7 ?_;refine Qe (l.length-1) (by omega) ⟨1,rfl,by omega,Et EW,qE (λj hj=>by omega),?_⟩;exact Tz0
 .obtain rfl:i=l.length:=by omega
  have hf:eC l=true:=uC.2 ⟨λj hj=>h1 j hj hj,λj hj=>h2 j hj hj⟩;refine Sz0 ?_;exact Qb (by rw[hf]) rfl
def c74:ax:=⟨19,[.cell 4 3 true],Zr (Ye 4 .nil)<|Zr (YJ 8 0 116<|YJ 10 1 116<|Bz 12 139 9 11 7<|Ye 5<|Zs 3 5 13<|Zm 6 14 .nil)<| .seq (Zr (YQ 15 6)<| .cond (.t 16) (Zr (Zq 17 false 53 [.c (Zz 0)]<|Zs 3 4 17 .nil) .ret) .skip)<|Zr (Zh 18 3 5<|Zs 3 4 18 .nil) .ret⟩
def arx:Qc Tryz.prog f74=some c74:=by kernel_rfl
def at3:ax:=⟨19,[.t 2],Zr (YI 2)<| .seq (Zr (BC 4 0<|YE 6 5 0<|Zg 6 false (.bin 8 .geq false (.t 7) (.c (Zz 64)))<|xy 9 6 8)<| .cond (.t 9) (Zr (YI 2) .ret) .skip)<|Zr (Zm 10 0<|Zk 11 .add 10 1<|Zo (.mk 12 1 8 3 (Zz 0) (.t 11) (.t 11))<|Zm 3 12 .nil)<|Zr (Yh 13 3 0<|Zi 15 1 13 14<|Zo (.st 1 (.t 15) (.c (Zz 1))) .nil)<|Zr (Zq 16 false 53 [.c (Zz 1)]<|Zm 17 3<|Zq 18 false 271 [.c .aa,.t 16,.t 17]<|Yc 2 18) .ret⟩
def am5:Qc Tryz.prog f272=some at3:=by kernel_rfl
end Go.Proofs.YtikalonaompbdaaGreat
namespace Go.FW
open Go
variable {C : Ctx} {ρ : Nat -> Option Nat} {fr aG : Fr} {hp : HP} {w : World} {K R : Qf}
variable{P:Program}{Rr:PV -> Prop}{args xs ys:List PV}{f:FuncId}{fn:Func}{fz:Bool}{sf:ax}
def ahK{γ ty n:Nat}{l:List (Nat×Nat)}(ak:fr γ= .aH γ 1 ty (bn l))(hn:n=l.length)(h2:2000000<=γ)(hl:∀x∈l,2000000<=x.1):Ai fr 2 (.aK γ 0 n):=by
 simp only[Ai,qY,ak];refine⟨trivial,by simp[aP];omega,by simp[bn,hn],λx hx c hc=>?_⟩;obtain⟨y,hy,rfl⟩:=KaD.1 (Kb2 (Kby hx));obtain rfl:c= .aD y.1 0 y.2:=by simpa[PV.aV,PV.cells]using hc
 have:=hl y hy;simp only[qY,aP];simp;omega
def ajv{γ ty n e':Nat}{l:List (Nat×Nat)}(ak:fr γ= .aH γ 1 ty (bn l))(hn:n=l.length)(ys:Nat->List PV)(hh:∀x∈l,∃ty' fz,hp x.1=some ⟨e',ty',ys x.1,fz⟩):
  vJ fr hp 2 (.aK γ 0 n)= .sl 1 (l.map λx=>.sl e' ((ys x.1).take x.2)):=by
 simp only[vJ,iE,ak,Ka6];rw[Kaf (by simp[bn,hn])];simp only[bn,KbT];congr 1;refine KaF λx hx=>?_
 obtain⟨ty',fz,h⟩:=hh x hx;simp[Function.comp,PV.aV,PV.cells,B5,iE,h]
def Ws       (hm : P.follows .mixedOrders = true) (hf : P.funcs[f]? = some fn) (nd : (fn.name != "runtime.NumGoroutine") = true) (hc : Qc P fn = some sf.strip) (hn : args.length <= sf.n /\ sf.n <= 1000000)
  (hv:∀C:Ctx,C.P=P->C.N=sf.n->vc C (vI (gQ sf.rs Rr)) [.c sf.body] (kJ args) aB):Qa P f args Rr:=by
 simp only[Qc,Kab,Kaa]at hc;obtain⟨c,hb,sb,iG,rs,cU,EZ⟩:=hc;obtain⟨n,O2,body⟩:=sf;simp only[ax.strip,ax.mk.injEq]at EZ;obtain⟨rfl,rfl,rfl⟩:=EZ;refine⟨by simp[qk,hf,hb];simpa using nd,λw X aL hX fF iK=>?_⟩
 let C:Ctx:=Ctx.plain P fn.ntmps w X hX hn.2
 refine calls_of_wp hf hb ?_;have uP:(aL++Array.replicate (fn.ntmps-aL.size) undef).size=fn.ntmps:=by simp at hn ⊢;omega
 have qS:eT C (kJ args) aB (aL++Array.replicate (fn.ntmps-aL.size) undef) w:=by
  refine⟨λ_=>none,uP,Ext.refl _ _,(λ_ _ h=>by cases h),by simp[aB],by simp[aB],λi=>?_⟩;unfold kJ;cases hi:args[i]? with
  |none=>trivial
  | some p=>
   simp only[Kbl];have iU:i<aL.size:=by rw[fF];exact(Kah.1 hi).1
   have hr:=iK i p hi;have e:(aL++Array.replicate (fn.ntmps-aL.size) undef).getD i undef=aL.getD i undef:=by rw[lP,if_pos iU]
   rw[e];refine Qj.n7 (hr.mono (λ_ _ _=>rfl) (λb _ hn hx=>?_) (Kag _));rcases hx with hx|⟨_,_,h1,_⟩
   .exact hn hx
   .simp[aB]at h1
 have fin:∀(fr:Fr)(hp:HP)(a:Act)(w':World),a.defers=[]->eT C fr hp a.tmps w'->vI (gQ rs Rr) fr hp->
   a.defers=[]/\∃v,(results fn a.tmps).run P w'= .ok v w'/\∃v' r,Ending.returned v= .returned v'/\Ext di w w'/\gq w' X r v'/\Rr r:=by
  rintro fr hp a w' hd uN ⟨oB,iI,hw,hr⟩;obtain⟨ρ,hs⟩:=hw C _ _ uN;obtain⟨v,r,h1,h2,h3⟩:=Ps (C:=C) rfl cU hs hr;exact⟨hd,v,h1,v,r,rfl,Ctx.OZ hs.ext,h2,h3⟩
 exact Lz (C:=C) (R:=vI (gQ rs Rr)) hm c body [] _ (kJ args) aB _ w iG ⟨λfr hp a w' hd hs hv=>(by rw[wW]at hv;exact fin fr hp a w' hd hs hv),λid fI he=>(by simp[FW.cS]at he),fin⟩ rfl qS (hv C rfl rfl)
def tM       (hm : P.follows .mixedOrders = true) (hf : P.funcs[f]? = some fn) (nd : (fn.name != "runtime.NumGoroutine") = true) (hc : Qc P fn = some sf.strip) (hn : args.length <= sf.n /\ sf.n <= 1000000)
  (hv:∀C:Ctx,C.P=P->vc C (vI (gQ sf.rs Rr)) [.c sf.body] (kJ args) aB):Qa P f args Rr:=
 Ws hm hf nd hc hn λC h _=>hv C h
def G3{aN:PV->Fr->HP->Prop}(h:aN (.aI []) fr hp):lW [] aN fr hp:=by refine rp ?_;simp only[gQ,Kaq,vd];exact⟨by simp,_,aiQ _,h⟩
def am6{ty w i d:Nat}{f:Nat->Rat}(h:i<w):lI (some ⟨3,ty,aR PV.rat f w,fz⟩) 3 true i 0 d fr hp K=K (ae fr d (PV.rat (f i))) hp:=by rw[ry (by rw[lQ];exact h) Oz (by simp),rm];rfl
def HF{ty O w i:Nat}{f:Nat->Rat}{v:Rat}(h:i<w):stM (some ⟨3,ty,aR PV.rat f w,false⟩) O 3 i 0 (PV.rat v) fr hp K=K fr (Qg hp O ⟨3,ty,aR PV.rat (λc=>if c=i then v else f c) w,false⟩):=by have e:=va (fr:=fr) (hp:=hp) (K:=K) (n:=3) (ty:=ty) (O:=O) (i:=i) (xs:=aR PV.rat f w) (v:=PV.rat v) (by rw[lQ];exact h) rfl rfl;rw[ajN (g:=λc=>if c=i then v else f c) λk _=>rfl]at e;exact e
def FH{e ty:Nat}(h:xs=ys):HB.mk e ty xs fz=HB.mk e ty ys fz:=by rw[h]
def KN:(lU (.aI [])=True)/\(∀(k:IntKind)(n:Int),lU (.int k n)=True)/\(∀b:Bool,lU (.bool b)=True)/\(∀(e:Nat)(xs:List PV),lU (.sl e xs)=True)/\(∀cs:List PV,lU (.agg cs)=True)/\(∀cs:List PV,lU (.aI cs)=True):=by refine⟨?_,?_,?_,?_,?_,?_⟩<;>intros<;>simp[lU,PV.refs,PV.aO,bF,dh]
attribute [go_sem] KN am6
end Go.FW
namespace Go.FW
open Go
variable {C : Ctx} {ρ : Nat -> Option Nat} {fr aG : Fr} {hp : HP} {w : World} {K R : Qf}
variable{D a p v x:PV}{P:Program}{aQ args cs xs xs0:List PV}{ag pr:Bool}{g:FuncId}{hb1:HB}{sk:List It}{α:Type}
def yb(p:PV)(γ n:Nat)(ag:Bool)(i o d:Nat)(fr:Fr)(hp:HP)(K:Qf):Prop:=match p with
 |.aH bo e _ xs=>bo=γ/\∃h:i<xs.length,o+n<=e/\(ag=false->n=1)/\K (ae fr d (tx ag n o (xs[i]'h))) hp
 |_=>False
def ary{γ n i o d:Nat}:gU n ag (.np γ i o) d fr hp K=yb (fr γ) γ n ag i o d fr hp K:=by simp only[gU,yb];cases fr γ<;>rfl
def uY(p:PV)(h:Option HB)(v:Option (List PV))(γ n i o:Nat)(fr:Fr)(hp:HP)(K:Qf):Prop:=match p with
 |.aH bo e ty xs=>bo=γ/\(∃hb,h=some hb/\hb.fz=false)/\∃h:i<xs.length,o+n<=e/\match v with
   |some cs=>cs.length=n/\K (ae (gC γ fr) γ (.aH γ e ty (xs.set i (eW (rF (xs[i]'h).aV o cs))))) hp
   |none=>False
 |_=>False
def aqW{γ n i o:Nat}:pV n (.np γ i o) v fr hp K=uY (fr γ) (hp γ) (gM v) γ n i o fr hp K:=by simp only[pV,uY];cases fr γ<;>rfl
def aeI{γ e ty n o d:Nat}(h1:o+n<=e)(h2:ag=true\/n=1):yb (.aH γ e ty [x]) γ n ag 0 o d fr hp K=K (ae fr d (tx ag n o x)) hp:=by
 have:(ag=false->n=1):=λh=>h2.resolve_left (by simp[h])
 simp[yb,h1];exact λ_=>this
def aeJ{γ e ty n o e0 ty0:Nat}(h1:o+n<=e)(h2:cs.length=n):uY (.aH γ e ty [x]) (some ⟨e0,ty0,xs0,false⟩) (some cs) γ n 0 o fr hp K=K (ae (gC γ fr) γ (.aH γ e ty [eW (rF x.aV o cs)])) hp:=by simp[uY,h1,h2]
def aeK{γ ty B n w r d:Nat}{π:Nat->Nat}(h:r<n):yb (.aH γ 1 ty (bn (cw B n w π))) γ 1 false r 0 d fr hp K=K (ae fr d (.ms (B+π r) w)) hp:=by
 have hl:r<(bn (cw B n w π)).length:=by simpa[bn,cw]using h
 simp only[yb,hl,exists_true_left,true_and,Kag,Ka2,implies_true];simp[tx,bn,cw,PV.aV,PV.cells]
def aeL{γ ty B n w r m e0 ty0:Nat}{π:Nat->Nat}(h:r<n):uY (.aH γ 1 ty (bn (cw B n w π))) (some ⟨e0,ty0,xs0,false⟩) (some [.ms (B+m) w]) γ 1 r 0 fr hp K=K (ae (gC γ fr) γ (.aH γ 1 ty (bn (cw B n w λx=>if x=r then m else π x)))) hp:=by
 have hl:r<(bn (cw B n w π)).length:=by simpa[bn,cw]using h
 have e:(cw B n w π).set r (B+m,w)=cw B n w λx=>if x=r then m else π x:=by
  refine Ka9 (by simp[cw]) λj h1 h2=>?_
  rw[Kc3,Rb,Rb];split
  .rename_i e;subst e;simp
  .rename_i e;rw[if_neg λe2=>e e2.symm]
 rw[<-e];simp only[uY,hl,exists_true_left,true_and,Kag,Ka2,KaG,exists_eq_left',KaX,Kbm];simp[eW,rF,bn,PV.aV,PV.cells,List.map_set]
def ayS:
  (∀(γ o n:Nat),gM (.aK γ o n)=some [.aK γ o n])/\
  (∀(k:IntKind)(n:Int),gM (.int k n)=some [.int k n])/\
  (∀(b:Bool),gM (.bool b)=some [.bool b])/\
  (gM .aa=some [.aa])/\
  (∀(e:Nat)(xs:List PV),gM (.sl e xs)=some [.sl e xs])/\
  (∀(cs:List PV),gM (.pt cs)=some [.pt cs])/\
  (∀(cs:List PV),gM (.agg cs)=some cs):=by
 refine⟨?_,?_,?_,?_,?_,?_,?_⟩<;>intros<;>rfl
def aqX{O o n:Nat}(h:1000000<=O):gM (.aD O o n)=some [.aD O o n]:=by simp[gM,bN,h]
def am7:gM (.aU cs)=if cs.all PV.jH then some cs else none:=rfl
def aeM:(∀(k:IntKind)(n:Int),(PV.int k n).jH=true)/\(∀b:Bool,(PV.bool b).jH=true)/\(PV.aa.jH=true)/\(∀(e:Nat)(xs:List PV),(PV.sl e xs).jH=true)/\(∀(O o n:Nat),(PV.aD O o n).jH=true)/\(∀(O o n:Nat),(PV.aK O o n).jH=true)/\(∀cs:List PV,(PV.pt cs).jH=true)/\(PV.undef.jH=false):=by refine⟨?_,?_,?_,?_,?_,?_,?_,?_⟩<;>intros<;>rfl
def aeN:(∀(k:IntKind)(n:Int),(PV.int k n).kC=false)/\(∀b:Bool,(PV.bool b).kC=false)/\(PV.aa.kC=false)/\(∀(e:Nat)(xs:List PV),(PV.sl e xs).kC=false)/\(∀(O o n:Nat),(PV.aD O o n).kC=true)/\(∀(O o n:Nat),(PV.aK O o n).kC=true)/\(∀cs:List PV,(PV.pt cs).kC=false)/\(PV.undef.kC=true):=by refine⟨?_,?_,?_,?_,?_,?_,?_,?_⟩<;>intros<;>rfl
def ahL(h:cs.any PV.kC=true):lR cs= .aU cs:=by simp[lR,h]
def ahM(h:cs.any PV.kC=false):lR cs= .agg cs:=by simp[lR,h]
def aqY{b:PV}:eW (a::b::cs)=lR (a::b::cs):=rfl
def aqZ:eW [a]=a:=rfl
def arC{n o:Nat}:tx true n o x=lR ((x.aV.drop o).take n):=rfl
def aee{n o:Nat}:tx false n o x=(x.aV.drop o).headD .undef:=rfl
def arD{l:List PV}{o:Nat}:rF l o cs=l.take o++cs++l.drop (o+cs.length):=rfl
def af2:(PV.aU cs).aV=cs:=rfl
def af3:(PV.agg cs).aV=cs:=rfl
def aef{z:List PV}{ps:List (Nat×Nat×PV)}{d:Nat}(h:ps.any (λp=>p.2.2.qX)=true):nJ z ps d fr hp K=(wR z.length ps/\K (ae fr d (.aU (jN z (ps.map λp=>(p.1,(gM p.2.2).getD []))))) hp):=by simp only[nJ,if_pos h]
def Q89{len:Nat}:wR len []=True:=by simp[wR]
def Q6o{len o n:Nat}{ps:List (Nat×Nat×PV)}:wR len ((o,n,v)::ps)=((∃cs,gM v=some cs/\cs.length=n/\o+n<=len)/\wR len ps):=by simp[wR]
def aq0:(∀(γ o n:Nat),(PV.aK γ o n).qX=true)/\(∀(cs:List PV),(PV.aU cs).qX=true)/\(∀(O o n:Nat),(PV.aD O o n).qX=decide (2000000<=O))/\(∀(cs:List PV),(PV.agg cs).qX=false)/\(∀(k:IntKind)(n:Int),(PV.int k n).qX=false)/\(∀b:Bool,(PV.bool b).qX=false)/\(PV.aa.qX=false)/\(∀(e:Nat)(xs:List PV),(PV.sl e xs).qX=false):=by refine⟨?_,?_,?_,?_,?_,?_,?_,?_⟩<;>intros<;>rfl
def am8:(∀(O:Nat)(k:IntKind)(n:Int),jM O (.int k n)= .int k n)/\(∀(O:Nat)(b:Bool),jM O (.bool b)= .bool b)/\(∀O:Nat,jM O .aa= .aa)/\(∀(O e:Nat)(xs:List PV),jM O (.sl e xs)= .sl e xs)/\(∀(O γ o n:Nat),jM O (.aD γ o n)=if γ=O then .undef else .aD γ o n)/\(∀(O γ o n:Nat),jM O (.aK γ o n)=if γ=O then .undef else .aK γ o n):=by refine⟨?_,?_,?_,?_,?_,?_⟩<;>intros<;>rfl
def am9{O γ e ty:Nat}(h:γ≠O):dF O (.aH γ e ty [x])= .aH γ e ty [eW (x.aV.map (jM O))]:=by simp[dF,h]
def ana{O γ ty B n w:Nat}{π:Nat->Nat}(h:γ≠O)(h2:O<B):dF O (.aH γ 1 ty (bn (cw B n w π)))= .aH γ 1 ty (bn (cw B n w π)):=by
 simp only[dF,if_neg h];congr 1;conv=>rhs;rw[<-List.map_id (bn (cw B n w π))]
 refine KaF λx hx=>?_
 obtain⟨y,hy,rfl⟩:=KaD.1 hx;obtain⟨r,hr,rfl⟩:=KaD.1 hy;simp only[PV.aV,PV.cells,Ka3,Kbs,jM,eW];rw[if_neg Oz];rfl
def aat{O δ γ ty B n w:Nat}{π:Nat->Nat}(ao:O<1000000)(hB:2000000<=B)(ak:2000000<=γ):bF (kW O δ) (.aH γ 1 ty (bn (cw B n w π)))= .aH γ 1 ty (bn (cw B n w π)):=by
 have e1:kW O δ γ=γ:=by unfold kW;rw[if_neg Oz]
 simp only[bF,e1];congr 1;conv=>rhs;rw[<-List.map_id (bn (cw B n w π))]
 refine KaF λx hx=>?_
 obtain⟨y,hy,rfl⟩:=KaD.1 hx;obtain⟨r,hr,rfl⟩:=KaD.1 hy;refine Kp (.inr ⟨_,_,rfl⟩) λbq n' h=>?_
 cases h;unfold kW;rw[if_neg Oz]
def aeg{δ γ ty B n w:Nat}{π:Nat->Nat}(h:γ≠δ)(fq:δ<B):eS δ (.aH γ 1 ty (bn (cw B n w π)))= .aH γ 1 ty (bn (cw B n w π)):=by
 simp only[eS,if_neg h];congr 1;conv=>rhs;rw[<-List.map_id (bn (cw B n w π))]
 refine KaF λx hx=>?_
 obtain⟨y,hy,rfl⟩:=KaD.1 hx;obtain⟨r,hr,rfl⟩:=KaD.1 hy;simp only[PV.aV,PV.cells,Ka3,Kbs,gw,eW];rw[if_neg Oz];rfl
def ahN{O:Nat}:ct O (.aU cs)= .aU cs:=rfl
def ajw{γ:Nat}:eS γ (.aU cs)= .aU (cs.map (gw γ)):=rfl
def ahO{O:Nat}:dF O (.aU cs)= .aU (cs.map (jM O)):=rfl
def aeh:(∀(γ:Nat)(k:IntKind)(n:Int),gw γ (.int k n)= .int k n)/\(∀(γ:Nat)(b:Bool),gw γ (.bool b)= .bool b)/\(∀γ:Nat,gw γ .aa= .aa)/\(∀(γ e:Nat)(xs:List PV),gw γ (.sl e xs)= .sl e xs)/\(∀(γ O o n:Nat),gw γ (.aD O o n)=if O=γ then .aK γ o n else .aD O o n)/\(∀(γ O o n:Nat),gw γ (.aK O o n)= .aK O o n):=by refine⟨?_,?_,?_,?_,?_,?_⟩<;>intros<;>rfl
def aq1{γ i o off d:Nat}:qp off (.np γ i o) d fr hp K=K (ae fr d (.np γ i (o+off))) hp:=rfl
def ahP{γ bo e ty:Nat}:fj γ (.aH bo e ty xs)=if bo=γ then .undef else .aH bo e ty xs:=rfl
def ahQ{γ:Nat}:fj γ (.aU cs)= .aU cs:=rfl
attribute [go_sem] aq1 ahP ahQ false_and List.all_cons List.all_nil ahN ajw ahO aeh exists_eq_left' ary aqW aeI aeJ aeK aeL ayS aqX am7 aeM aeN ahL ahM aqY aqZ arC aee arD af2 af3 aef Q89 Q6o aq0 am8 am9 ana aat aeg
def SQ(h:uZ p):ky p=p:=by
 obtain⟨h1,h2,h3,h4⟩:=h;have h5:(p.refs.any kU||p.aO.any mH)=false:=by rw[Bool.or_eq_false_iff,KbP,KbP];exact⟨λx hx=>by simp[h1 x hx],λx hx=>by simp[h2 x hx]⟩
 unfold ky;split
 .exact absurd rfl (h3 _ _ _ _)
 .exact absurd rfl (h4 _).1
 .exact absurd rfl (h4 _).2.1
 .exact absurd rfl ((h4 _).2.2 _)
 .rw[h5];rfl
def tI{V W:List (Nat×Nat)}{B B':List Nat}{X Z F:Fr}(h:zc V W=true)(hB:(B'.all B.contains)=true):aY V X (cO B' (aY W Z (cO B F)))=aY W (aY V X (cO B' Z)) (cO B F):=by
 have e1:iz (aY W Z (cO B F))=aY W (iz Z) (cO B F):=by
  funext s;show ky (aY W Z (cO B F) s)=_;unfold aY;split
  .rfl
  .exact SQ (wU B F s)
 unfold cO;rw[show iz (aY W Z (b7 B (iz F)))=aY W (iz Z) (b7 B (iz F))from e1,LH h hB]
def af4{c:PV}{x y:SC}(aT:gu R sk)(W:List (Nat×Nat))(B:List Nat)(M:Fr->HP->Prop)
  (h:mf C R c x y (.el (pg W (cO B fr) M)::sk) (aY W fr (cO B fr)) hp) (hM:∀J hp,M J hp->vc C R sk (aY W J (cO B fr)) hp):mf C R c x y sk fr hp:=by
 refine Ax (pg W (cO B fr) M) ?_ ?_
 .unfold mf vC at h⊢;split at h
  .exact⟨λe=>rA aT.1 _ _ _ _ _ _ (Kag _) (.c x (.el AJ aT.2)) (Hx W B) (h.1 e),λe=>rA aT.1 _ _ _ _ _ _ (Kag _) (.c y (.el AJ aT.2)) (Hx W B) (h.2 e)⟩
  .exact h
 .rintro aG hp' ⟨J,h1,h2⟩;exact rA aT.1 _ _ _ _ _ _ (Kag _) aT.2 h1 (hM J hp' h2)
def JX{γ e ty:Nat}{cs':List PV}(δ e' ty':Nat)(na:fr γ= .aH γ e ty [.aU cs])(h1:hp δ=none)(h2:2000000<=δ)(h3:0<e')(hl:cs'.length=cs.length)(hc:∀p∈cs.zip cs',p.2=p.1\/(p.1= .aa/\p.2= .aD δ 0 0)):
  Wk fr hp (ae fr γ (.aH γ e ty [.aU cs'])) (Qg hp δ ⟨e',ty',[],false⟩):=by
 have h:=RA (fr:=fr) (hp:=hp) (γ:=γ) (e:=e) (ty:=ty) (xs:=[.aU cs]) (xs':=[.aU cs']) (λx=>if x=δ then some (e',ty')else none) na (λx y h=>?_) rfl (λi x x' k1 k2=>?_)
 .refine cast (congrArg (Wk fr hp (ae fr γ (.aH γ e ty [.aU cs']))) (funext λx=>?_)) h;unfold Qg;by_cases hx:x=δ
  .subst hx;simp
  .simp[hx]
 .split at h
  .rename_i hx;subst hx;cases h;exact⟨h1,h2,h3⟩
  .cases h
 .cases i with
  |succ i=>cases k1
  | zero=>
   cases k1;cases k2;refine⟨hl,λj y y' q1 q2=>?_⟩;have hz:(y,y')∈cs.zip cs':=by refine Kaj (i:=j) ?_;rw[List.getElem?_zip_eq_some];exact⟨q1,q2⟩
   rcases hc _ hz with h|⟨h,h'⟩
   .exact .inl h
   .exact .inr ⟨h,δ,(e',ty'),by simp,h'⟩
def Gv{l:List Nat}{x:Nat}(hl:∀y∈l,2000000<=y)(hx:x<2000000):Qu hp l x=hp x:=by
 have:x ∉ l:=λh=>by have:=hl x h;omega
 unfold Qu;cases hp x<;>simp[this]
def HV{r:RT}(s k:Nat)(h0:fr s=p)(ho:Ai fr k p/\vJ fr hp k p=D/\∀x∈xp fr k p,2000000<=x)(hv:∀l,(∀x∈l,2000000<=x)->vc C R (.o r::sk) (ae fr s D) (Qu hp l)):vc C R (.o (.wk r)::sk) fr hp:=by subst h0;obtain⟨h1,h2,h3⟩:=ho;refine bV (TL s k h1) ?_;rw[h2];exact hv _ h3
def rk{V W:List (Nat×Nat)}{B:List Nat}{X Z F:Fr}(h:zc V W=true):aY V X (iz (aY W Z (b7 B (iz F))))=aY W (aY V X (iz Z)) (b7 B (iz F)):=by
 have e1:iz (aY W Z (cO B F))=aY W (iz Z) (cO B F):=by
  funext s;show ky (aY W Z (cO B F) s)=_;unfold aY;split
  .rfl
  .exact SQ (wU B F s)
 rw[show iz (aY W Z (b7 B (iz F)))=aY W (iz Z) (b7 B (iz F))from e1,gY h]
def tG{V W:List (Nat×Nat)}{X Z F:Fr}(h:zc V W=true):aY V X (iz (aY W Z (iz F)))=aY W (aY V X (iz Z)) (iz F):=by have:=rk (V:=V) (W:=W) (B:=[]) (X:=X) (Z:=Z) (F:=F) h;simpa only[iM]using this
def ahR{γ:Nat}{F:Fr}:gC γ (iz F)=iz F:=by have:=CL (γ:=γ) (B:=[]) (F:=F);simpa only[cO,iM]using this
def ahS{O:Nat}{F:Fr}(h:2000000<=O):gP O (iz F)=iz F:=by have:=PS (B:=[]) (F:=F) h;simpa only[cO,iM]using this
attribute [go_sem] ahR ahS
def aei:(∀(k:IntKind)(n:Int),(PV.int k n).aO=[])/\(∀b:Bool,(PV.bool b).aO=[])/\(PV.aa.aO=[])/\(PV.undef.aO=[])/\(∀(e:Nat)(xs:List PV),(PV.sl e xs).aO=[])/\(∀cs:List PV,(PV.agg cs).aO=[])/\(∀cs:List PV,(PV.aI cs).aO=[])/\(∀cs:List PV,(PV.pt cs).aO=[])/\
  (∀(O o n:Nat),(PV.aD O o n).aO=[])/\(∀(O o n:Nat),(PV.mp O o n).aO=[])/\(∀(O o n:Nat),(PV.aK O o n).aO=[O])/\(∀(O o n:Nat),(PV.np O o n).aO=[O]):=by
 refine⟨?_,?_,?_,?_,?_,?_,?_,?_,?_,?_,?_,?_⟩<;>intros<;>rfl
attribute [go_sem] aei
def ajx{d w i:Nat}{k:IntKind}{f:Nat->Rat}(h:i<w):ej 3 (.sl 3 (aR PV.rat f w)) (.int k (i:Nat)) d fr hp K=K (ae fr d (.pt (PV.rat (f i)).cells)) hp:=by unfold aR;rw[yJ Oz (by simp;omega)];simp
def ajy{p:α->PV}{f:Nat->α}{w d e:Nat}:rG (.sl e (aR p f w)) d fr hp K=K (ae fr d (.int .i64 (w:Nat))) hp:=by simp[rG,aR]
attribute [go_sem] ajx ajy
def anb(hP:C.P=P){d:Option Nat}{γ1:Nat}(h:jc P g aQ (λ_=>.undef) (Qg aB 1500001 ⟨hb1.e,hb1.ty,hb1.xs,true⟩) (λr _ _=>r=D))(hD:lU D)(h1:hp γ1=some hb1)
  (cF:args.map (bF λx=>if x=γ1 then 1500001 else x)=aQ) (js:∀γ∈args.flatMap (λx=>x.refs++x.aO),γ=γ1) (bx:aQ.length<=1000000) (hK:K (dj fr d D) hp):eI C pr (.fn g [] []) args d fr hp K:=by
 have ga:∀O γ,(λO=>if O=1500001 then some γ1 else none:Nat->Option Nat) O=some γ->O=1500001/\γ=γ1:=λO γ hq=>by
  simp only at hq;split at hq
  .cases hq;rename_i e;exact⟨e,rfl⟩
  .cases hq
 refine KG hP h (λO=>if O=1500001 then some γ1 else none) _ (λO γ hq=>?_) (λO hq=>?_) (λO bq γ q1 q2=>?_) (λO γ hq=>?_) cF (λx hx γ ak=>?_) (λs _=>.inl rfl) bx (λr F H hr=>?_)
 .obtain⟨rfl,rfl⟩:=ga O γ hq;exact⟨by decide,hb1,h1,by simp[Qg]⟩
 .by_cases e:O=1500001
  .exact⟨γ1,by simp[e]⟩
  .simp[Qg,FW.aB,e]at hq
 .rw[(ga O γ q1).1,(ga bq γ q2).1]
 .obtain⟨rfl,rfl⟩:=ga O γ hq;simp
 .rw[js γ (Kat.2 ⟨x,hx,ak⟩)];exact⟨1500001,by simp⟩
 .subst hr;exact⟨hD,hK⟩
def SR(hP:C.P=P){d:Option Nat}{γ1 γ2:Nat}{hb2:HB}(h:jc P g aQ (λ_=>.undef) (Qg (Qg aB 1500000 ⟨hb1.e,hb1.ty,hb1.xs,true⟩) 1500001 ⟨hb2.e,hb2.ty,hb2.xs,true⟩) (λr _ _=>r=D))(hD:lU D)(h1:hp γ1=some hb1)(h2:hp γ2=some hb2)(aS:γ1≠γ2)
  (cF:args.map (bF λx=>if x=γ1 then 1500000 else if x=γ2 then 1500001 else x)=aQ) (js:∀γ∈args.flatMap (λx=>x.refs++x.aO),γ=γ1\/γ=γ2) (bx:aQ.length<=1000000) (hK:K (dj fr d D) hp):eI C pr (.fn g [] []) args d fr hp K:=by
 have ga:∀O γ,(λO=>if O=1500000 then some γ1 else if O=1500001 then some γ2 else none:Nat->Option Nat) O=some γ->(O=1500000/\γ=γ1)\/(O=1500001/\γ=γ2):=λO γ hq=>by
  simp only at hq;split at hq
  .cases hq;rename_i e;exact .inl ⟨e,rfl⟩
  .split at hq
   .cases hq;rename_i e;exact .inr ⟨e,rfl⟩
   .cases hq
 refine KG hP h (λO=>if O=1500000 then some γ1 else if O=1500001 then some γ2 else none) _ (λO γ hq=>?_) (λO hq=>?_) (λO bq γ q1 q2=>?_) (λO γ hq=>?_) cF (λx hx γ ak=>?_) (λs _=>.inl rfl) bx (λr F H hr=>?_)
 .rcases ga O γ hq with⟨rfl,rfl⟩|⟨rfl,rfl⟩
  .exact⟨by decide,hb1,h1,by simp[Qg]⟩
  .exact⟨by decide,hb2,h2,by simp[Qg]⟩
 .by_cases e:O=1500000
  .exact⟨γ1,by simp[e]⟩
  .by_cases e2:O=1500001
   .exact⟨γ2,by simp[e2]⟩
   .simp[Qg,FW.aB,e,e2]at hq
 .rcases ga O γ q1 with⟨rfl,rfl⟩|⟨rfl,rfl⟩<;>rcases ga bq _ q2 with⟨rfl,e⟩|⟨rfl,e⟩
  .rfl
  .exact absurd e aS
  .exact absurd e.symm aS
  .rfl
 .rcases ga O γ hq with⟨rfl,rfl⟩|⟨rfl,rfl⟩
  .simp
  .rw[if_neg (λe=>aS e.symm),if_pos rfl]
 .rcases js γ (Kat.2 ⟨x,hx,ak⟩)with rfl|rfl
  .exact⟨1500000,by simp⟩
  .exact⟨1500001,by simp⟩
 .subst hr;exact⟨hD,hK⟩
def anc{i c:Nat}(h:c<1600000):(1600000+i=c)=False:=by simp;omega
attribute [go_sem] anc
end Go.FW
namespace Go.FW
open Go
variable {C C' : Ctx} {ρ ρ' : Nat -> Option Nat} {fr aG : Fr} {hp hp' : HP} {w : World} {K R : Qf}
variable{D p:PV}{P:Program}{aN:PV->List PV->Prop}{aQ args cs xs ys:List PV}{g:FuncId}{hb1:HB}{pr:Bool}{sk:List It}
def aq2{γ e ty:Nat}(s:Nat)(na:fr γ= .aH γ e ty xs)(BY:fr s= .np γ 0 0)(h2:aP γ=false)(hd:∀x∈xs,x.cells=x.aV/\x.aJ=true/\∀c∈x.aV,c.kC=false):
  Wk fr hp (ae (gC γ fr) s (.mp γ 0 0)) (Qg hp γ ⟨e,ty,xs,true⟩):=by
 rintro C tmps w ⟨ρ,hs⟩;have bm:=hs.cQ γ;rw[na]at bm;obtain⟨k0,he,b,hb,cur,cap,k1,k2,k3,k4,k5,k6,k7,k8,k9,se,ya⟩:=bm;obtain⟨hp',lC⟩:∃f,f=Qg hp γ ⟨e,ty,xs,true⟩:=⟨_,rfl⟩
 rw[<-lC];have pU:hp' γ=some ⟨e,ty,xs,true⟩:=by rw[lC];simp[Qg]
 have po:∀O,O≠γ->hp' O=hp O:=λO ao=>by rw[lC];simp[Qg,ao]
 have hX:∀c,aM C ρ hp' c->aM C ρ hp c:=by
  rintro c (hx|⟨O,aE,g1,g2,g3⟩)
  .exact .inl hx
  .by_cases ao:O=γ
   .subst ao;rw[pU]at g1;cases g1;cases g2
   .rw[po O ao]at g1;exact .inr ⟨O,aE,g1,g2,g3⟩
 have a9:nK w w (aM C ρ hp) (aM C ρ hp'):=⟨λ_ _ _=>rfl,λc _ hn h=>hn (hX c h),Kag _⟩
 have c1:∀O,O≠γ->pW ρ ρ hp hp' w w O:=λO ao=>⟨rfl,λhb hq=>⟨hb,by rw[po O ao];exact hq,rfl,Kag _,λ_ _ _ h=>h,λh=>⟨h,rfl,λ_ _=>rfl⟩⟩⟩
 have c0:∀O,xj ρ ρ hp hp' w w O:=λO=>by
  by_cases ao:O=γ
  .subst ao;refine⟨rfl,λhb1 hq=>⟨_,pU,?_,?_,λ_ _ _ h=>h⟩⟩
   .rw[k2]at hq;cases hq;exact k4.symm
   .rw[k2]at hq;cases hq;rw[k3];exact KbK _
  .exact(c1 O ao).Ac
 have bP:=hs.own γ hb k2;refine⟨ρ,hs.sz,hs.ext,hs.fG,λO hb1 ao=>?_,λO δ c g1 g2 g3 g4=>?_,λi=>?_⟩
 .by_cases hq:O=γ
  .subst hq;rw[pU]at ao;cases ao;refine⟨he,λi x hx=>?_,?_,(λh=>by rw[h2]at h;cases h),λ_=>rfl⟩
   .obtain⟨d1,d2,_⟩:=hd x (Kaj hx);exact⟨by rw[d1];exact se i x hx,d2⟩
   .have bu:=bP.du;rw[k1]at bu⊢;refine⟨bu.1,bu.2.1,cur,cap,k6,k7,k8,k9,λi x hx j y hy=>?_⟩;obtain⟨d1,_,d3⟩:=hd x (Kaj hx);rw[d1]at hy;exact((ya i x hx j y hy).toC (d3 y (Kaj hy))).sub hX
  .rw[po O hq]at ao;obtain⟨q1,q2,q3,q4,q5⟩:=hs.own O hb1 ao;refine⟨q1,q2,?_,q4,q5⟩;cases hr:ρ O with
   |none=>rw[hr]at q3;exact q3
   |some c=>rw[hr]at q3;exact⟨q3.1,q3.2.1,q3.2.2.move rfl rfl rfl rfl a9.rc⟩
 .have f:∀O,hp' O≠none->hp O≠none:=λO ao=>by
   by_cases hq:O=γ
   .subst hq;simp[k2]
   .rwa[po O hq]at ao
  exact hs.inj O δ c (f O g1) (f δ g2) g3 g4
 .unfold ae;split
  .rename_i hi;subst hi;have bm:=hs.cQ i;rw[BY]at bm;obtain⟨_,b',aE,g1,g2,g3⟩:=bm;rw[k2]at g2;cases g2;exact⟨b',_,g1,pU,by rw[g3,k4]⟩
  .have bm:=hs.cQ i;show Qj C ρ hp' w (fj γ (fr i)) _;by_cases hn:∃e' ty' ys,fr i= .aH γ e' ty' ys
   .obtain⟨e',ty',ys,hq⟩:=hn;rw[hq];simp only[fj,if_true];trivial
   .have e1:fj γ (fr i)=fr i:=by
     cases hq:fr i with
     |aH bo e' ty' ys=>simp only[fj];rw[if_neg];intro h;subst h;exact hn ⟨_,_,_,hq⟩
     |_=>rfl
    rw[e1];refine bm.move a9 (λO _=>⟨rfl,(c0 O).h⟩) (λO _=>c0 O) (λbo e' ty' ys hq=>c1 bo λh=>by subst h;exact hn ⟨_,_,_,hq⟩)
def aq3{e by_ ty d O n:Nat}(hb:hp O=some ⟨e,ty,xs,false⟩)(h0:0<e)(hn:n=xs.length)(hy:ys≠[])(h1:(n+ys.length)*by_<=140737488355328)(h2:n+ys.length<=9223372036854775807)(hB:2000000<=O):
  jO e by_ ty (.ms O n) (.sl e ys) d fr hp K=K (ae (gP O fr) d (.ms O (n+ys.length))) (Qg hp O ⟨e,ty,xs++ys,false⟩):=by
 subst hn;have b1:bN O=true:=by simp[bN];omega
 have b2:aP O=false:=by simp[aP];omega
 simp[jO,kI,hb,h0,b1,b2,h1,h2,hy]
def Dc{γ e ty:Nat}{cs':List PV}(δ e' ty':Nat)(na:fr γ= .aH γ e ty [.agg cs])(h1:hp δ=none)(h2:2000000<=δ)(h3:0<e')(hl:cs'.length=cs.length)(hc:∀p∈cs.zip cs',p.2=p.1\/(p.1= .aa/\p.2= .aD δ 0 0)):
  Wk fr hp (ae fr γ (.aH γ e ty [.aU cs'])) (Qg hp δ ⟨e',ty',[],false⟩):=by
 have h:=RA (fr:=fr) (hp:=hp) (γ:=γ) (e:=e) (ty:=ty) (xs:=[.agg cs]) (xs':=[.aU cs']) (λx=>if x=δ then some (e',ty')else none) na (λx y h=>?_) rfl (λi x x' k1 k2=>?_)
 .refine cast (congrArg (Wk fr hp (ae fr γ (.aH γ e ty [.aU cs']))) (funext λx=>?_)) h;unfold Qg;by_cases hx:x=δ
  .subst hx;simp
  .simp[hx]
 .split at h
  .rename_i hx;subst hx;cases h;exact⟨h1,h2,h3⟩
  .cases h
 .cases i with
  |succ i=>cases k1
  | zero=>
   cases k1;cases k2;refine⟨hl,λj y y' q1 q2=>?_⟩;have hz:(y,y')∈cs.zip cs':=by refine Kaj (i:=j) ?_;rw[List.getElem?_zip_eq_some];exact⟨q1,q2⟩
   rcases hc _ hz with h|⟨h,h'⟩
   .exact .inl h
   .exact .inr ⟨h,δ,(e',ty'),by simp,h'⟩
def JY{r:RT}(s k:Nat)(l:List Nat)(h0:fr s=p)(h1:Ai fr k p)(h2:vJ fr hp k p=D)(h3:xp fr k p=l)(hv:vc C R (.o r::sk) (ae fr s D) (Qu hp l)):vc C R (.o (.wk r)::sk) fr hp:=by subst h0;subst h2;subst h3;exact bV (TL s k h1) hv
def anP(hP:C.P=P){d:Option Nat}{β1:Nat}
  (h:jc P g aQ (λ_=>.undef) (Qg aB 1000000 hb1) λr F H=>lU r/\∃xs,H 1000000=some ⟨hb1.e,hb1.ty,xs,false⟩/\xs.length=hb1.xs.length/\aN r xs) (h1:hp β1=some hb1) (f1:hb1.fz=false) (n1:hb1.xs≠[]) (B1:bN β1=true)
  (cF:args.map (bF λx=>if x=β1 then 1000000 else x)=aQ) (js:∀γ∈args.flatMap (λx=>x.refs++x.aO),γ=β1) (bx:aQ.length<=1000000)
  (hK:∀r xs,xs.length=hb1.xs.length->aN r xs->K (dj fr d r) (Qg hp β1 ⟨hb1.e,hb1.ty,xs,false⟩)):eI C false (.fn g [] []) args d fr hp K:=by
 obtain⟨gv,gA⟩:∃f:Nat->Option Nat,f=λx=>if x=1000000 then some β1 else none:=⟨_,rfl⟩
 have ga:∀O γ,gv O=some γ->O=1000000/\γ=β1:=λO γ hq=>by
  rw[gA]at hq;simp only at hq;split at hq
  .cases hq;rename_i e;exact⟨e,rfl⟩
  .cases hq
 have g0:gv 1000000=some β1:=by rw[gA];rfl
 have y0:aP 1000000=true:=by decide
 have r0:eB 1000000=false:=by decide
 have Ef:gn gv 1000000=some β1:=(wY r0).trans g0;have vZ:∀O γ,gn gv O=some γ->O=1000000/\γ=β1:=λO γ hq=>ga O γ (AM hq).2
 refine AY hP h gv _ ⟨λO γ hq=>?_,λO hq=>?_,λO bq γ q1 q2=>?_⟩ (λO γ hq=>?_) cF (λx hx γ ak=>?_) (λs _=>.inl rfl) bx (λhq=>by cases hq) (λρ tmps w hs r F H aB _=>?_)
 .obtain⟨rfl,rfl⟩:=ga O γ hq;exact⟨hb1,h1,by decide,(λh=>by rw[r0]at h;cases h),λ_=>⟨by simp[Qg],f1,B1,λh=>by rw[y0]at h;cases h⟩⟩
 .by_cases e2:O=1000000
  .subst e2;exact⟨_,g0⟩
  .simp[Qg,FW.aB,e2]at hq
 .rw[(ga O γ q1).1,(ga bq γ q2).1]
 .obtain⟨rfl,rfl⟩:=ga O γ hq;simp
 .rw[js γ (Kat.2 ⟨x,hx,ak⟩)];exact⟨_,g0⟩
 .obtain⟨⟨⟨p1,p2⟩,p3⟩,xs,k1,k2,k4⟩:=aB;obtain⟨eo,jV⟩:∃f:Nat->Option Nat,f=λγ=>if γ=β1 then some 1000000 else none:=⟨_,rfl⟩
  have ea:∀γ O,eo γ=some O->γ=β1/\O=1000000:=λγ O hq=>by
   rw[jV]at hq;simp only at hq;split at hq
   .cases hq;rename_i e;exact⟨e,rfl⟩
   .cases hq
  have zj:eo β1=some 1000000:=by rw[jV];simp
  refine⟨eo,λx=>β1,dj fr d r,Qg hp β1 ⟨hb1.e,hb1.ty,xs,false⟩,λγ O hq=>?_,λO γ hq _=>?_,λγ O hq=>?_,λγ hq hg=>?_,λγ hq hg=>?_,λs=>?_,hK r xs k2 k4⟩
  .obtain⟨rfl,rfl⟩:=ea γ O hq;exact⟨by simp[k1],rfl,B1,.inl ⟨y0,Ef⟩⟩
  .obtain⟨rfl,rfl⟩:=vZ O γ hq;exact zj
  .obtain⟨rfl,rfl⟩:=ea γ O hq;rw[k1];simp[Qg]
  .obtain⟨O,ao⟩:=hg;obtain⟨rfl,rfl⟩:=vZ O γ ao;rw[zj]at hq;cases hq
  .have:γ≠β1:=λe=>by subst e;rw[zj]at hq;cases hq
   simp[Qg,this]
  .have bm:=hs.cQ s;have hn:∀γ e ty xs,fr s= .aH γ e ty xs->¬∃O,gn gv O=some γ:=λγ e ty xs e0 ⟨O,ao⟩=>by rw[e0]at bm;obtain⟨_,_,b,hb,_,_,_,l2,l3,_⟩:=bm;obtain⟨rfl,rfl⟩:=vZ O γ ao;rw[h1]at l2;cases l2;exact n1 l3
   have ho:∀γ∈(fr s).refs++(fr s).aO,(¬∃O,gn gv O=some γ)\/∃O hb aE,gn gv O=some γ/\aP O=true/\hp γ=some hb/\H O=some aE/\aE.e=hb.e/\hb.xs.length<=aE.xs.length:=λγ _=>by
    by_cases e:γ=β1
    .subst e;exact .inr ⟨_,_,_,Ef,y0,h1,k1,rfl,by simp[k2]⟩
    .left;rintro⟨O,ao⟩;exact e (vZ O γ ao).2
   cases d with
   |none=>exact .inr (.inl ⟨(by simp),rfl,ho,hn⟩)
   | some d=>
    by_cases e:s=d
    .subst e;refine .inr (.inr (.inl ⟨rfl,?_,λO ao=>by rw[p1,p2]at ao;cases ao⟩));rw[p3];simp[dj,ae]
    .exact .inr (.inl ⟨by simp;exact λh=>e h.symm,by simp[dj,ae,e],ho,hn⟩)
def ayM{τ:Nat->Nat}{γ bo ty B B' n w:Nat}(ak:τ γ=bo)(hB:∀r,r<n->τ (B+r)=B'+r):bF τ (.aH γ 1 ty (bn (cw B n w id)))= .aH bo 1 ty (bn (cw B' n w id)):=by
 simp only[bF,ak];congr 1;unfold bn cw;simp only[KbT];refine KaF λr hr=>?_
 simp[PV.aV,PV.cells,dh,eW,hB r (KbY.1 hr)]
def SS(hP:C.P=P){d:Option Nat}{R w ty e' tyr:Nat}{ys:Nat->List PV}(hR:R<=1000)
  (h:jc P g [.aK 1500000 0 R] (ae (λ_=>.undef) 1500000 (.aH 1500000 1 ty (bn (cw 1600000 R w id))))
   (λx=>if x=1500000 then some ⟨1,ty,[],true⟩else if 1600000<=x/\x<1600000+R then some ⟨e',tyr,ys (x-1600000),true⟩else none) (λr _ _=>r=D)) (hD:lU D)
  (hg:fr 2000000= .aH 2000000 1 ty (bn (cw 3000000 R w id))) (h0:hp 2000000=some ⟨1,ty,[],false⟩) (jY:∀r,r<R->hp (3000000+r)=some ⟨e',tyr,ys r,false⟩)
  (hK:K (dj fr d D) hp):eI C pr (.fn g [] []) [.aK 2000000 0 R] d fr hp K:=by
 obtain⟨gv,gA⟩:∃f:Nat->Option Nat,f=λx=>if x=1500000 then some 2000000 else if 1600000<=x/\x<1600000+R then some (3000000+(x-1600000))else none:=⟨_,rfl⟩
 obtain⟨τ,jZ⟩:∃f:Nat->Nat,f=λx=>if x=2000000 then 1500000 else if 3000000<=x/\x<3000000+R then 1600000+(x-3000000)else x:=⟨_,rfl⟩
 have ga:∀O γ,gv O=some γ->(O=1500000/\γ=2000000)\/∃r,r<R/\O=1600000+r/\γ=3000000+r:=λO γ hq=>by
  rw[gA]at hq;simp only at hq;split at hq
  .cases hq;rename_i e;exact .inl ⟨e,rfl⟩
  .split at hq
   .rename_i e;exact .inr ⟨O-1600000,Oz,Oz,(Kbn hq).symm⟩
   .cases hq
 have g0:gv 1500000=some 2000000:=by rw[gA];simp
 have g1:∀r,r<R->gv (1600000+r)=some (3000000+r):=λr hr=>by rw[gA];simp only;rw[if_neg Oz,if_pos ⟨by omega,Oz⟩,KbD]
 have t0:τ 2000000=1500000:=by rw[jZ];simp
 have t1:∀r,r<R->τ (3000000+r)=1600000+r:=λr hr=>by rw[jZ];simp only;rw[if_neg Oz,if_pos ⟨by omega,Oz⟩,KbD]
 have fQ:∀γ∈(fr 2000000).refs++(fr 2000000).aO,∃O,gv O=some γ:=λγ ak=>by
  rw[hg]at ak;simp only[PV.refs,PV.aO,KaO,KaA]at ak;rcases ak with rfl|ak
  .exact⟨_,g0⟩
  .obtain⟨r,hr,rfl⟩:=WA γ ak;exact⟨_,g1 r hr⟩
 refine KG hP h gv τ (λO γ hq=>?_) (λO hq=>?_) (λO bq γ q1 q2=>?_) (λO γ hq=>?_) ?_ (λx hx γ ak=>?_) (λs hs=>?_) (by simp) (λr F H hr=>?_)
 .rcases ga O γ hq with⟨rfl,rfl⟩|⟨r,hr,rfl,rfl⟩
  .exact⟨by decide,_,h0,by simp⟩
  .refine⟨by simp[eB];omega,_,jY r hr,?_⟩;rw[if_neg Oz,if_pos ⟨by omega,Oz⟩,KbD]
 .by_cases e:O=1500000
  .subst e;exact⟨_,g0⟩
  .by_cases e2:1600000<=O/\O<1600000+R
   .obtain⟨r,rfl⟩:∃r,O=1600000+r:=⟨O-1600000,Oz⟩
    exact⟨_,g1 r Oz⟩
   .rw[if_neg e,if_neg e2]at hq;exact absurd rfl hq
 .rcases ga O γ q1 with⟨rfl,rfl⟩|⟨r,hr,rfl,rfl⟩<;>rcases ga bq _ q2 with⟨rfl,e⟩|⟨r',dO,rfl,e⟩
  .rfl
  .omega
  .omega
  .omega
 .rcases ga O γ hq with⟨rfl,rfl⟩|⟨r,hr,rfl,rfl⟩
  .exact t0
  .exact t1 r hr
 .simp[bF,dh,t0]
 .rw[Kax.1 hx]at ak;simp[PV.refs,PV.aO]at ak;subst ak;exact⟨_,g0⟩
 .by_cases e:s=1500000
  .subst e;refine .inr ⟨2000000,Oz,?_,fQ⟩;rw[hg,ayM t0 t1];simp[ae]
  .left;simp[ae,e]
 .subst hr;exact⟨hD,hK⟩
end Go.FW
namespace Go.FW
open Go
abbrev LF:=Rat×(Nat->Rat)
def K8(M:MF)(f:LF):MF:=λr c=>M r c-f.1*f.2 r*f.2 c
def xa(M:MF)(l:List LF):MF:=l.foldl K8 M
def af5(M:MF)(l:List LF)(f:LF):xa M (l++[f])=K8 (xa M l) f:=by simp[xa]
def eQ(R:Nat)(M:MF):Nat->MF×List LF
 |0=>(M,[])
 |k+1=>(xa (eQ R M k).1 (oo (eQ R M k).1 R),(eQ R M k).2++oo (eQ R M k).1 R)
def iO(R:Nat)(l:List LF):List Rat:=l.flatMap λf=>(List.range R).map f.2
def Cp(R:Nat)(l:List LF):(iO R l).length=l.length*R:=by
 induction l with
 |nil=>simp[iO]
 |cons f l ih=>unfold iO at ih⊢;rw[Kal,Kaz,ih,KaX,KaL];simp;omega
def af6(R:Nat)(l:List LF)(f:LF):iO R (l++[f])=iO R l++(List.range R).map f.2:=by simp[iO]
def RO(f:Nat->Rat)(w:Nat):aR PV.rat f w=((List.range w).map f).map PV.rat:=by simp[aR]
def Vj(M:MF)(R:Nat):(oo M R).length<=2:=by
 unfold oo;split
 .simp
 .split<;>simp
def VN(R:Nat)(M:MF):∀k,(eQ R M k).2.length<=2*k
 |0=>by simp[eQ]
 |k+1=>by have:=VN R M k;have:=Vj (eQ R M k).1 R;simp only[eQ,Kaz];omega
def H9(K R n:Nat)(M:MF):Prop:=∀k,k<=n->sj K R R (eQ R M k).1/\(∀f∈oo (eQ R M k).1 R,rs f.1<=K/\∀c,c<R->rs (f.2 c)<=K)/\∀j,j<=(oo (eQ R M k).1 R).length->sj K R R (xa (eQ R M k).1 ((oo (eQ R M k).1 R).take j))
variable {C : Ctx} {fr : Fr} {hp : HP} {w : World} {K R : Qf}
variable{L:List LF}{M:MF}{P:Program}{d i ty:Nat}{fz pr:Bool}{g:FuncId}{hb:HB}{α:Type}
abbrev PV.qZ(w:Nat)(f:Nat->Rat):PV:=.sl 3 (aR PV.rat f w)
def anQ{w n:Nat}(h:i<n):lI (some ⟨1,ty,aR (PV.qZ w) M n,fz⟩) 1 false i 0 d fr hp K=K (ae fr d (PV.qZ w (M i))) hp:=by rw[ry (by rw[lQ];exact h) Oz (by simp),rm];rfl
def ajz{w n:Nat}{k:IntKind}(h:i<n):ej 1 (.sl 1 (aR (PV.qZ w) M n)) (.int k (i:Nat)) d fr hp K=K (ae fr d (.pt [PV.qZ w (M i)])) hp:=by
 have hl:i<(aR (PV.qZ w) M n).length:=by rw[lQ];exact h
 simp only[ej];simp[hl,rm];rfl
attribute [go_sem] anQ ajz
def ajA{p:α->PV}{L:List α}(h:i<L.length):lI (some ⟨1,ty,L.map p,fz⟩) 1 false i 0 d fr hp K=K (ae fr d (fg false 1 0 (p (L[i]'h)))) hp:=by rw[ry (by rw[KaC];exact h) Oz (by simp),Kbc]
def aj5(h:i<L.length):lI (some ⟨3,ty,L.map (λf=>PV.rat f.1),fz⟩) 3 true i 0 d fr hp K=K (ae fr d (PV.rat (L[i]'h).1)) hp:=by rw[ry (by rw[KaC];exact h) Oz (by simp),Kbc];rfl
def aj6{w:Nat}(h:i<L.length):lI (some ⟨1,ty,L.map (λf=>PV.qZ w f.2),fz⟩) 1 false i 0 d fr hp K=K (ae fr d (PV.qZ w (L[i]'h).2)) hp:=by rw[ajA h];rfl
attribute [go_sem] aj5 aj6
def yg(x:Nat):Bool:=decide (x=2000000)
def anR{fr:Fr}:ep (λ_=>false) fr=fr:=by funext t;simp[ep,lk]
def anS(hP:C.P=P){args:List PV}{n:Nat}(h:jc P g args (λ_=>.undef) aB λr _ H=>r= .ms 2000000 n/\H 2000000=some hb)(qJ:hp 2000000=none)
  (a9:∀x∈args,∀γ e ty xs,x≠ .aH γ e ty xs) (js:args.flatMap (λx=>x.refs++x.aO)=[]) (bx:args.length<=1000000)
  (hK:K (ae fr d (.ms 2000000 n)) (Qg hp 2000000 hb)):eI C pr (.fn g [] []) args (some d) fr hp K:=by
 refine H0 hP h (λ_=>false) yg [] (λx h=>by cases h) (λx=>rfl) rfl bx a9 (λγ ak=>by rw[js]at ak;cases ak) (λs _=>.inl rfl) (λx hx=>?_) (λ_ _=>rfl) (λr F H dY=>?_)
 .have:=of_decide_eq_true hx;subst this;exact⟨.inl qJ,Oz⟩
 .obtain⟨rfl,h1⟩:=dY;refine⟨λx hx=>?_,(λγ e ty xs h=>by cases h),λO ao=>?_,(λs hs=>by cases hs),?_⟩
  .have:=of_decide_eq_true hx;subst this;rw[h1];simp
  .simp[PV.refs,PV.aO]at ao;subst ao;exact decide_eq_true rfl
  .have e1:qz [] F (dj (ep (λ_=>false) fr) (some d) (.ms 2000000 n))=ae fr d (.ms 2000000 n):=by funext s;simp[qz,dj,anR]
   have e2:pB (λ_=>false) yg H hp=Qg hp 2000000 hb:=by
    funext x;unfold pB Qg;by_cases e:x=2000000
    .subst e;rw[if_pos (show yg 2000000=true from decide_eq_true rfl),if_pos rfl,h1]
    .rw[if_neg (by simp[yg,e]),if_neg (by simp),if_neg e]
   rw[e1,e2];exact hK
def KO:yg 2000000=true:=decide_eq_true rfl
attribute [go_sem] KO
def aq4{p:PV}{ps:List PV}{fr:Fr}{hp:HP}{K:Qf}:ou (.fH (p::ps)) 0 d fr hp K=K (ae fr d p) hp:=rfl
def acU{p q:PV}{ps:List PV}{fr:Fr}{hp:HP}{K:Qf}:ou (.fH (p::q::ps)) 1 d fr hp K=K (ae fr d q) hp:=rfl
attribute [go_sem] aq4 acU
end Go.FW
namespace Go.FW
open Go
variable {C : Ctx} {fr : Fr} {hp : HP} {w : World} {K R : Qf}
variable{P:Program}{args cs:List PV}{d e ty γ:Nat}{g:FuncId}{q:PV}
def AF(h:fr γ= .aH γ e ty [.aU cs]):Wk fr hp (ae fr γ (.aH γ e ty [.aU (cs.map λ_=>.undef)])) hp:=by
 rintro C tmps w ⟨ρ,hs⟩;refine⟨ρ,hs.sz,hs.ext,hs.fG,hs.own,hs.inj,λi=>?_⟩;unfold ae;split
 .rename_i hi;subst hi;have bm:=hs.cQ i;rw[h]at bm;obtain⟨h0,he,b,hb,cur,cap,h1,h2,h3,h4,h5,h6,h7,h8,h9,bp,cE⟩:=bm;refine⟨h0,he,b,hb,cur,cap,h1,h2,h3,h4,h5,h6,h7,h8,h9,λk x hx=>?_,λk x hx j y hy=>?_⟩
  .match k,hx with
   |0,hx=>simp at hx;subst hx;have:=bp 0 _ rfl;simpa[PV.aV]using this
   |k+1,hx=>simp at hx
  .match k,hx with
   |0,hx=>simp at hx;subst hx;simp only[PV.aV,Kaw,Kaa]at hy;obtain⟨_,_,rfl⟩:=hy;trivial
   |k+1,hx=>simp at hx
 .exact hs.cQ i
def lJ(x:Nat):Bool:=decide (x=2000000)||decide (x=2000001)
def sA{x:Nat}:lJ x=true↔x=2000000\/x=2000001:=by simp[lJ]
abbrev axH(A B:HB):HP:=Qg (Qg aB 2000000 A) 2000001 B
abbrev Iq(n m:Nat):PV:=.aU [.ms 2000000 n,.ms 2000001 m]
def acV(hP:C.P=P){n m:Nat}{A B A' B':HB}(h:jc P g args (λ_=>.undef) (axH A B) λr _ H=>r= .dQ [.ms 2000000 n,.ms 2000001 m] q/\H 2000000=some A'/\H 2000001=some B')
  (hA:hp 2000000=some A) (hB:hp 2000001=some B) (fA:A.fz=false) (fB:B.fz=false)
  (a9:∀x∈args,∀γ e ty xs,x≠ .aH γ e ty xs) (js:∀γ∈args.flatMap (λx=>x.refs++x.aO),lJ γ=true) (bx:args.length<=1000000)
  (hK:K (ae (ep lJ fr) d (.dQ [.ms 2000000 n,.ms 2000001 m] q)) (Qg (Qg hp 2000000 A') 2000001 B')):eI C false (.fn g [] []) args (some d) fr hp K:=by
 refine H0 hP h lJ lJ [] (λx hx=>?_) (λx=>?_) rfl bx a9 js (λs _=>.inl rfl) (λx hx=>⟨.inr hx,?_⟩) (λh=>by cases h) (λr F H dY=>?_)
 .rcases sA.1 hx with rfl|rfl
  .exact⟨A,hA,fA,Oz⟩
  .exact⟨B,hB,fB,Oz⟩
 .by_cases e1:x=2000001
  .subst e1;simp[lJ,Qg,hB]
  .by_cases e0:x=2000000
   .subst e0;simp[lJ,Qg,hA]
   .simp[lJ,Qg,e0,e1,aB]
 .rcases sA.1 hx with rfl|rfl<;>omega
 .obtain⟨rfl,h1,h2⟩:=dY;refine⟨λx hx=>?_,(λγ e ty xs h=>by cases h),λO ao=>?_,(λs hs=>by cases hs),?_⟩
  .rcases sA.1 hx with rfl|rfl
   .rw[h1];simp
   .rw[h2];simp
  .simp[PV.refs,PV.aO,PV.dM]at ao;exact sA.2 ao
  .have e1:qz [] F (dj (ep lJ fr) (some d) (.dQ [.ms 2000000 n,.ms 2000001 m] q))=ae (ep lJ fr) d (.dQ [.ms 2000000 n,.ms 2000001 m] q):=by funext s;simp[qz,dj]
   have e2:pB lJ lJ H hp=Qg (Qg hp 2000000 A') 2000001 B':=by
    funext x;unfold pB Qg;by_cases e1:x=2000001
    .subst e1;simp[lJ,h2]
    .by_cases e0:x=2000000
     .subst e0;simp[lJ,h1]
     .simp[lJ,e0,e1]
   rw[e1,e2];exact hK
def acW:ou (.dQ cs q) 0 d fr hp K=K (ae fr d (.aU cs)) hp:=rfl
def acX:ou (.dQ cs q) 1 d fr hp K=K (ae fr d q) hp:=rfl
def aej{n:Nat}(h:cs.length=n)(h0:0<n)(hU:cs.all PV.jH=true)(gG:cs.all (λx=> !(x.dM.contains (4000000+d)))=true):
  fM n ty (.aU cs) d fr hp K=K (ae (ae (gP (4000000+d) fr) (4000000+d) (.aH (4000000+d) n ty [.aU cs])) d (.np (4000000+d) 0 0)) (Qg hp (4000000+d) ⟨n,ty,[],false⟩):=by
 show xg n ty cs d fr hp K=_;unfold xg dV;simp only[eq_iff_iff,and_iff_right_iff_imp];exact λ_=>⟨h,h0,hU,gG⟩
def ayL{σ:Nat->Nat}:bF σ (.aH γ e ty [.aU cs])= .aH (σ γ) e ty [eW (cs.map (dh σ))]:=rfl
def aek{bo:Nat}(h:bo≠γ):eS γ (.aH bo e ty [.aU cs])= .aH bo e ty [eW (cs.map (gw γ))]:=by simp[eS,h,PV.aV]
def ael{nm:Nat->Bool}:lk nm (.aH γ e ty [.aU cs])=if(γ::cs.flatMap PV.dM).any nm then .undef else .aH γ e ty [.aU cs]:=by simp[lk,PV.refs,PV.aO,PV.aV]
attribute [go_sem] acW acX aej ayL aek ael
end Go.FW
