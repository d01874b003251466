/- Part 4 of the proof of InequalityPolys: C1, CI, C1b, N1, N2, N3, N4, N5, N6, N7, N8, N9, N10, N11, N12, N13, N14, N15, I1, R1, R2, FwNG, FwNS, FwNT, FwQA, FwSD, FwSE, FwSF, FwSG, FwSH, FwSI, FwSJ, FwSK, FwSL, FwUA, FwSM, FwUC, FwVA. Own lemmas; no conditions. -/
import Derived.Test.YtikalonaompbdaaGreatInequalityPolysPart3
import Derived.Test.YtikalonaompbdaaGreatProg
set_option maxHeartbeats 1000000
set_option linter.all false
set_option maxRecDepth 100000
namespace Go.Proofs.YtikalonaompbdaaGreat
open Go.Proofs.Tryz
open Go Go.FW
def Qd:Tryz.prog.follows .mixedOrders=true:=by kernel_rfl
def Xj:ax:=⟨21,[.t 2],Zr (YI 2)<|Zr (Yv 4 0<|Zm 3 5 .nil)<| .seq (.block 0<| .loop<| .seq (Zr (YX 6 3 1<|Zg 8 true (.ld 13 1 false (.t 12))<|Zg 8 true (.bin 14 .eql false (.t 13) (.c (.int .u16 0)))<|Ym 15 8 14 .nil)<| .cond (.t 15) .skip (.exit 0))<| .block 1<| .rg (DW 16 3))<|Zr (Yh 18 0 3<|BD 20 1 18 19<|Yc 2 20) .ret⟩
def SG:Qc Tryz.prog f240=some Xj:=by kernel_rfl
def ats:ax:=⟨16,[.t 2],Zr (YI 2)<|Zr (YJ 4 0 240<|Zm 0 5 .nil)<| .seq (Zr (Yv 6 0<|BA 8 7 0)<| .cond (.t 8) (Zr (YI 2) .ret) .skip)<|Zr (Yv 9 0<|fb 11 10 10<|Zm 3 11 .nil)<|Zr (Yh 12 3 0<|Zo (.vT 14 1 (.t 12) (.t 13)) .nil)<|Zr (MZ 15 3 2) .ret⟩
def alp:Qc Tryz.prog f242=some ats:=by kernel_rfl
def asK:ax:=⟨14,[.t 2],Zr (YI 2)<|Zr (YI 3)<| .seq (.block 0<| .loop<| .seq (Zr (Zm 4 0<|Zo (.bin 5 .gtr false (.t 4) (.c (.int .u64 0))) .nil)<| .cond (.t 5) .skip (.exit 0))<| .seq (.block 1<| .rg (Yh 8 3 0<|Zo (.conv 10 .u16 (.t 9))<|YA 11 1 159 10 2 8<|Zm 3 12 .nil))<| .rg (BB 6 0<|Zm 0 7 .nil))<|Zr (kO 13 3 2) .ret⟩
def alq:Qc Tryz.prog f156=some asK:=by kernel_rfl
def atT:ax:=⟨28,[.t 2,.t 3],Zr (Zo (.mv 2 (.c (.int .u64 0)))<|Yl 3)<|Zr (YJ 7 0 240<|Zm 0 8 .nil)<| .seq (Zr (Yv 9 0<|Zk 11 .gtr 10 4 .nil)<| .cond (.t 11) (Zr (Zo (.mv 2 (.c (.int .u64 0)))<|Yl 3) .ret) .skip)<|Zr (Zo (.mv 4 (.c (.int .u64 0))) .nil)<| .seq (Zr (dS 12 0)<| .block 0<| .loop<|Zr (Yu 15 14 13)<| .seq (.cond (.t 15) .skip (.exit 0))<| .seq (.block 1<|Zr (Zm 16 14<|Yw 17 12 14<|Zm 5 16<|Zm 6 18 .nil)<| .rg (Yh 19 4 6<|Zo (.conv 21 .u64 (.t 20))<|Zm 22 5<|Zo (.bin 23 .mul false (.c (Zz 16)) (.t 22))<|Zb 24 .shl 21 23<|Zb 25 .or 19 24<|Yc 4 25))<| .rg (YH 26 14 14))<|Zr (Zm 27 4<|Zm 2 27<|By 3) .ret⟩
def alr:Qc Tryz.prog f266=some atT:=by kernel_rfl
def ash:ax:=⟨20,[.t 2],Zr (Yf 2 0)<|Zr (YJ 3 0 240<|Zm 0 4 .nil)<| .seq (Zr (Yv 5 0<|BA 7 6 0)<| .cond (.t 7) (Zr (Yf 2 0) .ret) .skip)<|Zr (Yv 8 0<|Zk 10 .sub 9 1<|Zo (.bin 11 .mul false (.c (Zz 16)) (.t 10))<|Yh 12 0 0<|Zn 14 13<|Zk 15 .sub 14 1<|Yw 16 12 15<|Yn 18 241 17<|Zb 19 .add 11 18<|Yc 2 19) .ret⟩
def al3:Qc Tryz.prog f122=some ash:=by kernel_rfl
def aun:ax:=⟨45,[.t 4],Zr (Yf 4 0)<|Zr (YJ 6 0 240<|YJ 8 1 240<|Zm 0 7<|Zm 1 9 .nil)<| .seq (Zr (Yv 10 0<|Yv 12 1<|Zb 14 .neq 11 13 .nil)<| .cond (.t 14) (.seq (Zr (Yv 15 0<|Yv 17 1<|Yu 19 16 18)<| .cond (.t 19) (Zr (uq 4) .ret) .skip)<|Zr (Yf 4 1) .ret) .skip)<| .seq (Zr (Yv 20 0<|Zk 22 .sub 21 1<|Yc 5 22)<| .block 0<| .loop<| .seq (Zr (Zm 23 5<|Zk 24 .geq 23 0 .nil)<| .cond (.t 24) .skip (.exit 0))<| .seq (.block 1<| .seq (Zr (YW 27 0 5<|YW 31 1 5<|Yu 35 30 34)<| .cond (.t 35) (Zr (uq 4) .ret) .skip)<|Zr (YW 36 0 5<|YW 40 1 5<|Zb 44 .gtr 39 43 .nil)<| .cond (.t 44) (Zr (Yf 4 1) .ret) .skip)<| .rg (DW 25 5))<|Zr (Yf 4 0) .ret⟩
def al4:Qc Tryz.prog f328=some aun:=by kernel_rfl
def aur:ax:=⟨64,[.t 4],Zr (YI 4)<|Zr (YJ 9 0 240<|YJ 11 1 240<|Zm 0 10<|Zm 1 12 .nil)<| .seq (Zr (Yv 13 0<|Yv 15 1<|Yu 17 14 16)<| .cond (.t 17) (.rg (Yh 18 1 0<|ic 0 18 19)) .skip)<|Zr (Yv 20 0<|Yv 22 0<|Zk 24 .add 23 1<|fb 25 21 24<|Yc 5 25)<|Zr (Zo (.mv 6 (.c (.int .u32 0))) .nil)<| .seq (Zr (dS 26 0)<| .block 0<| .loop<|Zr (Yu 29 28 27)<| .seq (.cond (.t 29) .skip (.exit 0))<| .seq (.block 1<|Zr (Zm 30 28<|Yw 31 26 28<|ic 7 30 32)<|Zr (Yh 33 6 8<|xx 35 34<|Zb 36 .add 33 35<|Yc 6 36)<| .seq (Zr (mX 37 7 1)<| .cond (.t 40) (.rg (dq 41 6 1 7<|Yw 44 42 43<|xx 46 45<|Zb 47 .add 41 46<|Yc 6 47)) .skip)<|Zr (dq 48 5 7 6<|cW 51 50 48 49)<| .rg (BB 53 6<|Yc 6 54))<| .rg (YC 55 28 28))<| .seq (Zr (Zm 56 6<|Zo (.bin 57 .gtr false (.t 56) (.c (.int .u32 0))) .nil)<| .cond (.t 57) (.rg (Yh 58 5 6<|Zo (.conv 60 .u16 (.t 59))<|YA 61 1 159 60 2 58<|Yc 5 62)) .skip)<|Zr (MZ 63 5 4) .ret⟩
def al5:Qc Tryz.prog f333=some aur:=by kernel_rfl
def aus:ax:=⟨56,[.t 4,.t 5],Zr (gz 4 0)<| .seq (Zr (YZ 11 0 1 328<|Zk 14 .lss 13 0 .nil)<| .cond (.t 14) (Zr (gz 4 2) .ret) .skip)<|Zr (YJ 15 0 240<|YJ 17 1 240<|ic 0 16 18)<|Zr (Yv 19 0<|fb 21 20 20<|Yc 6 21)<|Zr (Zo (.mv 7 (.c (.int .i32 0))) .nil)<| .seq (Zr (dS 22 0)<| .block 0<| .loop<|Zr (Yu 25 24 23)<| .seq (.cond (.t 25) .skip (.exit 0))<| .seq (.block 1<|Zr (Zm 26 24<|Yw 27 22 24<|ic 8 26 28)<|Zr (Zm 29 9<|Zo (.conv 30 .i32 (.t 29))<|Zm 31 7<|Zb 32 .sub 30 31<|Yc 10 32)<| .seq (Zr (mX 33 8 1)<| .cond (.t 36) (.rg (dq 37 10 1 8<|Yw 40 38 39<|Zo (.conv 42 .i32 (.t 41))<|Zb 43 .sub 37 42<|Yc 10 43)) .skip)<|Zr (Zo (.mv 7 (.c (.int .i32 0))) .nil)<| .seq (Zr (Zm 44 10<|Zo (.bin 45 .lss false (.t 44) (.c (.int .i32 0))) .nil)<| .cond (.t 45) (Zr (Zm 46 10<|Zo (.bin 47 .add false (.t 46) (.c (.int .i32 65536)))<|Yc 10 47)<| .rg (Zo (.mv 7 (.c (.int .i32 1))) .nil)) .skip)<| .rg (dq 48 6 8 10<|cW 51 50 48 49))<| .rg (YC 53 24 24))<|Zr (YJ 54 6 240<|Zm 4 55<|Yf 5 0) .ret⟩
def al6:Qc Tryz.prog f334=some aus:=by kernel_rfl
def asn:ax:=⟨79,[.t 4],Zr (YI 4)<|Zr (YJ 11 0 240<|YJ 13 1 240<|Zm 0 12<|Yc 1 14)<| .seq (Zr (Yv 15 0<|Zk 17 .eql 16 0<|YE 18 17 1<|Zg 18 false (.len 20 (.t 19))<|Zg 18 false (.bin 21 .eql false (.t 20) (.c (Zz 0)))<|xy 22 18 21)<| .cond (.t 22) (Zr (YI 4) .ret) .skip)<|Zr (Yv 23 0<|Yv 25 1<|Zb 27 .add 24 26<|fb 28 27 27<|Yc 5 28)<| .seq (Zr (dS 29 0)<| .block 0<| .loop<|Zr (Yu 32 31 30)<| .seq (.cond (.t 32) .skip (.exit 0))<| .seq (.block 1<|Zr (Zm 33 31<|Yw 34 29 31<|ic 6 33 35)<|Zr (Zo (.mv 8 (.c (.int .u32 0))) .nil)<| .seq (Zr (dS 36 1)<| .block 2<| .loop<|Zr (Yu 39 38 37)<| .seq (.cond (.t 39) .skip (.exit 2))<| .seq (.block 3<|Zr (Zm 40 38<|Yw 41 36 38<|ic 9 40 42)<|Zr (Yh 43 8 5<|Yh 45 6 9<|Zb 47 .add 45 46<|Yw 48 44 47<|xx 50 49<|Zm 51 7<|xx 52 51<|Zm 53 10<|xx 54 53<|Zb 55 .mul 52 54<|Zb 56 .add 50 55<|Zb 57 .add 43 56<|Yc 8 57)<|Zr (dq 58 5 6 9<|Zb 61 .add 59 60<|Zm 62 8<|cW 63 62 58 61)<| .rg (BB 65 8<|Yc 8 66))<| .rg (YC 67 38 38))<| .rg (Yh 68 5 6<|Yv 70 1<|Zb 72 .add 69 71<|Zm 73 8<|cW 74 73 68 72))<| .rg (YC 76 31 31))<|Zr (YJ 77 5 240<|Yc 4 78) .ret⟩
def al7:Qc Tryz.prog f128=some asn:=by kernel_rfl
def auo:ax:=⟨43,[.t 4,.t 5],Zr (Yi 4<|Zo (.mv 5 (.c (.int .u16 0))) .nil)<|Zr (Yv 9 0<|fb 11 10 10<|Zm 6 11 .nil)<|Zr (Zo (.mv 7 (.c (.int .u32 0))) .nil)<| .seq (Zr (Yv 12 0<|Zk 14 .sub 13 1<|Zm 8 14 .nil)<| .block 0<| .loop<| .seq (Zr (Zm 15 8<|Zk 16 .geq 15 0 .nil)<| .cond (.t 16) .skip (.exit 0))<| .seq (.block 1<|Zr (Zm 19 7<|Zo (.bin 20 .shl false (.t 19) (.c (.int .u64 16)))<|YW 21 0 8<|xx 25 24<|Zb 26 .or 20 25<|Yc 7 26)<|Zr (Yh 27 6 8<|Yh 29 7 1<|xx 31 30<|Zb 32 .quo 29 31<|cW 33 32 27 28)<| .rg (Yh 35 7 1<|xx 37 36<|Zb 38 .rem 35 37<|Yc 7 38))<| .rg (Zm 17 8<|Zk 18 .sub 17 1<|Zm 8 18 .nil))<|Zr (YJ 39 6 240<|Zm 41 7<|Zo (.conv 42 .u16 (.t 41))<|ic 4 40 42) .ret⟩
def al8:Qc Tryz.prog f329=some auo:=by kernel_rfl
def atu:ax:=⟨71,[.t 4,.t 5,.t 6],Zr (Yi 4<|gz 5 0)<|Zr (YJ 12 0 240<|YJ 14 1 240<|ic 0 13 15)<| .seq (.block 0<|Zr (Yv 17 1<|Yq 19 18 0 16)<| .cond (.t 16) (Zr (Yi 4<|gz 5 3) .ret) (Zr (YZ 21 0 1 328<|Zk 24 .lss 23 0<|Zm 20 24 .nil)<| .cond (.t 20) (Zr (YJ 25 0 242<|Yi 4<|Zm 5 26<|Yf 6 0) .ret) (Zr (Yv 28 1<|Yq 30 29 1 27)<| .cond (.t 27) (Zr (Yh 32 0 1<|Zo (.idx 34 1 (.t 33) (.c (Zz 0)))<|Zl 35 1 34<|Bz 36 329 32 35 31<|ic 7 37 38)<|Zr (Yh 39 7 8<|Zo (.conv 41 .u64 (.t 40))<|Yn 42 156 41<|Yh 4 39 42<|Yf 6 0) .ret) .skip)))<|Zr (Yh 43 1 1<|Zn 45 44<|Zk 46 .sub 45 1<|Yw 47 43 46<|Yn 49 330 48<|Yc 9 49)<|Zr (YZ 50 0 9 331<|Zo (.bs 53 1 159 [.c (.int .u16 0),.c (.int .u16 0)])<|Zo (.app 54 1 2 159 (.t 52) (.t 53))<|Yv 55 0<|Zk 57 .add 56 1<|BD 58 1 54 57<|Yc 10 58)<|Zr (YZ 59 1 9 331<|Yc 11 61)<|Zr (YZ 62 10 11 332<|Yc 4 64)<|Zr (Yh 65 4 10<|Yn 67 240 66<|Zm 68 9<|Zo (.un 69 .neg (.t 68))<|Yp 70 331 67 69<|Yh 4 65 70<|Yf 6 0) .ret⟩
def al9:Qc Tryz.prog f244=some atu:=by kernel_rfl
def auJ:ax:=⟨31,[.t 6],Zr (Yl 6)<|Zr (Zl 7 1 0<|Zo (.bin 8 .geq false (.t 7) (.c (.int .u64 65536)))<|Zm 9 8<|Zg 9 false (.ld 10 1 false (.t 0))<|Zg 9 false (.ld 11 1 false (.t 1))<|Zg 9 false (.ld 12 1 false (.t 2))<|Zg 9 false (.bin 13 .sub false (.t 12) (.c (Zz 2)))<|Zg 9 false (.idx 14 1 (.t 11) (.t 13))<|Zg 9 false (.ld 15 1 false (.t 14))<|Zg 9 false (.conv 16 .u64 (.t 15))<|Zg 9 false (.bin 17 .mul false (.t 10) (.t 16))<|Zg 9 false (.ld 18 1 false (.t 3))<|Zg 9 false (.bin 19 .shl false (.t 18) (.c (.int .u64 16)))<|Zg 9 false (.ld 20 1 false (.t 4))<|Zg 9 false (.ld 21 1 false (.t 5))<|Zg 9 false (.ld 22 1 false (.t 2))<|Zg 9 false (.bin 23 .add false (.t 21) (.t 22))<|Zg 9 false (.bin 24 .sub false (.t 23) (.c (Zz 2)))<|Zg 9 false (.idx 25 1 (.t 20) (.t 24))<|Zg 9 false (.ld 26 1 false (.t 25))<|Zg 9 false (.conv 27 .u64 (.t 26))<|Zg 9 false (.bin 28 .or false (.t 19) (.t 27))<|Zg 9 false (.bin 29 .gtr false (.t 17) (.t 28))<|Yk 30 9 29<|Yc 6 30) .ret⟩
def ama:Qc Tryz.prog f359=some auJ:=by kernel_rfl
def Xv:ax:=⟨54,[.t 6],Zr (Yl 6)<|Zr (Zo (.mv 7 (.c (.int .u32 0))) .nil)<|Zr (Zo (.mv 8 (.c (.int .i32 0))) .nil)<| .seq (Zr (dS 11 0)<| .block 0<| .loop<|Zr (Yu 14 13 12)<| .seq (.cond (.t 14) .skip (.exit 0))<| .seq (.block 1<|Zr (kO 15 13 9)<| .seq (Zr (mX 16 9 1)<| .cond (.t 19) (.rg (Yh 20 7 2<|YW 22 1 9<|xx 26 25<|Zb 27 .mul 21 26<|Zb 28 .add 20 27<|Yc 7 28)) .skip)<|Zr (YW 29 0 9<|Zo (.conv 33 .i32 (.t 32))<|Zm 34 7<|Zo (.conv 35 .u16 (.t 34))<|Zo (.conv 36 .i32 (.t 35))<|Zb 37 .sub 33 36<|Zm 38 8<|Zb 39 .sub 37 38<|Yc 10 39)<|Zr (BB 40 7<|Yc 7 41)<|Zr (Zo (.mv 8 (.c (.int .i32 0))) .nil)<| .seq (Zr (Zm 42 10<|Zo (.bin 43 .lss false (.t 42) (.c (.int .i32 0))) .nil)<| .cond (.t 43) (Zr (Zm 44 10<|Zo (.bin 45 .add false (.t 44) (.c (.int .i32 65536)))<|Yc 10 45)<| .rg (Zo (.mv 8 (.c (.int .i32 1))) .nil)) .skip)<| .rg (dq 46 0 9 10<|cW 49 48 46 47))<| .rg (YC 51 13 13))<|Zr (Zm 52 8<|Zo (.bin 53 .gtr false (.t 52) (.c (.int .i32 0)))<|Yc 6 53) .ret⟩
def amb:Qc Tryz.prog f360=some Xv:=by kernel_rfl
def Xw:ax:=⟨37,[],Zr (Zo (.mv 4 (.c (.int .u32 0))) .nil)<|Zr (dS 6 0)<| .block 0<| .loop<|Zr (Yu 9 8 7)<| .seq (.cond (.t 9) .skip (.exit 0))<| .seq (.block 1<|Zr (kO 10 8 5)<|Zr (dq 11 4 0 5<|Yw 14 12 13<|xx 16 15<|Zb 17 .add 11 16<|Yc 4 17)<| .seq (Zr (mX 18 5 1)<| .cond (.t 21) (.rg (dq 22 4 1 5<|Yw 25 23 24<|xx 27 26<|Zb 28 .add 22 27<|Yc 4 28)) .skip)<|Zr (dq 29 0 5 4<|cW 32 31 29 30)<| .rg (BB 34 4<|Yc 4 35))<| .rg (YC 36 8 8)⟩
def amc:Qc Tryz.prog f361=some Xw:=by kernel_rfl
def asI:ax:=⟨51,[.t 4],Zr (YI 4)<|Zr (YJ 12 0 242<|YJ 14 1 242<|ic 0 13 15)<| .seq (.block 0<| .loop<| .seq (Zr (Yv 16 1<|Zk 18 .gtr 17 0 .nil)<| .cond (.t 18) .skip (.exit 0))<| .block 1<|Zr (YJ 20 0 266<|Zm 19 21<|Yd 22 19<|ic 5 22 23)<|Zr (YJ 25 1 266<|Zm 24 26<|Yd 27 24<|ic 7 27 28)<| .seq (Zr (Zm 29 6<|YO 30 29 8<|Ym 32 30 31 .nil)<| .cond (.t 32) (.seq (.block 2<| .loop<| .seq (Zr (Zm 33 7<|Zo (.bin 34 .gtr false (.t 33) (.c (.int .u64 0))) .nil)<| .cond (.t 34) .skip (.exit 2))<| .block 3<| .rg (dq 35 7 5 7<|Zb 38 .rem 36 37<|Zm 5 35<|Yc 7 38))<|Zr (YJ 39 5 156<|Yc 4 40) .ret) .skip)<|Zr (YZ 42 0 1 244<|Zm 41 44<|Yd 45 41<|Zo (.ext 47 (.t 41) 2)<|Yh 9 45 46<|Yc 11 47)<| .rg (Yh 48 1 10<|ic 0 48 49))<|Zr (MZ 50 0 4) .ret⟩
def amd:Qc Tryz.prog f154=some asI:=by kernel_rfl
def Xr:ax:=⟨78,[.t 4],Zr (YI 4)<|Zr (YJ 11 0 240<|Zm 0 12 .nil)<| .seq (Zr (Zm 13 1<|Zk 14 .lss 13 (-1048576)<|YE 15 14 1<|Zg 15 false (.bin 17 .gtr false (.t 16) (.c (Zz 1048576)))<|Yk 18 15 17<|YE 19 18 0<|Zg 19 false (.len 21 (.t 20))<|Zg 19 false (.bin 22 .eql false (.t 21) (.c (Zz 0)))<|xy 23 19 22)<| .cond (.t 23) (Zr (YI 4) .ret) .skip)<| .seq (Zr (BC 24 1 .nil)<| .cond (.t 25) (Zr (Yh 26 0 1<|Zo (.un 28 .neg (.t 27))<|Yp 29 358 26 28<|Yc 4 29) .ret) .skip)<|Zr (Zm 30 1<|Zk 31 .quo 30 16<|Zm 32 1<|Zk 33 .rem 32 16<|ic 5 31 33)<|Zr (Yv 34 0<|Zm 36 5<|Zb 37 .add 35 36<|Zk 38 .add 37 1<|Yv 39 0<|Zm 41 5<|Zb 42 .add 40 41<|Zk 43 .add 42 3<|fb 44 38 43<|Yc 7 44)<| .seq (Zr (dS 45 0)<| .block 0<| .loop<|Zr (Yu 48 47 46)<| .seq (.cond (.t 48) .skip (.exit 0))<| .seq (.block 1<|Zr (Zm 49 47<|Yw 50 45 47<|ic 8 49 51)<|Zr (Zm 52 9<|xx 53 52<|Zm 54 6<|Zb 55 .shl 53 54<|Yc 10 55)<|Zr (dq 56 7 8 5<|Zb 59 .add 57 58<|Yw 60 56 59<|Zm 62 10<|Zo (.conv 63 .u16 (.t 62))<|Zb 64 .or 61 63<|Zi 65 1 56 59<|Zs 1 65 64 .nil)<| .rg (dq 66 7 8 5<|Zb 69 .add 67 68<|Zk 70 .add 69 1<|BB 71 10<|cW 73 72 66 70))<| .rg (YC 75 47 47))<|Zr (YJ 76 7 240<|Yc 4 77) .ret⟩
def Km:Qc Tryz.prog f331=some Xr:=by kernel_rfl
def auI:ax:=⟨63,[.t 4],Zr (YI 4)<|Zr (Zm 10 1<|Zk 11 .quo 10 16<|Zm 12 1<|Zk 13 .rem 12 16<|Zm 5 11<|Zm 6 13 .nil)<| .seq (Zr (Yh 14 5 0<|Zn 16 15<|Zb 17 .geq 14 16 .nil)<| .cond (.t 17) (Zr (YI 4) .ret) .skip)<|Zr (Yv 18 0<|Zm 20 5<|Zb 21 .sub 19 20<|fb 22 21 21<|Yc 7 22)<| .seq (Zr (dS 23 7)<| .block 0<| .loop<|Zr (Yu 26 25 24)<| .seq (.cond (.t 26) .skip (.exit 0))<| .seq (.block 1<|Zr (MZ 27 25 8)<|Zr (dq 28 0 8 5<|Zb 31 .add 29 30<|Yw 32 28 31<|xx 34 33<|Yc 9 34)<| .seq (Zr (Yh 35 8 5<|Zb 37 .add 35 36<|Zk 38 .add 37 1<|Yv 39 0<|Yu 41 38 40)<| .cond (.t 41) (.rg (Yh 42 9 0<|Yh 44 8 5<|Zb 46 .add 44 45<|Zk 47 .add 46 1<|Yw 48 43 47<|xx 50 49<|Zo (.bin 51 .shl false (.t 50) (.c (.int .u64 16)))<|Zb 52 .or 42 51<|Yc 9 52)) .skip)<| .rg (Yh 53 7 8<|Yh 55 9 6<|Zb 57 .shr 55 56<|cW 58 57 53 54))<| .rg (YC 60 25 25))<|Zr (YJ 61 7 240<|Yc 4 62) .ret⟩
def ame:Qc Tryz.prog f358=some auI:=by kernel_rfl
def auq:ax:=⟨6,[.t 2],Zr (Yf 2 0)<|Zr (YJ 3 0 241<|Zo (.bin 5 .sub false (.c (Zz 16)) (.t 4))<|Zm 2 5 .nil) .ret⟩
def amf:Qc Tryz.prog f330=some auq:=by kernel_rfl
def aum:ax:=⟨15,[.cell 4 2 true],Zr (eu 4)<|Zr (YJ 5 1 242<|Zm 1 6 .nil)<|Zr (DV 7<|Zs 2 4 14 .nil) .ret⟩
def amg:Qc Tryz.prog f327=some aum:=by kernel_rfl
def asJ:ax:=⟨13,[.cell 4 2 true],Zr (eu 4)<|Zr (DV 5<|Zs 2 4 12 .nil) .ret⟩
def amh:Qc Tryz.prog f155=some asJ:=by kernel_rfl
def asH:ax:=⟨27,[.t 2],Zr (uu 1 47 0<|Yl 2)<|Zr (YT 4 1 1<|Zm 3 6 .nil)<|Zr (Zm 7 3<|Zk 8 .eql 7 0<|Zm 9 8<|YK 9 0 1<|Zg 9 true (.un 12 .not (.t 11))<|Ym 13 9 12<|YE 14 13 3<|Zg 14 false (.bin 16 .gtr false (.t 15) (.c (Zz 0)))<|Zg 14 false (.mv 17 (.t 16))<|YK 17 1 1<|Zg 17 true (.mv 20 (.t 3))<|Zg 17 true (.bin 21 .sub false (.t 20) (.c (Zz 1)))<|Zg 17 true (.idx 22 1 (.t 19) (.t 21))<|Zg 17 true (.ld 23 1 false (.t 22))<|Zg 17 true (.bin 24 .neq false (.t 23) (.c (.int .u16 0)))<|Zg 14 false (.pick 25 (.t 17) (.t 24) (.c (.bool false)))<|Yk 26 14 25<|Yc 2 26) .ret⟩
def ami:Qc Tryz.prog f153=some asH:=by kernel_rfl
def att:ax:=⟨8,[.cell 2 2 true],Zr (uu 1 47 0<|um 2)<|Zr (dW 3 0 1 1 1<|Yp 7 327 4 6<|Zs 2 2 7 .nil) .ret⟩
def amj:Qc Tryz.prog f243=some att:=by kernel_rfl
def Nd:ax:=⟨16,[.cell 2 2 true],Zr (um 2)<| .seq (Zr (BC 3 0 .nil)<| .cond (.t 4) (Zr (Zm 5 0<|Zk 6 .add 5 1<|Zo (.un 7 .neg (.t 6))<|Zo (.conv 8 .u64 (.t 7))<|Zo (.bin 9 .add false (.t 8) (.c (.int .u64 1)))<|Yn 10 156 9<|Zq 11 false 155 [.c (.bool true),.t 10]<|Zs 2 2 11 .nil) .ret) .skip)<|Zr (Zm 12 0<|Zo (.conv 13 .u64 (.t 12))<|Yn 14 156 13<|Zq 15 false 155 [.c (.bool false),.t 14]<|Zs 2 2 15 .nil) .ret⟩
def aqI:Qc Tryz.prog f80=some Nd:=by kernel_rfl
def c63:ax:=⟨11,[.t 2],Zr (uu 1 47 0<|Yf 2 0)<| .seq (.block 0<|Zr (Ya 4 1 1<|Yn 6 122 5<|Yq 7 6 0 3)<| .cond (.t 3) (Zr (Yf 2 0) .ret) (Zr (Ya 9 0 1<|Zm 8 10 .nil)<| .cond (.t 8) (Zr (uq 2) .ret) .skip))<|Zr (Yf 2 1) .ret⟩
def aqJ:Qc Tryz.prog f63=some c63:=by kernel_rfl
def auN:ax:=⟨35,[.t 4],Zr (my 2 47 0<|dH 3 2 47 1<|Yf 4 0)<|Zr (Zh 8 2 2<|Zh 10 2 3<|nQ 9 63 8<|nQ 11 63 10<|Zm 5 9<|Zm 6 11 .nil)<|Zr (Zo (.mv 7 (.c (.fn 369 [] []))) .nil)<| .seq (.block 0<|Zr (Yh 13 5 6<|Zb 15 .lss 13 14<|Zm 12 15 .nil)<| .cond (.t 12) (Zr (uq 4) .ret) (Zr (Yh 17 5 6<|Zb 19 .gtr 17 18<|Zm 16 19 .nil)<| .cond (.t 16) (Zr (Yf 4 1) .ret) (Zr (BC 21 5<|Zm 20 22 .nil)<| .cond (.t 20) (Zr (Zm 23 7<|dW 24 1 3 1 2<|Zo (.call (some 28) false (.t 23) [.t 25,.t 27])<|Yc 4 28) .ret) .skip)))<|Zr (Zm 29 7<|dW 30 1 2 1 3<|Zo (.call (some 34) false (.t 29) [.t 31,.t 33])<|Yc 4 34) .ret⟩
def amk:Qc Tryz.prog f364=some auN:=by kernel_rfl
def auQ:ax:=⟨8,[.t 4],Zr (Yf 4 0)<|Zr (YZ 5 0 1 328<|Zm 4 7 .nil) .ret⟩
def aml:Qc Tryz.prog f369=some auQ:=by kernel_rfl
def atv:ax:=⟨40,[.cell 4 2 true],Zr (my 2 47 0<|dH 3 2 47 1<|eu 4)<| .seq (Zr (dW 7 0 2 0 3<|Zo (.bin 11 .eql true (.t 8) (.t 10)) .nil)<| .cond (.t 11) (Zr (dW 12 0 2 1 2<|Ya 16 1 3<|Ys 18 333 15 17<|uo 19 155 13 18 2 4) .ret) .skip)<| .seq (Zr (dW 20 1 2 1 3<|Yp 24 328 21 23<|Zk 25 .lss 24 0 .nil)<| .cond (.t 25) (.rg (Zh 26 2 3<|Zh 27 2 2<|Zs 2 2 26<|Zs 2 3 27 .nil)) .skip)<|Zr (dW 29 1 2 1 3<|Bz 33 334 30 32 28<|ic 5 34 35)<|Zr (eF 36 0 2 5<|Yp 39 155 37 38<|Zs 2 4 39 .nil) .ret⟩
def amm:Qc Tryz.prog f245=some atv:=by kernel_rfl
def asl:ax:=⟨16,[.cell 4 2 true],Zr (my 2 47 0<|dH 3 2 47 1<|eu 4)<|Zr (dW 5 0 2 0 3<|Zo (.bin 9 .neq true (.t 6) (.t 8))<|dW 10 1 2 1 3<|Ys 14 128 11 13<|uo 15 155 9 14 2 4) .ret⟩
def amn:Qc Tryz.prog f126=some asl:=by kernel_rfl
def asi:ax:=⟨17,[.t 2],Zr (Yl 2)<|Zr (Yv 4 0<|Zo (.cD 6 [Zz 0,.int .u16 0] [(0,1,.t 5)])<|Zo (.alloc 3 2 238 (.agg [Zz 0,.int .u16 0]))<|Zs 2 3 6 .nil)<| .seq (Zr (Yv 7 0<|Zk 9 .gtr 8 0 .nil)<| .cond (.t 9) (.rg (Yo 10 0 1 0<|Zl 12 1 11<|qw 13 1 3 1 12)) .skip)<|Zr (Zh 14 2 3<|Zo (.cD 15 [Zz 0,.int .u16 0] [(0,1,.c (Zz 1)),(1,1,.c (.int .u16 1))])<|Zo (.eqs 16 false (.t 14) (.t 15))<|Yc 2 16) .ret⟩
def amo:Qc Tryz.prog f123=some asi:=by kernel_rfl
def c81:ax:=⟨2,[.t 0],Zr (YI 0)<|Zr (Zo (.bs 1 1 159 [.c (.int .u16 1)])<|Zm 0 1 .nil) .ret⟩
def aqK:Qc Tryz.prog f81=some c81:=by kernel_rfl
def M4:ax:=⟨52,[.cell 4 3 true],Zr (my 2 47 0<|Ye 4 .nil)<|Zr (YJ 6 1 242<|Zm 1 7 .nil)<|Zr (iB 8 2 2 243<|Zs 2 2 9 .nil)<| .seq (Zr (Yv 10 1<|Zk 12 .eql 11 0<|Yx 13 12 1 2<|Zg 13 false (.len 16 (.t 15))<|Zg 13 false (.bin 17 .eql false (.t 16) (.c (Zz 0)))<|xy 18 13 17)<| .cond (.t 18) (Zr (Zq 19 false 81 []<|Zo (.cD 20 [.bool false,.aa,.aa] [(2,1,.t 19)])<|Zs 3 4 20 .nil) .ret) .skip)<| .seq (Zr (YJ 21 1 123 .nil)<| .cond (.t 22) (Zr (sV 23 2 2 1<|Zo (.cD 25 [.bool false,.aa,.aa] [(0,2,.t 23),(2,1,.t 24)])<|Zs 3 4 25 .nil) .ret) .skip)<|Zr (eF 26 1 2 1<|Yp 29 154 27 28<|Yc 5 29)<| .seq (Zr (YJ 30 5 123<|Zu 32 31 .nil)<| .cond (.t 32) (Zr (eF 34 1 2 5<|Bz 37 244 35 36 33<|Zo (.ext 40 (.t 33) 2)<|qw 41 1 2 1 38)<| .rg (YZ 43 1 5 244<|Zm 42 45<|Yd 46 42<|Zo (.ext 48 (.t 42) 2)<|Yc 1 46)) .skip)<|Zr (sV 49 2 2 1<|Zo (.cD 51 [.bool false,.aa,.aa] [(0,2,.t 49),(2,1,.t 50)])<|Zs 3 4 51 .nil) .ret⟩
def amp:Qc Tryz.prog f124=some M4:=by kernel_rfl
def c62:ax:=⟨14,[.cell 2 2 true,.t 3],Zr (jA 1 49 0<|Zo (.alloc 2 2 47 (.agg [.bool false,.aa]))<|YI 3)<| .seq (Zr (Ya 4 2 1<|Yn 6 122 5<|BA 7 6 0)<| .cond (.t 7) (Zr (Zo (.cD 8 [.bool false,.aa] [])<|Zq 9 false 81 []<|Zs 2 2 8<|Zm 3 9 .nil) .ret) .skip)<|Zr (cM 10 0 1 2<|Zf 12 2 1<| .br (Zl 13 1 12<|Zs 2 2 11<|Zm 3 13 .nil) (Zs 2 2 11<|Zl 13 1 12<|Zm 3 13 .nil)) .ret⟩
def aqL:Qc Tryz.prog f62=some c62:=by kernel_rfl
def asm:ax:=⟨5,[.cell 2 2 true],Zr (um 2)<|Zr (Zm 3 0<|Zo (.cD 4 [.bool false,.aa] [(1,1,.t 3)])<|Zs 2 2 4 .nil) .ret⟩
def amq:Qc Tryz.prog f127=some asm:=by kernel_rfl
def Nc:ax:=⟨36,[.t 2],Zr (jA 1 49 0<|Yl 2)<|Zr (YT 4 2 1<|Zm 3 6 .nil)<| .seq (Zr (cM 7 0 1 2<|Yn 9 153 8<|Zu 10 9<|YE 11 10 3<|Zg 11 false (.bin 13 .eql false (.t 12) (.c (Zz 0)))<|Yk 14 11 13<|Yx 15 14 2 1<|Zg 15 false (.mv 18 (.t 3))<|Zg 15 false (.bin 19 .sub false (.t 18) (.c (Zz 1)))<|Zg 15 false (.idx 20 1 (.t 17) (.t 19))<|Zg 15 false (.ld 21 1 false (.t 20))<|Zg 15 false (.bin 22 .eql false (.t 21) (.c (.int .u16 0)))<|xy 23 15 22)<| .cond (.t 23) (Zr (Yl 2) .ret) .skip)<|Zr (Ya 24 2 1<|Yn 26 123 25<|Zm 27 26<|Zg 27 false (.dI 28 0 (.t 1))<|Zg 27 false (.dI 29 1 (.t 28))<|Zg 27 false (.ld 30 1 false (.t 29))<|Zg 27 false (.dI 31 2 (.t 1))<|Zg 27 false (.ld 32 1 false (.t 31))<|Zg 27 false (.call (some 33) false (.c (.fn 154 [] [])) [.t 30,.t 32])<|Zg 27 false (.call (some 34) false (.c (.fn 123 [] [])) [.t 33])<|Yk 35 27 34<|Yc 2 35) .ret⟩
def aqM:Qc Tryz.prog f77=some Nc:=by kernel_rfl
def c35:ax:=⟨7,[.cell 2 3 true],Zr (fC 2)<|Zr (YJ 3 0 80<|Zq 5 false 81 []<|Zo (.cD 6 [.bool false,.aa,.aa] [(0,2,.t 4),(2,1,.t 5)])<|Zs 3 2 6 .nil) .ret⟩
def aqN:Qc Tryz.prog f35=some c35:=by kernel_rfl
def c19:ax:=⟨12,[.t 2],Zr (jA 1 49 0<|Yf 2 0)<|Zr (YM 6 1 5 3<|Zm 4 9 .nil)<|Zr (iB 10 2 3 63<|Zm 2 11 .nil) .ret⟩
def aqO:Qc Tryz.prog f19=some c19:=by kernel_rfl
def auv:ax:=⟨40,[.t 4],Zr (uu 2 49 0<|my 3 49 1<|Yf 4 0)<|Zr (Zh 11 3 2<|Zh 13 3 3<|Zq 12 true 19 [.t 11]<|Zq 14 true 19 [.t 13]<|Zm 5 12<|Zm 6 14 .nil)<| .seq (Zr (Yh 15 5 6<|Zb 17 .neq 15 16 .nil)<| .cond (.t 17) (.seq (Zr (Yh 18 5 6<|Yu 20 18 19)<| .cond (.t 20) (Zr (uq 4) .ret) .skip)<|Zr (Yf 4 1) .ret) .skip)<|Zr (YM 22 2 21 7<|Yc 8 25)<|Zr (YM 27 3 26 9<|Yc 10 30)<|Zr (sV 31 2 7 10<|sV 35 2 9 8<|nQ 33 127 32<|Ys 34 126 31 33<|nQ 37 127 36<|Ys 38 126 35 37<|Ys 39 364 34 38<|Yc 4 39) .ret⟩
def amr:Qc Tryz.prog f337=some auv:=by kernel_rfl
def auF:ax:=⟨9,[.t 4],Zr (uu 2 49 0<|my 3 49 1<|Yl 4)<|Zr (Zh 5 3 2<|Zh 6 3 3<|Yp 7 337 5 6<|Yq 8 7 0 4) .ret⟩
def ams:Qc Tryz.prog f345=some auF:=by kernel_rfl
def asj:ax:=⟨17,[.cell 2 2 true],Zr (um 2)<|Zr (eu 3)<| .seq (Zr (dS 6 0)<| .block 0<| .loop<|Zr (Yu 9 8 7)<| .seq (.cond (.t 9) .skip (.exit 0))<| .seq (.block 1<|Zr (YG 10 2 6 8<|Zo (.alloc 5 2 47 (.agg [.bool false,.aa]))<|Zs 2 5 11 .nil)<| .rg (Zh 12 2 3<|Zh 13 2 5<|Yp 14 245 12 13<|Zs 2 3 14 .nil))<| .rg (YH 15 8 8))<|Zr (Zh 16 2 3<|Zs 2 2 16 .nil) .ret⟩
def alT:Qc Tryz.prog f125=some asj:=by kernel_rfl
def Na:ax:=⟨45,[.cell 4 3 true],Zr (uu 2 49 0<|my 3 49 1<|Ye 4 .nil)<|Zr (YM 10 2 9 5<|Zm 6 13 .nil)<|Zr (YM 15 3 14 7<|Zm 8 18 .nil)<| .seq (Zr (YJ 19 6 123<|YO 21 20 8<|Zg 21 true (.call (some 23) false (.c (.fn 123 [] [])) [.t 22])<|Ym 24 21 23 .nil)<| .cond (.t 24) (Zr (Zh 25 2 5<|Zh 26 2 7<|Zo (.bs 27 2 47 [.t 25,.t 26])<|Yn 28 125 27<|Zm 29 6<|Yp 30 124 28 29<|Zs 3 4 30 .nil) .ret) .skip)<|Zr (sV 31 2 5 8<|sV 35 2 7 6<|Yh 41 6 8<|nQ 33 127 32<|Ys 34 126 31 33<|nQ 37 127 36<|Ys 38 126 35 37<|Zo (.bs 39 2 47 [.t 34,.t 38])<|nQ 40 125 39<|Ys 43 128 41 42<|uo 44 124 40 43 3 4) .ret⟩
def aqP:Qc Tryz.prog f64=some Na:=by kernel_rfl
def c65:ax:=⟨18,[.cell 4 3 true],Zr (uu 2 49 0<|my 3 49 1<|Ye 4 .nil)<|Zr (Zh 5 3 2<|Zf 6 0 3<|Ya 7 0 6<|Zu 9 8<|Zf 10 0 3<|Ya 11 1 10<|Zo (.cD 13 [.bool false,.aa] [(0,1,.t 9),(1,1,.t 12)])<|Ya 14 2 3<|Zo (.cD 16 [.bool false,.aa,.aa] [(0,2,.t 13),(2,1,.t 15)])<|Yp 17 64 5 16<|Zs 3 4 17 .nil) .ret⟩
def aqQ:Qc Tryz.prog f65=some c65:=by kernel_rfl
def Nb:ax:=⟨26,[.cell 4 3 true],Zr (uu 2 49 0<|my 3 49 1<|Ye 4 .nil)<|Zr (YM 10 2 9 5<|Zm 6 13 .nil)<|Zr (YM 15 3 14 7<|Zm 8 18 .nil)<|Zr (Zh 19 2 5<|Zh 20 2 7<|Yp 21 126 19 20<|YZ 22 6 8 128<|Yp 25 124 21 24<|Zs 3 4 25 .nil) .ret⟩
def aqR:Qc Tryz.prog f67=some Nb:=by kernel_rfl
def auj:ax:=⟨18,[.cell 2 3 true],Zr (jA 1 49 0<|fC 2)<|Zr (YM 6 1 5 3<|Zm 4 9 .nil)<|Zr (Ya 10 0 3<|Zu 12 11<|Ya 13 1 3<|Zo (.cD 15 [.bool false,.aa] [(0,1,.t 12),(1,1,.t 14)])<|Zm 16 4<|Yp 17 124 15 16<|Zs 3 2 17 .nil) .ret⟩
def alU:Qc Tryz.prog f301=some auj:=by kernel_rfl
def at7:ax:=⟨21,[.cell 4 3 true,.t 5],Zr (my 2 47 0<|dH 3 2 47 1<|Ye 4<|Yf 5 0)<| .seq (Zr (iB 6 2 3 63<|BA 8 7 0)<| .cond (.t 8) (Zr (Zo (.cD 9 [.bool false,.aa,.aa] [])<|Zs 3 4 9<|Yf 5 3) .ret) .skip)<|Zr (dW 10 0 2 0 3<|Zo (.bin 14 .neq true (.t 11) (.t 13))<|Ya 15 1 2<|Zo (.cD 17 [.bool false,.aa] [(0,1,.t 14),(1,1,.t 16)])<|Ya 18 1 3<|Yp 20 124 17 19<|Zs 3 4 20<|Yf 5 0) .ret⟩
def alV:Qc Tryz.prog f276=some at7:=by kernel_rfl
def as5:ax:=⟨31,[.cell 4 3 true,.t 5],Zr (uu 2 49 0<|my 3 49 1<|Ye 4<|Yf 5 0)<|Zr (YM 11 2 10 6<|Zm 7 14 .nil)<|Zr (YM 16 3 15 8<|Zm 9 19 .nil)<|Zr (sV 20 2 6 9<|sV 24 2 8 7<|nQ 22 127 21<|Ys 23 126 20 22<|nQ 26 127 25<|Ys 27 126 24 26<|Ys 28 276 23 27<|kA 29 28 3 4 5) .ret⟩
def alW:Qc Tryz.prog f182=some as5:=by kernel_rfl
def auc:ax:=⟨19,[.cell 4 3 true],Zr (Ye 4 .nil)<|Zr (YJ 8 0 80<|YJ 10 1 80<|Bz 12 276 9 11 7<|Ye 5<|Zs 3 5 13<|Zm 6 14 .nil)<| .seq (Zr (YQ 15 6)<| .cond (.t 16) (Zr (Zq 17 false 35 [.c (Zz 0)]<|Zs 3 4 17 .nil) .ret) .skip)<|Zr (Zh 18 3 5<|Zs 3 4 18 .nil) .ret⟩
def alX:Qc Tryz.prog f287=some auc:=by kernel_rfl
def Xs:ax:=⟨108,[.t 4],Zr (dH 2 1 45 0<|dH 3 1 45 1<|YI 4)<|Zr (Zl 12 1 3<|Zn 13 12<|Zo (.alloc 5 1 3 (Zz 0))<|Zs 1 5 13 .nil)<|Zr (Zl 14 1 2<|Zn 15 14<|Zl 16 1 5<|Zb 17 .sub 15 16<|fb 18 17 17<|Zm 6 18 .nil)<| .seq (Zr (Zl 19 1 2<|Zn 20 19<|Zl 21 1 5<|Zb 22 .sub 20 21<|Zk 23 .sub 22 1<|Zo (.alloc 7 1 3 (Zz 0))<|Zs 1 7 23 .nil)<| .block 0<| .loop<| .seq (Zr (Zl 24 1 7<|Zk 25 .geq 24 0 .nil)<| .cond (.t 25) .skip (.exit 0))<| .seq (.block 1<|Zr (Zl 28 1 2<|Zl 29 1 7<|Zl 30 1 5<|Zb 31 .add 29 30<|Yw 32 28 31<|Zo (.conv 34 .u64 (.t 33))<|Zo (.bin 35 .shl false (.t 34) (.c (.int .u64 16)))<|Zl 36 1 2<|Zl 37 1 7<|Zl 38 1 5<|Zb 39 .add 37 38<|Zk 40 .sub 39 1<|Yw 41 36 40<|Zo (.conv 43 .u64 (.t 42))<|Zb 44 .or 35 43<|Yc 8 44)<|Zr (Zm 45 8<|Zl 46 1 3<|Zl 47 1 5<|Zk 48 .sub 47 1<|Yw 49 46 48<|Zo (.conv 51 .u64 (.t 50))<|Zb 52 .quo 45 51<|Zm 53 8<| .br (Zl 54 1 3<| .br (YS 55<| .br (Yb 58<| .br (Yy 9<|Yy 10<|dp 1) (Yy 10<|Yy 9<|dp 1)) (.br (Yy 9<| .br (Yb 58<|Yy 10<|dp 1) (Yy 10<| .br (sW 58) (eA 1))) (Yy 10<| .br (Yb 58<|Yy 9<|dp 1) (Yy 9<| .br (sW 58) (eA 1))))) (.br (Yy 9<| .br (YS 55<| .br (Yb 58<|Yy 10<|dp 1) (Yy 10<| .br (sW 58) (eA 1))) (Yy 10<| .br (YS 55<| .br (sW 58) (eA 1)) (Zs 1 9 52<|YS 55<|Yb 58<|YD 1))) (Yy 10<| .br (YS 55<| .br (Yb 58<|Yy 9<|dp 1) (Yy 9<| .br (sW 58) (eA 1))) (Yy 9<| .br (YS 55<| .br (sW 58) (eA 1)) (Zs 1 9 52<|YS 55<|Yb 58<|YD 1))))) (.br (Zl 55 1 5<|Zk 56 .sub 55 1<| .br (uk 54<| .br (Yb 58<| .br (Yy 9<|Yy 10<|dp 1) (Yy 10<|Yy 9<|dp 1)) (.br (Yy 9<| .br (Yb 58<|Yy 10<|dp 1) (Yy 10<| .br (sW 58) (eA 1))) (Yy 10<| .br (Yb 58<|Yy 9<|dp 1) (Yy 9<| .br (sW 58) (eA 1))))) (.br (Yy 9<| .br (uk 54<| .br (Yb 58<|Yy 10<|dp 1) (Yy 10<| .br (sW 58) (eA 1))) (Yy 10<| .br (uk 54<| .br (sW 58) (eA 1)) (Zs 1 9 52<|uk 54<|Yb 58<|YD 1))) (Yy 10<| .br (uk 54<| .br (Yb 58<|Yy 9<|dp 1) (Yy 9<| .br (sW 58) (eA 1))) (Yy 9<| .br (uk 54<| .br (sW 58) (eA 1)) (Zs 1 9 52<|uk 54<|Yb 58<|YD 1))))) (.br (Yy 9<| .br (Zl 54 1 3<| .br (YS 55<| .br (Yb 58<|Yy 10<|dp 1) (Yy 10<| .br (sW 58) (eA 1))) (Yy 10<| .br (YS 55<| .br (sW 58) (eA 1)) (Zs 1 9 52<|YS 55<|Yb 58<|YD 1))) (.br (Zl 55 1 5<|Zk 56 .sub 55 1<| .br (uk 54<| .br (Yb 58<|Yy 10<|dp 1) (Yy 10<| .br (sW 58) (eA 1))) (Yy 10<| .br (uk 54<| .br (sW 58) (eA 1)) (Zs 1 9 52<|uk 54<|Yb 58<|YD 1))) (Yy 10<| .br (Zl 54 1 3<| .br (YS 55<| .br (sW 58) (eA 1)) (Zs 1 9 52<|YS 55<|Yb 58<|YD 1)) (.br (Zl 55 1 5<|Zk 56 .sub 55 1<| .br (uk 54<| .br (sW 58) (eA 1)) (Zs 1 9 52<|uk 54<|Yb 58<|YD 1)) (Zs 1 9 52<| .br (Zl 54 1 3<|YS 55<|Yb 58<|YD 1) (Zl 55 1 5<|Zk 56 .sub 55 1<|uk 54<|Yb 58<|YD 1)))))) (Yy 10<| .br (Zl 54 1 3<| .br (YS 55<| .br (Yb 58<|Yy 9<|dp 1) (Yy 9<| .br (sW 58) (eA 1))) (Yy 9<| .br (YS 55<| .br (sW 58) (eA 1)) (Zs 1 9 52<|YS 55<|Yb 58<|YD 1))) (.br (Zl 55 1 5<|Zk 56 .sub 55 1<| .br (uk 54<| .br (Yb 58<|Yy 9<|dp 1) (Yy 9<| .br (sW 58) (eA 1))) (Yy 9<| .br (uk 54<| .br (sW 58) (eA 1)) (Zs 1 9 52<|uk 54<|Yb 58<|YD 1))) (Yy 9<| .br (Zl 54 1 3<| .br (YS 55<| .br (sW 58) (eA 1)) (Zs 1 9 52<|YS 55<|Yb 58<|YD 1)) (.br (Zl 55 1 5<|Zk 56 .sub 55 1<| .br (uk 54<| .br (sW 58) (eA 1)) (Zs 1 9 52<|uk 54<|Yb 58<|YD 1)) (Zs 1 9 52<| .br (Zl 54 1 3<|YS 55<|Yb 58<|YD 1) (Zl 55 1 5<|Zk 56 .sub 55 1<|uk 54<|Yb 58<|YD 1)))))))))<|Zr (Zo (.fn 61 359 [] [.t 9,.t 3,.t 5,.t 10,.t 2,.t 7])<|Yc 11 61)<| .seq (.block 2<| .loop<| .seq (Zr (Zl 62 1 10<|Zo (.bin 63 .lss false (.t 62) (.c (.int .u64 65536)))<|YO 64 63 11<|Zg 64 true (.call (some 66) false (.t 65) [])<|Ym 67 64 66 .nil)<| .cond (.t 67) .skip (.exit 2))<| .block 3<|Zr (Zl 68 1 9<|Zo (.bin 69 .sub false (.t 68) (.c (.int .u64 1)))<|Zs 1 9 69 .nil)<| .rg (Zl 70 1 10<|Zl 71 1 3<|Zl 72 1 5<|Zk 73 .sub 72 1<|Yw 74 71 73<|Zo (.conv 76 .u64 (.t 75))<|Zb 77 .add 70 76<|Zs 1 10 77 .nil))<| .seq (Zr (Zl 78 1 2<|Zl 79 1 7<|Zl 80 1 7<|Zl 81 1 5<|Zb 82 .add 80 81<|Zk 83 .add 82 1<|Zo (.sl 84 1 (.t 78) (some (.t 79)) (some (.t 83)) none)<|Zl 85 1 3<|Zl 86 1 9<|xx 87 86<|mY 88 360 84 85 87 .nil)<| .cond (.t 88) (Zr (Zl 89 1 9<|Zo (.bin 90 .sub false (.t 89) (.c (.int .u64 1)))<|Zs 1 9 90 .nil)<| .rg (Zl 91 1 2<|Zl 92 1 7<|Zl 93 1 7<|Zl 94 1 5<|Zb 95 .add 93 94<|Zk 96 .add 95 1<|Zo (.sl 97 1 (.t 91) (some (.t 92)) (some (.t 96)) none)<|Zl 98 1 3<|Yp 99 361 97 98 .nil)) .skip)<| .rg (Zm 100 6<|Zl 101 1 7<|Zl 102 1 9<|cW 103 102 100 101))<| .seq (Zr (Zl 105 1 7 .nil)<| .rg (Zo (.alloc 7 1 3 (Zz 0))<|Zs 1 7 105 .nil))<| .rg (Zl 26 1 7<|Zk 27 .sub 26 1<|Zs 1 7 27 .nil))<|Zr (YJ 106 6 240<|Yc 4 107) .ret⟩
def alY:Qc Tryz.prog f332=some Xs:=by kernel_rfl
abbrev AC:=@Qa Tryz.prog
variable{l:List Nat}{n:Nat}
def kk(hv:Qk l)(hl:l.length<2^42):AC 240 [PV.nat l] (· =PV.num (val l)):=by
 refine aF Qd func240 SG λC hP=>?_;refine Sz0 ?_;refine tR (λm fr hp=>m<=l.length/\cut l m=aw (val l)/\fr 0=PV.nat l/\fr 3= .int .i64 m/\hp=aB) l.length ?_ ?_
 .exact⟨Kag _,Di hv,rfl,rfl,rfl⟩
 rintro n fr _ ⟨hn,hc,h0,h3,rfl⟩;refine Sz2 h0 h3 ?_;refine fJ (λhg=>?_) (λhg=>?_)
 .simp+decide (disch:=first|omega|rfl|(simp+decide only[go_sem,h0,h3,yJ,ry]<;>rfl)|fail) only[go_sem,h0,h3,yJ,ry];obtain _|n:=n
  .omega
  have e:((n+1:Nat):Int)-1=n:=Oz;simp only[cut]at hc;refine Qm (λhz=>?_) (λhz=>?_)
  .rw[if_pos (by grind)]at hc;simp+decide (disch:=try exact D3 h0 h3 e) only[go_sem,h0,h3,e];refine pX (m:=n) Oz ⟨by omega,hc,?_⟩;exact Tz3 h0 @true_and @and_true
  .refine Sz3 h0 h3 @Ma ?_;rw[if_neg (by grind)]at hc;exact Qb (by simp[hc]) rfl
 .obtain rfl:n=0:=by omega
  refine Sz3 h0 h3 @Ma ?_;exact Qb (by simp[<-hc,cut]) rfl
def CN(hv:Qk l)(hl:l.length<2^42):AC 242 [PV.nat l] (· =PV.num (val l)):=by
 have hd:=cB hv;unfold nl at hd;refine aF Qd func242 alp λC hP=>?_;refine ay hP (kk hv hl) ?_;refine bD (λhz=>?_) (λhz=>?_)
 .refine Sz0 ?_;have:aw (val l)=[]:=KaE.1 Oz;exact od (by rw[PV.num,this];exact apu) rfl
 .refine Sz0 ?_;rw[ak5 rfl (by simp)];refine Sz0 ?_;exact vj rfl (by simp[Kaf])
def Hy(hn:n<18446744073709551616):AC 156 [.int .u64 n] (· =PV.num n):=by
 have hlen:=qf hn;unfold nl at hlen;refine aF Qd func156 alq λC hP=>?_;refine Sz0 ?_;refine CT (λm fr hp=>∃done:List Nat,aw n=done++aw m/\m<=n/\fr 0= .int .u64 m/\fr 3= .ms 12 done.length/\hp 12=some ⟨1,159,done.map λ(x:Nat)=>.int .u16 x,false⟩) n (Tu 3 12 1 159 Oz ?_) ?_ ?_
 .exact Tz0
 .refine⟨[],?_⟩;simp+decide (disch:=first|omega|rfl|(simp+decide only[go_sem,KaO,Kbs,Kbm,true_and,and_true,Kag]<;>rfl)|fail) only[go_sem,KaO,Kbs,Kbm,true_and,and_true,Kag]
 rintro m fr hp ⟨done,hd,hm,h0,h3,hh⟩;rw[hd,Kaz]at hlen;refine aZ h0 (λhz=>?_) (λhz=>?_)
 .have aS:m≠0:=Oz;have qH:aw n=(done++[m%65536])++aw (m/65536):=by rw[hd,wS aS];simp
  refine Sz2 h0 h3 ?_;rw[Hd (xs:=done.map λ(x:Nat)=>.int .u16 x) (Tz1 hh) rfl Oz (by simp) Oz Oz];refine Sz4 h0 h3 @Vh @Pv ?_;refine pX (m:=m/65536) Oz ⟨done++[m%65536],qH,Oz,?_⟩;refine Sz3 h0 h3 hh ?_;simp
 .obtain rfl:m=0:=by omega
  refine Sz1 h3 ?_;exact vj hh (by simp[PV.num,PV.nat,hd,iu,Kaf])
def G7{a b:List Nat}(ha:Qk a)(hb:Qk b)(bU:a.length<2^40)(bZ:b.length<2^40):AC 328 [PV.nat a,PV.nat b] (· = .int .i64 (jy (val a) (val b))):=by
 have jo:=cB ha;have kR:=cB hb;have ZL:= @QQ (val a) (val b);have ZM:= @QQ (val b) (val a);have axp:=Ql (val a);have axq:=Ql (val b);have hva:=Qx (val a);have hvb:=Qx (val b);unfold nl at jo kR ZL ZM;refine aF Qd func328 al4 λC hP=>?_;refine ay hP (kk ha Oz) ?_;refine ay hP (kk hb Oz) ?_;refine Sz0 ?_;generalize val a=x at *
 generalize val b=y at *
 refine Qm (λhz=>?_) (λhz=>?_)
 .refine bD (λhz=>?_) (λhz=>?_)
  .refine Sz0 ?_;exact Qb (by rw[Kc (ZL Oz)]) rfl
  .refine Sz0 ?_;exact Qb (by rw[Kd (ZM Oz)]) rfl
 refine Sz0 ?_;refine tR (λm fr hp=>m<=(aw x).length/\val ((aw x).drop m)=val ((aw y).drop m)/\fr 0=PV.num x/\fr 1=PV.num y/\fr 5= .int .i64 ((m:Int)-1)/\hp=aB) (aw x).length ?_ ?_
 .refine⟨Kag _,?_,?_⟩
  .rw[Kar (Kag _),Kar Oz]
  .exact Tz2 @true_and @and_true
 rintro m fr _ ⟨hm,hd,h0,h1,h5,rfl⟩;refine iq h0 h1 h5 (λhg=>?_) (λhg=>?_)
 .obtain _|m:=m
  .omega
  have e:((m+1:Nat):Int)-1=m:=Oz;have wh:m<(aw x).length:=Oz;have pI:m<(aw y).length:=Oz;simp+decide (disch:=try exact D4 h0 h1 h5 e) only[go_sem,h0,h1,h5,e];refine Qm (λhq=>?_) (λhq=>?_)
  .refine Sz0 ?_;exact Qb (by rw[Kc];have:=Px axp wh pI Oz hd;omega) rfl
  simp+decide (disch:=try exact D4 h0 h1 h5 e) only[go_sem,h0,h1,h5,e];refine Qm (λpL=>?_) (λpL=>?_)
  .refine Sz0 ?_;exact Qb (by rw[Kd];have:=Px axq pI wh Oz hd.symm;omega) rfl
  refine Sz4 h0 h1 h5 e ?_;refine pX (m:=m) Oz ⟨by omega,?_,?_⟩
  .rw[oc wh,oc pI,hd];omega
  .exact Tz4 h0 h1 @true_and @and_true
 .obtain rfl:m=0:=by omega
  refine Sz0 ?_;refine Qb ?_ rfl;rw[Sm];simp at hd;omega
def ajH{a b:List Nat}(ha:Qk a)(hb:Qk b)(bU:a.length<2^40)(bZ:b.length<2^40):AC 333 [PV.nat a,PV.nat b] (· =PV.num (val a+val b)):=by
 have jo:=cB ha;have kR:=cB hb;unfold nl at jo kR;refine aF Qd func333 al5 λC hP=>?_;refine ay hP (kk ha Oz) ?_;refine ay hP (kk hb Oz) ?_;refine Sz0 ?_;generalize val a=x0 at *
 generalize val b=y0 at *
 refine Ax (λfr hp=>∃x y,x+y=x0+y0/\(aw x).length<2^40/\(aw y).length<=(aw x).length/\fr 0=PV.num x/\fr 1=PV.num y/\hp=aB) ?_ ?_
 .refine Qm (λhz=>?_) (λhz=>?_)
  .refine Sz0 ?_;refine⟨y0,x0,Oz,Oz,Oz,?_⟩;exact Tz2 @true_and @and_true
  .refine Sz0 ?_;refine⟨x0,y0,Oz,Oz,Oz,?_⟩;exact Tz2 @true_and @and_true
 rintro fr _ ⟨x,y,tt,hx,hy,h0,h1,rfl⟩;rw[<-tt];clear tt jo kR;have eM:=Ql x;have n5:=Ql y;refine Sz2 h0 h1 ?_;refine tR (λm fr hp=>∃i c done,m=(aw x).length-i/\i<=(aw x).length/\c<=1/\done.length=i/\done++lj ((aw x).drop i) ((aw y).drop i) c=aw (x+y)/\
  fr 1=PV.num y/\fr 5= .ms 25 (aw x).length/\fr 6= .int .u32 c/\fr 26=PV.num x/\fr 27= .int .i64 (aw x).length/\fr 28= .int .i64 i/\hp=Qg aB 25 ⟨1,159,cK (done++List.replicate ((aw x).length-i) 0),false⟩) (aw x).length ?_ ?_
 .refine⟨0,0,[],rfl,Oz,Oz,rfl,by simpa using ai6 hy,?_⟩;simp+decide (disch:=first|omega|rfl|(simp+decide only[go_sem,h0,h1,true_and,and_true,Kcg,KaO]<;>rfl)|fail) only[go_sem,h0,h1,true_and,and_true,Kcg,KaO];simp
 rintro _ fr _ ⟨i,c,done,rfl,hi,hc,gT,hd,h1,h5,h6,xD,xE,xF,rfl⟩;refine iq xD xE xF (λhg=>?_) (λhg=>?_)
 .have au:i<(aw x).length:=Oz;have gB:=fK eM au;rw[agZ au]at hd;have hlen:=MJ (n:=(aw x).length-i) gT (by omega:_=(aw x).length);simp+decide (disch:=try exact D6 h1 h5 h6 xD xE xF) only[go_sem,h1,h5,h6,xD,xE,xF];refine Qm (λhq=>?_) (λhq=>?_)
  .have l8:i<(aw y).length:=Oz;have xZ:=fK n5 l8;rw[iZ l8]at hd;simp+decide (disch:=try exact D6 h1 h5 h6 xD xE xF) only[go_sem,h1,h5,h6,xD,xE,xF];refine pX (m:=(aw x).length-(i+1)) Oz ⟨i+1,_,_,rfl,Oz,?_,?_,(KbO ..).symm.trans hd,?_⟩
   .omega
   .simp[gT]
   .exact Tz10 h1 h5 h6 xD xE xF @true_and @and_true @Db @Nat.sub_sub
  .rw[ja Oz]at hd;refine Sz6 h1 h5 h6 xD xE xF ?_;refine pX (m:=(aw x).length-(i+1)) Oz ⟨i+1,_,_,rfl,Oz,?_,?_,(KbO ..).symm.trans hd,?_⟩
   .omega
   .simp[gT]
   .exact Tz11 h1 h5 h6 xD xE xF @true_and @and_true @Db @Nat.sub_sub @Nat.add_zero
 .obtain rfl:i=(aw x).length:=by omega
  rw[Kar (Kag _),Kar hy]at hd;simp+decide (disch:=first|omega|rfl|(simp+decide only[go_sem,h5,h6,Kbz,Ka5,Kai]<;>rfl)|fail) only[go_sem,h5,h6,Kbz,Ka5,Kai];refine Qm (λhq=>?_) (λhq=>?_)
  .refine Sz2 h5 h6 ?_;rw[Hd (xs:=cK done) Tz0 rfl Oz (by simp[gT]) Oz Oz];refine Sz1 h5 ?_;refine vj rfl ?_;rw[lj,if_neg Oz]at hd;rw[PV.num,<-hd];simp[cK,gT,Kaf];omega
  .refine Sz1 h5 ?_;refine vj rfl ?_;rw[lj,if_pos Oz]at hd;rw[PV.num,<-hd];simp[cK,gT,Kaf]
def RD{a b:List Nat}(ha:Qk a)(hb:Qk b)(bU:a.length<2^40)(bZ:b.length<2^40)(hle:val b<=val a):AC 334 [PV.nat a,PV.nat b] (· = .aI [PV.num (val a-val b),.int .i64 0]):=by
 have jo:=cB ha;have kR:=cB hb;have nh:=kp hle;unfold nl at jo kR nh;refine aF Qd func334 al6 λC hP=>?_;refine ay hP (G7 ha hb bU bZ) ?_;have awz:¬jy (val a) (val b)<0:=by unfold jy;split<;>(try split)<;>omega
 refine Sz0 ?_;refine Qm (λhz=>absurd hz awz) (λhz=>?_);refine ay hP (kk ha Oz) ?_;refine ay hP (kk hb Oz) ?_;refine Sz0 ?_;generalize val a=x at *
 generalize val b=y at *
 have eM:=Ql x;have n5:=Ql y;have fW:=Rj (aw x) (aw y) 0 Oz eM n5 nh (by rw[Qx,Qx];exact hle);rw[Qx,Qx,KaW]at fW;have lE:=Wg (aw x) (aw y) 0;have IZ:=VB (aw x) (aw y) 0;refine tR (λm fr hp=>∃i c done,m=(aw x).length-i/\i<=(aw x).length/\c<=1/\done.length=i/\done++ow ((aw x).drop i) ((aw y).drop i) c=ow (aw x) (aw y) 0/\
  fr 1=PV.num y/\fr 6= .ms 21 (aw x).length/\fr 7= .int .i32 (c:Nat)/\fr 22=PV.num x/\fr 23= .int .i64 (aw x).length/\fr 24= .int .i64 i/\hp=Qg aB 21 ⟨1,159,cK (done++List.replicate ((aw x).length-i) 0),false⟩) (aw x).length ?_ ?_
 .refine⟨0,0,[],rfl,Oz,Oz,rfl,rfl,?_⟩;simp+decide (disch:=first|omega|rfl|(simp+decide only[go_sem,true_and,and_true,Kcg,KaO]<;>rfl)|fail) only[go_sem,true_and,and_true,Kcg,KaO];simp
 rintro _ fr _ ⟨i,c,done,rfl,hi,hc,gT,hd,h1,h6,h7,oC,oD,jT,rfl⟩;refine iq oC oD jT (λhg=>?_) (λhg=>?_)
 .have au:i<(aw x).length:=Oz;have gB:=fK eM au;rw[ag0 au]at hd;have hlen:=MJ (n:=(aw x).length-i) gT (by omega:_=(aw x).length);simp+decide (disch:=try exact D6 h1 h6 h7 oC oD jT) only[go_sem,h1,h6,h7,oC,oD,jT];refine Ax (λfr hp=>fr 1=PV.num y/\fr 6= .ms 21 (aw x).length/\fr 8= .int .i64 i/\fr 10= .int .i32 ((aw x)[i]-(c:Int)-((aw y).getD i 0:Nat))/\(aw y).getD i 0<65536/\fr 22=PV.num x/\fr 23= .int .i64 (aw x).length/\fr 24= .int .i64 i/\hp=Qg aB 21 ⟨1,159,cK (done++List.replicate ((aw x).length-i) 0),false⟩) ?_ ?_
  .refine Qm (λhq=>?_) (λhq=>?_)
   .have l8:i<(aw y).length:=Oz;have xZ:=fK n5 l8;simp+decide (disch:=first|omega|rfl|(simp+decide only[go_sem,h1,h6,h7,oC,oD,jT,iZ l8,true_and,and_true]<;>rfl)|fail) only[go_sem,h1,h6,h7,oC,oD,jT,iZ l8,true_and,and_true];exact xZ
   .simp+decide (disch:=first|omega|rfl|(simp+decide only[go_sem,h1,h6,h7,oC,oD,jT,true_and,and_true,ja (by omega:¬i<(aw y).length)]<;>rfl)|fail) only[go_sem,h1,h6,h7,oC,oD,jT,true_and,and_true,ja (by omega:¬i<(aw y).length)];simp
  clear h1 h6 oC oD jT;rintro fr _ ⟨h1,h6,h8,bp,xZ,oC,oD,jT,rfl⟩;generalize hw:(aw y).getD i 0=yi at *
  refine Sz1 bp ?_;refine Ax (λfr hp=>fr 1=PV.num y/\fr 6= .ms 21 (aw x).length/\fr 8= .int .i64 i/\fr 10= .int .i32 (((aw x)[i]+65536-c-yi)%65536:Nat)/\fr 7= .int .i32 ((if(aw x)[i]<c+yi then 1 else 0):Nat)/\fr 22=PV.num x/\fr 23= .int .i64 (aw x).length/\fr 24= .int .i64 i/\hp=Qg aB 21 ⟨1,159,cK (done++List.replicate ((aw x).length-i) 0),false⟩) ?_ ?_
  .refine Qm (λhq=>?_) (λhq=>?_)
   .rw[if_pos Oz];refine Sz9 h1 h6 h8 bp oC oD jT @true_and @and_true ?_;simp;omega
   .rw[if_neg Oz];refine Sz9 h1 h6 h8 bp oC oD jT @true_and @and_true ?_;simp;omega
  clear h1 h6 h8 bp oC oD jT;rintro fr _ ⟨h1,h6,h8,bp,h7,oC,oD,jT,rfl⟩;refine Sz8 h1 h6 h7 h8 bp oC oD jT ?_;refine pX (m:=(aw x).length-(i+1)) Oz ⟨i+1,_,_,rfl,Oz,?_,?_,(KbO ..).symm.trans hd,?_⟩
  .split<;>omega
  .simp[gT]
  .exact Tz13 h1 h6 h7 h8 bp oC oD jT @true_and @and_true @Db @Nat.sub_sub @Nat.mod_mod
 .obtain rfl:i=(aw x).length:=by omega
  rw[Kar (Kag _),ow,Kai]at hd;simp+decide (disch:=first|omega|rfl|(simp+decide only[go_sem,h6,Kbz,Ka5,Kai]<;>rfl)|fail) only[go_sem,h6,Kbz,Ka5,Kai];rw[hd];refine yB hP (kk lE Oz) (CV rfl IZ.symm) rfl λhp'=>?_
  refine Sz0 ?_;exact ek rfl rfl rfl (wQ (by rw[show val (ow (aw x) (aw y) 0)=x-y by omega])) (Qi _)
def G8{a b:List Nat}(ha:Qk a)(hb:Qk b)(bU:a.length<2^40)(bZ:b.length<2^40):AC 128 [PV.nat a,PV.nat b] (· =PV.num (val a*val b)):=by
 have jo:=cB ha;have kR:=cB hb;unfold nl at jo kR;refine aF Qd func128 al7 λC hP=>?_;refine ay hP (kk ha Oz) ?_;refine ay hP (kk hb Oz) ?_;refine Sz0 ?_;generalize val a=x at *
 generalize val b=y at *
 have eM:=Ql x;have n5:=Ql y;refine Qo (λhz=>?_) (λhz=>?_)
 .refine Sz0 ?_;have:=sm (by omega:(aw x).length=0);rw[mM]at this;exact od (Dk (by simp[this])) rfl
 refine bD (λB2=>?_) (λB2=>?_)
 .refine Sz0 ?_;have:=sm (by omega:(aw y).length=0);rw[mM]at this;exact od (Dk (by simp[this])) rfl
 refine Sz0 ?_;refine tR (λm fr hp=>∃i lo,m=(aw x).length-i/\i<=(aw x).length/\Qk lo/\lo.length=i+(aw y).length/\val lo=val ((aw x).take i)*val (aw y)/\
  fr 1=PV.num y/\fr 5= .ms 28 ((aw x).length+(aw y).length)/\fr 29=PV.num x/\fr 30= .int .i64 (aw x).length/\fr 31= .int .i64 i/\hp=Qg aB 28 ⟨1,159,cK (lo++List.replicate ((aw x).length-i) 0),false⟩) (aw x).length ?_ ?_
 .refine⟨0,List.replicate (aw y).length 0,rfl,Oz,?_,by simp,by simp[Pw,val],?_⟩
  .intro z hz;rw[Kcu hz];omega
  .refine Sz3 @true_and @and_true @Nat.sub_zero ?_;simp[KbM]
 rintro _ fr _ ⟨i,lo,rfl,hi,uD,N',hv,h1,h5,sY,kQ,pC,rfl⟩;refine iq sY kQ pC (λhg=>?_) (λhg=>?_)
 .have au:i<(aw x).length:=Oz;have gB:=fK eM au;have oL:=ai7 au N' hv;have EM:Qk (lo.take i++mj (lo.drop i) (aw y) (aw x)[i] 0):=pY.2 ⟨Av uD i,Wi _ _ _ _ Oz gB (Cz uD i) n5⟩;have azK:(lo.take i++mj (lo.drop i) (aw y) (aw x)[i] 0).length=i+(aw y).length+1:=by rw[Kaz,VC _ _ _ _ (by simp[N'])];simp;omega
  generalize e7:(aw x)[i]=xi at *
  refine Sz6 h1 h5 sY kQ pC e7 ?_;refine tR (λm fr hp=>∃k c p rs,m=(aw y).length-k/\k<=(aw y).length/\c<65536/\Qk rs/\p.length=i+k/\rs.length=(aw y).length-k/\p++mj rs ((aw y).drop k) xi c=lo.take i++mj (lo.drop i) (aw y) xi 0/\
   fr 1=PV.num y/\fr 5= .ms 28 ((aw x).length+(aw y).length)/\fr 6= .int .i64 i/\fr 7= .int .u16 xi/\fr 8= .int .u32 c/\fr 29=PV.num x/\fr 30= .int .i64 (aw x).length/\fr 31= .int .i64 i/\fr 36=PV.num y/\fr 37= .int .i64 (aw y).length/\fr 38= .int .i64 k/\
   hp=Qg aB 28 ⟨1,159,cK (p++(rs++List.replicate ((aw x).length-i) 0)),false⟩) (aw y).length ?_ ?_
  .refine⟨0,0,lo.take i,lo.drop i,rfl,Oz,Oz,Cz uD i,by simp;omega,by simp;omega,rfl,?_⟩;refine Sz7 h1 h5 sY kQ pC @true_and @and_true ?_;rw[<-List.append_assoc,Kbt];simp
  clear h1 h5 sY kQ pC;rintro _ fr _ ⟨k,c,p,rs,rfl,hk,hc,cU,bx,l9,hinv,h1,h5,h6,h7,h8,sY,kQ,pC,sZ,Iw,Ix,rfl⟩;refine iq sZ Iw Ix (λhq=>?_) (λhq=>?_)
  .have cY:k<(aw y).length:=Oz;have hyk:=fK n5 cY;rw[KaB cY]at hinv;generalize hyy:(aw y)[k]=yk at *
   obtain _|⟨r,rs⟩:=rs
   .simp at l9;omega
   rw[jK]at cU;have wo:=cU.1;have Fg:=wM gB hyk;rw[mj]at hinv;have aA:i+k<(p++r::(rs++List.replicate ((aw x).length-i) 0)).length:=by simp;omega
   have gg:=Hs bx aA;simp+decide (disch:=first|omega|rfl|(simp+decide only[go_sem,h1,h5,h6,h7,h8,sZ,Iw,Ix,hyy,KaT,gg]<;>rfl)|fail) only[go_sem,h1,h5,h6,h7,h8,sZ,Iw,Ix,hyy,KaT,gg];refine pX (m:=(aw y).length-(k+1)) Oz ⟨k+1,_,_,_,rfl,Oz,?_,cU.2,?_,?_,(KbO ..).symm.trans hinv,?_⟩
   .omega
   .simp[bx];omega
   .simp at l9;omega
   .refine Sz14 h1 h5 h6 h7 h8 sY kQ pC sZ Iw Ix @true_and @and_true @qg ?_;simp
  .obtain rfl:k=(aw y).length:=by omega
   obtain rfl:rs=[]:=KaE.1 Oz;rw[Kar (Kag _),mj]at hinv
   rotate_left
   .intros;simp_all
   obtain⟨z,hz⟩:∃z,(aw x).length-i=z+1:=⟨(aw x).length-i-1,Oz⟩
   have aA:i+(aw y).length<(p++0::(List.replicate z 0)).length:=by simp;omega
   simp+decide (disch:=first|omega|rfl|(simp+decide only[go_sem,h1,h5,h6,h8,sY,kQ,pC,KaO,hz,KbC]<;>rfl)|fail) only[go_sem,h1,h5,h6,h8,sY,kQ,pC,KaO,hz,KbC];refine pX (m:=(aw x).length-(i+1)) Oz ⟨i+1,lo.take i++mj (lo.drop i) (aw y) xi 0,rfl,Oz,EM,Oz,?_,?_⟩
   .rw[oL]
   .refine Sz8 h1 h5 sY kQ pC @true_and @and_true @qg ?_;rw[<-hinv,show(aw x).length-(i+1)=z by omega,KaP hc];simp
 .obtain rfl:i=(aw x).length:=by omega
  rw[KaQ,Qx,Qx]at hv;simp+decide (disch:=first|omega|rfl|(simp+decide only[go_sem,h5,Kbz,Ka5,Kai]<;>rfl)|fail) only[go_sem,h5,Kbz,Ka5,Kai];refine yB hP (kk uD Oz) (CV rfl N'.symm) rfl λhp'=>?_
  refine Sz0 ?_;exact Qb (by rw[hv]) rfl
variable{j:Nat}
def Q50{pre w post v:List Nat}{m:Nat}(hw:Qk w)(hv:Qk v)(hj:pre.length=j)(hm:w.length=m)(hle:v.length<=w.length)(hlen:(pre++(w++post)).length<2^43):
  AI Tryz.prog 361 [.aD B0 j m,PV.nat v] 159 (cK (pre++(w++post))) (λr xs'=>r= .aI []/\xs'=cK (pre++(mU w v 0++post))):=by
 simp only[Kaz]at hlen;refine GU Qd func361 rfl amc Nz λC hP=>?_;simp only[Xw];refine cC ?_;refine Sz0 ?_;refine tR (λk fr hp=>∃i c done,k=w.length-i/\i<=w.length/\c<=1/\done.length=i/\done++mU (w.drop i) (v.drop i) c=mU w v 0/\
  fr 0= .aD 1000000 j m/\fr 1=PV.nat v/\fr 4= .int .u32 c/\fr 7= .int .i64 m/\fr 8= .int .i64 i/\hp=Qg aB 1000000 ⟨1,159,cK ((pre++done)++(w.drop i++post)),false⟩) w.length ?_ ?_
 .refine⟨0,0,[],rfl,Oz,Oz,rfl,rfl,?_⟩;simp+decide (disch:=first|omega|rfl|(simp+decide only[go_sem,true_and,and_true,Kai,Ka6]<;>rfl)|fail) only[go_sem,true_and,and_true,Kai,Ka6];simp
 rintro _ fr _ ⟨i,c,done,rfl,hi,hc,gT,hd,h0,h1,h4,h7,h8,rfl⟩;refine cH h7 h8 (λhg=>?_) (λhg=>?_)
 .have au:i<w.length:=Oz;have OJ:=fK hw au;rw[ag5 au]at hd;have bx:(pre++done).length=j+i:=by simp[hj,gT]
  rw[KaB au];generalize hww:w[i]=wi at *
  have aA:j+i<((pre++done)++wi::(w.drop (i+1)++post)).length:=by simp;omega
  have gg:=Hs bx aA;simp+decide (disch:=first|omega|rfl|(simp+decide only[go_sem,h0,h1,h4,h7,h8,KaT,gg]<;>rfl)|fail) only[go_sem,h0,h1,h4,h7,h8,KaT,gg];refine Qm (λhq=>?_) (λhq=>?_)
  .have l8:i<v.length:=Oz;have hvi:=fK hv l8;rw[iZ l8]at hd;simp+decide (disch:=first|omega|rfl|(simp+decide only[go_sem,h0,h1,h4,h7,h8,qg]<;>rfl)|fail) only[go_sem,h0,h1,h4,h7,h8,qg];refine pX (m:=w.length-(i+1)) Oz ⟨i+1,_,_,rfl,Oz,?_,?_,(KbO ..).symm.trans hd,?_⟩
   .omega
   .simp[gT]
   .refine Sz8 h0 h1 h4 h7 h8 @true_and @and_true @qg ?_;simp
  .rw[ja Oz]at hd;refine Sz6 h0 h1 h4 h7 h8 @qg ?_;refine pX (m:=w.length-(i+1)) Oz ⟨i+1,_,_,rfl,Oz,?_,?_,(KbO ..).symm.trans hd,?_⟩
   .omega
   .simp[gT]
   .refine Sz8 h0 h1 h4 h7 h8 @true_and @and_true @qg ?_;simp
 .obtain rfl:i=w.length:=by omega
  rw[Kar (Kag _),mU,Kai]at hd;refine Sz0 ?_;refine aqc rfl (tS _) ?_ ⟨rfl,?_⟩
  .simp[gT]
  .rw[Kar (Kag _),hd];simp
def Q3l{pre w post v:List Nat}{m q:Nat}(hw:Qk w)(hv:Qk v)(hq:q<65536)(hj:pre.length=j)(hm:w.length=m)(hle:v.length<=w.length)(hlen:(pre++(w++post)).length<2^43):
  AI Tryz.prog 360 [.aD B0 j m,PV.nat v,.int .u32 q] 159 (cK (pre++(w++post))) (λr xs'=>r= .bool (decide (0<(gR w v q 0 0).2.2))/\xs'=cK (pre++((gR w v q 0 0).1++post))):=by
 simp only[Kaz]at hlen;refine GU Qd func360 rfl amb Nz λC hP=>?_;simp only[Xv];refine cC ?_;refine Sz0 ?_;refine tR (λk fr hp=>∃i c b done,k=w.length-i/\i<=w.length/\c<65536/\b<=1/\done.length=i/\done++(gR (w.drop i) (v.drop i) q c b).1=(gR w v q 0 0).1/\(gR (w.drop i) (v.drop i) q c b).2=(gR w v q 0 0).2/\
  fr 0= .aD 1000000 j m/\fr 1=PV.nat v/\fr 2= .int .u32 q/\fr 7= .int .u32 c/\fr 8= .int .i32 (b:Nat)/\fr 12= .int .i64 m/\fr 13= .int .i64 i/\hp=Qg aB 1000000 ⟨1,159,cK ((pre++done)++(w.drop i++post)),false⟩) w.length ?_ ?_
 .refine⟨0,0,0,[],rfl,Oz,Oz,Oz,rfl,rfl,rfl,?_⟩;simp+decide (disch:=first|omega|rfl|(simp+decide only[go_sem,true_and,and_true,Kai,Ka6]<;>rfl)|fail) only[go_sem,true_and,and_true,Kai,Ka6];simp
 rintro _ fr _ ⟨i,c,b,done,rfl,hi,hc,hb,gT,hd,qH,h0,h1,h2,h7,h8,eX,dN,rfl⟩;refine cH eX dN (λhg=>?_) (λhg=>?_)
 .have au:i<w.length:=Oz;have OJ:=fK hw au;rw[ag6 au]at hd qH;simp only at hd qH;have bx:(pre++done).length=j+i:=by simp[hj,gT]
  rw[KaB au];generalize hww:w[i]=wi at *
  have aA:j+i<((pre++done)++wi::(w.drop (i+1)++post)).length:=by simp;omega
  have gg:=Hs bx aA;simp+decide (disch:=first|omega|rfl|(simp+decide only[go_sem,h0,h1,h2,h7,h8,eX,dN,KaT,gg]<;>rfl)|fail) only[go_sem,h0,h1,h2,h7,h8,eX,dN,KaT,gg];refine Ax (λfr hp=>c+q*v.getD i 0<=4294967295/\fr 0= .aD 1000000 j m/\fr 1=PV.nat v/\fr 2= .int .u32 q/\fr 7= .int .u32 (c+q*v.getD i 0:Nat)/\fr 8= .int .i32 (b:Nat)/\fr 9= .int .i64 i/\fr 12= .int .i64 m/\fr 13= .int .i64 i/\hp=Qg aB 1000000 ⟨1,159,cK ((pre++done)++wi::(w.drop (i+1)++post)),false⟩) ?_ ?_
  .refine Qm (λuK=>?_) (λuK=>?_)
   .have l8:i<v.length:=Oz;have hvi:=fK hv l8;have uK:=wM hq hvi;simp+decide (disch:=first|omega|rfl|(simp+decide only[go_sem,h0,h1,h2,h7,h8,eX,dN,iZ l8,true_and,and_true]<;>rfl)|fail) only[go_sem,h0,h1,h2,h7,h8,eX,dN,iZ l8,true_and,and_true];omega
   .simp+decide (disch:=first|omega|rfl|(simp+decide only[go_sem,h0,h1,h2,h7,h8,eX,dN,true_and,and_true,ja (by omega:¬i<v.length),Kb3,KaW]<;>rfl)|fail) only[go_sem,h0,h1,h2,h7,h8,eX,dN,true_and,and_true,ja (by omega:¬i<v.length),Kb3,KaW];omega
  clear h0 h1 h2 h7 h8 eX dN;rintro fr _ ⟨oF,h0,h1,h2,h7,h8,h9,eX,dN,rfl⟩;generalize c+q*v.getD i 0=c1 at *
  refine Sz9 h0 h1 h2 h7 h8 h9 eX dN gg ?_;refine Ax (λfr hp=>fr 0= .aD 1000000 j m/\fr 1=PV.nat v/\fr 2= .int .u32 q/\fr 7= .int .u32 (c1/65536:Nat)/\fr 8= .int .i32 ((if wi<c1%65536+b then 1 else 0):Nat)/\fr 9= .int .i64 i/\fr 10= .int .i32 ((wi+65536-c1%65536-b)%65536:Nat)/\fr 12= .int .i64 m/\fr 13= .int .i64 i/\hp=Qg aB 1000000 ⟨1,159,cK ((pre++done)++wi::(w.drop (i+1)++post)),false⟩) ?_ ?_
  .refine Qm (λhq=>?_) (λhq=>?_)
   .rw[if_pos Oz];refine xo h0 h1 h2 h7 h8 h9 eX dN @true_and @and_true ?_;simp;omega
   .rw[if_neg Oz];refine xo h0 h1 h2 h7 h8 h9 eX dN @true_and @and_true ?_;simp;omega
  clear h0 h1 h2 h7 h8 h9 eX dN;rintro fr _ ⟨h0,h1,h2,h7,h8,h9,bp,eX,dN,rfl⟩;refine xo h0 h1 h2 h7 h8 h9 bp eX dN @qg ?_;refine pX (m:=w.length-(i+1)) Oz ⟨i+1,c1/65536,_,_,rfl,Oz,Oz,?_,?_,(KbO ..).symm.trans hd,qH,?_⟩
  .split<;>omega
  .simp[gT]
  .refine Ci h0 h1 h2 h7 h8 h9 bp eX dN @true_and @and_true @qg @Nat.mod_mod ?_;simp
 .obtain rfl:i=w.length:=by omega
  rw[Kar (Kag _),gR]at hd qH;simp only[Kai]at hd;refine Sz1 h8 ?_;refine TE (p:=.bool (decide (0<(b:Int)))) rfl (tS _) ?_ Tz0 rfl ⟨?_,?_⟩
  .simp[gT]
  .rw[<-qH];simp
  .rw[Kar (Kag _),hd];simp
def Q3m{v u:List Nat}{dg r:Nat}(hv:Qk v)(hu:Qk u)(hn:2<=n)(jt:n=v.length)(hju:j+n<u.length)(hd:dg<4294967296)(hr:r<65536)(zT:u.length<2^43):
  AC 359 [.pt [.int .u64 dg],.pt [PV.nat v],.pt [.int .i64 n],.pt [.int .u64 r],.pt [PV.nat u],.pt [.int .i64 j]]
   (· = .bool (decide (65536<=dg\/r*65536+u.getD (j+n-2) 0<dg*v.getD (n-2) 0))):=by
 have h1:n-2<v.length:=Oz;have h2:j+n-2<u.length:=Oz;have wx:=fK hv h1;have OD:=fK hu h2;rw[iZ h1,iZ h2];refine aF Qd func359 ama λC hP=>?_;refine Sz0 ?_;refine Qo (λhz=>?_) (λhz=>?_)
 .refine Sz0 ?_;exact Qb (by simp;omega) rfl
 .have wa:dg<65536:=Oz;have e1:(n:Int)-2=((n-2:Nat):Int):=Oz;have e2:((j+n:Nat):Int)-2=((j+n-2:Nat):Int):=Oz;generalize hvv:v[n-2]=vi at *
  generalize huu:u[j+n-2]=ui at *
  have hm:=wM wa wx;refine Sz6 e1 e2 hvv huu @Mb @ML ?_;exact Qb (congrArg PV.bool (decide_eq_decide.2 ⟨λh=>.inr Oz,λh=>by rcases h with h|h<;>omega⟩)) rfl
def afM{post:List Nat}(hv:Qk l)(hl:(l++post).length<2^43)(hlen:0<l.length):
  AI Tryz.prog 240 [.aD B0 0 l.length] 159 (cK (l++post)) (λr xs'=>r= .aD B0 0 (nl (val l))/\xs'=cK (l++post)):=by
 simp only[Kaz]at hl;have azJ:l.length<=(l++post).length:=by simp
 refine GU Qd func240 rfl SG Nz λC hP=>?_;simp only[Xj];refine cC ?_;refine Sz0 ?_;refine tR (λm fr hp=>m<=l.length/\cut l m=aw (val l)/\fr 0= .aD 1000000 0 l.length/\fr 3= .int .i64 m/\hp=Qg aB 1000000 ⟨1,159,cK (l++post),false⟩) l.length ?_ ?_
 .exact⟨Kag _,Di hv,rfl,rfl,rfl⟩
 rintro n fr _ ⟨hn,hc,h0,h3,rfl⟩;refine Sz2 h0 h3 ?_;refine fJ (λhg=>?_) (λhg=>?_)
 .obtain _|n:=n
  .omega
  have e:((n+1:Nat):Int)-1=n:=Oz;have aA:n<(l++post).length:=by simp;omega
  have gg:(l++post)[n]=l[n]:=by simp[List.getElem_append,show n<l.length by omega]
  refine Sz4 h0 h3 e gg ?_;simp only[cut]at hc;refine Qm (λhz=>?_) (λhz=>?_)
  .rw[if_pos (by grind)]at hc;refine Sz3 h0 h3 e ?_;refine pX (m:=n) Oz ⟨by omega,hc,?_⟩;exact Tz3 h0 @true_and @and_true
  .rw[if_neg (by grind)]at hc;have nh:nl (val l)=n+1:=by rw[nl,<-hc];simp;omega
   refine Sz2 h0 h3 ?_;exact Sn rfl (tS _) (by simp) (Tz1 nh) ⟨rfl,rfl⟩
 .obtain rfl:n=0:=by omega
  have nh:nl (val l)=0:=by rw[nl,<-hc,cut];rfl
  refine Sz2 h0 h3 ?_;exact Sn rfl (tS _) (by simp) (Tz1 nh) ⟨rfl,rfl⟩
def LC{a:List Nat}{s:Nat}(ha:Qk a)(bU:a.length<2^40)(hs:s<=15)(aS:val a≠0):Dl Tryz.prog 331 [PV.nat a,.int .i64 s] 159 (λys=>ys=cK (aw (val a*2^s))):=by
 have jo:=cB ha;unfold nl at jo;have qP:(aw (val a)).length≠0:=by intro h;exact aS (mM.1 (sm h))
 refine ag3 Qd func331 rfl Km Nz λC hP=>?_;simp only[Xr];refine cC ?_;refine ay hP (kk ha Oz) ?_;refine Sz0 ?_;generalize val a=x at *
 have eM:=Ql x;have e1:s/16=0:=KbV Oz;have e2:s%16=s:=KaP Oz;refine Qo (λhz=>by omega) (λhz=>?_);refine Sz0 ?_;refine Qo (λhz=>by omega) (λhz=>?_);refine Sz0 ?_;refine Qm (λhz=>by omega) (λhz=>?_);refine Sz0 ?_;refine Qm (λhz=>by omega) (λhz=>?_);refine Sz4 @PA @Pb e1 e2 ?_;refine tR (λk fr hp=>∃i c done,k=(aw x).length-i/\i<=(aw x).length/\c<2^s/\done.length=i/\done++qm s ((aw x).drop i) c=qm s (aw x) 0/\
  fr 5= .int .i64 (0:Nat)/\fr 6= .int .i64 s/\fr 7= .ms 44 ((aw x).length+1)/\fr 45=PV.num x/\fr 46= .int .i64 (aw x).length/\fr 47= .int .i64 i/\
  hp=Qg aB 44 ⟨1,159,cK (done++c::List.replicate ((aw x).length-i) 0),false⟩) (aw x).length ?_ ?_
 .refine⟨0,0,[],rfl,Oz,Kb0 Oz,rfl,rfl,?_⟩;simp+decide (disch:=first|omega|rfl|(simp+decide only[go_sem,true_and,and_true,KaO,Kcg]<;>rfl)|fail) only[go_sem,true_and,and_true,KaO,Kcg];simp[KbC]
 rintro _ fr _ ⟨i,c,done,rfl,hi,hc,gT,hd,h5,h6,h7,Iy,Iz,IA,rfl⟩;refine Sz3 Iy Iz IA ?_;have azU:2^s<=2^15:=KbG Oz hs;refine Qm (λhg=>?_) (λhg=>?_)
 .have au:i<(aw x).length:=Oz;have gB:=fK eM au;rw[KaB au,qm]at hd;generalize e7:(aw x)[i]=xi at *
  obtain⟨z,hz⟩:∃z,(aw x).length-i=z+1:=⟨(aw x).length-i-1,Oz⟩
  have aA:i<(done++c::List.replicate (z+1) 0).length:=by simp;omega
  have gg:=Hs gT aA;have im:=Ro (x:=xi) (show s<=16 by omega) hc;have ff:=Pc (show s<=16 by omega) gB;have hl:=aqe hs gB;refine Ci h5 h6 h7 Iy Iz IA e7 hz gg @R6 @aqd im.2 @qg ?_;have lD:∀v u,(done++v::List.replicate (z+1) 0).set (i+1) u=(done++[v])++u::List.replicate z 0:=λv u=>by rw[KbO,KbC,qg (by simp[gT])]
  rw[TA (by simp;omega),lD,KaP (by omega:xi*2^s/65536<65536)];refine Sz6 h5 h6 h7 Iy Iz IA ?_;refine pX (m:=(aw x).length-(i+1)) Oz ⟨i+1,xi*2^s/65536,done++[xi*2^s%65536+c],rfl,Oz,ff,by simp[gT],(KbO ..).symm.trans hd,?_⟩;refine Sz8 h5 h6 h7 Iy Iz IA @true_and @and_true ?_;rw[show(aw x).length-(i+1)=z by omega]
 .obtain rfl:i=(aw x).length:=by omega
  rw[Kar (Kag _),qm]at hd;have tr:=Wo hs (aw x) 0 eM (Kb0 Oz);have nj:=Rn s (aw x) 0;have IZ:=VF s (aw x) 0;rw[Qx,KaW]at nj;rw[<-hd]at tr nj IZ;have azS:x*2^s≠0:=Nat.mul_ne_zero aS (Nat.ne_of_gt (Kb0 Oz));simp+decide (disch:=first|omega|rfl|(simp+decide only[go_sem,h7,Kbz,Ka5]<;>rfl)|fail) only[go_sem,h7,Kbz,Ka5];have ht:=afM (l:=done++[c]) (post:=[]) tr (by simp[gT];omega) (by simp);rw[Kai,nj]at ht;refine HU hP ht (O:=44) Tz0 (tS _) (by simp) (by simp[lM,IZ]) rfl ?_;rintro r xs' _ _ ⟨rfl,rfl⟩;simp+decide (disch:=first|omega|rfl|(simp+decide only[go_sem,qh]<;>rfl)|fail) only[go_sem,qh];refine⟨4,44,nl (x*2^s),_,rfl,by simp+decide (disch:=try exact D0) only[go_sem],rfl,by simp+decide (disch:=try exact D0) only[go_sem];rfl,tS _,?_,?_⟩
  .have:= @GB (x*2^s);omega
  .rw[<-nj,<-List.map_take,ai9 tr]
variable{a:List Nat}{s:Nat}
def afN(ha:Qk a)(bU:a.length<2^42)(hs:s<=15):AC 358 [PV.nat a,.int .i64 s] (· =PV.num (val a/2^s)):=by
 have e1:s/16=0:=KbV Oz;have e2:s%16=s:=KaP Oz;refine aF Qd func358 ame λC hP=>?_;refine Sz4 @PA @Pb e1 e2 ?_;refine Qm (λhz=>?_) (λhz=>?_)
 .have:a=[]:=KaE.1 Oz;subst this;refine Sz0 ?_;exact od (Dk (by simp[val])) rfl
 have e3:((a.length:Int)-((0:Nat):Int))=((a.length:Nat):Int):=Oz;refine Sz1 e3 ?_;refine Qh eO [(8,9),(25,60)] [] (λk J hp=>∃i done,k=a.length-i/\i<=a.length/\done.length=i/\done++pd s (a.drop i)=pd s a/\J 25= .int .i64 i/\
  hp=Qg aB 22 ⟨1,159,cK (done++List.replicate (a.length-i) 0),false⟩) a.length ?_ ?_
 .refine⟨0,[],rfl,Oz,rfl,rfl,?_⟩;simp+decide (disch:=first|omega|rfl|(simp+decide only[go_sem,true_and,and_true,KaO,Kcg]<;>rfl)|fail) only[go_sem,true_and,and_true,KaO,Kcg];simp
 rintro _ J _ ⟨i,done,rfl,hi,gT,hd,zn,rfl⟩;refine aZ zn (λhg=>?_) (λhg=>?_)
 .have au:i<a.length:=Oz;have IK:=fK ha au;rw[agM au]at hd;generalize e7:a[i]=xi at *
  have hlen:=MJ (n:=a.length-i) gT (by omega:_=a.length);refine cH zn e7 (λhq=>?_) (λhq=>?_)
  .have l8:i+1<a.length:=Oz;have haj:=fK ha l8;rw[iZ l8]at hd;simp+decide (disch:=first|omega|rfl|(simp+decide only[go_sem,zn,Mc,Pz,Ke]<;>rfl)|fail) only[go_sem,zn,Mc,Pz,Ke];refine Qe (a.length-(i+1)) Oz ⟨i+1,_,rfl,Oz,by simp[gT],(KbO ..).symm.trans hd,?_⟩;exact Tz5 zn @true_and @and_true @Db @Nat.sub_sub
  .rw[ja Oz,Kci,Ka2]at hd;refine Sz2 zn @Ke ?_;refine Qe (a.length-(i+1)) Oz ⟨i+1,_,rfl,Oz,by simp[gT],(KbO ..).symm.trans hd,?_⟩;exact Tz5 zn @true_and @and_true @Db @Nat.sub_sub
 .obtain rfl:i=a.length:=by omega
  rw[Kar (Kag _),pd,Kai]at hd;simp+decide (disch:=first|omega|rfl|(simp+decide only[go_sem,Kbz,Ka5,Kai]<;>rfl)|fail) only[go_sem,Kbz,Ka5,Kai];rw[hd];refine yB hP (kk (VS s a) (by rw[LA];exact bU)) (CV rfl (LA s a).symm) rfl λhp'=>?_
  refine Sz0 ?_;exact Qb (by rw[Rq Oz a ha]) rfl
def Q8j{x V d q:Nat}(hd:0<d)(h:q=V/d):(V%d*65536+x)/d+65536*q=(x+65536*V)/d/\(V%d*65536+x)%d=(x+65536*V)%d:=by
 subst h;have e:x+65536*V=(V%d*65536+x)+d*(65536*(V/d)):=by
  have:=Kbe V d
  calc x+65536*V=x+65536*(d*(V/d)+V%d):=by rw[this]
   _=_:=by rw[Ka0,KbE];omega
 rw[e,Kcq _ _ hd,Kco];exact⟨rfl,rfl⟩
def Q8k{d:Nat}(ha:Qk a)(bU:a.length<2^42)(hd:0<d)(qH:d<65536):AC 329 [PV.nat a,.int .u16 d] (· = .aI [PV.num (val a/d),.int .u16 (val a%d:Nat)]):=by
 refine aF Qd func329 al8 λC hP=>?_;refine Sz0 ?_;refine Qh eO [(7,8),(15,38)] [] (λk J hp=>∃qs,k<=a.length/\qs.length=a.length-k/\Qk qs/\val qs=val (a.drop k)/d/\J 7= .int .u32 (val (a.drop k)%d:Nat)/\J 8= .int .i64 ((k:Int)-1)/\
  hp=Qg aB 11 ⟨1,159,cK (List.replicate k 0++qs),false⟩) a.length ?_ ?_
 .refine⟨[],Kag _,by simp,qc,by simp[val],?_⟩;refine Sz2 @true_and @and_true ?_;simp[val]
 rintro k J _ ⟨qs,hk,ZQ,rX,hv,h7,h8,rfl⟩;refine Sz2 h7 h8 ?_;have hr:=Kbo (val (a.drop k)) hd;refine Qm (λhg=>?_) (λhg=>?_)
 .obtain _|n:=k
  .omega
  have hn:n<a.length:=Oz;have NF:=fK ha hn;have e:((n+1:Nat):Int)-1=n:=Oz;have a9:=Q8j (x:=a[n]) hd hv;rw[<-oc hn]at a9;have aA:(val (a.drop (n+1))%d*65536+a[n])/d<65536:=by rw[Kba hd];have:(val (a.drop (n+1))%d+1)*65536<=d*65536:=Kap _ hr;omega
  generalize e7:a[n]=xn at *
  generalize val (a.drop (n+1))%d=r at *
  have hlen:n<(List.replicate (n+1) 0++qs).length:=by simp;omega
  refine Sz8 h7 h8 e e7 @Mc @ai8 @als @sw ?_;refine Qe n Oz ⟨(r*65536+xn)/d::qs,Oz,?_,?_,?_,?_⟩
  .simp;omega
  .rw[jK];exact⟨aA,rX⟩
  .rw[val,a9.1]
  .refine Sz5 h7 h8 @true_and @and_true a9.2 ?_;rw[KaP aA,KcP,Kbr,List.singleton_append,qg (by simp)]
 .obtain rfl:k=0:=by omega
  rw[Ka6]at hv h7;have aA:=Kbo (val a) hd;simp+decide (disch:=first|omega|rfl|(simp+decide only[go_sem,h7,h8,Ka5,KaO]<;>rfl)|fail) only[go_sem,h7,h8,Ka5,KaO];refine yB hP (kk rX Oz) (CV rfl Oz) rfl λhp'=>?_
  refine Sz1 h7 ?_;refine ek rfl rfl rfl (wQ (by rw[hv])) (wQ ?_);rw[KaP Oz]
variable{x:Nat}
def Ww(h:x<65536):AC 241 [.int .u16 x] (· = .int .i64 (Lib.bitLen x:Nat)):=
 Q8e (by simp[qk];exact⟨rfl,by decide⟩) (λw=>Q8l x w Oz Oz) (λ_ _=>Qn.int _ _)
def LD(h:x<65536):Lib.bitLen x<=16:=Lib.bitLen_le x 16 Oz Oz
def LN(h:x<65536)(h0:x≠0):1<=Lib.bitLen x:=by have:=Lib.bitLen_half x h0 Oz;omega
def Q8m:Lib.bitLen 0=0:=by decide
def afO:∀(n x:Nat),Lib.bitLen x=n->x≠0->x<65536->2^n<=2*x/\x<2^n:=by
 intro n;induction n with
 |zero=>intro x h h0 hx;have:=LN hx h0;omega
 | succ n ih=>
  intro x h h0 hx;have e:=Lib.bitLen_half x h0 Oz;by_cases h2:x/2=0
  .have:x=1:=Oz;subst this;have:n=0:=by rw[h]at e;simp[Q8m]at e;exact e
   subst this;simp
  .have:=ih (x/2) Oz h2 Oz;rw[KbA];omega
def Qs2(h:x<65536):AC 330 [.int .u16 x] (· = .int .i64 (16-Lib.bitLen x:Nat)):=by have:=LD h;refine aF Qd func330 amf λC hP=>?_;refine ay hP (Ww h) ?_;refine Sz0 ?_;exact Qb (by congr 1;omega) rfl
def PW(ha:Qk a)(bU:a.length<2^40):AC 122 [PV.nat a] (λr=>∃n:Nat,r= .int .i64 n/\(n=0↔val a=0)):=by
 have hd:=cB ha;unfold nl at hd;refine aF Qd func122 al3 λC hP=>?_;refine ay hP (kk ha Oz) ?_;refine bD (λhz=>?_) (λhz=>?_)
 .refine Sz0 ?_;have:val a=0:=mM.1 (KaE.1 Oz);exact⟨rfl,_,Qi _,0,rfl,by simp[this]⟩
 .have aS:val a≠0:=λh=>by rw[h,iu]at hz;simp at hz
  have lA:=Da (val a);have I0:=Ql (val a);generalize val a=x at *
  obtain⟨k,hk⟩:∃k,(aw x).length=k+1:=⟨(aw x).length-1,Oz⟩
  have aA:k<(aw x).length:=Oz;have wy:=fK I0 aA;have qP:(aw x)[k]≠0:=by intro h;apply lA;rw[Kbh,hk,Nat.add_sub_cancel,Kae aA,h]
  have e:((k+1:Nat):Int)-1=k:=Oz;generalize e7:(aw x)[k]=xi at *
  have hb:=LD wy;have hb1:=LN wy qP;refine eL hk e e7 hP (Ww wy) ?_;have e2:(16:Int)*(k:Int)=((16*k:Nat):Int):=Oz;refine Sz1 e2 ?_;exact⟨rfl,_,Qi _,16*k+Lib.bitLen xi,rfl,Oz⟩
def aeB(i:Nat):2^(16*i)=65536^i:=by rw[Nat.pow_mul]
def Mm(ha:Qk a)(bU:a.length<2^40):AC 266 [PV.nat a] (· =if nl (val a)<=4 then .aI [.int .u64 (val a),.bool true]else .aI [.int .u64 0,.bool false]):=by
 have hd:=cB ha;unfold nl at hd;refine aF Qd func266 alr λC hP=>?_;refine ay hP (kk ha Oz) ?_;refine Sz0 ?_;have I0:=Ql (val a);have fW:=Qx (val a);unfold nl;generalize val a=x at *
 refine Qm (λhz=>?_) (λhz=>?_)
 .refine Sz0 ?_;rw[if_neg Oz];exact ek rfl rfl rfl (Qi _) (Qi _)
 .refine Sz0 ?_;rw[if_pos Oz];refine Qh eO [(4,6),(14,26)] [] (λk J hp=>∃i,k=(aw x).length-i/\i<=(aw x).length/\J 14= .int .i64 i/\J 4= .int .u64 (val ((aw x).take i))/\hp=aB) (aw x).length ?_ ?_
  .refine⟨0,rfl,Oz,?_⟩;simp+decide (disch:=first|omega|rfl|(simp+decide only[go_sem,true_and,and_true,Kcn]<;>rfl)|fail) only[go_sem,true_and,and_true,Kcn];simp[val]
  rintro _ J _ ⟨i,rfl,hi,fD,h4,rfl⟩;refine cH fD h4 (λhg=>?_) (λhg=>?_)
  .have au:i<(aw x).length:=Oz;have gB:=fK I0 au;have nZ:=Cq au;have xY:=wJ I0 i Oz;generalize e7:(aw x)[i]=xi at *
   have e2:(16:Int)*(i:Int)=((16*i:Nat):Int):=Oz;have hb:xi*2^(16*i)+2^(16*i)<=18446744073709551616:=by have h3:2^(16*i)<=2^48:=KbG Oz Oz;have:(xi+1)*2^(16*i)<=65536*2^48:=KaZ Oz h3;rw[KaL]at this;omega
   have hpp:0<2^(16*i):=Kb0 Oz;rw[<-aeB]at nZ xY;have hor:(val ((aw x).take i)|||xi*2^(16*i))=val ((aw x).take (i+1)):=by rw[Nat.or_comm,DB xY,nZ,KaU,KbM]
   refine Sz7 fD h4 e7 e2 @So @Tr hor ?_;refine Qe ((aw x).length-(i+1)) Oz ⟨i+1,rfl,Oz,?_⟩;exact Tz3 fD @true_and @and_true
  .obtain rfl:i=(aw x).length:=by omega
   rw[KaQ,fW]at h4;refine Sz1 h4 ?_;exact ek rfl rfl rfl (Qi _) (Qi _)
set_option maxHeartbeats 2000000 in
def ahv{u v ex:List Nat}(hu:Qk u)(hv:Qk v)(hn:2<=v.length)(aA:v.length<u.length)(aae:32768<=v.getD (v.length-1) 0)(axd:val (u.drop (u.length-v.length))<val v)(zT:u.length+ex.length<2^42):
  AI Tryz.prog 332 [.aD B0 0 u.length,PV.nat v] 159 (cK (u++ex)) (λr xs'=>r=PV.num (val u/val v)/\∃l,xs'=cK (l++ex)/\Qk l/\l.length=u.length/\val l=val u%val v):=by
 obtain⟨n,jt⟩:∃n,v.length=n+2:=⟨v.length-2,Oz⟩
 have e1:(u.length:Int)-(v.length:Int)=((u.length-v.length:Nat):Int):=Oz;have xY:=R9 jt;have r9:=wJ hv n Oz;have ax6:=rz hv;have wx:=fK hv (show n+1<v.length by omega);have tu:=fK hv (show n<v.length by omega);have uB:v[n+1]'Oz=v.getD (n+1) 0:=(iZ _).symm;have gF:v[n]'Oz=v.getD n 0:=(iZ _).symm;have axX:32768<=v.getD (n+1) 0:=by rw[jt]at aae;exact aae
 rw[uB]at wx;rw[gF]at tu;rw[jt]at ax6;have hvp:0<val v:=by rw[xY];have:0<65536^n:=Kb0 Oz;have:0<(v.getD (n+1) 0*65536+v.getD n 0)*65536^n:=Nat.mul_pos Oz this;omega
 refine GU Qd func332 rfl alY Nz λC hP=>?_;simp only[Xs];refine cC ?_;refine Sz1 e1 ?_;refine Rs eO [(7,11),(24,105)] [7,9,10] (λk J hp=>∃l qs,k+qs.length=u.length-v.length/\Qk l/\l.length=u.length/\Qk qs/\val (l.drop k)<val v/\val u=val l+val v*(65536^k*val qs)/\J 7= .mp 7 0 0/\
  hp 7=some ⟨1,3,[.int .i64 ((k:Int)-1)],false⟩/\hp 1000000=some ⟨1,159,cK (l++ex),false⟩/\hp 18=some ⟨1,159,cK (List.replicate k 0++qs),false⟩/\
  hp 3=some ⟨1,45,[PV.nat v],false⟩/\hp 5=some ⟨1,3,[.int .i64 v.length],false⟩) (u.length-v.length) ?_ ?_
 .refine⟨u,[],rfl,hu,rfl,qc,axd,by simp[val],?_⟩;refine Sz2 @true_and @and_true ?_;simp
 intro F hF;have nT:F 2= .rb 1000000 0 u.length:=by rw[hF];simp+decide (disch:=try exact D0) only[go_sem]
 have ln:F 3= .mp 3 0 0:=by rw[hF];simp+decide (disch:=try exact D0) only[go_sem]
 have lu:F 5= .mp 5 0 0:=by rw[hF];simp+decide (disch:=try exact D0) only[go_sem]
 have nU:F 6= .ms 18 (u.length-v.length):=by rw[hF];simp+decide (disch:=try exact D0) only[go_sem]
 have IW:∀O,[7,9,10].contains O=true->cI O F=F:=λO h=>by rw[hF];exact F8 h
 have hk9:=IW 9 rfl;have azF:=IW 10 rfl;have IV:=IW 7 rfl;have hkk:b7 [9,10] F=F:=by rw[hF];exact Q3k rfl
 clear IW hF;rintro k J h ⟨l,qs,tt,hl,mB,rX,wu,fW,jn,pH,nV,tj,cj,cq⟩;refine xo @jn pH @nV tj cj cq @nT @ln @lu @nU ?_;refine Qm (λhg=>?_) (λhg=>?_)
 .obtain _|j:=k
  .omega
  have e2:((j+1:Nat):Int)-1=j:=Oz;have e3:((n+2:Nat):Int)-1=((n+1:Nat):Int):=Oz;have e4:((j+(n+2):Nat):Int)-1=((j+(n+1):Nat):Int):=Oz;obtain⟨pre,w,post,Ob,bx,nk,BV,hw,dY,Om,hdj,aah,w0,Jf,Ji⟩:=aqg (n:=n) hl Oz Oz wu;have jr:=fK hl (show j+(n+2)<l.length by omega);have kS:=fK hl (show j+(n+1)<l.length by omega);have tp:=fK hl (show j+n<l.length by omega);have azI:(l++ex).length=u.length+ex.length:=by rw[Kaz,mB]
  have Zd:(l++ex)[j+(n+2)]'Oz=l.getD (j+(n+2)) 0:=by rw[KbJ Oz];exact(iZ _).symm
  have Za:(l++ex)[j+(n+1)]'Oz=l.getD (j+(n+1)) 0:=by rw[KbJ Oz];exact(iZ _).symm
  rw[<-iZ Oz]at jr kS;have OB:(cK (l++ex)).take u.length=cK l:=by rw[<-List.map_take,<-mB,List.take_left]
  have ZH:l++ex=pre++(w++(post++ex)):=by rw[Ob];simp
  generalize l.getD (j+(n+2)) 0=w2 at *
  generalize l.getD (j+(n+1)) 0=w1 at *
  simp+decide (disch:=first|omega|rfl|(simp+decide only[go_sem,jn,pH,nV,tj,cj,cq,nT,ln,lu,nU,jt,e2,e3,e4,Zd,Za,uB,Mb,ML,Dm,sw]<;>rfl)|fail) only[go_sem,jn,pH,nV,tj,cj,cq,nT,ln,lu,nU,jt,e2,e3,e4,Zd,Za,uB,Mb,ML,Dm,sw];have az7:w.length=n+3:=nk;have awJ:=afb xY Ji Jf (by rw[<-iZ (show j+n<l.length by omega)]at tp;omega) (by omega:0<v.getD (n+1) 0);have xR:=aji xY Ji r9 aah (Kb0 Oz);have xN:=Kbe (w2*65536+w1) (v.getD (n+1) 0);have azu:(w2*65536+w1)/v.getD (n+1) 0<131072:=by rw[Kba Oz];omega
  have azZ:=Kbo (w2*65536+w1) (by omega:0<v.getD (n+1) 0);rw[KaU]at xN;generalize hd0:(w2*65536+w1)/v.getD (n+1) 0=d0 at *
  generalize wo:(w2*65536+w1)%v.getD (n+1) 0=r0 at *
  have NP:∀(h:HP) v w,Qg (Qg h 10 v) 9 w=Qg (Qg h 9 w) 10 v:=λh v w=>agO 10 9 (by decide) h v w
  refine alx (λJ=>J 7= .mp 7 0 0/\J 52= .int .u64 d0/\J 53= .int .u64 (w2*65536+w1:Nat)) (Tz3 @jn @true_and @and_true) ?_;clear jn;rintro J ⟨jn,Nu,Nv⟩;refine ajj eO [9,10] (λJ2 cy=>J2 7= .mp 7 0 0/\J2 9= .mp 9 0 0/\J2 10= .mp 10 0 0/\cy=Qg (Qg h 9 ⟨1,105,[.int .u64 d0],false⟩) 10 ⟨1,105,[.int .u64 r0],false⟩) ?_ ?_
  .intro F' Eh;have XO:F' 3= .mp 3 0 0:=by rw[Eh];simp+decide (disch:=try exact D1 ln) only[go_sem,ln]
   have XP:F' 5= .mp 5 0 0:=by rw[Eh];simp+decide (disch:=try exact D1 lu) only[go_sem,lu]
   have ZD:cI 9 F'=F':=by rw[Eh];exact F8 rfl
   have ZC:cI 10 F'=F':=by rw[Eh];exact F8 rfl
   clear Eh
   repeat' (first|refine fU ?_ ?_|simp+decide (disch:=first|omega|rfl|(simp+decide only[go_sem,jn,Nu,Nv,cj,cq,XO,XP,ZD,ZC,jt,e3,uB,sw]<;>rfl)|fail) only[go_sem,jn,Nu,Nv,cj,cq,XO,XP,ZD,ZC,jt,e3,uB,sw])
   all_goals refine vl (J:=_) ?_
   all_goals simp+decide (disch:=try exact D5 jn wo NP true_and and_true) only[go_sem,jn,wo,NP,true_and,and_true]
  clear jn Nu Nv J;rintro J _ ⟨jn,qD,qC,rfl⟩;simp+decide (disch:=first|omega|rfl|(simp+decide only[go_sem,jn,qD,qC,nT,ln,lu,nU,XC,List.all_cons,List.all_nil,KaT,KaO,true_and]<;>rfl)|fail) only[go_sem,jn,qD,qC,nT,ln,lu,nU,XC,List.all_cons,List.all_nil,KaT,KaO,true_and];refine Rs eO [(62,77)] [] (λm J hp=>∃d r,m=d/\d*v.getD (n+1) 0+r=w2*65536+w1/\val w<(d+1)*val v/\hp=Qg (Qg h 9 ⟨1,105,[.int .u64 d],false⟩) 10 ⟨1,105,[.int .u64 r],false⟩) d0 ?_ ?_
  .exact⟨d0,r0,rfl,xN,awJ,rfl⟩
  intro F1 BL;have ID:F1 9= .mp 9 0 0:=by rw[BL,iM];simp+decide (disch:=try exact D1 qD) only[go_sem,qD]
  have IC:F1 10= .mp 10 0 0:=by rw[BL,iM];simp+decide (disch:=try exact D1 qC) only[go_sem,qC]
  have Nr:F1 11= .fn 359 [] [.mp 9 0 0,.mp 3 0 0,.mp 5 0 0,.mp 10 0 0,.rb 1000000 0 u.length,.mp 7 0 0]:=by rw[BL,iM];simp+decide (disch:=try exact D0) only[go_sem]
  have hE3:F1 3= .mp 3 0 0:=by rw[BL,iM];simp+decide (disch:=try exact D1 ln) only[go_sem,ln]
  have hE5:F1 5= .mp 5 0 0:=by rw[BL,iM];simp+decide (disch:=try exact D1 lu) only[go_sem,lu]
  rintro d J2 _ ⟨_,r,rfl,xO,NS,rfl⟩;have azs:d<131072:=by have:d*32768<=d*v.getD (n+1) 0:=Ka8 _ axX;omega
  refine Sz3 @ID @IC @Nr ?_;refine Q8f eO [(62,67)] [] (λJ hp=>J 67= .bool (decide (r<65536/\(65536<=d\/r*65536+l.getD (j+n) 0<d*v.getD n 0)))/\hp=Qg (Qg h 9 ⟨1,105,[.int .u64 d],false⟩) 10 ⟨1,105,[.int .u64 r],false⟩) ?_ ?_
  .refine fJ (λhr=>?_) (λhr=>?_)
   .refine Sz3 @ID @IC @Nr ?_;refine ag4 hP (Q3m (dg:=d) (r:=r) (j:=j) hv hl hn rfl Oz Oz Oz Oz) (by simp+decide (disch:=first|omega|rfl|(simp+decide only[go_sem,gZ,nV,cj,cq,pH,e2,Kai,KaO,List.getElem?_cons_zero,Ka6,Kaf]<;>rfl)|fail) only[go_sem,gZ,nV,cj,cq,pH,e2,Kai,KaO,List.getElem?_cons_zero,Ka6,Kaf];simp only[Ka6,OB]) rfl rfl ?_;refine Sz1 jt ?_;refine vl ⟨?_,rfl⟩;refine Sz0 ?_;rw[show j+(n+2)-2=j+n by omega,show n+2-2=n by omega];exact congrArg PV.bool (decide_eq_decide.2 ⟨λh=>⟨by omega,h⟩,λh=>h.2⟩)
   .refine Sz3 @ID @IC @Nr ?_;refine vl ⟨?_,rfl⟩;refine Sz0 ?_;simp;omega
  rintro J3 _ ⟨h67,rfl⟩;simp (disch:=decide) only[iM,gY];refine aZ h67 (λht=>?_) (λht=>?_)
  .obtain⟨hr,ht⟩:=ht;have zF:val w<d*val v:=by
    rcases ht with ht|ht
    .exact Kbj aah (Kap _ ht)
    .exact ajg xY Ji Jf xO ht
   obtain _|d:=d
   .omega
   have e5:((d+1:Nat):Int)-1=(d:Nat):=Oz;refine Ag @ID @IC @hE3 @hE5 cj cq jt e3 e5 uB NP ?_;refine Qe d Oz ⟨d,r+v.getD (n+1) 0,rfl,?_,zF,rfl⟩;rw[KaL]at xO;omega
  have zx:d<65536:=by apply Decidable.byContradiction;intro jE;apply ht;refine⟨?_,.inl Oz⟩;have:65536*v.getD (n+1) 0<=d*v.getD (n+1) 0:=Kap _ Oz;omega
  have axV:¬r*65536+l.getD (j+n) 0<d*v.getD n 0:=by
   intro axt;by_cases hr:r<65536
   .exact ht ⟨hr,.inr axt⟩
   .have:=wM zx tu;omega
  have e5:j+(n+2)+1-j=n+3:=Oz;subst BL;simp (disch:=decide) only[iM,hkk,gY];refine Sz14 @jn @qD @qC @nT @ln @lu @nU cj cq pH @nV e2 jt e5 ?_;have rZ:=Rm w v d 0 0 hw Oz Oz;have IN:=VT w v d 0 0 Oz Oz zx hv;have bm:=Wn w v d 0 0;have ZZ:=VE w v d 0 0;have Jg:=rz hw;rw[nk]at rZ Jg;refine HU hP (Q3l (pre:=pre) (w:=w) (post:=post++ex) (j:=j) (m:=n+3) (q:=d) hw hv zx bx nk Oz (by rw[<-ZH];omega)) (O:=1000000) (Tz2 @nV ZH) (tS _) (by simp;omega) (by simp[lM,B0]) rfl ?_;rintro _ _ _ _ ⟨rfl,rfl⟩;generalize gR w v d 0 0=sq at *
  obtain⟨⟨rZ,hb1⟩,IN⟩:=And.intro rZ IN;have XU:=rz bm;rw[ZZ,nk]at XU;have azW:pre.length+(w.length+post.length)=u.length:=by rw[<-mB,Ob];simp
  have az1:j<(List.replicate (j+1) 0++qs).length:=by simp;omega
  have OG:val l=val pre+65536^j*val w:=by rw[Ob,oW,oW,Om,bx,Kb3,KaW]
  simp+decide (disch:=first|omega|rfl|(simp+decide only[go_sem,qh,jn,qD,qC,nT,ln,lu,nU]<;>rfl)|fail) only[go_sem,qh,jn,qD,qC,nT,ln,lu,nU];refine Qm (λhb=>?_) (λhb=>?_)
  .have hb2:sq.2.2=1:=Oz;rw[IN,hb2]at rZ;obtain _|d:=d
   .omega
   have X8:=ajh xY Ji r9 Oz zx xO axV;obtain⟨k,hk⟩:=Rl sq.1 v 0 Oz;have l9:=Wm sq.1 v 0;have ZR:=VD sq.1 v 0;rw[ZZ,nk]at hk ZR;have Ov:=rz l9;rw[ZR]at Ov;obtain⟨Nx,iF⟩:=aly (B:=65536^(n+3)) (S:=val sq.1) (e:=d) Oz XU X8 Oz Ov Jg;have e6:((d+1:Nat):Int)-1=(d:Nat):=Oz;simp+decide (disch:=first|omega|rfl|(simp+decide only[go_sem,jn,qD,qC,nT,ln,lu,nU,cj,cq,pH,nV,e2,e6,jt,e5]<;>rfl)|fail) only[go_sem,jn,qD,qC,nT,ln,lu,nU,cj,cq,pH,nV,e2,e6,jt,e5];refine HU hP (Q50 (pre:=pre) (w:=sq.1) (post:=post++ex) (j:=j) (m:=n+3) bm hv bx Oz Oz (by simp;omega)) (O:=1000000) Tz0 (tS _) (by simp;omega) (by simp[lM,B0]) rfl ?_;rintro _ _ _ _ ⟨rfl,rfl⟩;have v7:=Pd (q:=d) (R:=mU sq.1 v 0) bx Om fW OG iF;simp+decide (disch:=first|omega|rfl|(simp+decide only[go_sem,qh,jn,qD,qC,nT,ln,lu,nU,cj,cq,pH,nV,tj,e2,e6,jt,e5,Hv,KaP (by omega:d<65536),IV]<;>rfl)|fail) only[go_sem,qh,jn,qD,qC,nT,ln,lu,nU,cj,cq,pH,nV,tj,e2,e6,jt,e5,Hv,KaP (by omega:d<65536),IV];refine Qe j Oz ⟨pre++(mU sq.1 v 0++post),d::qs,by simp;omega,?_,?_,?_,?_,v7.2,?_⟩
   .rw[pY,pY];exact⟨BV,l9,dY⟩
   .simp;omega
   .rw[jK];exact⟨by omega,rX⟩
   .rw[v7.1];exact Nx
   .simp+decide (disch:=first|omega|rfl|(simp+decide only[go_sem,cj,cq,true_and,and_true,jt,Kbr]<;>rfl)|fail) only[go_sem,cj,cq,true_and,and_true,jt,Kbr]
  .have hb2:sq.2.2=0:=Oz;rw[IN,hb2]at rZ;obtain⟨Nx,iF⟩:=aqh (S:=val sq.1) (d:=d) Oz NS;have v7:=Pd (q:=d) (R:=sq.1) bx Om fW OG iF;simp+decide (disch:=first|omega|rfl|(simp+decide only[go_sem,qh,jn,qD,qC,nT,ln,lu,nU,cj,cq,pH,nV,tj,e2,jt,e5,Hv,KaP zx,IV]<;>rfl)|fail) only[go_sem,qh,jn,qD,qC,nT,ln,lu,nU,cj,cq,pH,nV,tj,e2,jt,e5,Hv,KaP zx,IV];refine Qe j Oz ⟨pre++(sq.1++post),d::qs,by simp;omega,?_,?_,?_,?_,v7.2,?_⟩
   .rw[pY,pY];exact⟨BV,bm,dY⟩
   .simp;omega
   .rw[jK];exact⟨zx,rX⟩
   .rw[v7.1];exact Nx
   .simp+decide (disch:=first|omega|rfl|(simp+decide only[go_sem,cj,cq,true_and,and_true,jt,Kbr]<;>rfl)|fail) only[go_sem,cj,cq,true_and,and_true,jt,Kbr]
 .obtain rfl:k=0:=by omega
  rw[Ka6]at wu;rw[Nat.pow_zero,KcQ]at fW;have hdiv:val u/val v=val qs:=by rw[fW,Kcq _ _ hvp,KbV wu,Ka2]
  have zI:val u%val v=val l:=by rw[fW,Kco,KaP wu]
  simp+decide (disch:=first|omega|rfl|(simp+decide only[go_sem,jn,pH,nV,tj,cj,cq,nT,ln,lu,nU,Ka5,KaO]<;>rfl)|fail) only[go_sem,jn,pH,nV,tj,cj,cq,nT,ln,lu,nU,Ka5,KaO];refine ko hP (kk rX Oz) (CV (ty:=159) (fz:=false) (by simp+decide (disch:=first|omega|rfl|(simp+decide only[go_sem,tj,Ka5,KaO]<;>rfl)|fail) only[go_sem,tj,Ka5,KaO]) Oz) rfl ?_;refine Sz0 ?_;refine TE (xs':=cK (l++ex)) (p:=PV.num (val qs)) ?_ (tS _) (by simp;omega) Tz0 rfl ⟨by rw[hdiv],l,rfl,hl,mB,zI.symm⟩;show FW.Qu h [18] 1000000=_;simp only[FW.Qu];rw[if_neg (by decide),nV]
def afP{a:List Nat}{s:Nat}(ha:Qk a)(bU:a.length<2^40)(hs:s<=15):AC 331 [PV.nat a,.int .i64 (-(s:Int))] (· =PV.num (val a/2^s)):=by
 have jo:=cB ha;unfold nl at jo;by_cases h0:val a=0
 .refine aF Qd func331 Km λC hP=>?_;refine ay hP (kk ha Oz) ?_;refine Sz0 ?_;refine Qo (λhz=>by omega) (λhz=>?_);refine Sz0 ?_;refine Qo (λhz=>by omega) (λhz=>?_);refine Sz0 ?_;refine Qm (λhz=>?_) (λhz=>absurd (by rw[h0,iu];rfl) hz);refine Sz0 ?_;exact od (Dk (by simp[h0])) rfl
 by_cases uN:s=0
 .subst uN;have:=(LC (s:=0) ha bU Oz h0).toV;rw[Nat.pow_zero,KbR]at this;rw[Nat.pow_zero,Nat.div_one];exact this
 have qP:(aw (val a)).length≠0:=λh=>h0 (mM.1 (sm h))
 refine aF Qd func331 Km λC hP=>?_;refine ay hP (kk ha Oz) ?_;refine Sz0 ?_;refine Qo (λhz=>by omega) (λhz=>?_);refine Sz0 ?_;refine Qo (λhz=>by omega) (λhz=>?_);refine Sz0 ?_;refine Qm (λhz=>by omega) (λhz=>?_);refine Sz0 ?_;refine Qm (λhz=>?_) (λhz=>by omega);have e:(0:Int)- -(s:Int)=(s:Nat):=Oz;refine gE e hP (afN (Ql (val a)) Oz hs) ?_;refine Sz1 @Qx ?_;exact Qb rfl rfl
def afQ{d:Nat}(hx:(aw x).length<2^42)(hd:0<d)(qH:d<65536):AC 329 [PV.num x,.int .u16 d] (· = .aI [PV.num (x/d),.int .u16 (x%d:Nat)]):=by
 have:=Q8k (Ql x) hx hd qH
 rwa[Qx]at this
def LG{b:List Nat}(ha:Qk a)(hb:Qk b)(bU:a.length<2^38)(bZ:b.length<2^38):AC 244 [PV.nat a,PV.nat b]
  (· =if val b=0 then .aI [PV.num 0,PV.num 0,.int .i64 3]else .aI [PV.num (val a/val b),PV.num (val a%val b),.int .i64 0]):=by
 have jo:=cB ha;have kR:=cB hb;unfold nl at jo kR;refine aF Qd func244 al9 λC hP=>?_;refine ay hP (kk ha Oz) ?_;refine ay hP (kk hb Oz) ?_;refine Sz0 ?_;have eM:=Ql (val a);have n5:=Ql (val b);have tw:=Qx (val a);have zV:=Qx (val b);have ayk:=Da (val b);generalize val a=x at *
 generalize val b=y at *
 refine Qm (λhz=>?_) (λhz=>?_)
 .have dZ:y=0:=mM.1 (sm Oz);refine Sz0 ?_;rw[if_pos dZ];exact ox rfl rfl rfl rfl AD AD (Qi _)
 have dZ:y≠0:=λh=>by rw[h,iu]at hz;simp at hz
 rw[if_neg dZ];refine ay hP (G7 eM n5 Oz Oz) ?_;refine cH tw zV (λhc=>?_) (λhc=>?_)
 .have aA:x<y:=by
   unfold jy at hc;split at hc
   .assumption
   .split at hc<;>omega
  refine ay hP (CN eM Oz) ?_;refine Sz1 tw ?_;exact ox rfl rfl rfl rfl (Dk (KbV aA)) (wQ (by rw[KaP aA])) (Qi _)
 have jE:y<=x:=by unfold jy at hc;split at hc<;>omega
 refine bD (λh1=>?_) (λh1=>?_)
 .obtain⟨d,hd⟩:∃d,aw y=[d]:=by
   match h:aw y,h1 with
   | [d],_=>exact⟨d,rfl⟩
   | [],h1=>simp at h1
   |_::_::_,h1=>simp at h1;omega
  have hyd:y=d:=by rw[<-zV,hd];simp[val]
  have zw:d<65536:=by rw[hd]at n5;exact n5 d (by simp)
  simp+decide (disch:=first|omega|rfl|(simp+decide only[go_sem,hd,Ka3,Kbs,KaX,Kbm]<;>rfl)|fail) only[go_sem,hd,Ka3,Kbs,KaX,Kbm];refine Qv hP (afQ (x:=x) (d:=d) Oz Oz zw) (by rw[PV.num];rfl) rfl rfl ?_;have hm:x%d<18446744073709551616:=by have:=Kbo x (show 0<d by omega);omega
  refine ay hP (Hy hm) ?_;refine Sz0 ?_;rw[hyd];exact ox rfl rfl rfl rfl (Qi _) (Qi _) (Qi _)
 obtain⟨n,hn⟩:∃n,(aw y).length=n+2:=⟨(aw y).length-2,Oz⟩
 obtain⟨m,hm⟩:∃m,(aw x).length=m+2:=by have:=kp jE;unfold nl at this;exact⟨(aw x).length-2,Oz⟩
 have e1:((n+2:Nat):Int)-1=((n+1:Nat):Int):=Oz;have lA:(aw y)[n+1]'Oz≠0:=by
  intro h;apply ayk;have:(aw y).getLast? =some ((aw y)[n+1]'Oz):=by rw[Kbh,show(aw y).length-1=n+1 by omega];exact Kae _
  rw[this,h]
 have lG:=fK n5 (show n+1<(aw y).length by omega);have azv:val (aw y)=y:=Qx y;generalize xZ:(aw y)[n+1]'Oz=yi at *
 have pF:=LD lG;have NM:=LN lG lA;obtain⟨dv,axY⟩:=afO _ yi rfl lA lG;obtain⟨s,hs,xW⟩:∃s,16-Lib.bitLen yi=s/\s<=15:=⟨_,rfl,Oz⟩
 refine eL hn e1 xZ hP (Qs2 lG) ?_;refine Sz1 hs ?_;have hso:=LC (a:=aw x) (s:=s) eM Oz xW (by rw[tw];omega);refine aqb hP hso rfl rfl rfl (by decide) ?_;rintro _ _ rfl;rw[tw];have hDl:(aw (x*2^s)).length<=m+3:=by have h1:=sG x (2^s);have h2:nl (2^s)<=1:=o9.2 (by have:2^s<=2^15:=KbG Oz xW;omega);unfold nl at h1 h2;omega
 have aze:m+2<=(aw (x*2^s)).length:=by have:=kp (show x<=x*2^s from Kb7 _ (Kb0 Oz));unfold nl at this;omega
 refine Sz1 hm ?_;rw[GA (ys:=cK [0,0]) (xs:=cK (aw (x*2^s))) (by simp+decide (disch:=first|omega|rfl|(simp+decide only[go_sem,kI]<;>rfl)|fail) only[go_sem,kI];rfl) Tz0 Oz (by simp) (by simp;omega) (by simp;omega)];rw[Kaf (by simp),<-List.map_append];simp+decide (disch:=first|omega|rfl|(simp+decide only[go_sem,hm,KaX,Kbm]<;>rfl)|fail) only[go_sem,hm,KaX,Kbm];have aab:=(LC (a:=aw y) (s:=s) n5 Oz xW (by rw[zV];omega)).toV;rw[zV]at aab;refine Qy hP aab ?_;obtain⟨g1,g2⟩:=ahg xW (by rw[show 16-s=Lib.bitLen yi by omega];exact dv) (by rw[show 16-s=Lib.bitLen yi by omega];exact axY);obtain⟨XW,hYt,awh⟩:=Q8g hn xZ g1 g2;have fQ:n<=m:=by have:=kp jE;unfold nl at this;omega
 obtain⟨u,ex,OD,Je,hu3,hu4,hu5,hu6⟩:=Q8h (s:=s) hm xW fQ awh;have awK:x*2^s/(y*2^s)=x/y:=Nat.mul_div_mul_right _ _ (Kb0 Oz);have awL:x*2^s%(y*2^s)=x%y*2^s:=Nat.mul_mod_mul_right _ _ _;rw[OD];refine Sz0 ?_;have wg:=ahv (u:=u) (v:=aw (y*2^s)) (ex:=ex) hu3 (Ql _) Oz Oz (by rw[XW];exact hYt) (by rw[XW,Je,Qx];exact hu6) Oz;rw[Je,hu4,Qx,awK,awL]at wg;refine HU hP wg (O:=52) Tz0 (tS _) (by simp;omega) (by simp[lM]) rfl ?_;rintro _ _ _ _ ⟨rfl,l,rfl,kS,jr,hl3⟩;have e5:IntKind.i64.wrap (0-(s:Int))= -(s:Int):=by rw[yD Oz Oz];omega
 have bl:(cK (l++ex)).take (m+2+1)=cK l:=by rw[<-List.map_take,show m+2+1=l.length by omega,List.take_left]
 simp+decide (disch:=first|omega|rfl|(simp+decide only[go_sem,qh]<;>rfl)|fail) only[go_sem,qh];refine ko hP (kk kS Oz) (by simp[Qr,cA,aP,Qg,<-List.map_append,bl]) rfl ?_;refine Sz1 e5 ?_;rw[hl3];have BX:=afP (a:=aw (x%y*2^s)) (s:=s) (Ql _) (by have:=kp (show x%y*2^s<=x*2^s from Kap _ (Nat.mod_le _ _));unfold nl at this;omega) xW;rw[Qx,Nat.mul_div_cancel _ (Kb0 Oz)]at BX;refine Qy hP BX ?_;refine Sz0 ?_;exact ox rfl rfl rfl rfl (Qi _) (Qi _) (Qi _)
def QZ{b:List Nat}(ha:Qk a)(hb:Qk b)(bU:a.length<2^38)(bZ:b.length<2^38):AC 154 [PV.nat a,PV.nat b] (· =PV.num (Nat.gcd (val a) (val b))):=by
 have jo:=cB ha;have kR:=cB hb;unfold nl at jo kR;refine aF Qd func154 amd λC hP=>?_;refine ay hP (CN ha Oz) ?_;refine ay hP (CN hb Oz) ?_;refine Sz0 ?_;refine Qh eO [(0,1),(4,11),(16,49)] [] (λm J hp=>∃x,Nat.gcd x m=Nat.gcd (val a) (val b)/\(aw x).length<2^38/\(aw m).length<2^38/\J 0=PV.num x/\J 1=PV.num m/\hp=aB) (val b) ?_ ?_
 .refine⟨val a,rfl,Oz,Oz,?_⟩;exact Tz2 @true_and @and_true
 rintro y J _ ⟨x,hg,hx,hy,h0,h1,rfl⟩;generalize Nat.gcd (val a) (val b)=g at *
 refine cH h0 h1 (λhc=>?_) (λhc=>?_)
 .have dZ:y≠0:=λh=>by rw[h,iu]at hc;simp at hc
  have zI:(aw (x%y)).length<2^38:=by have:=kp (Kc0 (Kbo x (Kbf dZ)));unfold nl at this;omega
  refine bE h0 h1 hP (Mm (Ql x) Oz) ?_;refine Sz2 h0 h1 ?_;rw[Qx];by_cases gI:nl x<=4
  .have oO:=GS.1 gI;rw[if_pos gI];refine bE h0 h1 hP (Mm (Ql y) Oz) ?_;rw[Qx];by_cases dA:nl y<=4
   .have pO:=GS.1 dA;rw[if_pos dA];refine Sz2 h0 h1 ?_;refine Qh eO [(5,5),(7,7),(33,38)] [] (λm J hp=>∃p,Nat.gcd p m=g/\p<18446744073709551616/\m<18446744073709551616/\J 5= .int .u64 p/\J 7= .int .u64 m/\hp=aB) y ?_ ?_
    .refine⟨x,hg,oO,pO,?_⟩;exact Tz2 @true_and @and_true
    rintro q J2 _ ⟨p,gF,iI,cy,h5,h7,rfl⟩;refine cH h5 h7 (λhq=>?_) (λhq=>?_)
    .have kT:0<q:=Oz;refine Sz3 h5 h7 @sw ?_;refine Qe (p%q) (Kbo _ kT) ⟨q,?_,cy,?_,?_⟩
     .rw[<-gF,KcH p q,Nat.gcd_rec q p,KcH]
     .have:=Kbo p kT;omega
     .exact Tz2 @true_and @and_true
    .obtain rfl:q=0:=by omega
     refine bE h5 h7 hP (Hy iI) ?_;refine Sz0 ?_;exact Qb (by rw[<-gF,KcX]) rfl
   .rw[if_neg dA];refine bE h0 h1 hP (LG (Ql x) (Ql y) Oz Oz) ?_;rw[Qx,Qx,if_neg dZ];refine Sz2 h0 h1 ?_;refine Qe (x%y) (Kbo _ (Kbf dZ)) ⟨y,?_,hy,zI,?_⟩
    .rw[<-hg,KcH x y,Nat.gcd_rec y x,KcH]
    .exact Tz2 @true_and @and_true
  .rw[if_neg gI];refine bE h0 h1 hP (Mm (Ql y) Oz) ?_;obtain⟨r1,r2,hr⟩:∃r1 r2,(if nl (val (aw y))<=4 then PV.aI [.int .u64 (val (aw y)),.bool true]else .aI [.int .u64 0,.bool false])= .aI [.int .u64 r1,.bool r2]:=by split<;>exact⟨_,_,rfl⟩
   rw[hr];refine bE h0 h1 hP (LG (Ql x) (Ql y) Oz Oz) ?_;rw[Qx,Qx,if_neg dZ];refine Sz2 h0 h1 ?_;refine Qe (x%y) (Kbo _ (Kbf dZ)) ⟨y,?_,hy,zI,?_⟩
   .rw[<-hg,KcH x y,Nat.gcd_rec y x,KcH]
   .exact Tz2 @true_and @and_true
 .have dZ:y=0:=mM.1 (sm Oz);subst dZ;refine Sz1 h0 ?_;exact Qb (by rw[<-hg,KcX]) rfl
variable{n:Bool}
def Ap(n:Bool)(x:Nat):AC 155 [.bool n,PV.num x] (· =PV.zz (if n then -(x:Int)else x)):=by
 refine aF Qd func155 amh λC hP=>?_;refine Sz0 ?_;refine Au (λhn=>?_) (λhn=>?_)
 all_goals
  refine Sz0 ?_;refine cx ?_;refine Sz0 ?_;exact Qb (by rw[<-Kh,hn];simp) rfl
def ahw(ha:Qk a)(bU:a.length<2^42):AC 327 [.bool n,PV.nat a] (· =PV.zz (zv n a)):=by
 refine aF Qd func327 amg λC hP=>?_;refine ay hP (CN ha bU) ?_;refine Sz0 ?_;refine Au (λhn=>?_) (λhn=>?_)
 all_goals
  refine Sz0 ?_;refine cx ?_;refine Sz0 ?_;exact Qb (by have:=Kh n (val a);rw[hn]at this;subst hn;simpa[zv]using this) rfl
def Q8n(ha:Qk a)(bU:a.length<2^42):AC 243 [PV.zi n a] (· =PV.zz (zv n a)):=by refine aF Qd func243 amj λC hP=>?_;refine ay hP (ahw ha bU) ?_;refine Sz0 ?_;refine cx ?_;exact cf
def Gm(ha:Qk a)(bU:a.length<2^40):AC 63 [PV.zi n a] (· = .int .i64 (gL (zv n a))):=by
 refine aF Qd func63 aqJ λC hP=>?_;refine Sz0 ?_;refine kG hP (PW ha bU) rfl rfl rfl ?_;rintro _ ⟨k,rfl,hk⟩;refine Sz0 ?_;rw[KH];refine Qm (λhz=>?_) (λhz=>?_)
 .refine Sz0 ?_;rw[if_pos (hk.1 Oz)];exact Qb rfl rfl
 .rw[if_neg (λh=>hz (by rw[hk.2 h];rfl))];refine Sz0 ?_;refine CS (λhn=>?_) (λhn=>?_)
  .refine Sz0 ?_;exact Qb (by simp[hn]) rfl
  .refine Sz0 ?_;exact Qb (by simp[hn]) rfl
def Vo{b:List Nat}(ha:Qk a)(hb:Qk b)(bU:a.length<2^40)(bZ:b.length<2^40):AC 369 [PV.nat a,PV.nat b] (· = .int .i64 (jy (val a) (val b))):=by refine aF Qd func369 aml λC hP=>?_;refine ay hP (G7 ha hb bU bZ) ?_;exact cf
def afR{m:Bool}{b:List Nat}(ha:Qk a)(hb:Qk b)(bU:a.length<2^40)(bZ:b.length<2^40):AC 364 [PV.zi n a,PV.zi m b] (· = .int .i64 (eR (zv n a) (zv m b))):=by
 have hx:=KH n a;have hy:=KH m b;refine aF Qd func364 amk λC hP=>?_;refine ay hP (Gm ha bU) ?_;refine ay hP (Gm hb bZ) ?_;refine bD (λhs=>?_) (λhs=>?_)
 .refine Sz0 ?_;exact Qb (by rw[alC hs]) rfl
 refine bD (λdA=>?_) (λdA=>?_)
 .refine Sz0 ?_;exact Qb (by rw[alD dA]) rfl
 have he:gL (zv n a)=gL (zv m b):=Oz;refine bD (λEY=>?_) (λEY=>?_)
 .refine ay hP (Vo hb ha bZ bU) ?_;refine Sz0 ?_;exact Qb (by rw[alE (Dn.1 EY) (Dn.1 (he▸EY))]) rfl
 .refine ay hP (Vo ha hb bU bZ) ?_;refine Sz0 ?_;exact Qb (by rw[alF (λh=>EY (Dn.2 h)) (λh=>EY (he▸Dn.2 h))]) rfl
def Wx{m:Bool}{b:List Nat}(ha:Qk a)(hb:Qk b)(bU:a.length<2^40)(bZ:b.length<2^40):AC 245 [PV.zi n a,PV.zi m b] (· =PV.zz (zv n a+zv m b)):=by
 refine aF Qd func245 amm λC hP=>?_;refine Sz0 ?_;refine CS (λfQ=>?_) (λfQ=>?_)
 .have fQ:n=m:=by simpa using fQ
  subst fQ;refine ay hP (ajH ha hb bU bZ) ?_;refine ay hP (Ap n (val a+val b)) ?_;refine Sz0 ?_;refine cx ?_;refine Sz0 ?_;exact Qb (congrArg PV.zz (by unfold zv;split<;>simp<;>omega)) rfl
 have fQ:n= !m:=by cases n<;>cases m<;>simp_all
 subst fQ;refine ay hP (G7 ha hb bU bZ) ?_;refine bD (λhc=>?_) (λhc=>?_)
 .rw[Hj]at hc;refine ay hP (RD hb ha bZ bU Oz) ?_;refine ay hP (Ap m (val b-val a)) ?_;refine Sz0 ?_;refine cx ?_;refine Sz0 ?_;exact Qb (congrArg PV.zz (by unfold zv;cases m<;>simp<;>omega)) rfl
 .rw[Hj]at hc;refine ay hP (RD ha hb bU bZ Oz) ?_;refine ay hP (Ap (!m) (val a-val b)) ?_;refine Sz0 ?_;refine cx ?_;refine Sz0 ?_;exact Qb (congrArg PV.zz (by unfold zv;cases m<;>simp<;>omega)) rfl
def ve{m:Bool}{b:List Nat}(ha:Qk a)(hb:Qk b)(bU:a.length<2^40)(bZ:b.length<2^40):AC 126 [PV.zi n a,PV.zi m b] (· =PV.zz (zv n a*zv m b)):=by refine aF Qd func126 amn λC hP=>?_;refine ay hP (G8 ha hb bU bZ) ?_;refine ay hP (Ap (!(n==m)) (val a*val b)) ?_;refine Sz0 ?_;refine cx ?_;refine Sz0 ?_;exact Qb (congrArg PV.zz (by unfold zv;cases n<;>cases m<;>simp[Int.neg_mul,Int.mul_neg])) rfl
variable{k:Nat}{z:Int}
def G9(hl:a.length<2^43):AC 123 [PV.nat a] (· = .bool (decide (a=[1]))):=by
 refine aF Qd func123 amo λC hP=>?_;refine bD (λhz=>?_) (λhz=>?_)
 .obtain⟨x,xs,rfl⟩:∃x xs,a=x::xs:=by
   match a,hz with
   |x::xs,_=>exact⟨x,xs,rfl⟩
  simp+decide (disch:=first|omega|rfl|(simp+decide only[go_sem,Ka3,List.getElem_cons_zero]<;>rfl)|fail) only[go_sem,Ka3,List.getElem_cons_zero];refine Qb (congrArg PV.bool ?_) rfl;rw[<-Bool.decide_and];exact decide_eq_decide.2 ⟨λ⟨h1,h2⟩=>by
   have:xs=[]:=KaE.1 Oz;subst this;congr 1;omega,λh=>by
   injection h with h1 h2;subst h1 h2;simp⟩
 .have:a=[]:=KaE.1 Oz;subst this;exact cf
def Vp(x:Nat):(aw x=[1])↔x=1:=⟨λh=>by have:=Qx x;rw[h]at this;simpa[val]using this.symm,λh=>by rw[h,vk]⟩
def Kn(hl:(aw x).length<2^43):AC 123 [PV.num x] (· = .bool (decide (x=1))):=by
 have:=G9 hl
 rwa[decide_eq_decide.2 (Vp x)]at this
def GZ:AC 81 [] (· =PV.nat [1]):=by refine aF Qd func81 aqK λC hP=>?_;exact cf
def Wy{y:Nat}(hx:(aw x).length<2^38)(hy:(aw y).length<2^38)(h0:y≠0):AC 244 [PV.num x,PV.num y] (· = .aI [PV.num (x/y),PV.num (x%y),.int .i64 0]):=by
 have:=LG (Ql x) (Ql y) hx hy
 rwa[Qx,Qx,if_neg h0]at this
def alZ{y:Nat}(hx:(aw x).length<2^38)(hy:(aw y).length<2^38):AC 154 [PV.num x,PV.num y] (· =PV.num (Nat.gcd x y)):=by
 have:=QZ (Ql x) (Ql y) hx hy
 rwa[Qx,Qx]at this
def Lo{d:List Nat}(ha:Qk a)(hd:Qk d)(bU:a.length<2^38)(tq:d.length<2^38):AC 124 [PV.zi n a,PV.nat d] (· =PV.rat (rv n a d)):=by
 have js:=cB ha;have BT:=cB hd;rw[<-lh n a]at js;unfold rv;unfold nl at js BT;refine tQ Qd func124 rfl amp (by simp[M4]) λC hP=>?_;simp only[M4];refine cC ?_;refine Sz0 ?_;refine Qv hP (CN hd (by omega)) rfl rfl rfl ?_;refine Sz0 ?_;refine Qv hP (Q8n ha (by omega)) rfl rfl rfl ?_;refine Sz0 ?_;generalize zv n a=z at *
 generalize val d=D at *
 have hlen:∀x:Nat,((aw x).length:Int)=0↔x=0:=λx=>by rw[<-mM,<-List.length_eq_zero_iff];omega
 have XI:∀ {fr:Fr} {hp:HP},(D=0\/z=0)->za (· =PV.rat (mkRat z D)) (.agg [.bool false,.aa,PV.nat [1]]):=λh=>by rw[VG h];exact od Sa rfl
 refine Qo (λhz=>?_) (λhz=>?_)
 .refine Sz0 ?_;refine Qv hP GZ rfl rfl rfl ?_;refine Sz0 ?_;refine cx ?_;refine Sz0 ?_;exact XI (fr:=aX) (hp:=aB) (.inl ((hlen _).1 hz))
 refine Sz0 ?_;refine Qm (λB2=>?_) (λB2=>?_)
 .refine Sz0 ?_;refine Qv hP GZ rfl rfl rfl ?_;refine Sz0 ?_;refine cx ?_;refine Sz0 ?_;exact XI (fr:=aX) (hp:=aB) (.inr (Int.natAbs_eq_zero.1 ((hlen _).1 B2)))
 have hD:D≠0:=λh=>hz ((hlen _).2 h)
 refine Sz0 ?_;refine Qv hP (Kn (by omega)) rfl rfl rfl ?_;refine Sz0 ?_;refine Qm (λh1=>?_) (λh1=>?_)
 .subst h1;refine Sz0 ?_;refine cx ?_;refine Sz0 ?_;exact Qb (by rw[<-aeu];simp only[vk]) rfl
 refine Sz0 ?_;refine Qv hP (alZ (by omega) (by omega)) rfl rfl rfl ?_;have rS:Nat.gcd z.natAbs D≠0:=λh=>hD (Nat.eq_zero_of_gcd_eq_zero_right h)
 have xQ:(aw (Nat.gcd z.natAbs D)).length<2^38:=by have:=kp (Kc4 z.natAbs (Kbf hD));unfold nl at this;omega
 have cX:=TH (z:=z) hD;generalize Nat.gcd z.natAbs D=g at *
 refine Sz0 ?_;refine Qv hP (Kn (by omega)) rfl rfl rfl ?_;refine Sz0 ?_;refine CS (λh2=>?_) (λh2=>?_)
 .refine Sz0 ?_;refine Qv hP (Wy (by omega) xQ rS) rfl rfl rfl ?_;refine Sz0 ?_;refine Qv hP (Wy (by omega) xQ rS) rfl rfl rfl ?_;refine Sz0 ?_;refine cx ?_;refine Sz0 ?_;exact Qb cX rfl
 .have:g=1:=by simpa using h2
  subst this;rw[Nat.div_one,Nat.div_one]at cX;refine Sz0 ?_;refine cx ?_;refine Sz0 ?_;exact Qb cX rfl
def wH(a:List Nat):AC 127 [PV.nat a] (· =PV.zi false a):=by refine aF Qd func127 amq λC hP=>?_;refine Sz0 ?_;refine cx ?_;exact cf
def aqS(k:Nat)(q:Rat)(r:PV):Prop:=∃n a d,r= .aI [PV.zi n a,PV.nat d]/\Qk a/\Qk d/\a.length<=k/\d.length<=k/\val d≠0/\rv n a d=q
def tH{d:List Nat}(ha:Qk a)(hd:Qk d)(hk:1<=k)(bU:a.length<=k)(tq:d.length<=k)(qM:k<2^38):AC 62 [PV.rr n a d] (aqS k (rv n a d)):=by
 refine aF Qd func62 aqL λC hP=>?_;refine Sz0 ?_;refine kG hP (PW hd Oz) rfl rfl rfl ?_;rintro _ ⟨b,rfl,hb⟩;refine bD (λhz=>?_) (λhz=>?_)
 .have h0:val d=0:=hb.1 Oz;refine ay hP GZ ?_;refine Sz0 ?_;refine nH ?_;refine Sz0 ?_;refine⟨⟨rfl,rfl⟩,.aI [PV.zi false [],PV.nat [1]],⟨⟨rfl,trivial,trivial⟩,Qi _,trivial⟩,false,[],[1],rfl,qc,by intro x hx;simp at hx;omega,by simp,by simpa using hk,by simp[val],?_⟩;unfold rv;rw[h0,Rat.mkRat_zero];rfl
 .have h0:val d≠0:=λh=>hz (by rw[hb.2 h];rfl)
  refine Sz0 ?_;refine fU ?_ ?_
  all_goals
   refine Sz0 ?_;refine nH ?_;refine Sz0 ?_;exact⟨⟨rfl,rfl⟩,.aI [PV.zi n a,PV.nat d],⟨Qi _,Qi _,trivial⟩,n,a,d,rfl,ha,hd,bU,tq,h0,rfl⟩
def ajI{m:Bool}{b:List Nat}(hb:Qk b)(bU:nl z.natAbs<2^40)(bZ:b.length<2^40):AC 245 [PV.zz z,PV.zi m b] (· =PV.zz (z+zv m b)):=by
 have:=Wx (n:=decide (z<0)) (a:=aw z.natAbs) (m:=m) (Ql _) hb bU bZ
 rwa[om]at this
def Ra{m:Bool}{b:List Nat}(ha:Qk a)(hb:Qk b)(bU:a.length<2^39)(bZ:b.length<2^39):AC 125 [.sl 2 [PV.zi n a,PV.zi m b]] (· =PV.zz (zv n a+zv m b)):=by
 have js:=cB ha;rw[<-lh n a]at js;refine aF Qd func125 alT λC hP=>?_;refine Sz0 ?_;refine Qh eO [(5,5),(8,15)] [5] (λk J hp=>∃i,k=2-i/\i<=2/\J 8= .int .i64 (i:Nat)/\hp 2=some ⟨2,47,[.agg [.bool false,.aa]],false⟩/\hp 3=some ⟨2,47,[if i=0 then .agg [.bool false,.aa]else if i=1 then PV.zz (zv n a)else PV.zz (zv n a+zv m b)],false⟩) 2 ?_ ?_
 .refine⟨0,rfl,Oz,?_⟩;refine Sz0 ?_;simp
 rintro _ J h ⟨i,rfl,hi,h8,eZ,cj⟩;refine aZ h8 (λhg=>?_) (λhg=>?_)
 .have jW:i=0\/i=1:=by have:i<2:=Oz;omega
  rcases jW with rfl|rfl
  .have Eg:J 8= .int .i64 0:=h8;refine eL Eg eZ cj hP ((Wx (n:=false) (a:=[]) (m:=n) (b:=a) qc ha (by simp) Oz).le (args':=[.agg [.bool false,.aa],PV.zi n a]) ⟨⟨rfl,trivial,trivial⟩,Qi _,trivial⟩) ?_;refine Sz3 Eg eZ cj ?_;refine Qe 1 Oz ⟨1,rfl,Oz,?_⟩;refine Sz2 eZ cj ?_;simp[zv,val]
  .rw[if_neg Oz,if_pos rfl]at cj;have Eg:J 8= .int .i64 1:=h8;refine eL Eg eZ cj hP (ajI (z:=zv n a) hb Oz Oz) ?_;refine Sz3 Eg eZ cj ?_;refine Qe 0 Oz ⟨2,rfl,Oz,?_⟩;refine Sz2 eZ cj ?_;simp
 .obtain rfl:i=2:=by simp at hg;omega
  rw[if_neg Oz,if_neg Oz]at cj;refine Sz3 h8 eZ cj ?_;refine cx ?_;refine Sz2 eZ cj ?_;exact Qb rfl rfl
variable{x:Int}
def GF{d:List Nat}(hd:Qk d)(hz:nl z.natAbs<2^38)(tq:d.length<2^38):AC 124 [PV.zz z,PV.nat d] (· =PV.rat (mkRat z (val d))):=by
 have:=Lo (n:=decide (z<0)) (Ql z.natAbs) hd hz tq
 rwa[rv,om]at this
def TM{y:Int}(hx:nl x.natAbs<2^39)(hy:nl y.natAbs<2^39):AC 125 [.sl 2 [PV.zz x,PV.zz y]] (· =PV.zz (x+y)):=by
 have:=Ra (n:=decide (x<0)) (m:=decide (y<0)) (Ql x.natAbs) (Ql y.natAbs) hx hy
 rwa[om,om]at this
def ajJ{y:Int}(hx:nl x.natAbs<2^40)(hy:nl y.natAbs<2^40):AC 364 [PV.zz x,PV.zz y] (· = .int .i64 (eR x y)):=by
 have:=afR (n:=decide (x<0)) (m:=decide (y<0)) (Ql x.natAbs) (Ql y.natAbs) hx hy
 rwa[om,om]at this
structure Raw(k:Nat)(n:Bool)(a d:List Nat):Prop where
 la:Qk a
 ld:Qk d
 sa:a.length<=k
 sd:d.length<=k
 k1:1<=k
def jf{q:Rat}(h:rs q<=k):Raw k (decide (q.num<0)) (aw q.num.natAbs) (aw q.den):=by
 have:=KJ q;unfold rs nl at *
 exact⟨Ql _,Ql _,Oz,Oz,Oz⟩
def Raw.rs{n:Bool}{a d:List Nat}{k:Nat}(h:Raw k n a d):FW.rs (rv n a d)<=k:=aqn (k:=k) (n:=k) h.la h.ld h.sa h.sd h.k1
def Mn{m:Bool}{d b c:List Nat}(hp:Raw k n a d)(hq:Raw k m b c)(hk:k<2^36):AC 64 [PV.rr n a d,PV.rr m b c] (· =PV.rat (rv n a d+rv m b c)):=by
 refine tQ Qd func64 rfl aqP (by simp[Na]) λC hP=>?_;simp only[Na];refine cC ?_;refine Sz0 ?_;refine kG hP (tH hp.la hp.ld hp.k1 hp.sa hp.sd (by omega)) rfl rfl rfl ?_;rintro _ ⟨n',a',d',rfl,g1,g2,g3,g4,g5,g6⟩;refine Sz0 ?_;refine kG hP (tH hq.la hq.ld hq.k1 hq.sa hq.sd (by omega)) rfl rfl rfl ?_;rintro _ ⟨m',b',c',rfl,e1,e2,e3,e4,e5,e6⟩;refine Sz0 ?_;refine Qv hP (G9 (by omega)) rfl rfl rfl ?_;have key:=Rat.mkRat_add_mkRat (zv n' a') (zv m' b') g5 e5;have OM:nl (zv n' a').natAbs<=k:=by rw[lh];exact KaK (cB g1) g3
 have ON:nl (zv m' b').natAbs<=k:=by rw[lh];exact KaK (cB e1) e3
 have OF:nl (val d')<=k:=KaK (cB g2) g4;have zU:nl (val c')<=k:=KaK (cB e2) e4;rw[<-g6,<-e6];unfold rv;rw[key];refine Sz0 ?_;refine fJ (λh1=>?_) (λh1=>?_)
 .refine Sz0 ?_;refine Qv hP (G9 (by omega)) rfl rfl rfl ?_;refine Sz0 ?_;refine Qm (λh2=>?_) (λh2=>?_)
  .subst h1 h2;refine Sz0 ?_;refine ko hP (Ra (n:=n') (m:=m') g1 e1 (by omega) (by omega)) sU rfl ?_;refine de ?_;have hs:=Cr (zv n' a') (zv m' b');refine Qv hP (GF g2 (by omega) (by omega)) rfl rfl rfl ?_;refine de ?_;refine cx ?_;refine de ?_;exact Qb (congrArg PV.rat (by simp[val])) rfl
  .refine Sz0 ?_;refine Qv hP (wH _) rfl rfl rfl ?_;refine Sz0 ?_;refine Qv hP (ve (n:=n') (m:=false) g1 e2 (by omega) (by omega)) rfl rfl rfl ?_;refine Sz0 ?_;refine Qv hP (wH _) rfl rfl rfl ?_;refine Sz0 ?_;refine Qv hP (ve (n:=m') (m:=false) e1 g2 (by omega) (by omega)) rfl rfl rfl ?_;rw[wP,wP];have h3:=mL (zv n' a') (val c');have h4:=mL (zv m' b') (val d');have h5:=Cr (zv n' a'*(val c':Int)) (zv m' b'*(val d':Int));have h6:=sG (val d') (val c');rw[KbH]at h3 h4;refine Sz0 ?_;refine ko hP (TM (x:=zv n' a'*(val c':Int)) (y:=zv m' b'*(val d':Int)) (by omega) (by omega)) sU rfl ?_;refine de ?_;refine Qv hP (G8 g2 e2 (by omega) (by omega)) rfl rfl rfl ?_;refine de ?_;refine Qv hP (GF (z:=zv n' a'*(val c':Int)+zv m' b'*(val d':Int)) (Ql _) (by omega) (by show nl _<_;omega)) rfl rfl rfl ?_;refine de ?_;refine cx ?_;refine de ?_;exact Qb (by rw[Qx]) rfl
 . simp+decide (disch:=try exact D0) only[go_sem]
   refine Qv hP (wH _) rfl rfl rfl ?_;refine Sz0 ?_;refine Qv hP (ve (n:=n') (m:=false) g1 e2 (by omega) (by omega)) rfl rfl rfl ?_;refine Sz0 ?_;refine Qv hP (wH _) rfl rfl rfl ?_;refine Sz0 ?_;refine Qv hP (ve (n:=m') (m:=false) e1 g2 (by omega) (by omega)) rfl rfl rfl ?_;rw[wP,wP];have h3:=mL (zv n' a') (val c');have h4:=mL (zv m' b') (val d');have h5:=Cr (zv n' a'*(val c':Int)) (zv m' b'*(val d':Int));have h6:=sG (val d') (val c');rw[KbH]at h3 h4;refine Sz0 ?_;refine ko hP (TM (x:=zv n' a'*(val c':Int)) (y:=zv m' b'*(val d':Int)) (by omega) (by omega)) sU rfl ?_;refine de ?_;refine Qv hP (G8 g2 e2 (by omega) (by omega)) rfl rfl rfl ?_;refine de ?_;refine Qv hP (GF (z:=zv n' a'*(val c':Int)+zv m' b'*(val d':Int)) (Ql _) (by omega) (by show nl _<_;omega)) rfl rfl rfl ?_;refine de ?_;refine cx ?_;refine de ?_;exact Qb (by rw[Qx]) rfl
end Go.Proofs.YtikalonaompbdaaGreat
namespace Go.FW
open Go
variable {C : Ctx} {ρ : Nat -> Option Nat} {fr aG : Fr} {hp hp' : HP} {w w' : World} {K R : Qf}
variable{P:Program}{aN:PV->List PV->Prop}{aQ args xs:List PV}{g:FuncId}{pr:Bool}
def AY(hP:C.P=P){d:Option Nat}{G:Fr}{aB:HP}{aN:PV->Fr->HP->Prop}(h:jc P g aQ G aB aN)(gv:Nat->Option Nat)(τ:Nat->Nat)(hh:uh C hp aB gv)
  (jZ:∀O γ,gv O=some γ->τ γ=O) (cF:args.map (bF τ)=aQ) (js:∀x∈args,∀γ∈x.refs++x.aO,∃O,gv O=some γ)
  (hG:∀s,1000000<=s->G s= .undef\/∃s',1000000<=s'/\G s=bF τ (fr s')/\∀γ∈(fr s').refs++(fr s').aO,∃O,gv O=some γ) (bx:aQ.length<=1000000) (On:pr=true->∀O,gn gv O=none)
  (hK:∀(ρ:Nat->Option Nat) (tmps:Array Value) (w:World),Qt C ρ fr hp tmps w->∀r F H,aN r F H->(∀oT C2 v w',Qt C2 oT (uf r F) H #[v] w'->(∀O,C2.fx O≠none->H O≠none->True)->True)->∃(eo:Nat->Option Nat) (σ:Nat->Nat) (ij:Fr) (cy:HP),
   (∀γ O,eo γ=some O->H O≠none/\σ O=γ/\bN γ=true/\((aP O=true/\gn gv O=some γ)\/(aP O=false/\aP γ=false/\(hp γ=none\/∃bq,gn gv bq=some γ))))/\
   (∀O γ,gn gv O=some γ->aP O=true->eo γ=some O)/\
   (∀γ O,eo γ=some O->cy γ=H O)/\(∀γ,eo γ=none->(∃O,gn gv O=some γ)->cy γ=none)/\(∀γ,eo γ=none->(¬∃O,gn gv O=some γ)->cy γ=hp γ)/\
   (∀s,ij s= .undef\/
    (d≠some s/\ij s=fr s/\(∀γ∈(fr s).refs++(fr s).aO,(¬∃O,gn gv O=some γ)\/∃O hb aE,gn gv O=some γ/\aP O=true/\hp γ=some hb/\H O=some aE/\aE.e=hb.e/\hb.xs.length<=aE.xs.length)/\∀γ e ty xs,fr s= .aH γ e ty xs->¬∃O,gn gv O=some γ)\/
    (d=some s/\ij s=bF σ r/\∀O∈r.refs++r.aO,eo (σ O)=some O)\/
    (∃s',1000000<=s'/\(∃γ e ty xs,F s'= .aH γ e ty xs)/\ij s=bF σ (F s')/\∀O∈(F s').refs++(F s').aO,eo (σ O)=some O))/\
   K ij cy):eI C pr (.fn g [] []) args d fr hp K:=by
 subst hP;refine⟨h.1,λρ tmps w fv cv av qI hs h1 h2 h3 _ _ oJ=>?_⟩;have e1:fv= #[]:=KbU (by simpa using h1);have e2:cv= #[]:=KbU (by simpa using h2);subst e1;subst e2;simp only[Array.empty_append,Array.append_empty];refine(h.2 (vK C ρ fr hp aB tmps w gv hs hh aQ.length bx) _ av w rfl rfl rfl (Wv hs hh jZ h3 cF oJ js hG bx)).mono ?_;rintro e w' ⟨v,ρ',r,F,H,rfl,dA,dY⟩;obtain⟨eo,σ,ij,cy,a1,a2,a3,a4,a5,a6,a7⟩:=hK ρ tmps w hs r F H dY (λ_ _ _ _ _ _=>trivial);exact⟨v,ij,cy,rfl,PT hs hh dA qI a1 a2 a3 a4 a5 a6,λhq=>PU hs hh dA (On hq),a7⟩
def lU(r:PV):Prop:=(r.refs=[]/\r.aO=[])/\∀σ,bF σ r=r
def HZ{gv:Nat->Option Nat}(h:∀O γ,gv O=some γ->eB O=false):gn gv=gv:=by
 funext O;cases hr:eB O with
 |false=>exact wY hr
 |true=>
  unfold gn;rw[if_pos hr];cases hq:gv O with
  |none=>rfl
  |some γ=>have:=h O γ hq;rw[hr]at this;cases this
def KG(hP:C.P=P){d:Option Nat}{G:Fr}{aB:HP}{aN:PV->Fr->HP->Prop}(h:jc P g aQ G aB aN)(gv:Nat->Option Nat)(τ:Nat->Nat)
  (hR:∀O γ,gv O=some γ->eB O=true/\∃hb,hp γ=some hb/\aB O=some ⟨hb.e,hb.ty,hb.xs,true⟩) (ha:∀O,aB O≠none->∃γ,gv O=some γ) (hi:∀O bq γ,gv O=some γ->gv bq=some γ->O=bq)
  (jZ:∀O γ,gv O=some γ->τ γ=O) (cF:args.map (bF τ)=aQ) (js:∀x∈args,∀γ∈x.refs++x.aO,∃O,gv O=some γ)
  (hG:∀s,1000000<=s->G s= .undef\/∃s',1000000<=s'/\G s=bF τ (fr s')/\∀γ∈(fr s').refs++(fr s').aO,∃O,gv O=some γ) (bx:aQ.length<=1000000)
  (hK:∀r F H,aN r F H->lU r/\K (dj fr d r) hp):eI C pr (.fn g [] []) args d fr hp K:=by
 have g0:∀O,gn gv O=none:=λO=>by
  unfold gn;split
  .rfl
  .rename_i hr;cases hq:gv O with
   |none=>rfl
   |some γ=>exact absurd (hR O γ hq).1 hr
 have tB:∀γ:Nat,¬∃O,gn gv O=some γ:=λγ ⟨O,ao⟩=>by rw[g0 O]at ao;cases ao
 refine AY hP h gv τ ⟨λO γ hq=>?_,ha,hi⟩ jZ cF js hG bx (λ_=>g0) (λρ tmps w hs r F H dY _=>?_)
 .obtain⟨h1,hb,h2,h3⟩:=hR O γ hq;refine⟨hb,h2,?_,λ_=>h3,λh=>by rw[h1]at h;cases h⟩;simp[eB]at h1;simp[bN];omega
 .obtain⟨⟨⟨p1,p2⟩,p3⟩,hk⟩:=hK r F H dY;refine⟨λ_=>none,id,dj fr d r,hp,(λ_ _ h=>by cases h),(λO γ h=>by rw[g0 O]at h;cases h),(λ_ _ h=>by cases h),λγ _ h=>absurd h (tB γ),λ_ _ _=>rfl,λs=>?_,hk⟩;cases d with
  |none=>exact .inr (.inl ⟨(by simp),rfl,λγ _=>.inl (tB γ),λγ _ _ _ _=>tB γ⟩)
  | some d=>
   by_cases e:s=d
   .subst e;refine .inr (.inr (.inl ⟨rfl,?_,λO ao=>by rw[p1,p2]at ao;cases ao⟩));rw[p3];simp[dj,ae]
   .exact .inr (.inl ⟨by simp;exact λh=>e h.symm,by simp[dj,ae,e],λγ _=>.inl (tB γ),λγ _ _ _ _=>tB γ⟩)
def Ko(P:Program)(f:FuncId)(args:List PV)(hb1 hb2:HB)(aN:PV->List PV->Prop):Prop:=
 jc P f args (λ_=>.undef) (Qg (Qg aB 1000000 hb1) 1500001 ⟨hb2.e,hb2.ty,hb2.xs,true⟩) λr F H=>lU r/\∃xs,H 1000000=some ⟨hb1.e,hb1.ty,xs,false⟩/\xs.length=hb1.xs.length/\aN r xs
def aqT(hP:C.P=P){d:Option Nat}{β1 β2:Nat}{hb1 hb2:HB}(h:Ko P g aQ hb1 hb2 aN)(h1:hp β1=some hb1)(h2:hp β2=some hb2)(aS:β1≠β2)(f1:hb1.fz=false)(n1:hb1.xs≠[])(B1:bN β1=true)
  (cF:args.map (bF λx=>if x=β1 then 1000000 else if x=β2 then 1500001 else x)=aQ) (js:∀γ∈args.flatMap (λx=>x.refs++x.aO),γ=β1\/γ=β2) (bx:aQ.length<=1000000)
  (hK:∀r xs,xs.length=hb1.xs.length->aN r xs->K (dj fr d r) (Qg hp β1 ⟨hb1.e,hb1.ty,xs,false⟩)):eI C false (.fn g [] []) args d fr hp K:=by
 obtain⟨gv,gA⟩:∃f:Nat->Option Nat,f=λx=>if x=1000000 then some β1 else if x=1500001 then some β2 else none:=⟨_,rfl⟩
 have ga:∀O γ,gv O=some γ->(O=1000000/\γ=β1)\/(O=1500001/\γ=β2):=λO γ hq=>by
  rw[gA]at hq;simp only at hq;split at hq
  .cases hq;rename_i e;exact .inl ⟨e,rfl⟩
  .split at hq
   .cases hq;rename_i e;exact .inr ⟨e,rfl⟩
   .cases hq
 have g0:gv 1000000=some β1:=by rw[gA];rfl
 have g1:gv 1500001=some β2:=by rw[gA];rfl
 have y0:aP 1000000=true:=by decide
 have r0:eB 1000000=false:=by decide
 have r1:eB 1500001=true:=by decide
 have vZ:∀O γ,gn gv O=some γ->O=1000000/\γ=β1:=λO γ hq=>by
  obtain⟨k1,k2⟩:=AM hq;rcases ga O γ k2 with h|⟨rfl,_⟩
  .exact h
  .rw[r1]at k1;cases k1
 have Ef:gn gv 1000000=some β1:=(wY r0).trans g0;refine AY hP h gv _ ⟨λO γ hq=>?_,λO hq=>?_,λO bq γ q1 q2=>?_⟩ (λO γ hq=>?_) cF (λx hx γ ak=>?_) (λs _=>.inl rfl) bx (λhq=>by cases hq) (λρ tmps w hs r F H aB _=>?_)
 .rcases ga O γ hq with⟨rfl,rfl⟩|⟨rfl,rfl⟩
  .exact⟨hb1,h1,by decide,(λh=>by rw[r0]at h;cases h),λ_=>⟨by simp[Qg],f1,B1,λh=>by rw[y0]at h;cases h⟩⟩
  .exact⟨hb2,h2,by decide,(λ_=>by simp[Qg]),λh=>by rw[r1]at h;cases h⟩
 .by_cases e:O=1500001
  .subst e;exact⟨_,g1⟩
  .by_cases e2:O=1000000
   .subst e2;exact⟨_,g0⟩
   .simp[Qg,FW.aB,e,e2]at hq
 .rcases ga O γ q1 with⟨rfl,rfl⟩|⟨rfl,rfl⟩<;>rcases ga bq _ q2 with⟨rfl,e⟩|⟨rfl,e⟩
  .rfl
  .exact absurd e aS
  .exact absurd e.symm aS
  .rfl
 .rcases ga O γ hq with⟨rfl,rfl⟩|⟨rfl,rfl⟩
  .simp
  .rw[if_neg (λe=>aS e.symm),if_pos rfl]
 .rcases js γ (Kat.2 ⟨x,hx,ak⟩)with rfl|rfl
  .exact⟨_,g0⟩
  .exact⟨_,g1⟩
 .obtain⟨⟨⟨p1,p2⟩,p3⟩,xs,k1,k2,k4⟩:=aB;obtain⟨eo,jV⟩:∃f:Nat->Option Nat,f=λγ=>if γ=β1 then some 1000000 else none:=⟨_,rfl⟩
  have ea:∀γ O,eo γ=some O->γ=β1/\O=1000000:=λγ O hq=>by
   rw[jV]at hq;simp only at hq;split at hq
   .cases hq;rename_i e;exact⟨e,rfl⟩
   .cases hq
  have zj:eo β1=some 1000000:=by rw[jV];simp
  refine⟨eo,λx=>β1,dj fr d r,Qg hp β1 ⟨hb1.e,hb1.ty,xs,false⟩,λγ O hq=>?_,λO γ hq _=>?_,λγ O hq=>?_,λγ hq hg=>?_,λγ hq hg=>?_,λs=>?_,hK r xs k2 k4⟩
  .obtain⟨rfl,rfl⟩:=ea γ O hq;exact⟨by simp[k1],rfl,B1,.inl ⟨y0,Ef⟩⟩
  .obtain⟨rfl,rfl⟩:=vZ O γ hq;exact zj
  .obtain⟨rfl,rfl⟩:=ea γ O hq;rw[k1];simp[Qg]
  .obtain⟨O,ao⟩:=hg;obtain⟨rfl,rfl⟩:=vZ O γ ao;rw[zj]at hq;cases hq
  .have:γ≠β1:=λe=>by subst e;rw[zj]at hq;cases hq
   simp[Qg,this]
  .have bm:=hs.cQ s;have hn:∀γ e ty xs,fr s= .aH γ e ty xs->¬∃O,gn gv O=some γ:=λγ e ty xs e0 ⟨O,ao⟩=>by rw[e0]at bm;obtain⟨_,_,b,hb,_,_,_,l2,l3,_⟩:=bm;obtain⟨rfl,rfl⟩:=vZ O γ ao;rw[h1]at l2;cases l2;exact n1 l3
   have ho:∀γ∈(fr s).refs++(fr s).aO,(¬∃O,gn gv O=some γ)\/∃O hb aE,gn gv O=some γ/\aP O=true/\hp γ=some hb/\H O=some aE/\aE.e=hb.e/\hb.xs.length<=aE.xs.length:=λγ _=>by
    by_cases e:γ=β1
    .subst e;exact .inr ⟨_,_,_,Ef,y0,h1,k1,rfl,by simp[k2]⟩
    .left;rintro⟨O,ao⟩;exact e (vZ O γ ao).2
   cases d with
   |none=>exact .inr (.inl ⟨(by simp),rfl,ho,hn⟩)
   | some d=>
    by_cases e:s=d
    .subst e;refine .inr (.inr (.inl ⟨rfl,?_,λO ao=>by rw[p1,p2]at ao;cases ao⟩));rw[p3];simp[dj,ae]
    .exact .inr (.inl ⟨by simp;exact λh=>e h.symm,by simp[dj,ae,e],ho,hn⟩)
def lk(nm:Nat->Bool)(p:PV):PV:=if(p.refs++p.aO).any nm then .undef else p
def ep(nm:Nat->Bool)(fr:Fr):Fr:=λs=>lk nm (fr s)
def pB(nm ex:Nat->Bool)(H hp:HP):HP:=λx=>if ex x then H x else if nm x then none else hp x
def qz(S:List Nat)(F fr:Fr):Fr:=λs=>if S.contains s then F s else fr s
def Uu(p:PV):dh id p=p:=TK λ_ _=>rfl
def Uv{p:PV}(h:∀γ e ty xs,p≠ .aH γ e ty xs):bF id p=p:=by
 have hm:∀l:List PV,l.map (dh id)=l:=λl=>by
  conv=>rhs;rw[<-List.map_id l]
  exact KaF λx _=>Uu x
 cases p with
 |aH γ e ty xs=>exact absurd rfl (h _ _ _ _)
 |fn f a b=>simp only[bF,hm]
 |aU cs=>simp only[bF,hm]
 |fH cs=>simp only[bF,hm]
 |dQ cs q=>simp only[bF,hm]
 |_=>rfl
def JO(xs:List PV):Prop:=∀x∈xs,eW x.aV=x
def SH{γ e ty:Nat}(h:JO xs):bF id (.aH γ e ty xs)= .aH γ e ty xs:=by
 simp only[bF,id];congr 1;conv=>rhs;rw[<-List.map_id xs]
 refine KaF λx hx=>?_
 have:x.aV.map (dh id)=x.aV:=by
  conv=>rhs;rw[<-List.map_id x.aV]
  exact KaF λy _=>Uu y
 rw[this];exact h x hx
def H0(hP:C.P=P){d:Option Nat}{G:Fr}{iI:HP}{aN:PV->Fr->HP->Prop}(h:jc P g aQ G iI aN)(nm ex:Nat->Bool)(S:List Nat)
  (fQ:∀x,nm x=true->∃hb,hp x=some hb/\hb.fz=false/\2000000<=x) (ZO:∀x,iI x=if nm x then hp x else none) (cF:args=aQ) (bx:aQ.length<=1000000)
  (a9:∀x∈args,∀γ e ty xs,x≠ .aH γ e ty xs) (js:∀γ∈args.flatMap (λx=>x.refs++x.aO),nm γ=true)
  (hG:∀s,1000000<=s->G s= .undef\/∃γ e ty xs,G s=fr s/\fr s= .aH γ e ty xs/\JO xs/\∀γ∈(fr s).refs++(fr s).aO,nm γ=true)
  (hex:∀x,ex x=true->(hp x=none\/nm x=true)/\2000000<=x) (On:pr=true->∀x,nm x=false)
  (hK:∀r F H,aN r F H->(∀x,ex x=true->H x≠none)/\(∀γ e ty xs,r≠ .aH γ e ty xs)/\(∀O∈r.refs++r.aO,ex O=true)/\(∀s∈S,1000000<=s/\(∃γ e ty xs,F s= .aH γ e ty xs/\JO xs)/\∀O∈(F s).refs++(F s).aO,ex O=true)/\K (qz S F (dj (ep nm fr) d r)) (pB nm ex H hp)):
  eI C pr (.fn g [] []) args d fr hp K:=by
 obtain⟨gv,gA⟩:∃f:Nat->Option Nat,f=λx=>if nm x then some x else none:=⟨_,rfl⟩
 have ga:∀O γ,gv O=some γ->O=γ/\nm γ=true:=λO γ hq=>by
  rw[gA]at hq;simp only at hq;split at hq
  .cases hq;rename_i e;exact⟨rfl,e⟩
  .cases hq
 have gb:∀γ,nm γ=true->gv γ=some γ:=λγ ak=>by rw[gA];simp[ak]
 have gN:∀γ,(∃O,gv O=some γ)->nm γ=true:=λγ ⟨O,ao⟩=>(ga O γ ao).2
 have gr:∀O γ,gv O=some γ->eB O=false:=λO γ hq=>by obtain⟨rfl,hn⟩:=ga O γ hq;obtain⟨_,_,_,k3⟩:=fQ O hn;simp[eB];omega
 refine AY hP h gv id ⟨λO γ hq=>?_,λO hq=>?_,λO bq γ q1 q2=>?_⟩ (λO γ hq=>(ga O γ hq).1.symm) ?_ (λx hx γ ak=>⟨γ,gb γ (js γ (Kat.2 ⟨x,hx,ak⟩))⟩) (λs hs=>?_) bx (λhq O=>by rw[HZ gr,gA];simp only;rw[On hq O];rfl) (λρ tmps w hs r F H dY _=>?_)
 .obtain⟨rfl,hn⟩:=ga O γ hq;obtain⟨hb,k1,k2,k3⟩:=fQ O hn;exact⟨hb,k1,by simp[bN];omega,(λh=>by simp[eB]at h;omega),λ_=>⟨by rw[ZO,if_pos hn];exact k1,k2,by simp[bN];omega,λ_=>by simp[aP];omega⟩⟩
 .refine⟨O,gb O ?_⟩;cases hn:nm O with
  |true=>rfl
  |false=>rw[ZO,hn]at hq;simp at hq
 .rw[(ga O γ q1).1,(ga bq γ q2).1]
 .rw[<-cF];conv=>rhs;rw[<-List.map_id args]
  exact KaF λx hx=>Uv (a9 x hx)
 .rcases hG s hs with e|⟨γ,e,ty,xs,e1,e2,e3,e4⟩
  .exact .inl e
  .refine .inr ⟨s,hs,?_,λγ ak=>⟨γ,gb γ (e4 γ ak)⟩⟩;rw[e1,e2,SH e3]
 .rw [HZ gr];obtain⟨a1,a2,a3,a4,a5⟩:=hK r F H dY;obtain⟨eo,jV⟩:∃f:Nat->Option Nat,f=λx=>if ex x then some x else none:=⟨_,rfl⟩
  have ea:∀γ O,eo γ=some O->γ=O/\ex γ=true:=λγ O hq=>by
   rw[jV]at hq;simp only at hq;split at hq
   .cases hq;rename_i e;exact⟨rfl,e⟩
   .cases hq
  have eb:∀γ,ex γ=true->eo γ=some γ:=λγ ak=>by rw[jV];simp[ak]
  have en:∀γ,eo γ=none->ex γ=false:=λγ ak=>by
   cases hq:ex γ with
   |false=>rfl
   |true=>rw[eb γ hq]at ak;cases ak
  refine⟨eo,id,qz S F (dj (ep nm fr) d r),pB nm ex H hp,λγ O hq=>?_,λO γ hq hy=>?_,λγ O hq=>?_,λγ hq hg=>?_,λγ hq hg=>?_,λs=>?_,a5⟩
  .obtain⟨rfl,he⟩:=ea γ O hq;obtain⟨k1,k2⟩:=hex γ he;exact⟨a1 γ he,rfl,by simp[bN];omega,.inr ⟨by simp[aP];omega,by simp[aP];omega,k1.imp id λhn=>⟨γ,gb γ hn⟩⟩⟩
  .obtain⟨rfl,hn⟩:=ga O γ hq;obtain⟨_,_,_,k3⟩:=fQ O hn;simp[aP]at hy;omega
  .obtain⟨rfl,he⟩:=ea γ O hq;simp[pB,he]
  .simp[pB,en γ hq,gN γ hg]
  .have:nm γ=false:=by
    cases hn:nm γ with
    |false=>rfl
    |true=>exact absurd ⟨γ,gb γ hn⟩ hg
   simp[pB,en γ hq,this]
  .unfold qz;by_cases hS:S.contains s=true
   .rw[if_pos hS];obtain⟨b1,⟨γ,e,ty,xs,b2,b3⟩,b4⟩:=a4 s (by simpa using hS);refine .inr (.inr (.inr ⟨s,b1,⟨γ,e,ty,xs,b2⟩,?_,λO ao=>eb O (b4 O ao)⟩));rw[b2,SH b3]
   .rw[if_neg hS];have B9:d≠some s->ep nm fr s= .undef\/(d≠some s/\ep nm fr s=fr s/\(∀γ∈(fr s).refs++(fr s).aO,(¬∃O,gv O=some γ)\/∃O hb aE,gv O=some γ/\aP O=true/\hp γ=some hb/\H O=some aE/\aE.e=hb.e/\hb.xs.length<=aE.xs.length)/\∀γ e ty xs,fr s= .aH γ e ty xs->¬∃O,gv O=some γ):=λhds=>by
     unfold ep lk;split
     .exact .inl rfl
     .rename_i gG;have rW:∀γ∈(fr s).refs++(fr s).aO,¬∃O,gv O=some γ:=λγ ak hg=>gG (KaJ.2 ⟨γ,ak,gN γ hg⟩)
      exact .inr ⟨hds,rfl,λγ ak=>.inl (rW γ ak),λγ e ty xs e0=>rW γ (by rw[e0];simp[PV.aO])⟩
    cases d with
    |none=>
     simp only[dj];rcases B9 (by simp)with h|h
     .exact .inl h
     .exact .inr (.inl h)
    | some d=>
     by_cases e:s=d
     .subst e;refine .inr (.inr (.inl ⟨rfl,?_,λO ao=>eb O (a3 O ao)⟩));rw[Uv a2];simp[dj,ae]
     .have e1:dj (ep nm fr) (some d) r s=ep nm fr s:=by simp[dj,ae,e]
      rw[e1];rcases B9 (by simp;exact λh=>e h.symm)with h|h
      .exact .inl h
      .exact .inr (.inl h)
end Go.FW
namespace Go.FW
open Go
variable {C : Ctx} {ρ : Nat -> Option Nat} {fr aG : Fr} {hp : HP} {w : World} {K R : Qf}
variable{args xs ys:List PV}
def ajK{B:List Nat}{F:Fr}{O δ:Nat}(ao:B.contains O=true)(h2:O<1000000):tA O δ (cO B F)=cO B F:=alk (.inl ao) (.inl h2)
def ayK:
  (∀(σ:Nat->Nat)(k:IntKind)(n:Int),bF σ (.int k n)= .int k n)/\
  (∀(σ:Nat->Nat)(b:Bool),bF σ (.bool b)= .bool b)/\
  (∀(σ:Nat->Nat)(e:Nat)(xs:List PV),bF σ (.sl e xs)= .sl e xs)/\
  (∀(σ:Nat->Nat)(cs:List PV),bF σ (.agg cs)= .agg cs)/\
  (∀(σ:Nat->Nat)(cs:List PV),bF σ (.aI cs)= .aI cs)/\
  (∀(σ:Nat->Nat)(cs:List PV),bF σ (.pt cs)= .pt cs)/\
  (∀(σ:Nat->Nat),bF σ .aa= .aa)/\
  (∀(σ:Nat->Nat),bF σ .undef= .undef)/\
  (∀(σ:Nat->Nat)(O o n:Nat),bF σ (.aD O o n)= .aD (σ O) o n)/\
  (∀(σ:Nat->Nat)(O o n:Nat),bF σ (.mp O o n)= .mp (σ O) o n)/\
  (∀(σ:Nat->Nat)(O o n:Nat),bF σ (.aK O o n)= .aK (σ O) o n)/\
  (∀(σ:Nat->Nat)(O o n:Nat),bF σ (.np O o n)= .np (σ O) o n)/\
  (∀(σ:Nat->Nat)(cs:List PV),bF σ (.aU cs)= .aU (cs.map (dh σ))):=by
 refine⟨?_,?_,?_,?_,?_,?_,?_,?_,?_,?_,?_,?_,?_⟩<;>intros<;>rfl
def ayJ:
  (∀(σ:Nat->Nat)(k:IntKind)(n:Int),dh σ (.int k n)= .int k n)/\
  (∀(σ:Nat->Nat)(b:Bool),dh σ (.bool b)= .bool b)/\
  (∀(σ:Nat->Nat)(e:Nat)(xs:List PV),dh σ (.sl e xs)= .sl e xs)/\
  (∀(σ:Nat->Nat),dh σ .aa= .aa)/\
  (∀(σ:Nat->Nat),dh σ .undef= .undef)/\
  (∀(σ:Nat->Nat)(O o n:Nat),dh σ (.aD O o n)= .aD (σ O) o n)/\
  (∀(σ:Nat->Nat)(O o n:Nat),dh σ (.aK O o n)= .aK (σ O) o n):=by
 refine⟨?_,?_,?_,?_,?_,?_,?_⟩<;>intros<;>rfl
def aeC:
  (∀(γ:Nat)(k:IntKind)(n:Int),eS γ (.int k n)= .int k n)/\
  (∀(γ:Nat)(b:Bool),eS γ (.bool b)= .bool b)/\
  (∀(γ e:Nat)(xs:List PV),eS γ (.sl e xs)= .sl e xs)/\
  (∀(γ:Nat)(cs:List PV),eS γ (.agg cs)= .agg cs)/\
  (∀(γ:Nat)(cs:List PV),eS γ (.aI cs)= .aI cs)/\
  (∀(γ:Nat)(cs:List PV),eS γ (.pt cs)= .pt cs)/\
  (∀(γ:Nat),eS γ .aa= .aa)/\
  (∀(γ:Nat),eS γ .undef= .undef)/\
  (∀(γ O o n:Nat),eS γ (.aD O o n)=if O=γ then .aK γ o n else .aD O o n)/\
  (∀(γ O o n:Nat),eS γ (.mp O o n)=if O=γ then .np γ o n else .mp O o n)/\
  (∀(γ O o n:Nat),eS γ (.aK O o n)= .aK O o n)/\
  (∀(γ O o n:Nat),eS γ (.np O o n)= .np O o n):=by
 refine⟨?_,?_,?_,?_,?_,?_,?_,?_,?_,?_,?_,?_⟩<;>intros<;>rfl
def al0{γ s:Nat}{x:PV}:Ah γ x fr s=if s=γ then x else eS γ (fr s):=rfl
def al1{G:Fr}{s:Nat}:rK args G s=if s<1000000 then(args[s]?).getD .undef else G s:=rfl
def al2{nm:Nat->Bool}{s:Nat}:ep nm fr s=lk nm (fr s):=rfl
def amD{nm:Nat->Bool}{p:PV}:lk nm p=if(p.refs++p.aO).any nm then .undef else p:=rfl
def aqU{nm ex:Nat->Bool}{H:HP}{x:Nat}:pB nm ex H hp x=if ex x then H x else if nm x then none else hp x:=rfl
def aqV{S:List Nat}{F:Fr}{s:Nat}:qz S F fr s=if S.contains s then F s else fr s:=rfl
def Wz(l:List (Nat×Nat)):JO (bn l):=λx hx=>by obtain⟨y,_,rfl⟩:=KaD.1 hx;rfl
def aeD{d O n ty e:Nat}(hb:hp O=some ⟨e,ty,xs,false⟩)(he:0<e)(hn:n=xs.length)(hl:ys.length=n):
  sP e (.ms O n) (.sl e ys) d fr hp K=K (ae fr d (.int .i64 n)) (Qg hp O ⟨e,ty,ys,false⟩):=by
 rw[ai3 hb he hn];have h1:ys.take n=ys:=Kaf Oz;have h2:xs.drop ys.length=[]:=List.drop_eq_nil_of_le Oz;rw[h1,h2,Kai];congr 2
 .congr 1;congr 1;omega
attribute [go_sem] alh ali aqG aqH aqF ajK ayK ayJ aeC al0 al1 al2 amD aqU aqV
end Go.FW
namespace Go.FW
open Go
variable {C : Ctx} {ρ : Nat -> Option Nat} {fr aG : Fr} {hp : HP} {w : World} {K R : Qf}
variable{k':IntKind}{α:Type}
def jj(B i n:Nat)(L:Nat->Nat):List PV:=bn (rws B i L)++List.replicate (n-i) .aa
def ahx(B n:Nat)(L:Nat->Nat):List.replicate n PV.aa=jj B 0 n L:=by simp[jj,rws,bn]
def ahy(B n:Nat)(L:Nat->Nat):jj B n n L=bn (rws B n L):=by simp[jj]
def Vq{B i n:Nat}{L:Nat->Nat}(h:i<=n):(jj B i n L).length=n:=by simp[jj,bn,rws];omega
def ajL{B i n j:Nat}{L:Nat->Nat}(h:j<i):(jj B i n L)[j]? =some (.ms (B+j) (L j)):=by simp[jj,bn,rws,KaV,h]
def ajM{B i n:Nat}{L:Nat->Nat}(h:i<n):(jj B i n L).set i (.ms (B+i) (L i))=jj B (i+1) n L:=by
 have h1:(bn (rws B i L)).length=i:=by simp[bn,rws]
 unfold jj;rw[List.set_append,if_neg Oz,h1,Kbz];have h2:bn (rws B (i+1) L)=bn (rws B i L)++[.ms (B+i) (L i)]:=by simp[bn,rws,List.range_succ]
 rw[h2,Kbr];congr 1;obtain⟨k,hk⟩:∃k,n-i=k+1:=⟨n-i-1,Oz⟩
 rw[hk,show n-(i+1)=k by omega,KbC];rfl
def Kp{σ:Nat->Nat}{p:PV}(h:p= .aa\/∃O n,p= .ms O n)(lH:∀O n,p= .ms O n->σ O=O):eW (p.aV.map (dh σ))=p:=by
 rcases h with rfl|⟨O,n,rfl⟩
 .rfl
 .have:=lH O n rfl;simp[PV.aV,PV.cells,dh,eW,this]
def amE{O δ γ e ty B i n:Nat}{L:Nat->Nat}(ao:O<1000000)(hB:2000000<=B)(ak:2000000<=γ):bF (kW O δ) (.aH γ e ty (jj B i n L))= .aH γ e ty (jj B i n L):=by
 have e1:kW O δ γ=γ:=by unfold kW;rw[if_neg Oz]
 simp only[bF,e1];congr 1;conv=>rhs;rw[<-List.map_id (jj B i n L)]
 refine KaF λx hx=>?_
 rcases KaN.1 hx with hx|hx
 .obtain⟨y,hy,rfl⟩:=KaD.1 hx;obtain⟨j,hj,rfl⟩:=KaD.1 hy;refine Kp (.inr ⟨_,_,rfl⟩) λbq n' h=>?_
  cases h;unfold kW;rw[if_neg Oz]
 .obtain rfl:=Kcu hx;exact Kp (.inl rfl) λ_ _ h=>by cases h
def cw(B n w:Nat)(π:Nat->Nat):List (Nat×Nat):=(List.range n).map λr=>(B+π r,w)
def K7(B n w:Nat):rws B n (λ_=>w)=cw B n w id:=rfl
def Q8o(B n w:Nat)(π:Nat->Nat):(cw B n w π).length=n:=by simp[cw]
def Rb{B n w r:Nat}{π:Nat->Nat}(h:r<(cw B n w π).length):(cw B n w π)[r]=(B+π r,w):=by simp[cw]
def WA{B n w:Nat}{π:Nat->Nat}:∀O∈(bn (cw B n w π)).flatMap (λx=>x.aV.flatMap PV.dM),∃r,r<n/\O=B+π r:=by intro O ao;obtain⟨x,hx,ao⟩:=Kat.1 ao;obtain⟨y,hy,rfl⟩:=KaD.1 hx;obtain⟨r,hr,rfl⟩:=KaD.1 hy;exact⟨r,KbY.1 hr,by simpa[PV.aV,PV.cells,PV.dM]using ao⟩
def aR(p:α->PV)(f:Nat->α)(w:Nat):List PV:=(List.range w).map λc=>p (f c)
def lQ(p:α->PV)(f:Nat->α)(w:Nat):(aR p f w).length=w:=by simp[aR]
def rm{p:α->PV}{f:Nat->α}{w c:Nat}(h:c<(aR p f w).length):(aR p f w)[c]=p (f c):=by simp[aR]
def ajN{p:α->PV}{f g:Nat->α}{w c:Nat}{v:α}(h:∀k,k<w->g k=if k=c then v else f k):(aR p f w).set c (p v)=aR p g w:=by
 refine Ka9 (by simp[aR]) λj h1 h2=>?_
 have hj:j<w:=by simpa[aR]using h2
 rw[rm,Kc3,rm,h j hj];split
 .rename_i e;subst e;simp
 .rename_i e;rw[if_neg λe2=>e e2.symm]
def qe{p:α->PV}{f g:Nat->α}{w:Nat}(h:∀k,k<w->f k=g k):aR p f w=aR p g w:=
 KaF λc hc=>by rw[h c (KbY.1 hc)]
def Kq{p:α->PV}{f:Nat->α}{w:Nat}(h:0<w):aR p f w≠[]:=by intro e;have:=lQ p f w;rw[e]at this;simp at this;omega
def aeE{by_ ty d:Nat}{k:IntKind}{n c:Nat}(h2:n<=c)(h3:by_*c<=281474976710656)(h4:c<=9223372036854775807):
  pR 3 by_ ty (.agg [.bool false,.aa,.aa]) (.int k (n:Int)) (.int k' (c:Int)) d fr hp K=K (ae (cI d fr) d (.ms d n)) (Qg hp d ⟨3,ty,List.replicate n (.agg [.bool false,.aa,.aa]),false⟩):=by
 rw[FN (e:=3) Oz rfl Oz Oz Oz Oz];rfl
attribute [go_sem] aeE
end Go.FW
namespace Go.FW
open Go
variable{E K:Nat}{a:List Int}{p q:List Tm}{t:Tm}{φ:List Int->Rat}
def df(φ:List Int->Rat):List Tm->Rat
 | []=>0
 |t::p=>t.1*φ t.2+df φ p
def nG(φ:List Int->Rat):df φ []=0:=rfl
def iv(φ:List Int->Rat)(t:Tm)(p:List Tm):df φ (t::p)=t.1*φ t.2+df φ p:=rfl
def WC(φ:List Int->Rat):∀(p q:List Tm),df φ (p++q)=df φ p+df φ q
 | [],q=>by rw[KaO,nG];grind
 |t::p,q=>by rw[KaT,iv,iv,WC φ p q];grind
def wN{φ ψ:List Int->Rat}:∀ {p:List Tm},(∀t∈p,φ t.2=ψ t.2)->df φ p=df ψ p
 | [],_=>rfl
 |t::p,h=>by rw[iv,iv,h t (by simp),wN (p:=p) (λx hx=>h x (by simp[hx]))]
def SI(φ ψ:List Int->Rat):∀(p:List Tm),df (λm=>φ m+ψ m) p=df φ p+df ψ p
 | []=>by simp only[nG];grind
 |t::p=>by simp only[iv];rw[SI φ ψ p];grind
def Mv(c:Rat)(φ:List Int->Rat):∀(p:List Tm),df (λm=>c*φ m) p=c*df φ p
 | []=>by simp only[nG];grind
 |t::p=>by simp only[iv];rw[Mv c φ p];grind
def Rc:∀(p:List Tm),df (λ_=>0) p=0
 | []=>rfl
 |t::p=>by simp only[iv];rw[Rc p];grind
def G'(ψ:List Int->List Int->Rat)(q:List Tm):∀(p:List Tm),df (λm=>df (λn=>ψ m n) q) p=df (λn=>df (λm=>ψ m n) p) q
 | []=>by simp only[nG];rw[Rc]
 |t::p=>by simp only[iv];rw[G' ψ q p,SI (λn=>t.1*ψ t.2 n),Mv]
def Can(p:List Tm):Prop:=∀t∈p,t.2.getLast? ≠some 0
def NZ(p:List Tm):Prop:=∀t∈p,t.1≠0
structure cu(p:List Tm):Prop where
 c:Can p
 z:NZ p
 s:mN p
def Can.cons:Can (t::p)↔t.2.getLast? ≠some 0/\Can p:=by simp[Can]
def NZ.cons:NZ (t::p)↔t.1≠0/\NZ p:=by simp[NZ]
def cu.nil:cu []:=⟨by simp[Can],by simp[NZ],trivial⟩
def cu.tail(h:cu (t::p)):cu p:=⟨(Can.cons.1 h.c).2,(NZ.cons.1 h.z).2,h.s.2⟩
def cu.one(h:t.1≠0)(hm:t.2.getLast? ≠some 0):cu [t]:=⟨by simpa[Can]using hm,by simpa[NZ]using h,⟨by simp,trivial⟩⟩
def ag7(h:MB E a)(hE:E<=1048576)(hl:a.getLast? ≠some 0):eH a=true:=by simp only[eH,Kav,decide_eq_true_eq,Kas];exact⟨h.len,hl,λx hx=>⟨h.lo x hx,by have:=h.hi x hx;omega⟩⟩
def cu.O0(h:cu p)(hb:PB K E p)(hE:E<=1048576):yq p:=
 ⟨λt ht=>⟨h.z t ht,ag7 (hb t ht).m hE (hb t ht).l⟩,h.s⟩
def C3:∀ {p q:List Tm},Can p->Can q->df φ (Qp p q)=df φ p+df φ q:=by
 intro p q;induction p,q using Qp.induct with
 |case1 q=>rw[Qp,nG];intros;grind
 |case2 p h=>rw[oY,nG];intros;grind
 |case3 c m p d l q h ih=>intro hp hq;rw[Qp,if_pos h,iv,iv,ih (Can.cons.1 hp).2 hq];grind
 |case4 c m p d l q h1 h2 ih=>intro hp hq;rw[Qp,if_neg h1,if_pos h2,iv,ih hp (Can.cons.1 hq).2,iv φ (d,l)];grind
 |case5 c m p d l q h1 h2 h3 ih=>
  intro hp hq;have e:=LW h1 h2 (Can.cons.1 hp).1 (Can.cons.1 hq).1;rw[Qp,if_neg h1,if_neg h2,if_pos h3,ih (Can.cons.1 hp).2 (Can.cons.1 hq).2,iv,iv];subst e;have:c*φ m+d*φ m=0:=by rw[<-Rat.add_mul,h3];grind
  grind
 |case6 c m p d l q h1 h2 h3 ih=>intro hp hq;have e:=LW h1 h2 (Can.cons.1 hp).1 (Can.cons.1 hq).1;rw[Qp,if_neg h1,if_neg h2,if_neg h3,iv,ih (Can.cons.1 hp).2 (Can.cons.1 hq).2,iv,iv];subst e;grind
def Ha:∀ {p q:List Tm} {t:Tm},t∈Qp p q->(∃s∈p,s.2=t.2)\/(∃s∈q,s.2=t.2):=by
 intro p q;induction p,q using Qp.induct with
 |case1 q=>rw[Qp];intro t ht;exact Or.inr ⟨t,ht,rfl⟩
 |case2 p h=>rw[oY];intro t ht;exact Or.inl ⟨t,ht,rfl⟩
 | case3 c m p d l q h ih=>
  intro t ht;rw[Qp,if_pos h]at ht;rcases KaA.1 ht with rfl|ht
  .exact Or.inl ⟨_,by simp,rfl⟩
  .rcases ih ht with⟨s,h1,h2⟩|h1
   .exact Or.inl ⟨s,by simp[h1],h2⟩
   .exact Or.inr h1
 | case4 c m p d l q h1 h2 ih=>
  intro t ht;rw[Qp,if_neg h1,if_pos h2]at ht;rcases KaA.1 ht with rfl|ht
  .exact Or.inr ⟨_,by simp,rfl⟩
  .rcases ih ht with h3|⟨s,h3,h4⟩
   .exact Or.inl h3
   .exact Or.inr ⟨s,by simp[h3],h4⟩
 |case5 c m p d l q h1 h2 h3 ih=>
  intro t ht;rw[Qp,if_neg h1,if_neg h2,if_pos h3]at ht;rcases ih ht with⟨s,h4,h5⟩|⟨s,h4,h5⟩
  .exact Or.inl ⟨s,by simp[h4],h5⟩
  .exact Or.inr ⟨s,by simp[h4],h5⟩
 | case6 c m p d l q h1 h2 h3 ih=>
  intro t ht;rw[Qp,if_neg h1,if_neg h2,if_neg h3]at ht;rcases KaA.1 ht with rfl|ht
  .exact Or.inl ⟨(c,m),by simp,rfl⟩
  .rcases ih ht with⟨s,h4,h5⟩|⟨s,h4,h5⟩
   .exact Or.inl ⟨s,by simp[h4],h5⟩
   .exact Or.inr ⟨s,by simp[h4],h5⟩
def Re(hp:Can p)(hq:Can q):Can (Qp p q):=λt ht=>by
 rcases Ha ht with⟨s,h1,h2⟩|⟨s,h1,h2⟩
 .rw[<-h2];exact hp s h1
 .rw[<-h2];exact hq s h1
def amF:∀ {p q:List Tm},NZ p->NZ q->NZ (Qp p q):=by
 intro p q;induction p,q using Qp.induct with
 |case1 q=>rw[Qp];exact λ_ h=>h
 |case2 p h=>rw[oY];exact λh _=>h
 |case3 c m p d l q h ih=>intro hp hq;rw[Qp,if_pos h,NZ.cons];exact⟨(NZ.cons.1 hp).1,ih (NZ.cons.1 hp).2 hq⟩
 |case4 c m p d l q h1 h2 ih=>intro hp hq;rw[Qp,if_neg h1,if_pos h2,NZ.cons];exact⟨(NZ.cons.1 hq).1,ih hp (NZ.cons.1 hq).2⟩
 |case5 c m p d l q h1 h2 h3 ih=>intro hp hq;rw[Qp,if_neg h1,if_neg h2,if_pos h3];exact ih (NZ.cons.1 hp).2 (NZ.cons.1 hq).2
 |case6 c m p d l q h1 h2 h3 ih=>intro hp hq;rw[Qp,if_neg h1,if_neg h2,if_neg h3,NZ.cons];exact⟨h3,ih (NZ.cons.1 hp).2 (NZ.cons.1 hq).2⟩
def afS{b c:List Int}(h:bC a b=0)(h2:0<bC b c):0<bC a c:=by
 have e:∀i,eN a i=eN b i:=by
  intro i;have:=(GI a b _).1 h;by_cases hi:i<max a.length b.length
  .exact this i hi
  .rw[mR Oz,mR Oz]
 rw[afH e (λ_=>rfl)];exact h2
def Q8p:∀ {p q:List Tm},mN p->mN q->mN (Qp p q):=by
 intro p q;induction p,q using Qp.induct with
 |case1 q=>rw[Qp];exact λ_ h=>h
 |case2 p h=>rw[oY];exact λh _=>h
 | case3 c m p d l q h ih=>
  intro hp hq;rw[Qp,if_pos h];refine⟨λt ht=>?_,ih hp.2 hq⟩;rcases Ha ht with⟨s,h1,h2⟩|⟨s,h1,h2⟩
  .rw[<-h2];exact hp.1 s h1
  .rw[<-h2];rcases KaA.1 h1 with rfl|h1
   .exact h
   .exact An h (hq.1 s h1)
 | case4 c m p d l q h1 h2 ih=>
  intro hp hq;rw[Qp,if_neg h1,if_pos h2];have m8:0<bC l m:=by have:=CZ m l;omega
  refine⟨λt ht=>?_,ih hp hq.2⟩;rcases Ha ht with⟨s,h3,h4⟩|⟨s,h3,h4⟩
  .rw[<-h4];rcases KaA.1 h3 with rfl|h3
   .exact m8
   .exact An m8 (hp.1 s h3)
  .rw[<-h4];exact hq.1 s h3
 |case5 c m p d l q h1 h2 h3 ih=>intro hp hq;rw[Qp,if_neg h1,if_neg h2,if_pos h3];exact ih hp.2 hq.2
 |case6 c m p d l q h1 h2 h3 ih=>
  intro hp hq;rw[Qp,if_neg h1,if_neg h2,if_neg h3];refine⟨λt ht=>?_,ih hp.2 hq.2⟩;rcases Ha ht with⟨s,h4,h5⟩|⟨s,h4,h5⟩
  .rw[<-h5];exact hp.1 s h4
  .rw[<-h5];exact afS (b:=l) (by show bC m l=0;omega) (hq.1 s h4)
def yG(hp:cu p)(hq:cu q):cu (Qp p q):=⟨Re hp.c hq.c,amF hp.z hq.z,Q8p hp.s hq.s⟩
def ind(m:List Int):List Int->Rat:=λn=>if n=m then 1 else 0
def Gn{m:List Int}:∀ {p:List Tm},(∀t∈p,t.2≠m)->df (ind m) p=0
 | [],_=>rfl
 |t::p,h=>by rw[iv,Gn (p:=p) (λx hx=>h x (by simp[hx])),ind,if_neg (h t (by simp))];grind
def DM{b:List Int}(h:0<bC a b):b≠a:=by rintro rfl;rw[Mg]at h;omega
def Aq(h:mN (t::p)):df (ind t.2) (t::p)=t.1:=by rw[iv,Gn (λs hs=>DM (h.1 s hs)),ind,if_pos rfl];grind
def AN:∀ {p q:List Tm},cu p->cu q->(∀φ,df φ p=df φ q)->p=q
 | [],[],_,_,_=>rfl
 | [],t::q,_,hq,h=>by have:=h (ind t.2);rw[Aq hq.s,nG]at this;exact absurd this.symm (hq.z t (by simp))
 |t::p,[],hp,_,h=>by have:=h (ind t.2);rw[Aq hp.s,nG]at this;exact absurd this (hp.z t (by simp))
 | s ::p,t::q,hp,hq,h=>by
  by_cases h1:0<bC s.2 t.2
  .have:=h (ind s.2);rw[Aq hp.s,Gn (λx hx=>?_)]at this
   .exact absurd this (hp.z s (by simp))
   .rcases KaA.1 hx with rfl|hx
    .exact DM h1
    .exact DM (An h1 (hq.s.1 x hx))
  .by_cases h2:bC s.2 t.2<0
   .have m8:0<bC t.2 s.2:=by have:=CZ s.2 t.2;omega
    have:=h (ind t.2);rw[Aq hq.s,Gn (λx hx=>?_)]at this
    .exact absurd this.symm (hq.z t (by simp))
    .rcases KaA.1 hx with rfl|hx
     .exact DM m8
     .exact DM (An m8 (hp.s.1 x hx))
   .have e:=LW h1 h2 (hp.c s (by simp)) (hq.c t (by simp));have e2:=h (ind s.2);rw[Aq hp.s,e,Aq hq.s]at e2;have e3:s=t:=Prod.ext e2 e;subst e3;rw[AN hp.tail hq.tail (λφ=>by have:=h φ;rw[iv,iv]at this;grind)]
def ag8:∀(n:Nat)(l:List (List Tm)),l.length<=n->(∀p∈l,Can p)->Can (hO l)/\df φ (hO l)=(l.map (df φ)).sum:=by
 intro n;induction n with
 |zero=>intro l hl _;have:l=[]:=KaE.1 Oz;subst this;rw[hO];exact⟨cu.nil.c,rfl⟩
 | succ n ih=>
  intro l hl h
  match l,h with
  | [],_=>rw[hO];exact⟨cu.nil.c,rfl⟩
  | [p],h=>rw[hO];exact⟨h p (by simp),by simp;grind⟩
  |p::q::r,h=>
   rw[GJ (by simp)];generalize hL:p::q::r=L at *
   have hlen:2<=L.length:=by rw[<-hL];simp
   obtain⟨a1,a2⟩:=ih (L.take (L.length/2)) (by rw[Kay];omega) (λx hx=>h x (Kby hx));obtain⟨b1,b2⟩:=ih (L.drop (L.length/2)) (by rw[Ka4];omega) (λx hx=>h x (Kb2 hx));refine⟨Re a1 b1,?_⟩;rw[C3 a1 b1,a2,b2,<-List.sum_append,<-List.map_append,Kbt]
def ajO:∀(n:Nat)(l:List (List Tm)),l.length<=n->(∀p∈l,cu p)->cu (hO l):=by
 intro n;induction n with
 |zero=>intro l hl _;have:l=[]:=KaE.1 Oz;subst this;rw[hO];exact cu.nil
 | succ n ih=>
  intro l hl h
  match l,h with
  | [],_=>rw[hO];exact cu.nil
  | [p],h=>rw[hO];exact h p (by simp)
  | p::q::r,h=>
   rw[GJ (by simp)];generalize hL:p::q::r=L at *
   have hlen:2<=L.length:=by rw[<-hL];simp
   exact yG (ih (L.take (L.length/2)) (by rw[Kay];omega) (λx hx=>h x (Kby hx)))
    (ih (L.drop (L.length/2)) (by rw[Ka4];omega) (λx hx=>h x (Kb2 hx)))
def GG(φ:List Int->Rat)(t:Tm):∀(p:List Tm),df φ (cr p t)=t.1*df (λm=>φ (eJ m t.2)) p
 | []=>by rw[cr,Kcl,nG,nG];grind
 | s::p=>by
  have ih:=GG φ t p;rw[cr]at ih⊢;rw[Kcx];by_cases h:s.1*t.1=0
  .simp only[h,if_true,iv];rw[ih];have:t.1*(s.1*φ (eJ s.2 t.2))=(s.1*t.1)*φ (eJ s.2 t.2):=by grind
   rw[Rat.mul_add,this,h];grind
  .simp only[h,if_false,iv];rw[ih];grind
def LO(p:List Tm)(t:Tm):Can (cr p t):=by
 intro x hx;simp only[cr,Kck]at hx;obtain⟨y,hy,h⟩:=hx;split at h
 .cases h
 .cases h;exact CI _ _
def ag9(p:List Tm)(t:Tm):NZ (cr p t):=by
 intro x hx;simp only[cr,Kck]at hx;obtain⟨y,hy,h⟩:=hx;split at h
 .cases h
 .rename_i h0;cases h;exact h0
def Vb(t:Tm):∀(p:List Tm),mN p->mN (cr p t)
 | [],_=>trivial
 | s ::p,hp=>by
  have ih:=Vb t p hp.2;rw[cr]at ih⊢;rw[Kcx];split
  .exact ih
  .rename_i b hb;split at hb
   .cases hb
   .cases hb;refine⟨λx hx=>?_,ih⟩;simp only[Kck]at hx;obtain⟨y,hy,h⟩:=hx;split at h
    .cases h
    .cases h;simp only[aiW];exact hp.1 y hy
def LP(t:Tm)(hp:mN p):cu (cr p t):=⟨LO _ _,ag9 _ _,Vb t p hp⟩
def WD(φ:List Int->Rat)(q:List Tm):∀(p:List Tm),((p.map (cr q)).map (df φ)).sum=df (λm=>df (λn=>φ (eJ m n)) q) p
 | []=>rfl
 |t::p=>by rw[Ka3,Ka3,KcW,WD φ q p,GG,iv];congr 2;exact wN λs _=>by rw[Mh]
def PX(φ:List Int->Rat)(p q:List Tm):df φ (vE p q)=df (λm=>df (λn=>φ (eJ m n)) q) p:=by rw[vE,(ag8 (φ:=φ) _ _ (Kag _) ?_).2,WD];intro x hx;obtain⟨t,_,rfl⟩:=KaD.1 hx;exact LO _ _
def Hb(φ:List Int->Rat)(p q:List Tm):df φ (dD p q)=df (λm=>df (λn=>φ (eJ m n)) q) p:=by
 unfold dD;split
 .rw[PX,G' (λm n=>φ (eJ m n))];exact wN λs _=>wN λt _=>by rw[Mh]
 .exact PX φ p q
def PY(hq:mN q):cu (vE p q):=ajO _ _ (Kag _) λx hx=>by obtain⟨t,_,rfl⟩:=KaD.1 hx;exact LP t hq
def yH(hp:mN p)(hq:mN q):cu (dD p q):=by
 unfold dD;split
 .exact PY hp
 .exact PY hq
def CC(φ:List Int->Rat)(hp:Can p)(a:Rat):df φ (ee p a)=a*df φ p:=by
 unfold ee;split
 .rename_i h;rw[h,nG];grind
 .rw[GG];congr 1;exact wN λs hs=>by rw[MO (hp s hs)]
def ri(hp:mN p)(a:Rat):cu (ee p a):=by
 unfold ee;split
 .exact cu.nil
 .exact LP _ hp
def Rf(φ:List Int->Rat)(hp:Can p):df φ (vH p)= -df φ p:=by rw[vH,CC φ hp];grind
def Mw(φ:List Int->Rat)(hp:Can p)(hq:cu q):df φ (bX p q)=df φ p-df φ q:=by rw[bX,C3 hp (show Can (vH q)from(ri hq.s _).c),Rf φ hq.c];grind
def Mx(hp:cu p)(hq:cu q):cu (bX p q):=yG hp (ri hq.s _)
def L5(hp:cu p)(hq:cu q):dD p q=dD q p:=
 AN (yH hp.s hq.s) (yH hq.s hp.s) λφ=>by rw[Hb,Hb,G' (λm n=>φ (eJ m n))];exact wN λs _=>wN λt _=>by rw[Mh]
def LQ(a:Rat):cu (mc a):=by
 unfold mc;split
 .exact cu.nil
 .rename_i h;exact cu.one h (by simp)
def afT(φ:List Int->Rat)(a:Rat):df φ (mc a)=a*φ []:=by
 unfold mc;split
 .rename_i h;rw[h,nG];grind
 .rw[iv,nG];grind
def rD(p q:List Tm):List Tm:=q.foldl (λout t=>Qp out (cr p t)) []
def PZ(p:List Tm)(hp:cu p):∀(q out:List Tm),cu out->cu (q.foldl (λout t=>Qp out (cr p t)) out)/\
  ∀φ,df φ (q.foldl (λout t=>Qp out (cr p t)) out)=df φ out+df (λm=>df (λn=>φ (eJ n m)) p) q
 | [],out,h=>⟨h,λφ=>by rw[List.foldl_nil,nG];grind⟩
 |t::q,out,h=>by obtain⟨h1,h2⟩:=PZ p hp q (Qp out (cr p t)) (yG h (LP t hp.s));refine⟨h1,λφ=>?_⟩;rw[List.foldl_cons,h2,C3 h.c (LO _ _),GG,iv];grind
def Rg(hp:cu p)(hq:cu q):rD p q=dD p q:=by
 obtain⟨h1,h2⟩:=PZ p hp q [] cu.nil;refine AN h1 (yH hp.s hq.s) λφ=>?_
 rw[rD,h2,Hb,nG,G' (λm n=>φ (eJ m n))];grind
variable {C : Ctx} {fr : Fr} {hp : HP} {w : World} {K R : Qf}
variable{O by_ e i j len n o ty:Nat}{bs:List Bool}{h:Nat->Bool}{k:IntKind}{α:Type}
def SJ{d:Nat}(h:i<len):rB len e (.mp O j o) (.int k (i:Int)) d fr hp K=K (ae fr d (.mp O j (o+i*e))) hp:=by simp only[rB,Kbi];exact propext ⟨λh=>h.2.2,λh'=>⟨by omega,Oz,h'⟩⟩
def Q8q{d:Nat}(h0:0<e):jO e by_ ty .aa (.sl e []) d fr hp K=K (ae (cI d fr) d (.ms d 0)) (Qg hp d ⟨e,ty,[],false⟩):=by have:=LU (fr:=fr) (hp:=hp) (K:=K) (e:=e) (by_:=by_) (ty:=ty) (d:=d) (x:=.sl e []) (ys:=[]) rfl h0 (by simp) (by simp);simpa using this
def Rh{d:Nat}(hl:bs.length=len)(h:i<bs.length):xf len 1 false (.agg (bs.map PV.bool)) (.int k (i:Int)) d fr hp K=K (ae fr d (.bool bs[i])) hp:=by
 have e:fg false 1 (i*1) (.agg (bs.map PV.bool))= .bool bs[i]:=by show((bs.map PV.bool).drop (i*1)).headD .undef=_;rw[KbR,KaB (by simpa using h)];simp
 simp only[xf,Kbi];rw[e];exact propext ⟨λh=>h.2.2.2.2,λh'=>⟨by omega,Oz,by simp;omega,by simp,h'⟩⟩
def afq(h:bs.length=n):(bs.map PV.bool).take n=bs.map PV.bool:=Kaf (by simp[h])
def mm(n:Nat)(h:Nat->Bool):List Bool:=(List.range n).map h
def Gp(n:Nat)(h:Nat->Bool):(mm n h).length=n:=by simp[mm]
def ajP(hi:i<(mm n h).length):(mm n h)[i]=h i:=by simp[mm]
def WE{g:Nat->Bool}(e:∀i,i<n->h i=g i):mm n h=mm n g:=KaF λi hi=>e i (KbY.1 hi)
def ajQ{g:Nat->Bool}(hj:j<n)(e:∀i,i<n->g i=if i=j then true else h i):
  ((mm n h).map PV.bool).take j++(PV.bool true).cells++((mm n h).map PV.bool).drop (j+1)=(mm n g).map PV.bool:=by
 apply Ka9
 .simp[mm,PV.cells];omega
 .intro i h1 h2;have hi:i<n:=by simpa[mm]using h2
  have e1:((mm n g).map PV.bool)[i]=PV.bool (g i):=by simp[mm]
  rw[e1,e i hi];simp only[mm,PV.cells];by_cases EF:i=j
  .subst EF;rw[KbJ (by simp;omega),Kcp (by simp;omega)];simp
  .rw[if_neg EF];by_cases aA:i<j
   .rw[KbJ (by simp;omega),KbJ (by simp;omega)];simp
   .rw[Kcp (by simp;omega)];simp;congr 1;omega
def jk(p:List Tm)(v:Nat):Bool:=p.any λt=>decide (eN t.2 v≠0)
def vq(n:Nat)(h:Nat->Bool):List Int:=((List.range n).filter h).map λ(v:Nat)=>(v:Int)
def Uw(p:List Tm):List Int:=vq 64 (jk p)
def Q8r(n:Nat)(h:Nat->Bool):vq (n+1) h=vq n h++(if h n=true then [(n:Int)]else []):=by
 unfold vq;rw[List.range_succ,List.filter_append,KbN];congr 1;by_cases hn:h n=true
 .simp[hn]
 .simp[hn]
def Q3n(n:Nat)(h:Nat->Bool):(vq n h).length<=n:=by unfold vq;rw[KaC];exact KaK (KcI _ _) (by simp)
def aha(h:i<p.length)(v:Nat):jk (p.take (i+1)) v=(jk (p.take i) v||decide (eN p[i].2 v≠0)):=by rw[Kam h,jk,List.any_append];simp[jk]
def ku(p:List Tm):Bool:=decide (4000<p.length)||p.any λt=>t.2.any λx=>decide (1048576<x)
end Go.FW
namespace Go.FW
open Go
variable{O by_ e i j len n o ty:Nat}{bs:List Bool}{h:Nat->Bool}{k:IntKind}{p:List Tm}{α:Type}
def Kr{m:List Int}{c:Rat}:∀ {u v:List Tm},(∀t∈u,0<bC t.2 m)->(∀t∈v,bC t.2 m<0)->Qp (u++v) [(c,m)]=u++(c,m)::v
 | [],[],_,_=>by rw[KaO,yE];rfl
 | [],t::v,_,hv=>by have h1:=hv t (by simp);rw[KaO,CJ,if_neg (by show ¬0<bC t.2 m;omega),if_pos (by exact h1),oY];rfl
 |t::u,v,hu,hv=>by rw[KaT,CJ,if_pos (by exact hu t (by simp)),Kr (λs hs=>hu s (by simp[hs])) hv];rfl
def SK{m:List Int}{c d:Rat}:∀ {u v:List Tm},(∀t∈u,0<bC t.2 m)->Qp (u++(d,m)::v) [(c,m)]=u++(if d+c=0 then []else [(d+c,m)])++v
 | [],v,_=>by have h0:=Mg m;rw[KaO,CJ,if_neg (by show ¬0<bC m m;omega),if_neg (by show ¬bC m m<0;omega)];show(if d+c=0 then Qp v []else(d+c,m)::Qp v [])=_;rw[oY];split<;>rfl
 |t::u,v,hu=>by rw[KaT,CJ,if_pos (by exact hu t (by simp)),SK (λs hs=>hu s (by simp[hs]))];simp
def sJ(p:List Tm)(c:Rat)(m:List Int):List Tm:=Qp p (if c=0 then []else [(c,m)])
def Q6a(hs:mN p):∀ {i:Nat} (h:i<p.length),∀t∈p.take i,0<bC t.2 p[i].2:=by
 induction p with
 |nil=>intro i h;simp at h
 | cons s p ih=>
  intro i h t ht;cases i with
  |zero=>simp at ht
  |succ i=>
   simp only[List.take_succ_cons,KaA]at ht;have hi:i<p.length:=by simpa using h
   show 0<bC t.2 p[i].2;rcases ht with rfl|ht
   .exact hs.1 _ (Kad hi)
   .exact ih hs.2 hi t ht
def w7(g:α->Bool)(l:List α):Int:=match l.findIdx? g with
 |some i=>i
 |none=> -1
def P0(g:α->Bool)(l:List α):decide (0<=w7 g l)=l.any g:=by
 unfold w7;cases h:l.findIdx? g with
 |none=>rw[List.findIdx?_eq_none_iff]at h;symm;show l.any g=decide ((0:Int)<= -1);rw[show decide ((0:Int)<= -1)=false from rfl,KbP];intro x hx;simp[h x hx]
 |some i=>obtain⟨hi,h1,_⟩:=List.findIdx?_eq_some_iff_getElem.1 h;symm;show l.any g=decide ((0:Int)<=(i:Int));rw[decide_eq_true Oz,KaJ];exact⟨_,Kad hi,h1⟩
def RL{g:α->Bool}{l:List α}(hi:i<l.length)(h1:g l[i]=true)(h2:∀j (h:j<l.length),j<i->g l[j]=false):w7 g l=i:=by unfold w7;rw[List.findIdx?_eq_some_iff_getElem.2 ⟨hi,h1,λj hj=>by simp[h2 j Oz hj]⟩]
def WG{g:α->Bool}{l:List α}(h2:∀j (h:j<l.length),g l[j]=false):w7 g l= -1:=by unfold w7;rw[List.findIdx?_eq_none_iff.2 (λx hx=>by obtain⟨j,hj,rfl⟩:=KaH hx;exact h2 j hj)]
variable{k:Nat}{l:List bO}{t:Tm}
def w9(t:bO):Option Tm:=if eH (fa t.m)=true then some (t.q,fa t.m)else none
def vr(l:List bO):List Tm:=l.filterMap w9
def yY(t:Tm):Option (List Tm):=if t.1=0 then none else some [t]
def nF(l:List bO):List (List Tm):=(vr l).filterMap yY
def Ux(l:List bO):List Tm:=hO (nF l)
def Q8s(h:i<l.length):vr (l.take (i+1))=vr (l.take i)++(w9 l[i]).toList:=by rw[Kam h,vr,List.filterMap_append];congr 1
def Q8t(h:i<l.length):nF (l.take (i+1))=nF (l.take i)++((w9 l[i]).toList.filterMap yY):=by rw[nF,Q8s h,List.filterMap_append];rfl
def WH{t:bO}(h:eH (fa t.m)=true):w9 t=some (t.q,fa t.m):=by rw[w9,if_pos h]
def WI{t:bO}(h:eH (fa t.m)=false):w9 t=none:=by rw[w9,if_neg (by simp[h])]
def afr(h:t∈vr l):∃r∈l,t=(r.q,fa r.m)/\eH (fa r.m)=true:=by
 simp only[vr,Kck]at h;obtain⟨r,h1,h2⟩:=h;unfold w9 at h2;split at h2
 .rename_i hm;cases h2;exact⟨r,h1,rfl,hm⟩
 .cases h2
def WJ(h:p∈nF l):∃t∈vr l,p=[t]/\t.1≠0:=by
 simp only[nF,Kck]at h;obtain⟨t,h1,h2⟩:=h;unfold yY at h2;split at h2
 .cases h2
 .rename_i hm;cases h2;exact⟨t,h1,rfl,hm⟩
def Q3o(l:List bO):(vr l).length<=l.length:=KcU _ _
def Lk(l:List bO):(nF l).length<=l.length:=KaK (KcU _ _) (Q3o l)
def ahb(hb:∀t∈l,rs t.q<=k):PB (k+1) 1048576 (vr l):=λt ht=>by obtain⟨r,h1,rfl,h5⟩:=afr ht;exact⟨by have:=hb r h1;show rs r.q+1<=k+1;omega,MB.wC h5,LB h5⟩
def ahc(hb:∀t∈l,rs t.q<=k):∀p∈nF l,PB (k+1) 1048576 p:=λp hp=>by obtain⟨t,h1,rfl,_⟩:=WJ hp;intro s hs;simp only[Kax]at hs;subst hs;exact ahb hb _ h1
def Q8u(l:List bO):rI (nF l)<=l.length:=by
 have key:∀L:List (List Tm),(∀p∈L,p.length=1)->rI L=L.length:=by
  intro L;induction L with
  |nil=>intro _;rfl
  |cons p L ih=>
   intro h;have h1:=h p (by simp);have h2:=ih (λq hq=>h q (by simp[hq]));unfold rI at *
   rw[Ka3,KcW,h1,h2,KaX];omega
 rw[key _ (λp hp=>by obtain⟨t,_,rfl,_⟩:=WJ hp;rfl)];exact Lk l
def Ho(q:Rat):fL (decide (q.num<0)) (aw q.num.natAbs) (aw q.den)=true:=by
 simp only[fL,qi,Kav,decide_eq_true_eq];refine⟨?_,⟨?_,Da _⟩,?_⟩
 .split
  .rename_i h;rw[mM]at h;have:¬q.num<0:=Oz;simp[this]
  .exact decide_eq_true (Da _)
 .rw[ne_eq,mM];exact q.den_nz
 .rw[Qx,Qx];exact q.reduced
def gk(t:Tm):bO:=⟨decide (t.1.num<0),aw t.1.num.natAbs,aw t.1.den,t.2⟩
def TF(t:Tm):(gk t).tm=t:=by show(rv _ _ _,t.2)=t;rw[gk,gm]
def C4(p:List Tm):PV.tD (p.map gk)=PV.aC p:=by show PV.sl 4 ((p.map gk).map PV.sh)=PV.sl 4 (p.map PV.term);rw[KbT];rfl
def SL(h:TV t):gV (gk t)=true:=by
 have e:(gk t).q=t.1:=by show rv _ _ _=_;rw[gk,gm]
 simp only[gV,Kav,decide_eq_true_eq];exact⟨Ho t.1,by rw[e];exact h.c,h.m⟩
def Hp:∀ {p:List Tm},yq p->eC (p.map gk)=true
 | [],_=>rfl
 | [t],h=>by show gV (gk t)=true;exact SL (h.t t (by simp))
 |s::t::p,h=>by have h1:=SL (h.t s (by simp));have h2:0<bC (gk s).m (gk t).m:=h.s.1 t (by simp);have h3:=Hp (p:=t::p) ⟨λx hx=>h.t x (by simp[hx]),h.s.2⟩;show eC (gk s::gk t::p.map gk)=true;rw[eC,h1,decide_eq_true h2];exact h3
def Du(h:rs t.1<=k)(hm:t.2.length<2^40):RB k (gk t):=by
 have h1:nl t.1.num.natAbs<=k:=by unfold rs at h;omega
 have h2:nl t.1.den<=k:=by unfold rs at h;omega
 exact⟨⟨Ql _,Ql _,h1,h2⟩,hm⟩
variable{a:Rat}
def eD(a:Rat):Nat->Rat
 |0=>1
 |n+1=>eD a n*a
def L6(a:Rat):eD a 0=1:=rfl
def ajR(a:Rat):eD a 1=a:=by show 1*a=a;grind
def ajS(a:Rat)(m:Nat):∀n,eD a (m+n)=eD a m*eD a n
 |0=>by rw[KaW,L6];grind
 |n+1=>by
  rw[<-Nat.add_assoc];show eD a (m+n)*a=eD a m*(eD a n*a)
  rw[ajS a m n];grind
def Ks(a:Rat):∀k,eD (a*a) k=eD a (2*k)
 |0=>rfl
 |k+1=>by show eD (a*a) k*(a*a)=_;rw[Ks a k,show 2*(k+1)=2*k+1+1 by omega];show _=eD a (2*k)*a*a;grind
def Q0w(h:n%2=0):eD (a*a) (n/2)=eD a n:=by rw[Ks];congr 1;omega
def Q3p(h:n%2=1):eD (a*a) (n/2)*a=eD a n:=by rw[Ks,show n=2*(n/2)+1 by omega,show 2*((2*(n/2)+1)/2)=2*(n/2)by omega];rfl
def Ku(a:Rat):∀n,rs (eD a n)<=1+rs a*n
 |0=>by have:=ph;show rs 1<=_;omega
 |n+1=>by have:=Ku a n;have:=mO (eD a n) a;rw[Ka0];show rs (eD a n*a)<=_;omega
def mo(vs:List Rat)(m:List Int):Nat->Rat
 |0=>1
 |n+1=>mo vs m n*eD (vs.getD n 0) (eN m n).toNat
def ye(vs:List Rat)(m:List Int):Rat:=mo vs m m.length
def rE(vs:List Rat)(p:List Tm):Rat:=df (ye vs) p
def Aj(vs:List Rat)(p:List Tm):Bool:=p.any λt=>decide (vs.length<t.2.length)
abbrev PV.cg(vs:List Rat):PV:=.sl 3 (vs.map PV.rat)
def Im(vs:List Rat)(p:List Tm):PV:=if Aj vs p=true then .aI [PV.rr false [] [],.int .i64 2]else .aI [PV.rat (rE vs p),.int .i64 0]
def WK{vs:List Rat}(h:i<p.length):rE vs (p.take (i+1))=rE vs (p.take i)+p[i].1*ye vs p[i].2:=by rw[Kam h,rE,WC,iv,nG,rE];grind
def Kv{vs:List Rat}{m:List Int}{E W:Nat}(hm:MB E m)(hv:∀v∈vs,rs v<=W)(hW:1<=W)(c:Rat):∀n,rs (c*mo vs m n)<=rs c+n*(1+W*E)
 |0=>by
  have:c*mo vs m 0=c:=by show c*1=c;grind
  rw[this];omega
 | n+1=>by
  have h1:=Kv hm hv hW c n;have h2:=Ku (vs.getD n 0) (eN m n).toNat;have h3:rs (vs.getD n 0)<=W:=by
   by_cases h:n<vs.length
   .rw[Kac,Kae h];exact hv _ (Kad h)
   .rw[Kac,List.getElem?_eq_none Oz];have:=Af;show rs 0<=W;omega
  have h4:(eN m n).toNat<=E:=by have:=(hm.eN n).2;omega
  have h5:rs (vs.getD n 0)*(eN m n).toNat<=W*E:=KaZ h3 h4;have h6:=mO (c*mo vs m n) (eD (vs.getD n 0) (eN m n).toNat);have e:c*mo vs m (n+1)=(c*mo vs m n)*eD (vs.getD n 0) (eN m n).toNat:=by show c*(mo vs m n*_)=_;grind
  rw[e,KaL];omega
def RM{vs:List Rat}{p:List Tm}{K E W:Nat}(hp:PB K E p)(hv:∀v∈vs,rs v<=W)(hW:1<=W):∀i,i<=p.length->rs (rE vs (p.take i))<=1+i*(K+64*(1+W*E))
 |0,_=>by have:=Af;show rs 0<=_;omega
 |i+1,h=>by have h1:=RM hp hv hW i Oz;have ht:=hp.get (i:=i) Oz;have h2:=Kv (vs:=vs) ht.m hv hW p[i].1 p[i].2.length;have h3:=o7 (rE vs (p.take i)) (p[i].1*ye vs p[i].2);have h4:p[i].2.length*(1+W*E)<=64*(1+W*E):=Kap _ ht.m.len;have h5:=ht.c;rw[WK Oz,KaL];have h6:rs (p[i].1*ye vs p[i].2)<=rs p[i].1+p[i].2.length*(1+W*E):=h2;omega
variable{B:List Nat}{V:List (Nat×Nat)}
def afs{B':List Nat}{F:Fr}(h:(B'.all B.contains)=true):b7 B' (b7 B F)=b7 B F:=by
 funext s;rw[Me B'];split
 .rename_i h1;rw[Me B]at h1⊢;split
  .rfl
  .rename_i h2;rw[if_neg h2]at h1;exfalso;apply h2;rw[KaJ]at h1⊢;obtain⟨x,hx,hb⟩:=h1;rw[Kas]at h;exact⟨x,hx,h x (List.contains_iff_mem.1 hb)⟩
 .rfl
def aft{W:List (Nat×Nat)}{J F:Fr}:b7 B (aY W J F)=aY W (b7 B J) (b7 B F):=by funext s;unfold b7 aY;split<;>rfl
def LH{W:List (Nat×Nat)}{B':List Nat}{X Z F:Fr}(h:zc V W=true)(hB:(B'.all B.contains)=true):aY V X (b7 B' (aY W Z (b7 B F)))=aY W (aY V X (b7 B' Z)) (b7 B F):=by rw[aft,afs hB,gY h]
section
variable {C : Ctx} {fr : Fr} {hp : HP} {w : World} {K R : Qf}
end
def aeF(m:List Int)(v:Nat):List Int:=fa (m.set v 0)
def aad(p:List Tm)(v:Nat)(n:Int):List Tm:=p.filterMap λt=>if eN t.2 v=n then some (t.1,aeF t.2 v)else none
end Go.FW
namespace Go.FW
open Go
def hor(p:List Tm)(v:Nat)(q:List Tm)(top:Nat):Nat->List Tm
 |0=>aad p v top
 |k+1=>Qp (dD (hor p v q top k) q) (aad p v ((top:Int)-(k+1)))
variable{E K:Nat}{p:List Tm}
def fW(vs:List Rat)(v:Nat)(b:Rat)(n:Int):List Tm->Rat
 | []=>0
 |t::p=>(if n<=eN t.2 v then t.1*ye vs (aeF t.2 v)*eD b (eN t.2 v-n).toNat else 0)+fW vs v b n p
def Q6d(hp:PB K E p)(hE:E<=1048576)(hl:p.length<=4000):ku p=false:=by
 have:(p.any λt=>t.2.any λx=>decide (1048576<x))=false:=by rw[KbP];intro t ht;rw[Bool.not_eq_true,KbP];intro x hx;have:=(hp t ht).m.hi x hx;simp;omega
 rw[ku,this,Bool.or_false];exact decide_eq_false Oz
variable{n v:Nat}
def fX(v n:Nat):List Int:=List.replicate v 0++[(n:Int)]
def P3(h:0<n):(fX v n).getLast? ≠some 0:=by unfold fX;rw[List.getLast?_append];simp;omega
def SM(hv:v<64):MB n (fX v n):=by
 refine⟨by simp[fX];omega,λx hx=>?_,λx hx=>?_⟩
 all_goals
  simp only[fX,KaN,List.mem_replicate,Kax]at hx;omega
variable {C : Ctx} {fr : Fr} {hp : HP} {w : World} {K R : Qf}
end Go.FW
namespace Go.FW
open Go
variable {C : Ctx} {fr : Fr} {hp : HP} {K : Qf}
end Go.FW
namespace Go.FW
open Go
variable{l:List Rat}{n:Nat}
abbrev PV.dU(r c:Nat)(l:List Rat):PV:=.agg [.int .i64 r,.int .i64 c,PV.cg l]
abbrev MF:=Nat->Nat->Rat
def dG(l:List Rat)(m:Nat):MF:=λr c=>l.getD (r*m+c) 0
def ahd{m r:Nat}(hl:l.length=n*m)(hr:r<n):((l.take ((r+1)*m)).drop (r*m)).map PV.rat=aR PV.rat (dG l m r) m:=by
 have h1:(r+1)*m<=n*m:=Kap _ hr;have h2:(r+1)*m=r*m+m:=by rw[KaL,KcQ]
 refine Ka9 (by simp[aR];omega) λj h3 h4=>?_
 have hj:j<m:=by simpa[aR]using h4
 simp only[List.getElem_drop,Kca,Kbc,aR,List.getElem_range,dG];rw[Kac,Kae Oz];rfl
structure RQ where
 n:Bool
 a:List Nat
 d:List Nat
 deriving Inhabited
abbrev PV.rq(q:RQ):PV:=PV.rr q.n q.a q.d
abbrev PV.Ab(l:List RQ):PV:=.sl 3 (l.map PV.rq)
abbrev PV.uW(r c:Int)(l:List RQ):PV:=.agg [.int .i64 r,.int .i64 c,PV.Ab l]
def vL(q:RQ):Bool:=fL q.n q.a q.d
def lf(q:RQ):Rat:=rv q.n q.a q.d
def og(r c:Int)(l:List RQ):Bool:=decide (0<=r/\r<=40/\0<=c/\c<=40/\(l.length:Int)=r*c)&&l.all vL
def qR(q:Rat):RQ:=⟨decide (q.num<0),aw q.num.natAbs,aw q.den⟩
def ahe{R m:Nat}(hl:l.length=R*m)(hR:R<=40)(hm:m<=40):og R m (l.map qR)=true:=by unfold og;rw[Kav,decide_eq_true_eq];refine⟨⟨by omega,Oz,Oz,Oz,by rw[KaC,hl,KcJ]⟩,?_⟩;rw[Kas];intro x hx;obtain⟨q,hq,rfl⟩:=KaD.1 hx;exact Ho q
def TG(l:List Rat):PV.cg l=PV.Ab (l.map qR):=by unfold PV.Ab PV.cg;rw[KbT];rfl
def H2(R m:Nat)(l:List Rat):PV.dU R m l=PV.uW R m (l.map qR):=by unfold PV.dU PV.uW;rw[TG]
def aqr(q:Rat):lf (qR q)=q:=gm q
def afu(l:List Rat):(l.map qR).map lf=l:=by
 rw[KbT];conv=>rhs;rw[<-List.map_id l]
 exact KaF λq _=>aqr q
def Ae(M:MF)(k:Nat):Nat->Nat->Nat
 |0,i=>i
 |f+1,i=>if M i k=0 then Ae M k f (i+1)else i
def SN(M:MF)(k:Nat):∀f i,i<=Ae M k f i/\Ae M k f i<=i+f
 |0,i=>⟨Kag _,Kag _⟩
 |f+1,i=>by
  unfold Ae;split
  .have:=SN M k f (i+1);omega
  .omega
def sQ(M:MF)(R k n:Nat):Nat:=Ae M k (R-n) n
def pa(M:MF)(i n:Nat):MF:=λr=>if r=n then M i else if r=i then M n else M r
def Bj(M:MF)(n:Nat)(p:Rat):MF:=λr c=>if r=n then M n c/p else M r c
def FG(M:MF)(n k:Nat):MF:=λr c=>if r=n then M n c else M r c-M r k*M n c
structure yp where
 M:MF
 bG:List Nat
 gd:Rat
def xk(R:Nat)(E:yp)(k:Nat):yp:=
 if sQ E.M R k E.bG.length=R then E else
  ⟨FG (Bj (pa E.M (sQ E.M R k E.bG.length) E.bG.length) E.bG.length (E.M (sQ E.M R k E.bG.length) k)) E.bG.length k,E.bG++[k],
   (if sQ E.M R k E.bG.length=E.bG.length then E.gd else -E.gd)*E.M (sQ E.M R k E.bG.length) k⟩
def eK(R:Nat)(M:MF):Nat->yp
 |0=>⟨M,[],1⟩
 |k+1=>xk R (eK R M k) k
def My(R:Nat)(M:MF):∀k,(eK R M k).bG.length<=k/\(eK R M k).bG.length<=R/\∀x∈(eK R M k).bG,x<k
 |0=>⟨Kag _,KbK _,by simp[eK]⟩
 | k+1=>by
  obtain⟨h1,h2,h3⟩:=My R M k;show(xk R (eK R M k) k).bG.length<=k+1/\_;simp only[eK];unfold xk;split
  .exact⟨by omega,h2,λx hx=>by have:=h3 x hx;omega⟩
  .rename_i h;have:=SN (eK R M k).M k (R-(eK R M k).bG.length) (eK R M k).bG.length;have h4:sQ (eK R M k).M R k (eK R M k).bG.length<=R:=by unfold sQ;omega
   have h5:(eK R M k).bG.length<=sQ (eK R M k).M R k (eK R M k).bG.length:=this.1;refine⟨by simp;omega,by simp;omega,λx hx=>?_⟩;simp only[KaN,Kax]at hx;rcases hx with hx|hx
   .have:=h3 x hx;omega
   .omega
def sj(K R w:Nat)(M:MF):Prop:=∀r,r<R->∀c,c<w->rs (M r c)<=K
def JV(K R w n:Nat)(M:MF):Prop:=∀k,k<=n->sj K R w (eK R M k).M/\rs (eK R M k).gd<=K
def xl(p:Nat->Bool):Nat->Nat->Nat
 |0,i=>i
 |f+1,i=>if p i then i else xl p f (i+1)
def HE{p:Nat->Bool}:∀ {f i n:Nat},i<=n->n<i+f->p n=true->(∀j,i<=j->j<n->p j=false)->xl p f i=n
 |0,i,n,h1,h2,_,_=>by omega
 | f+1,i,n,h1,h2,h3,h4=>by
  unfold xl;by_cases e:i=n
  .subst e;rw[if_pos h3]
  .rw[h4 i (Kag _) Oz];exact HE Oz Oz h3 λj h5 h6=>h4 j Oz h6
def Dp{p:Nat->Bool}:∀ {f i:Nat},(∀j,i<=j->j<i+f->p j=false)->xl p f i=i+f
 |0,i,_=>rfl
 |f+1,i,h=>by
  unfold xl;rw[h i (Kag _) Oz];have:=Dp (p:=p) (f:=f) (i:=i+1) λj h5 h6=>h j Oz Oz
  simp only[Kbk,if_false];omega
def sK(x y:Nat->Rat)(c:Rat):Nat->Rat:=λi=>x i+c*y i
def vv(M:MF)(R:Nat):Nat:=xl (λi=>decide (M i i≠0)) R 0
def uj(M:MF)(R i:Nat):Nat:=xl (λk=>decide (M i k≠0)) R 0
def nO(M:MF)(R:Nat):Nat:=xl (λi=>decide (uj M R i<R)) R 0
def oo (M:MF) (R:Nat):List (Rat×(Nat->Rat)):=
  if vv M R<R then [(M (vv M R) (vv M R),sK (λ_=>0) (M (vv M R)) (1/M (vv M R) (vv M R)))]
  else if nO M R<R then
    [(1/(M (nO M R) (uj M R (nO M R))+M (nO M R) (uj M R (nO M R))),sK (M (nO M R)) (M (uj M R (nO M R))) 1),
     (-(1/(M (nO M R) (uj M R (nO M R))+M (nO M R) (uj M R (nO M R)))),sK (M (nO M R)) (M (uj M R (nO M R))) (-1))]
  else []
abbrev PV.form(w:Nat)(f:Rat×(Nat->Rat)):PV:=.agg [.bool (decide (f.1.num<0)),PV.num f.1.num.natAbs,PV.num f.1.den,.sl 3 (aR PV.rat f.2 w)]
end Go.FW
