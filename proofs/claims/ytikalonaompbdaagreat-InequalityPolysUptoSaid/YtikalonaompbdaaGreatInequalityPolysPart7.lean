/- Part 7 of the proof of InequalityPolys: CL, U4, U7, U8, P8, U10, K0, CLW, FwYB. Own lemmas; no conditions. -/
import Derived.Test.YtikalonaompbdaaGreatInequalityPolysPart6
set_option maxHeartbeats 1000000
set_option linter.all false
set_option maxRecDepth 100000
namespace Go.Proofs.YtikalonaompbdaaGreat
open Go.Proofs.Tryz
open Go Go.FW
def asv:ax:=⟨17,[.t 2],Zr (Yf 2 0)<| .seq (Zr (Yc 3 0)<| .block 0<| .seq (Zr (Yq 5 3 1 4)<| .cond (.t 4) .skip (.rg (Yq 6 3 5 4)))<| .cond (.t 4) (Zr (Yf 2 3) .ret) (.seq (Zr (Yq 8 3 2 7)<| .cond (.t 7) .skip (Zr (Yq 9 3 3 7)<| .cond (.t 7) .skip (Zr (Yq 10 3 4 7)<| .cond (.t 7) .skip (Zr (Yq 11 3 6 7)<| .cond (.t 7) .skip (.rg (Yq 12 3 9 7))))))<| .cond (.t 7) (Zr (Yf 2 4) .ret) (Zr (Yq 14 3 7 13)<| .cond (.t 13) (Zr (Yf 2 8) .ret) (Zr (Yq 16 3 8 15)<| .cond (.t 15) (Zr (Yf 2 2) .ret) .skip))))<|Zr (Yf 2 0) .ret⟩
def SU:Qc Tryz.prog f136=some asv:=by kernel_rfl
def asw:ax:=⟨20,[.t 2],Zr (jA 1 49 0<|Yl 2)<|Zr (Zf 3 0 1<|Ya 4 0 3<|Zu 6 5<|iD 7) .ret⟩
def anT:Qc Tryz.prog f137=some asw:=by kernel_rfl
def c72:ax:=⟨51,[.t 4],Zr (Zo (.box 2 5 65 (.t 0))<|Yf 4 0)<| .seq (Zr (Ya 7 0 2<|Yn 9 136 8<|BA 10 9 0)<| .cond (.t 10) (Zr (Yf 4 8) .ret) .skip)<| .seq (Zr (YT 11 1 2<|Ya 14 0 2<|nQ 16 136 15<|Zb 17 .neq 13 16 .nil)<| .cond (.t 17) (Zr (Yf 4 1) .ret) .skip)<| .seq (Zr (YT 18 1 2<|Yf 21 0)<| .block 0<| .loop<|Zr (Yu 22 21 20)<| .seq (.cond (.t 22) .skip (.exit 0))<| .seq (.block 1<|Zr (Yw 23 19 21<|Yc 6 24)<|Zr (pz 25 6)<| .cond (.t 31) (Zr (Yf 4 2) .ret) .skip)<| .rg (YH 32 21 21))<| .seq (Zr (xw 33 2 9 2 16 .nil)<| .cond (.t 41) (Zr (Yf 4 1) .ret) .skip)<| .seq (Zr (Ya 42 0 2<|Zk 44 .neq 43 9<|Zm 45 44<|YB 45 2 2 137<|Ym 50 45 49 .nil)<| .cond (.t 50) (Zr (Yf 4 1) .ret) .skip)<|Zr (Yf 4 0) .ret⟩
def acY:Qc Tryz.prog f72=some c72:=by kernel_rfl
def atO:ax:=⟨17,[.t 2],Zr (Yf 2 0)<| .seq (Zr (Yc 3 0)<| .block 0<|Zr (Yq 5 3 8 4)<| .cond (.t 4) (Zr (Yf 2 2) .ret) (.seq (Zr (Yq 7 3 1 6)<| .cond (.t 6) .skip (.rg (Yq 8 3 5 6)))<| .cond (.t 6) (Zr (Yf 2 3) .ret) (.seq (Zr (Yq 10 3 2 9)<| .cond (.t 9) .skip (Zr (Yq 11 3 3 9)<| .cond (.t 9) .skip (Zr (Yq 12 3 4 9)<| .cond (.t 9) .skip (Zr (Yq 13 3 6 9)<| .cond (.t 9) .skip (.rg (Yq 14 3 9 9))))))<| .cond (.t 9) (Zr (Yf 2 4) .ret) (Zr (Yq 16 3 7 15)<| .cond (.t 15) (Zr (Yf 2 8) .ret) .skip))))<|Zr (Yf 2 0) .ret⟩
def SV:Qc Tryz.prog f262=some atO:=by kernel_rfl
def atP:ax:=⟨20,[.t 2],Zr (jA 1 49 0<|Yl 2)<|Zr (Zf 3 0 1<|Ya 4 0 3<|Zu 6 5<|iD 7) .ret⟩
def anU:Qc Tryz.prog f263=some atP:=by kernel_rfl
def asA:ax:=⟨53,[.t 4],Zr (Zo (.box 2 5 65 (.t 0))<|Yf 4 0)<|Zr (Ya 8 0 2<|Yn 10 262 9<|Zm 5 10 .nil)<| .seq (Zr (Zm 11 5<|BA 12 11 0)<| .cond (.t 12) (Zr (Yf 4 8) .ret) .skip)<| .seq (Zr (YT 13 1 2<|Zm 16 5<|Zb 17 .neq 15 16 .nil)<| .cond (.t 17) (Zr (Yf 4 1) .ret) .skip)<| .seq (Zr (YT 18 1 2<|Yf 21 0)<| .block 0<| .loop<|Zr (Yu 22 21 20)<| .seq (.cond (.t 22) .skip (.exit 0))<| .seq (.block 1<|Zr (Yw 23 19 21<|Yc 7 24)<|Zr (pz 25 7)<| .cond (.t 31) (Zr (Yf 4 2) .ret) .skip)<| .rg (YH 32 21 21))<| .seq (Zr (xw 33 2 9 2 77<|Yx 42 41 0 2<|Zg 42 false (.bin 45 .neq false (.t 44) (.c (Zz 9)))<|Zg 42 false (.mv 46 (.t 45))<|YB 46 2 2 263<|Zg 42 false (.pick 51 (.t 46) (.t 50) (.c (.bool false)))<|xy 52 42 51)<| .cond (.t 52) (Zr (Yf 4 1) .ret) .skip)<|Zr (Yf 4 0) .ret⟩
def anV:Qc Tryz.prog f141=some asA:=by kernel_rfl
def ast:ax:=⟨22,[.t 2],Zr (Yf 2 0)<| .seq (Zr (Yc 3 0)<| .block 0<|Zr (Yq 5 3 1 4)<| .cond (.t 4) (Zr (Yf 2 0) .ret) (.seq (Zr (Yq 7 3 2 6)<| .cond (.t 6) .skip (Zr (Yq 8 3 5 6)<| .cond (.t 6) .skip (Zr (Yq 9 3 6 6)<| .cond (.t 6) .skip (.rg (Yq 10 3 14 6)))))<| .cond (.t 6) (Zr (Yf 2 2) .ret) (.seq (Zr (Yq 12 3 3 11)<| .cond (.t 11) .skip (Zr (Yq 13 3 4 11)<| .cond (.t 11) .skip (Zr (Yq 14 3 7 11)<| .cond (.t 11) .skip (Zr (Yq 15 3 8 11)<| .cond (.t 11) .skip (Zr (Yq 16 3 10 11)<| .cond (.t 11) .skip (.rg (Yq 17 3 11 11)))))))<| .cond (.t 11) (Zr (Yf 2 3) .ret) (.seq (Zr (Yq 19 3 9 18)<| .cond (.t 18) .skip (Zr (Yq 20 3 12 18)<| .cond (.t 18) .skip (.rg (Yq 21 3 13 18))))<| .cond (.t 18) (Zr (Yf 2 4) .ret) .skip))))<|Zr (uq 2) .ret⟩
def SW:Qc Tryz.prog f133=some ast:=by kernel_rfl
def asu:ax:=⟨20,[.t 2],Zr (jA 1 49 0<|Yl 2)<|Zr (Zf 3 0 1<|Ya 4 0 3<|Zu 6 5<|iD 7) .ret⟩
def anW:Qc Tryz.prog f134=some asu:=by kernel_rfl
def atB:ax:=⟨17,[.t 2],Zr (Yl 2)<|Zr (jR 3 65 90<|YE 9 8 0<|Zg 9 false (.bin 11 .geq false (.t 10) (.c (.int .u8 97)))<|Zg 9 false (.mv 12 (.t 11))<|Zg 12 true (.mv 13 (.t 0))<|Zg 12 true (.bin 14 .leq false (.t 13) (.c (.int .u8 122)))<|Zg 9 false (.pick 15 (.t 12) (.t 14) (.c (.bool false)))<|Yk 16 9 15<|Yc 2 16) .ret⟩
def anX:Qc Tryz.prog f250=some atB:=by kernel_rfl
def atC:ax:=⟨9,[.t 2],Zr (Yl 2)<|Zr (jR 3 48 57<|Zm 2 8 .nil) .ret⟩
def anY:Qc Tryz.prog f251=some atC:=by kernel_rfl
def atD:ax:=⟨2,[.t 0],Zr (YI 0)<|Zr (Zo (.bs 1 1 9 [.c (.str ⟨#[0x61,0x6e,0x67,0x6c,0x65]⟩),.c (.str ⟨#[0x61,0x70,0x65,0x78]⟩),.c (.str ⟨#[0x62,0x69,0x73,0x65,0x63,0x74,0x6f,0x72]⟩),.c (.str ⟨#[0x63,0x65,0x6e,0x74,0x65,0x72]⟩),.c (.str ⟨#[0x63,0x69,0x72,0x63,0x6c,0x65]⟩),.c (.str ⟨#[0x63,0x69,0x72,0x63,0x75,0x6d]⟩),.c (.str ⟨#[0x63,0x6f,0x6c,0x6c,0x69,0x6e,0x65,0x61,0x72]⟩),.c (.str ⟨#[0x63,0x6f,0x6d,0x6d,0x6f,0x6e]⟩),.c (.str ⟨#[0x63,0x6f,0x6e,0x63,0x79,0x63,0x6c,0x69,0x63]⟩),.c (.str ⟨#[0x63,0x6f,0x6e,0x67,0x72,0x75,0x65,0x6e,0x74]⟩),.c (.str ⟨#[0x63,0x72,0x6f,0x73,0x73]⟩),.c (.str ⟨#[0x63,0x75,0x74]⟩),.c (.str ⟨#[0x64,0x69,0x76,0x69,0x64,0x65]⟩),.c (.str ⟨#[0x66,0x6f,0x6f,0x74]⟩),.c (.str ⟨#[0x6c,0x69,0x6e,0x65]⟩),.c (.str ⟨#[0x6d,0x65,0x65,0x74]⟩),.c (.str ⟨#[0x6d,0x69,0x64,0x70,0x6f,0x69,0x6e,0x74]⟩),.c (.str ⟨#[0x6d,0x69,0x72,0x72,0x6f,0x72]⟩),.c (.str ⟨#[0x6f,0x6e]⟩),.c (.str ⟨#[0x6f,0x74,0x68,0x65,0x72]⟩),.c (.str ⟨#[0x70,0x61,0x72,0x61,0x6c,0x6c,0x65,0x6c]⟩),.c (.str ⟨#[0x70,0x65,0x72,0x70,0x65,0x6e,0x64,0x69,0x63,0x75,0x6c,0x61,0x72]⟩),.c (.str ⟨#[0x70,0x6f,0x69,0x6e,0x74,0x73]⟩),.c (.str ⟨#[0x70,0x72,0x6f,0x76,0x65]⟩),.c (.str ⟨#[0x72,0x61,0x74,0x69,0x6f]⟩),.c (.str ⟨#[0x72,0x65,0x66,0x6c,0x65,0x63,0x74]⟩),.c (.str ⟨#[0x73,0x61,0x6d,0x65]⟩),.c (.str ⟨#[0x73,0x68,0x69,0x66,0x74]⟩),.c (.str ⟨#[0x74,0x75,0x72,0x6e]⟩)])<|Zm 0 1 .nil) .ret⟩
def anZ:Qc Tryz.prog f252=some atD:=by kernel_rfl
def asx:ax:=⟨59,[.t 2],Zr (uu 1 25 0<|Yl 2)<|Zr (iB 8 2 1 253<|Zm 3 9 .nil)<| .seq (Zr (Yf 4 0)<| .block 0<| .loop<| .seq (Zr (mX 10 4 3)<| .cond (.t 13) .skip (.exit 0))<| .seq (.block 1<|Zr (YW 16 3 4<|Zk 20 .gtr 19 8 .nil)<| .cond (.t 20) (Zr (Yl 2) .ret) .skip)<| .rg (Zm 14 4<|YH 15 14 4))<| .seq (Zr (Yf 5 0)<| .block 2<| .loop<| .seq (Zr (Zm 21 5<|YT 22 1 1<|Yu 25 21 24)<| .cond (.t 25) .skip (.exit 2))<| .seq (.block 3<|Zr (eF 28 1 1 5<|jS 31 29 30 6)<|Zr (Yf 7 0)<| .block 4<| .loop<| .seq (Zr (Zm 33 7<|YT 34 1 6<|Yu 37 33 36)<| .cond (.t 37) .skip (.exit 4))<| .seq (.block 5<|Zr (Ya 40 0 6<|Zk 42 .eql 41 6<|Yx 43 42 0 6<|Zg 43 false (.bin 46 .eql false (.t 45) (.c (Zz 7)))<|Yk 47 43 46<|YO 48 47 3<|Zg 48 true (.dI 50 1 (.t 6))<|Zg 48 true (.ld 51 1 false (.t 50))<|Zg 48 true (.mv 52 (.t 7))<|Zg 48 true (.idx 53 1 (.t 51) (.t 52))<|Zg 48 true (.ld 54 1 false (.t 53))<|Zg 48 true (.idx 55 1 (.t 49) (.t 54))<|Zg 48 true (.ld 56 1 false (.t 55))<|Zg 48 true (.bin 57 .gtr false (.t 56) (.c (Zz 3)))<|Ym 58 48 57 .nil)<| .cond (.t 58) (Zr (Yl 2) .ret) .skip)<| .rg (fO 38 7))<| .rg (fO 26 5))<|Zr (By 2) .ret⟩
def an0:Qc Tryz.prog f138=some asx:=by kernel_rfl
def atE:ax:=⟨85,[.t 2],Zr (uu 1 25 0<|YI 2)<|Zr (YI 3)<| .seq (Zr (Yf 4 0)<| .block 0<| .loop<| .seq (Zr (Zm 7 4<|YT 8 0 1<|Yu 11 7 10)<| .cond (.t 11) .skip (.exit 0))<| .seq (.block 1<|Zr (eF 14 0 1 4<|Zi 17 6 15 16<|Ya 18 2 17<|Zm 5 19<|Yf 6 1)<| .seq (Zr (eF 20 0 1 4<|Zi 23 6 21 22<|Ya 24 0 23 .nil)<| .block 2<|Zr (Yq 27 25 2 26)<| .cond (.t 26) (.rg (iC 28 0<|iC 34 1<|Zb 40 .add 33 39<|Yc 6 40)) (.seq (Zr (Yq 42 25 3 41)<| .cond (.t 41) .skip (.rg (Yq 43 25 4 41)))<| .cond (.t 41) (.rg (iC 44 0<|iC 50 1<|Zb 56 .add 49 55<|iC 57 2<|Zb 63 .add 56 62<|Yc 6 63)) (Zr (Yq 65 25 5 64)<| .cond (.t 64) (.rg (iC 66 0<|Zo (.bin 72 .mul false (.c (Zz 2)) (.t 71))<|iC 73 1<|Zb 79 .add 72 78<|Yc 6 79)) .skip)))<| .rg (Yh 80 3 6<|YA 82 1 3 81 8 80<|Yc 3 83))<| .rg (Zm 12 4<|YH 13 12 4))<|Zr (MZ 84 3 2) .ret⟩
def an1:Qc Tryz.prog f253=some atE:=by kernel_rfl
def c73:ax:=⟨81,[.t 2],Zr (uu 1 25 0<|Yl 2)<| .seq (Zr (YT 5 0 1<|Zk 8 .gtr 7 8<|Yx 9 8 1 1<|YV 9 3<|Zm 15 14<|Zg 15 false (.ld 16 2 true (.t 1))<|Zg 15 false (.call (some 17) false (.c (.fn 26 [] [])) [.t 16])<|Zg 15 false (.bin 18 .neq false (.t 17) (.c (Zz 0)))<|Yk 19 15 18<|Zm 20 19<|Zg 20 false (.ld 21 2 true (.t 1))<|Zg 20 false (.call (some 22) false (.c (.fn 138 [] [])) [.t 21])<|Zg 20 false (.un 23 .not (.t 22))<|xy 24 20 23)<| .cond (.t 24) (Zr (Yl 2) .ret) .skip)<| .seq (Zr (Yf 3 0)<| .block 0<| .loop<| .seq (Zr (Zm 25 3<|YT 26 0 1<|Yu 29 25 28)<| .cond (.t 29) .skip (.exit 0))<| .seq (.block 1<|Zr (eF 32 0 1 3<|Zi 35 6 33 34<|Zf 36 3 35<|Zf 37 0 36<|YT 38 1 37<|Zk 41 .gtr 40 2<|Yx 42 41 0 1<|Zg 42 false (.mv 45 (.t 3))<|Zg 42 false (.idx 46 6 (.t 44) (.t 45))<|Zg 42 false (.dI 47 3 (.t 46))<|Zg 42 false (.dI 48 2 (.t 47))<|Zg 42 false (.ld 49 1 false (.t 48))<|Zg 42 false (.len 50 (.t 49))<|Zg 42 false (.bin 51 .gtr false (.t 50) (.c (Zz 2)))<|xy 52 42 51)<| .cond (.t 52) (Zr (Yl 2) .ret) .skip)<| .rg (fO 30 3))<| .seq (Zr (Yf 4 0)<| .block 2<| .loop<| .seq (Zr (Zm 53 4<|YT 54 1 1<|Yu 57 53 56)<| .cond (.t 57) .skip (.exit 2))<| .seq (.block 3<|Zr (eF 60 1 1 4<|Zi 63 5 61 62<|Zf 64 2 63<|Zf 65 0 64<|YT 66 1 65<|Zk 69 .gtr 68 2<|Yx 70 69 1 1<|Zg 70 false (.mv 73 (.t 4))<|Zg 70 false (.idx 74 5 (.t 72) (.t 73))<|Zg 70 false (.dI 75 2 (.t 74))<|Zg 70 false (.dI 76 2 (.t 75))<|Zg 70 false (.ld 77 1 false (.t 76))<|Zg 70 false (.len 78 (.t 77))<|Zg 70 false (.bin 79 .gtr false (.t 78) (.c (Zz 2)))<|xy 80 70 79)<| .cond (.t 80) (Zr (Yl 2) .ret) .skip)<| .rg (fO 58 4))<|Zr (By 2) .ret⟩
def acZ:Qc Tryz.prog f73=some c73:=by kernel_rfl
def c26:ax:=⟨48,[.t 2],Zr (uu 1 25 0<|Yf 2 0)<| .seq (Zr (YT 8 0 1<|Zk 11 .gtr 10 40<|Yx 12 11 1 1<|YV 12 8 .nil)<| .cond (.t 17) (Zr (Yf 2 4) .ret) .skip)<| .seq (Zr (YT 18 0 1<|Yf 21 0)<| .block 0<| .loop<|Zr (Yu 22 21 20)<| .seq (.cond (.t 22) .skip (.exit 0))<| .seq (.block 1<|Zr (MZ 23 21 3)<|Zr (eF 24 0 1 3<|Yp 27 71 25 26<|Yc 4 27)<|Zr (YQ 28 4)<| .cond (.t 29) (Zr (MZ 30 4 2) .ret) .skip)<| .rg (YH 31 21 21))<| .seq (Zr (YT 32 1 1<|Yf 35 0)<| .block 2<| .loop<|Zr (Yu 36 35 34)<| .seq (.cond (.t 36) .skip (.exit 2))<| .seq (.block 3<|Zr (jS 37 33 35 6)<|Zr (Zh 39 5 6<|YT 40 0 1<|Yp 43 72 39 42<|Yc 7 43)<|Zr (YQ 44 7)<| .cond (.t 45) (Zr (MZ 46 7 2) .ret) .skip)<| .rg (YH 47 35 35))<|Zr (Yf 2 0) .ret⟩
def ac0:Qc Tryz.prog f26=some c26:=by kernel_rfl
def c71:ax:=⟨81,[.t 4],Zr (Yf 4 0)<|Zr (Yh 10 0 1<|ew 12 10 11 5<|Zs 6 5 13 .nil)<| .seq (Zr (Ya 14 0 5<|Yn 16 133 15<|Zk 17 .lss 16 0 .nil)<| .cond (.t 17) (Zr (Yf 4 8) .ret) .skip)<| .seq (Zr (YT 18 2 5<|Ya 21 0 5<|nQ 23 133 22<|Zb 24 .neq 20 23 .nil)<| .cond (.t 24) (Zr (Yf 4 1) .ret) .skip)<| .seq (Zr (YT 25 2 5<|Yf 28 0)<| .block 0<| .loop<|Zr (Yu 29 28 27)<| .seq (.cond (.t 29) .skip (.exit 0))<| .seq (.block 1<|Zr (Yw 30 26 28<|Yc 7 31)<|Zr (pz 32 7)<| .cond (.t 38) (Zr (Yf 4 2) .ret) .skip)<| .rg (YH 39 28 28))<| .seq (Zr (xw 40 5 2 3 16<|Yx 49 48 0 5<|Zg 49 false (.bin 52 .neq false (.t 51) (.c (Zz 2)))<|Zg 49 false (.mv 53 (.t 52))<|YB 53 3 5 134<|Zg 49 false (.pick 58 (.t 53) (.t 57) (.c (.bool false)))<|xy 59 49 58)<| .cond (.t 59) (Zr (Yf 4 1) .ret) .skip)<| .seq (Zr (Ya 60 1 5<|Zo (.gj 62 false (.t 61) (.c (.str ⟨#[]⟩))) .nil)<| .cond (.t 62) (Zr (Yf 4 0) .ret) .skip)<| .seq (Zr (Ya 63 1 5<|Yn 65 135 64<|Zu 66 65 .nil)<| .cond (.t 66) (Zr (Yf 4 6) .ret) .skip)<| .seq (Zr (Yh 67 0 1<|BD 69 6 67 68<|Zn 70 69<|Yf 71 0)<| .block 2<| .loop<|Zr (Yu 72 71 70)<| .seq (.cond (.t 72) .skip (.exit 2))<| .seq (.block 3<|Zr (ew 73 69 71 9<|Zs 6 9 74 .nil)<|Zr (dW 75 1 9 1 5<|Zo (.gj 79 false (.t 76) (.t 78)) .nil)<| .cond (.t 79) (Zr (Yf 4 7) .ret) .skip)<| .rg (YH 80 71 71))<|Zr (Yf 4 0) .ret⟩
def ac1:Qc Tryz.prog f71=some c71:=by kernel_rfl
def asP:ax:=⟨12,[.t 6],Zr (YI 6)<|Zr (dq 7 0 1 2<|Yp 10 95 8 9<|Yp 11 45 7 10<|Zm 6 11 .nil) .ret⟩
def an2:Qc Tryz.prog f164=some asP:=by kernel_rfl
def asN:ax:=⟨28,[.cell 6 2 true],Zr (dH 3 2 81 0<|dH 4 2 81 1<|Yr 6 81 .nil)<|Zr (eF 7 0 3 2<|dW 10 0 4 0 3<|eF 17 1 3 2<|dW 20 1 4 1 3<|Ys 14 95 11 13<|Ys 15 176 9 14<|Ys 16 45 8 15<|Ys 24 95 21 23<|Ys 25 176 19 24<|Ys 26 45 18 25<|rN 27 16 26<|Zs 2 6 27 .nil) .ret⟩
def an3:Qc Tryz.prog f162=some asN:=by kernel_rfl
def c33:ax:=⟨16,[.t 8],Zr (dH 4 2 81 0<|dH 5 2 81 1<|dH 6 2 81 2<|dH 7 2 81 3<|YI 8)<|Zr (Zh 9 2 4<|Zh 10 2 5<|Zh 12 2 6<|Zh 13 2 7<|Ys 11 79 9 10<|Ys 14 79 12 13<|Ys 15 78 11 14<|Zm 8 15 .nil) .ret⟩
def ac2:Qc Tryz.prog f33=some c33:=by kernel_rfl
def c79:ax:=⟨16,[.cell 4 2 true],Zr (my 2 81 0<|dH 3 2 81 1<|Yr 4 125 .nil)<|Zr (dW 5 0 3 0 2<|dW 10 1 3 1 2<|Ys 9 36 6 8<|Ys 14 36 11 13<|rN 15 9 14<|Zs 2 4 15 .nil) .ret⟩
def ac3:Qc Tryz.prog f79=some c79:=by kernel_rfl
def c78:ax:=⟨16,[.t 4],Zr (my 2 125 0<|dH 3 2 125 1<|YI 4)<|Zr (iS 5 2 0<|iS 7 3 0<|iS 10 2 1<|iS 12 3 1<|Ys 9 151 6 8<|Ys 14 151 11 13<|Ys 15 40 9 14<|Zm 4 15 .nil) .ret⟩
def ac4:Qc Tryz.prog f78=some c78:=by kernel_rfl
def c96:ax:=⟨32,[.t 8],Zr (dH 4 2 81 0<|dH 5 2 81 1<|dH 6 2 81 2<|dH 7 2 81 3<|YI 8)<|Zr (dW 9 0 5 0 4<|dW 14 0 7 0 6<|dW 20 1 5 1 4<|dW 25 1 7 1 6<|Ys 13 95 10 12<|Ys 18 95 15 17<|Ys 19 176 13 18<|Ys 24 95 21 23<|Ys 29 95 26 28<|Ys 30 176 24 29<|Ys 31 45 19 30<|Yc 8 31) .ret⟩
def ac5:Qc Tryz.prog f96=some c96:=by kernel_rfl
variable{E K k:Nat}{n:Bool}
def VO{p:List Tm}{a d:List Nat}{m:List Int}(hp:PB K E p)(hs:mN p)(qP:NZ p)(hr:Raw k n a d)(hk:k<=2^32)(hm:MB E m)(hl:m.getLast? ≠some 0)(hK:K<=2^32)(hE:E<=2^38)(dC:p.length<=2^36):
  AC 271 [PV.aC p,PV.rr n a d,PV.mono m] (· =PV.aC (sJ p (rv n a d) m)):=by
 have rY:=hr.rs;refine aF Qd func271 amN λC hP=>?_;refine Sz0 ?_;refine Qh okB [(7,7),(12,26)] [] (λk J hp=>k<=p.length/\(∀t∈p.drop k,bC t.2 m<0)/\J 7= .int .i64 (k:Nat)/\hp 4=some ⟨3,49,[PV.rr n a d],false⟩) p.length ?_ ?_
 .refine⟨by omega,by simp,?_⟩;exact Tz0
 rintro j J h ⟨hj,hd,h7,gh⟩;refine Sz1 h7 ?_;refine fJ (λhg=>?_) (λhg=>?_)
 .obtain⟨i,rfl⟩:∃i,j=i+1:=⟨j-1,Oz⟩
  have e:((i+1:Nat):Int)-1=i:=Oz;have hi:i<p.length:=Oz;have dv:=hp.get hi;have xO:p.drop i=p[i]::p.drop (i+1):=KaB hi;have bl:p.take (i+1)=p.take i++[p[i]]:=Kam hi;have nZ:=Q6a hs hi;have bY:p=p.take i++p[i]::p.drop (i+1):=by rw[<-xO,Kbt]
  have c1:=dv.c;generalize hx:p[i]=x at *
  refine eL h7 e hx hP (Dv dv.m hm Oz) ?_;refine iq h7 e hx (λhc=>?_) (λhc=>?_)
  .refine Sz3 h7 e hx ?_;refine Qe i Oz ⟨by omega,?_,?_⟩
   .rw[xO];intro t ht;rcases KaA.1 ht with rfl|ht
    .exact hc
    .exact hd t ht
   .exact Tz1 gh
  .refine Sz3 h7 e hx ?_;refine fJ (λ_=>?_) (λh=>by omega);refine eL h7 e hx hP (Dv dv.m hm Oz) ?_;refine iq h7 e hx (λik=>?_) (λik=>?_)
   .have pN:x.2=m:=(Ki dv.l hl).1 ik;have bQ:=qP _ (Kad hi);rw[hx]at bQ;have cX:sJ p (rv n a d) m=p.take i++(if x.1+rv n a d=0 then []else [(x.1+rv n a d,m)])++p.drop (i+1):=by
     have XY:p=p.take i++(x.1,m)::p.drop (i+1):=by rw[<-pN];exact bY
     rw[sJ];split
     .rename_i h0;have e0:x.1+0=x.1:=Rat.add_zero _;rw[h0,oY,e0,if_neg bQ];simpa using XY
     .conv=>lhs;rw[XY]
      exact SK (λt ht=>by rw[<-pN];exact nZ t ht)
    have oM:(p.take i).length<=p.length:=List.length_take_le' _ _;have gT:(p.drop (i+1)).length<=p.length:=by rw[Ka4];omega
    have Ow:=o7 x.1 (rv n a d);have Jk:=jf (q:=x.1) (k:=2^32) Oz;have bI:=Vv (k:=2^32) Jk (show Raw (2^32) n a d from⟨hr.la,hr.ld,by have:=hr.sa;omega,by have:=hr.sd;omega,Oz⟩) Oz;rw[gm]at bI;refine Sz4 h7 e hx gh ?_;refine fU ?_ ?_
    all_goals
     refine gy h7 e hx gh hP bI ?_;refine gy h7 e hx gh hP (L8 (a:=x.1+rv n a d) Oz) ?_;refine Sz4 h7 e hx gh ?_;refine Qm (λhz=>?_) (λhz=>?_)
     .rw[if_neg (λh=>hz (fy.2 h))]at cX;refine Sz4 h7 e hx gh ?_;rw[Qq (f:=PV.term) (y:=(x.1+rv n a d,m)) (xs:=p.take i) (ty':=114) (fz:=false) Tz0 Qw Oz rfl Oz Oz];refine Sz4 h7 e hx gh ?_;rw[oZ (f:=PV.term) (xs:=p.take i++[(x.1+rv n a d,m)]) (ys:=p.drop (i+1)) Tz0 (by simp<;>omega) Oz Oz Oz];refine de ?_;refine Qb ?_ rfl;rw[Kaf (by simp<;>omega),cX]
     .rw[if_pos (fy.1 (Decidable.not_not.1 hz)),Kai]at cX;refine Sz4 h7 e hx gh ?_;rw[oZ (f:=PV.term) (xs:=p.take i) (ys:=p.drop (i+1)) Tz0 (by simp<;>omega) Oz Oz Oz];refine de ?_;refine Qb ?_ rfl;rw[Kaf (by simp<;>omega),cX]
   .have rT:Qp p [(rv n a d,m)]=p.take (i+1)++(rv n a d,m)::p.drop (i+1):=by
     have:=Kr (m:=m) (c:=rv n a d) (u:=p.take (i+1)) (v:=p.drop (i+1)) (λt ht=>by
      rw[bl]at ht;rcases KaN.1 ht with ht|ht
      .exact An (nZ t ht) Oz
      .simp only[Kax]at ht;subst ht;omega) hd
     rwa[Kbt]at this
    have oM:(p.take (i+1)).length<=p.length:=List.length_take_le' _ _;have gT:(p.drop (i+1)).length<=p.length:=by rw[Ka4];omega
    refine bE h7 gh hP (Cn hr Oz) ?_;refine cH h7 gh (λhz=>?_) (λhz=>?_)
    .have wz:¬rv n a d=0:=λh=>hz (fy.2 h)
     refine bE h7 gh hP (yw hr Oz) ?_;refine Sz2 h7 gh ?_;rw[Qq (f:=PV.term) (y:=(rv n a d,m)) (xs:=p.take (i+1)) (ty':=114) (fz:=false) Tz0 Qw Oz rfl Oz Oz];refine Sz2 h7 gh ?_;rw[oZ (f:=PV.term) (xs:=p.take (i+1)++[(rv n a d,m)]) (ys:=p.drop (i+1)) Tz0 (by simp<;>omega) Oz Oz Oz];refine de ?_;refine Qb ?_ rfl;rw[Kaf (by simp<;>omega),sJ,if_neg wz,rT];simp
    .have wz:rv n a d=0:=fy.1 (Decidable.not_not.1 hz);refine Sz2 h7 gh ?_;rw[oZ (f:=PV.term) (xs:=p.take (i+1)) (ys:=p.drop (i+1)) Tz0 (by simp<;>omega) Oz Oz Oz];refine de ?_;refine Qb ?_ rfl;rw[Kaf (by simp<;>omega),sJ,if_pos wz,oY,Kbt]
 .obtain rfl:j=0:=by omega
  have rT:Qp p [(rv n a d,m)]=[]++(rv n a d,m)::p:=Kr (m:=m) (c:=rv n a d) (u:=[]) (v:=p) (by simp) (by simpa using hd);refine Sz1 h7 ?_;rw[Q8q Oz];refine bE h7 gh hP (Cn hr Oz) ?_;refine cH h7 gh (λhz=>?_) (λhz=>?_)
  .have wz:¬rv n a d=0:=λh=>hz (fy.2 h)
   refine bE h7 gh hP (yw hr Oz) ?_;refine Sz2 h7 gh ?_;rw[Qq (f:=PV.term) (y:=(rv n a d,m)) (xs:=([]:List Tm)) (ty':=114) (fz:=false) Tz0 Qw Oz (n:=0) rfl Oz Oz];refine Sz2 h7 gh ?_;rw[oZ (f:=PV.term) (xs:=([]:List Tm)++[(rv n a d,m)]) (ys:=p) Tz0 (by simp<;>omega) Oz Oz Oz];refine de ?_;refine Qb ?_ rfl;rw[Kaf (by simp<;>omega),sJ,if_neg wz,rT];simp
  .have wz:rv n a d=0:=fy.1 (Decidable.not_not.1 hz);refine Sz2 h7 gh ?_;rw[oZ (f:=PV.term) (xs:=([]:List Tm)) (ys:=p) Tz0 (by simp<;>omega) Oz Oz Oz];refine de ?_;refine Qb ?_ rfl;rw[Kaf (by simp<;>omega),sJ,if_pos wz,oY]
def Q3v{a d:List Nat}(hr:Raw k n a d)(hk:k<=2^32):AC 163 [PV.rr n a d] (· =PV.aC (mc (rv n a d))):=by
 have bI:=(VO (p:=[]) (m:=[]) (K:=1) (E:=1) (PB.nil _ _) trivial (by simp[NZ]) hr hk ⟨by simp,by simp,by simp⟩ (by simp) Oz Oz (by simp)).le (args':=[.aa,PV.rr n a d,.aa]) ⟨trivial,Qi _,trivial,trivial⟩;have e:sJ [] (rv n a d) []=mc (rv n a d):=by rw[sJ,yE];rfl
 rw[e]at bI;refine aF Qd func163 amK λC hP=>?_;refine ay hP bI ?_;exact cf
variable{f:Nat}{g:Int->Bool}{p:List Int}
def Qy5{p:List Tm}{g:Tm->Bool}(hf:∀t∈p,AC f [PV.term t] (· = .bool (g t)))(dC:p.length<=2^36):
  AC 159 [PV.aC p,.fn f [] []] (· = .int .i64 (w7 g p)):=by
 refine aF Qd func159 anD λC hP=>?_;refine Sz0 ?_;refine Qh eO [(4,5),(8,18)] [] (λn J hp=>∃i,n=p.length-i/\i<=p.length/\(∀j (h:j<p.length),j<i->g p[j]=false)/\J 8= .int .i64 (i:Nat)) p.length ?_ ?_
 .refine⟨0,rfl,Oz,Oz,?_⟩;refine Sz0 ?_;rfl
 rintro _ J h ⟨i,rfl,hi,h1,h8⟩;refine aZ h8 (λhg=>?_) (λhg=>?_)
 .have au:i<p.length:=Oz;have uA:=hf _ (Kad au);have v5:=λh=>RL (g:=g) au h h1
  have bI:g p[i]=false->∀j (h:j<p.length),j<i+1->g p[j]=false:=λh j hj fP=>by
   by_cases e:j=i
   .subst e;exact h
   .exact h1 j hj Oz
  generalize hx:p[i]=x at *
  refine bE h8 hx hP uA ?_;refine Sz2 h8 hx ?_;cases ED:g x
  .refine Sz1 h8 ?_;refine Qe (p.length-(i+1)) Oz ⟨i+1,rfl,Oz,bI ED,?_⟩;exact Tz0
  .refine Sz1 h8 ?_;exact Qb (by rw[v5 ED]) rfl
 .obtain rfl:i=p.length:=by omega
  refine Sz0 ?_;exact Qb (by rw[WG (λj hj=>h1 j hj hj)]) rfl
def Qy6(hf:∀t∈p,AC f [.int .i64 t] (· = .bool (g t)))(dC:p.length<=2^36):
  AC 160 [PV.mono p,.fn f [] []] (· = .int .i64 (w7 g p)):=by
 refine aF Qd func160 anE λC hP=>?_;refine Sz0 ?_;refine Qh eO [(4,5),(8,18)] [] (λn J hp=>∃i,n=p.length-i/\i<=p.length/\(∀j (h:j<p.length),j<i->g p[j]=false)/\J 8= .int .i64 (i:Nat)) p.length ?_ ?_
 .refine⟨0,rfl,Oz,Oz,?_⟩;refine Sz0 ?_;rfl
 rintro _ J h ⟨i,rfl,hi,h1,h8⟩;refine aZ h8 (λhg=>?_) (λhg=>?_)
 .have au:i<p.length:=Oz;have uA:=hf _ (Kad au);have v5:=λh=>RL (g:=g) au h h1
  have bI:g p[i]=false->∀j (h:j<p.length),j<i+1->g p[j]=false:=λh j hj fP=>by
   by_cases e:j=i
   .subst e;exact h
   .exact h1 j hj Oz
  generalize hx:p[i]=x at *
  refine bE h8 hx hP uA ?_;refine Sz2 h8 hx ?_;cases ED:g x
  .refine Sz1 h8 ?_;refine Qe (p.length-(i+1)) Oz ⟨i+1,rfl,Oz,bI ED,?_⟩;exact Tz0
  .refine Sz1 h8 ?_;exact Qb (by rw[v5 ED]) rfl
 .obtain rfl:i=p.length:=by omega
  refine Sz0 ?_;exact Qb (by rw[WG (λj hj=>h1 j hj hj)]) rfl
def UL{p:List Tm}{g:Tm->Bool}(hf:∀t∈p,AC f [PV.term t] (· = .bool (g t)))(dC:p.length<=2^36):
  AC 87 [PV.aC p,.fn f [] []] (· = .bool (p.any g)):=by
 refine aF Qd func87 arv λC hP=>?_;refine ay hP (Qy5 hf dC) ?_;refine Sz0 ?_;exact Qb (congrArg PV.bool (P0 g p)) rfl
def UM(hf:∀t∈p,AC f [.int .i64 t] (· = .bool (g t)))(dC:p.length<=2^36):
  AC 89 [PV.mono p,.fn f [] []] (· = .bool (p.any g)):=by
 refine aF Qd func89 arw λC hP=>?_;refine ay hP (Qy6 hf dC) ?_;refine Sz0 ?_;exact Qb (congrArg PV.bool (P0 g p)) rfl
def UX{p:List Tm}(hp:∀t∈p,MB E t.2)(dC:p.length<=2^36):AC 47 [PV.aC p] (· = .bool (ku p)):=by
 have bad:(∃t∈p,∃x∈t.2,1048576<x)->ku p=true:=λ⟨t,ht,x,hx,h⟩=>by
  unfold ku;have:(p.any λt=>t.2.any λx=>decide (1048576<x))=true:=by rw[KaJ];exact⟨t,ht,by rw[KaJ];exact⟨x,hx,decide_eq_true h⟩⟩
  rw[this,Bool.or_true]
 refine aF Qd func47 aqy λC hP=>?_;refine Sz0 ?_;refine Qh okB [(2,29)] [] (λn J hp=>∃i,n=p.length-i/\i<=p.length/\(∀t∈p.take i,∀x∈t.2,¬1048576<x)/\J 3= .int .i64 (i:Nat)) p.length ?_ ?_
 .refine⟨0,rfl,Oz,by simp,?_⟩;refine Sz0 ?_;rfl
 rintro _ J h ⟨i,rfl,hi,h1,h3⟩;refine aZ h3 (λhg=>?_) (λhg=>?_)
 .have au:i<p.length:=Oz;have dv:=hp _ (Kad au);have eV:=Kad au;have bl:p.take (i+1)=p.take i++[p[i]]:=Kam au;generalize hx:p[i]=x at *
  have qN:=dv.len;refine Sz2 h3 hx ?_;refine Qh okB [(2,2),(4,4),(11,29)] [] (λn J hp=>∃j,n=x.2.length-j/\j<=x.2.length/\(∀y∈x.2.take j,¬1048576<y)/\J 4= .int .i64 (j:Nat)) x.2.length ?_ ?_
  .refine⟨0,rfl,Oz,by simp,?_⟩;refine Sz0 ?_;rfl
  rintro _ J2 h2 ⟨j,rfl,hj,h4,h5⟩;refine iq h3 h5 hx (λgF=>?_) (λgF=>?_)
  .have dz:j<x.2.length:=Oz;have pI:=Kad dz;have OB:x.2.take (j+1)=x.2.take j++[x.2[j]]:=Kam dz;generalize hy:x.2[j]=y at *
   refine Sz4 h3 h5 hx hy ?_;refine Qm (λhc=>?_) (λhc=>?_)
   .refine Sz0 ?_;exact Qb (congrArg PV.bool (bad ⟨x,eV,y,pI,hc⟩).symm) rfl
   .refine Sz1 h5 ?_;refine Qe (x.2.length-(j+1)) Oz ⟨j+1,rfl,Oz,?_,?_⟩
    .rw[OB];intro z hz;rcases KaN.1 hz with hz|hz
     .exact h4 z hz
     .simp only[Kax]at hz;subst hz;exact hc
    .exact Tz0
  .rw[Kaf Oz]at h4;refine Sz2 h3 h5 ?_;simp (disch:=decide) only[iM,gY];refine Qe (p.length-(i+1)) Oz ⟨i+1,rfl,Oz,?_,?_⟩
   .rw[bl];intro z hz;rcases KaN.1 hz with hz|hz
    .exact h1 z hz
    .simp only[Kax]at hz;subst hz;exact h4
   .exact Tz0
 .obtain rfl:i=p.length:=by omega
  rw[KaQ]at h1;refine Sz0 ?_;refine Qb (congrArg PV.bool ?_) rfl;have:(p.any λt=>t.2.any λx=>decide (1048576<x))=false:=by rw[KbP];intro t ht;rw[Bool.not_eq_true,KbP];intro x hx;simpa using h1 t ht x hx
  rw[ku,this,Bool.or_false];exact decide_eq_decide.2 ⟨λh=>by omega,λh=>by omega⟩
def RP(v:Nat)(n:Int)(h:n=((n.toNat:Nat):Int)):(List.replicate (v+1) (0:Int)).set v n=fX v n.toNat:=by
 unfold fX;rw[<-h];induction v with
 |zero=>rfl
 |succ v ih=>rw[KbC,List.set_cons_succ,ih];rfl
def aj7(v:Nat):rJ v=fX v 1:=rfl
def Q9a{v:Nat}(hv:v<64):AC 272 [.int .i64 v] (· =PV.aC (bJ v)):=by
 have lD:(List.replicate (v+1) (0:Int)).set v 1=fX v 1:=RP v 1 rfl;have Oa:v<(List.replicate (v+1) (0:Int)).length:=by simp
 have xS:=ph;have eM:(fX v 1).length=v+1:=by simp[fX]
 have bI:=(VO (p:=[]) (m:=fX v 1) (K:=1) (E:=1) (k:=4) (PB.nil _ _) trivial (by simp[NZ]) (jf (q:=((1:Int):Rat)) (k:=4) (by rw[show((1:Int):Rat)=1 from rfl];omega)) Oz (SM hv) (P3 Oz) Oz Oz (by simp)).le (args':=[.aa,PV.rat ((1:Int):Rat),PV.mono (fX v 1)]) ⟨trivial,Qi _,Qi _,trivial⟩;rw[gm]at bI;have e:sJ [] ((1:Int):Rat) (fX v 1)=bJ v:=by rw[sJ,yE,if_neg (by decide),bJ,if_neg Oz,Kbi,aj7];rfl
 rw[e]at bI;refine aF Qd func272 am5 λC hP=>?_;refine Sz0 ?_;refine Qo (λh=>by omega) (λ_=>?_);refine Sz0 ?_;refine Qm (λh=>by omega) (λ_=>?_);refine gE lD hP (Gt (x:=1) Oz Oz) ?_;generalize((1:Int):Rat)=c at *
 refine Sz0 ?_;refine ko hP bI (by simp+decide (disch:=try exact E0) only[go_sem,ch,Kak,Kao,Kal,Kaq,Kai];simp[Kaf,eM]) rfl ?_;exact cf
def Xf:ax:=⟨25,[.cell 8 2 true,.t 9],Zr (dH 4 2 76 0<|Yr 8 76<| .wk<| .wk<|YI 9)<|Zr (Ya 10 1 4<|dq 12 1 2 3<|Zo (.cD 15 [Zz 0,Zz 0,Zz 0] [(0,1,.t 12),(1,1,.t 13),(2,1,.t 14)])<|Zo (.bs 16 3 253 [.t 15])<|Zo (.app 17 3 24 253 (.t 11) (.t 16))<|qw 18 1 4 1 17)<|Zr (Zh 19 2 4<|YT 20 1 4<|Zk 23 .sub 22 1<|nQ 24 272 23<|Zs 2 8 19<|Yc 9 24) .ret⟩
def an4:Qc Tryz.prog f165=some Xf.strip:=by kernel_rfl
def Ih:ax:=⟨29,[.cell 6 2 true,.cell 7 2 true],Zr (dH 3 2 76 0<|Yr 6 76<| .wk<| .wk<|Yr 7 81 .nil)<|Zr (Yr 8 81<| .wk .nil)<| .seq (Zr (Zm 9 2<|Zk 10 .gtr 9 0 .nil)<| .cond (.t 10) (.rg (Zh 12 2 3<| .wk<|Zm 13 1<|Zq 14 false 165 [.t 12,.c (Zz 1),.t 13,.c (Zz 0)]<|Zm 11 14<|Yd 15 11<|Zs 2 3 15<|qw 17 0 8 1 16)) .skip)<| .seq (Zr (Zm 18 2<|Zk 19 .gtr 18 1 .nil)<| .cond (.t 19) (.rg (Zh 21 2 3<| .wk<|Zm 22 1<|Zq 23 false 165 [.t 21,.c (Zz 1),.t 22,.c (Zz 1)]<|Zm 20 23<|Yd 24 20<|Zs 2 3 24<|qw 26 1 8 1 25)) .skip)<|Zr (Zh 27 2 3<| .br (Zh 28 2 8<|Zs 2 6 27<|iR 2 28) (Zs 2 6 27<|Zh 28 2 8<|iR 2 28)) .ret⟩
def JZ:Qc Tryz.prog f161=some Ih.strip:=by kernel_rfl
def Xg:ax:=⟨28,[.cell 6 2 true,.cell 7 2 true],Zr (dH 3 2 76 0<|Yr 6 76<| .wk<| .wk<|Yr 7 81 .nil)<|Zr (Yr 8 81 .nil)<|Zr (Zh 10 2 3<| .wk<|Yh 11 1 2<|Zq 13 false 165 [.t 10,.c (Zz 2),.t 11,.t 12]<|Zm 9 13<|Yd 14 9<|Zs 2 3 14<|qw 16 0 8 1 15)<|Zr (Zh 18 2 3<| .wk<|Yh 19 1 2<|Zk 21 .add 20 1<|Zq 22 false 165 [.t 18,.c (Zz 2),.t 19,.t 21]<|Zm 17 22<|Yd 23 17<|Zs 2 3 23<|qw 25 1 8 1 24)<|Zr (Zh 26 2 3<| .br (Zh 27 2 8<|Zs 2 6 26<|iR 2 27) (Zs 2 6 26<|Zh 27 2 8<|iR 2 27)) .ret⟩
def an5:Qc Tryz.prog f166=some Xg.strip:=by kernel_rfl
def XA:ax:=⟨157,[.cell 8 2 true,.cell 9 2 true],Zr (dH 4 2 76 0<|dH 5 2 25 1<|Yr 8 76<| .wk<| .wk<|Yr 9 81 .nil)<|Zr (eF 18 0 5 2<|ew 21 19 20 10<|Zs 6 10 22 .nil)<|Zr (YI 11)<| .seq (Zr (YT 23 2 10<|Yf 26 0)<| .block 0<| .loop<|Zr (Yu 27 26 25)<| .seq (.cond (.t 27) .skip (.exit 0))<| .seq (.block 1<|Zr (Yw 28 24 26<|Yc 13 29)<| .rg (Zm 30 11<|eF 31 0 4 13<|YG 34 2 32 33<|Zo (.bs 36 2 81 [.t 35])<|Zo (.app 37 2 48 81 (.t 30) (.t 36))<|Yc 11 37))<| .rg (YH 38 26 26))<| .seq (Zr (Ya 39 0 10 .nil)<| .block 2<|Zr (Yq 42 40 1 41)<| .cond (.t 41) (Zr (Zh 43 2 4<|Yh 44 2 3<|mY 46 161 43 44 45<|Yd 47 46<|Zs 2 8 47<|Zs 2 9 48 .nil) .ret) (Zr (Yq 50 40 2 49)<| .cond (.t 49) (Zr (Zh 51 2 4<|Yo 52 11 2 0<|Zh 54 2 53<|Yo 55 11 2 1<|Zh 57 2 56<|cM 58 3 10 3<|nQ 60 163 59<|Zq 61 true 162 [.t 54,.t 57,.t 60]<|Zs 2 8 51<|Zs 2 9 61 .nil) .ret) (Zr (Yq 63 40 3 62)<| .cond (.t 62) (Zr (Zh 64 2 4<|Yo 65 11 2 0<|Ya 67 0 66<|Yo 69 11 2 2<|Ya 71 0 70<|Yo 73 11 2 1<|Ya 75 0 74<|Yo 78 11 2 0<|Ya 80 1 79<|Yo 82 11 2 2<|Ya 84 1 83<|Yo 86 11 2 1<|Ya 88 1 87<|Zq 77 true 164 [.t 68,.t 72,.t 76]<|Zq 90 true 164 [.t 81,.t 85,.t 89]<|rN 91 77 90<|Zs 2 8 64<|Zs 2 9 91 .nil) .ret) (Zr (Yq 93 40 4 92)<| .cond (.t 92) (Zr (Zh 94 2 4<|Yo 95 11 2 0<|Ya 97 0 96<|Yo 99 11 2 1<|Ya 101 1 100<|Yo 103 11 2 2<|Ya 105 1 104<|Yo 108 11 2 0<|Ya 110 1 109<|Yo 112 11 2 2<|Ya 114 0 113<|Yo 116 11 2 1<|Ya 118 0 117<|Zq 107 true 164 [.t 98,.t 102,.t 106]<|Zq 120 true 164 [.t 111,.t 115,.t 119]<|rN 121 107 120<|Zs 2 8 94<|Zs 2 9 121 .nil) .ret) (Zr (Yq 123 40 5 122)<| .cond (.t 122) (Zr (sV 125 2 4 2<|Zq 127 false 165 [.t 125,.c (Zz 1),.t 126,.c (Zz 0)]<|Zm 124 127<|Yd 128 124<|Yr 14 76<| .wk<| .wk<|Zs 2 14 128<|Yc 15 129)<|Zr (Zh 130 2 14<|Yo 131 11 2 0<|Zh 133 2 132<|Yo 134 11 2 1<|sV 136 2 135 15<|Zq 138 true 162 [.t 133,.t 136,.t 137]<|Zs 2 8 130<|Zs 2 9 138 .nil) .ret) (Zr (Yq 140 40 6 139)<| .cond (.t 139) (Zr (sV 142 2 4 2<|Zq 144 false 165 [.t 142,.c (Zz 1),.t 143,.c (Zz 0)]<|Zm 141 144<|Yd 145 141<|Yr 16 76<| .wk<| .wk<|Zs 2 16 145<|Yc 17 146)<|Zr (sV 147 2 16 2<|Zq 149 false 166 [.t 147,.t 148,.c (Zz 1)]<|Yd 150 149<|Zs 2 8 150<|Zs 2 9 151 .nil) .ret) .skip))))))<|Zr (sV 152 2 4 2<|Zq 154 false 166 [.t 152,.t 153,.c (Zz 0)]<|Yd 155 154<|Zs 2 8 155<|Zs 2 9 156 .nil) .ret⟩
def ac6:Qc Tryz.prog f91=some XA.strip:=by kernel_rfl
def Xx:ax:=⟨64,[.cell 2 2 true,.t 3],Zr (uu 1 25 0<|Zo (.alloc 2 2 76 (.agg [.aa,.aa]))<|Yf 3 0)<| .seq (Zr (iB 11 2 1 26<|Zm 4 12 .nil)<|Zr (YQ 13 4)<| .cond (.t 14) (Zr (Zo (.cD 15 [.aa,.aa] [])<|Zm 16 4<|Zs 2 2 15<|Yc 3 16) .ret) .skip)<|Zr (Yr 5 76<| .wk<| .wk<| .wk<| .wk .nil)<|Zr (Yf 6 0)<| .seq (Zr (YT 17 0 1<|Yf 20 0)<| .block 0<| .loop<|Zr (Yu 21 20 19)<| .seq (.cond (.t 21) .skip (.exit 0))<| .seq (.block 1<|Zr (Zm 22 20<|ew 23 18 20 8<|Zm 7 22<|Zs 6 8 24 .nil)<|Zr (Zh 26 2 5<| .wk<|Zh 27 2 1<|Yh 28 7 6<|Zq 30 false 91 [.t 26,.t 27,.t 28,.t 29]<|Zm 25 30<|Yd 31 25<|Yr 9 76<| .wk<| .wk<|Yr 10 81<|Zs 2 9 31<|Zs 2 10 32 .nil)<| .seq (Zr (YT 33 1 9<|Zk 36 .gtr 35 64<|Yx 37 36 0 10<|YV 37 4000<|Yx 43 42 1 10<|YV 43 4000 .nil)<| .cond (.t 48) (Zr (Zo (.cD 49 [.aa,.aa] [])<|Zs 2 2 49<|Yf 3 4) .ret) .skip)<|Zr (Zh 50 2 9<| .wk<|Zs 2 5 50 .nil)<|Zr (Ya 51 0 5<|Zh 53 2 10<|YA 54 2 81 53 48 52<|qw 56 0 5 1 55)<|Zr (Ya 57 0 8<|BA 59 58 1)<| .cond (.t 59) (.rg (fO 60 6)) .skip)<| .rg (YC 62 20 20))<|Zr (Zh 63 2 5<| .wk<|Zs 2 2 63<|Yf 3 0) .ret⟩
def ac7:Qc Tryz.prog f42=some Xx.strip:=by kernel_rfl
end Go.Proofs.YtikalonaompbdaaGreat
namespace Go.FW
open Go
variable {C : Ctx} {fr : Fr} {hp : HP} {w : World} {K R : Qf}
variable{P:Program}{ag:Bool}{d k s ty γ:Nat}{q:PV}
def ac8:(∀(O o n:Nat),(PV.aD O o n).dM=[O])/\(∀(k:IntKind)(n:Int),(PV.int k n).dM=[])/\(∀b:Bool,(PV.bool b).dM=[])/\(PV.aa.dM=[])/\(∀(e:Nat)(xs:List PV),(PV.sl e xs).dM=[]):=by refine⟨?_,?_,?_,?_,?_⟩<;>intros<;>rfl
def RR{n m:Nat}(h1:fr s= .np γ 0 0)(h2:fr γ= .aH γ 2 ty [.aU [.aD 2000000 0 n,.aD 2000001 0 m]]):FF fr s 2 [.aD 2000000 0 n,.aD 2000001 0 m]:=
 ⟨γ,0,0,2,ty,_,h1,h2,by simp,Oz,rfl⟩
def aj8{n m t:Nat}{aN:PV->Fr->HP->Prop}(h1:fr s= .np γ 0 0)(h2:fr γ= .aH γ 2 ty [.aU [.aD 2000000 0 n,.aD 2000001 0 m]])(h3:fr t=q)(h4:q.flat=true)
  (h5:aN (.dQ [.aD 2000000 0 n,.aD 2000001 0 m] q) fr hp):lW [.cell s 2 true,.t t] aN fr hp:=by
 subst h3;obtain⟨e1,e2,e3⟩:=tL (hp:=hp) h4;refine RC (RR h1 h2) e2 ?_ ?_
 .show(Qr hp (fr t)).aJ=true;rw[e1];exact e3
 .show aN (.dQ _ (Qr hp (fr t))) fr hp;rw[e1];exact h5
def sv{n m t:Nat}{aN:PV->Fr->HP->Prop}(h1:fr s= .np γ 0 0)(h2:fr γ= .aH γ 2 ty [.aU [.aD 2000000 0 n,.aD 2000001 0 m]])(h3:gv fr hp (.cell t k ag)=q)(h4:q.aJ=true)
  (h5:aN (.dQ [.aD 2000000 0 n,.aD 2000001 0 m] q) fr hp):lW [.cell s 2 true,.cell t k ag] aN fr hp:=by
 subst h3;obtain⟨g1,g2⟩:=tX h4;exact RC (RR h1 h2) rfl g1 (by rw[g2];exact h5)
def MA{p:PV}(h:p.flat=true):p.refs=[]/\p.aO=[]/\∀γ e ty xs,p≠ .aH γ e ty xs:=by cases p<;>first|(cases h;done)|exact⟨rfl,rfl,λ_ _ _ _ h=>by cases h⟩
def sB(hP:C.P=P){g:FuncId}{l:List PV}{n m n' m':Nat}{A B A' B':HB}(h:jc P g (Iq n m::l) (λ_=>.undef) (Qg (Qg aB 2000000 A) 2000001 B) λr _ H=>r= .dQ [.ms 2000000 n',.ms 2000001 m'] q/\H 2000000=some A'/\H 2000001=some B')
  (hA:hp 2000000=some A) (hB:hp 2000001=some B) (fA:A.fz=false) (fB:B.fz=false) (hl:l.all PV.flat=true) (mB:l.length<1000000)
  (hK:K (ae (ep lJ fr) d (.dQ [.ms 2000000 n',.ms 2000001 m'] q)) (Qg (Qg hp 2000000 A') 2000001 B')):eI C false (.fn g [] []) (.aU [.aD 2000000 0 n,.aD 2000001 0 m]::l) (some d) fr hp K:=by
 have we:=Kas.1 hl;refine acV hP h hA hB fA fB (λx hx=>?_) (λγ ak=>?_) (by simp;omega) hK
 .rcases KaA.1 hx with rfl|hx
  .intro _ _ _ _ h;cases h
  .exact(MA (we x hx)).2.2
 .obtain⟨x,hx,ak⟩:=Kat.1 ak;rcases KaA.1 hx with rfl|hx
  .simp[PV.refs,PV.aO,PV.dM]at ak;exact sA.2 ak
  .rw[(MA (we x hx)).1,(MA (we x hx)).2.1]at ak;cases ak
attribute [go_sem] ac8
end Go.FW
