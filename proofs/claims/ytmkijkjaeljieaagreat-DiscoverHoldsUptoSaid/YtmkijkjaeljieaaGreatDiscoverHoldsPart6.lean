/- Part 6 of the proof of DiscoverHolds: CL, X0, FwYB, FwXB, FwYC, FwYD, FwYE, FwYF. Own lemmas; no conditions. -/
import Derived.Test.YtmkijkjaeljieaaGreatDiscoverHoldsPart5
set_option maxHeartbeats 1000000
set_option linter.unusedSimpArgs false
set_option linter.unusedVariables false
set_option linter.unnecessarySimpa false
set_option maxRecDepth 100000
namespace Go.Proofs.YtmkijkjaeljieaaGreat
open Tryz
open Go Go.FW
def c65:az:=⟨17,[.t 2],Zr (Yj 2 0)<| .seq (Zr (Ye 3 0)<| .block 0<| .seq (Zr (Yn 5 3 1 4)<| .cond (.t 4) .skip (.rg (Yn 6 3 5 4)))<| .cond (.t 4) (Zr (Yj 2 3) .ret) (.seq (Zr (Yn 8 3 2 7)<| .cond (.t 7) .skip (Zr (Yn 9 3 3 7)<| .cond (.t 7) .skip (Zr (Yn 10 3 4 7)<| .cond (.t 7) .skip (Zr (Yn 11 3 6 7)<| .cond (.t 7) .skip (.rg (Yn 12 3 9 7))))))<| .cond (.t 7) (Zr (Yj 2 4) .ret) (Zr (Yn 14 3 7 13)<| .cond (.t 13) (Zr (Yj 2 8) .ret) (Zr (Yn 16 3 8 15)<| .cond (.t 15) (Zr (Yj 2 2) .ret) .skip))))<|Zr (Yj 2 0) .ret⟩
theorem Sc:Qd Tryz.prog f65=some c65:=by kernel_rfl
def c66:az:=⟨20,[.t 2],Zr (j0 1 57<|bP 2)<|Zr (Zf 3 0 1<|Yb 4 0 3<|Zu 6 5<|Bd 7 6<|DR 7<|Yp 19 14 18<|Ye 2 19) .ret⟩
theorem ans:Qd Tryz.prog f66=some c66:=by kernel_rfl
def c34:az:=⟨51,[.t 4],Zr (nC 2<|Yj 4 0)<| .seq (Zr (Yb 7 0 2<|Yv 9 65 8<|kN 10 9 0)<| .cond (.t 10) (Zr (Yj 4 8) .ret) .skip)<| .seq (Zr (YI 11 1 2<|Yb 14 0 2<|dJ 16 65 15<|Zb 17 .neq 13 16 .nil)<| .cond (.t 17) (Zr (Yj 4 1) .ret) .skip)<| .seq (Zr (YI 18 1 2<|Yj 21 0)<| .block 0<| .loop<|Zr (Yw 22 21 20)<| .seq (.cond (.t 22) .skip (.exit 0))<| .seq (.block 1<|Zr (Yz 23 19 21<|Ye 6 24)<|Zr (DP 25 6)<| .cond (.t 31) (Zr (Yj 4 2) .ret) .skip)<| .rg (YE 32 21 21))<| .seq (Zr (Yb 33 0 2<|Zk 35 .eql 34 9<|Zm 36 35<|Bf 36 54<|Yp 41 36 40 .nil)<| .cond (.t 41) (Zr (Yj 4 1) .ret) .skip)<| .seq (Zr (Yb 42 0 2<|Zk 44 .neq 43 9<|Zm 45 44<|Bf 45 66<|Yp 50 45 49 .nil)<| .cond (.t 50) (Zr (Yj 4 1) .ret) .skip)<|Zr (Yj 4 0) .ret⟩
theorem ant:Qd Tryz.prog f34=some c34:=by kernel_rfl
def arn:az:=⟨17,[.t 2],Zr (Yj 2 0)<| .seq (Zr (Ye 3 0)<| .block 0<|Zr (Yn 5 3 8 4)<| .cond (.t 4) (Zr (Yj 2 2) .ret) (.seq (Zr (Yn 7 3 1 6)<| .cond (.t 6) .skip (.rg (Yn 8 3 5 6)))<| .cond (.t 6) (Zr (Yj 2 3) .ret) (.seq (Zr (Yn 10 3 2 9)<| .cond (.t 9) .skip (Zr (Yn 11 3 3 9)<| .cond (.t 9) .skip (Zr (Yn 12 3 4 9)<| .cond (.t 9) .skip (Zr (Yn 13 3 6 9)<| .cond (.t 9) .skip (.rg (Yn 14 3 9 9))))))<| .cond (.t 9) (Zr (Yj 2 4) .ret) (Zr (Yn 16 3 7 15)<| .cond (.t 15) (Zr (Yj 2 8) .ret) .skip))))<|Zr (Yj 2 0) .ret⟩
theorem RA:Qd Tryz.prog f154=some arn:=by kernel_rfl
def aro:az:=⟨20,[.t 2],Zr (j0 1 57<|bP 2)<|Zr (Zf 3 0 1<|Yb 4 0 3<|Zu 6 5<|Bd 7 6<|DR 7<|Yp 19 14 18<|Ye 2 19) .ret⟩
theorem akn:Qd Tryz.prog f156=some aro:=by kernel_rfl
def aqQ:az:=⟨53,[.t 4],Zr (nC 2<|Yj 4 0)<|Zr (Yb 8 0 2<|Yv 10 154 9<|Zm 5 10 .nil)<| .seq (Zr (Zm 11 5<|kN 12 11 0)<| .cond (.t 12) (Zr (Yj 4 8) .ret) .skip)<| .seq (Zr (YI 13 1 2<|Zm 16 5<|Zb 17 .neq 15 16 .nil)<| .cond (.t 17) (Zr (Yj 4 1) .ret) .skip)<| .seq (Zr (YI 18 1 2<|Yj 21 0)<| .block 0<| .loop<|Zr (Yw 22 21 20)<| .seq (.cond (.t 22) .skip (.exit 0))<| .seq (.block 1<|Zr (Yz 23 19 21<|Ye 7 24)<|Zr (DP 25 7)<| .cond (.t 31) (Zr (Yj 4 2) .ret) .skip)<| .rg (YE 32 21 21))<| .seq (Zr (Yb 33 0 2<|Zk 35 .eql 34 9<|Zm 36 35<|Bf 36 155<|Yp 41 36 40<|Yu 42 41 0 2<|Zg 42 false (.bin 45 .neq false (.t 44) (.c (Zz 9)))<|Zg 42 false (.mv 46 (.t 45))<|Bf 46 156<|Zg 42 false (.pick 51 (.t 46) (.t 50) (.c (.bool false)))<|Yo 52 42 51 .nil)<| .cond (.t 52) (Zr (Yj 4 1) .ret) .skip)<|Zr (Yj 4 0) .ret⟩
theorem ako:Qd Tryz.prog f124=some aqQ:=by kernel_rfl
def c62:az:=⟨22,[.t 2],Zr (Yj 2 0)<| .seq (Zr (Ye 3 0)<| .block 0<|Zr (Yn 5 3 1 4)<| .cond (.t 4) (Zr (Yj 2 0) .ret) (.seq (Zr (Yn 7 3 2 6)<| .cond (.t 6) .skip (Zr (Yn 8 3 5 6)<| .cond (.t 6) .skip (Zr (Yn 9 3 6 6)<| .cond (.t 6) .skip (.rg (Yn 10 3 14 6)))))<| .cond (.t 6) (Zr (Yj 2 2) .ret) (.seq (Zr (Yn 12 3 3 11)<| .cond (.t 11) .skip (Zr (Yn 13 3 4 11)<| .cond (.t 11) .skip (Zr (Yn 14 3 7 11)<| .cond (.t 11) .skip (Zr (Yn 15 3 8 11)<| .cond (.t 11) .skip (Zr (Yn 16 3 10 11)<| .cond (.t 11) .skip (.rg (Yn 17 3 11 11)))))))<| .cond (.t 11) (Zr (Yj 2 3) .ret) (.seq (Zr (Yn 19 3 9 18)<| .cond (.t 18) .skip (Zr (Yn 20 3 12 18)<| .cond (.t 18) .skip (.rg (Yn 21 3 13 18))))<| .cond (.t 18) (Zr (Yj 2 4) .ret) .skip))))<|Zr (Zc 2 (-1) .nil) .ret⟩
theorem Sd:Qd Tryz.prog f62=some c62:=by kernel_rfl
def c63:az:=⟨20,[.t 2],Zr (j0 1 57<|bP 2)<|Zr (Zf 3 0 1<|Yb 4 0 3<|Zu 6 5<|Bd 7 6<|DR 7<|Yp 19 14 18<|Ye 2 19) .ret⟩
theorem anu:Qd Tryz.prog f63=some c63:=by kernel_rfl
def aqA:az:=⟨17,[.t 2],Zr (bP 2)<|Zr (Zm 3 0<|Zo (.bin 4 .geq false (.t 3) (.c (.int .u8 65)))<|j' 5 4 0<|Zg 5 true (.bin 7 .leq false (.t 6) (.c (.int .u8 90)))<|Yp 8 5 7<|YP 9 8 0<|Zg 9 false (.bin 11 .geq false (.t 10) (.c (.int .u8 97)))<|Zg 9 false (.mv 12 (.t 11))<|Zg 12 true (.mv 13 (.t 0))<|Zg 12 true (.bin 14 .leq false (.t 13) (.c (.int .u8 122)))<|Zg 9 false (.pick 15 (.t 12) (.t 14) (.c (.bool false)))<|Yo 16 9 15<|Ye 2 16) .ret⟩
theorem akp:Qd Tryz.prog f104=some aqA:=by kernel_rfl
def aqB:az:=⟨9,[.t 2],Zr (bP 2)<|Zr (Zm 3 0<|Zo (.bin 4 .geq false (.t 3) (.c (.int .u8 48)))<|j' 5 4 0<|Zg 5 true (.bin 7 .leq false (.t 6) (.c (.int .u8 57)))<|Yp 8 5 7<|Zm 2 8 .nil) .ret⟩
theorem akq:Qd Tryz.prog f105=some aqB:=by kernel_rfl
def aqC:az:=⟨2,[.t 0],Zr (YK 0)<|Zr (Zo (.bs 1 1 9 [.c (.str ⟨#[0x61,0x6e,0x67,0x6c,0x65]⟩),.c (.str ⟨#[0x61,0x70,0x65,0x78]⟩),.c (.str ⟨#[0x62,0x69,0x73,0x65,0x63,0x74,0x6f,0x72]⟩),.c (.str ⟨#[0x63,0x65,0x6e,0x74,0x65,0x72]⟩),.c (.str ⟨#[0x63,0x69,0x72,0x63,0x6c,0x65]⟩),.c (.str ⟨#[0x63,0x69,0x72,0x63,0x75,0x6d]⟩),.c (.str ⟨#[0x63,0x6f,0x6c,0x6c,0x69,0x6e,0x65,0x61,0x72]⟩),.c (.str ⟨#[0x63,0x6f,0x6d,0x6d,0x6f,0x6e]⟩),.c (.str ⟨#[0x63,0x6f,0x6e,0x63,0x79,0x63,0x6c,0x69,0x63]⟩),.c (.str ⟨#[0x63,0x6f,0x6e,0x67,0x72,0x75,0x65,0x6e,0x74]⟩),.c (.str ⟨#[0x63,0x72,0x6f,0x73,0x73]⟩),.c (.str ⟨#[0x63,0x75,0x74]⟩),.c (.str ⟨#[0x64,0x69,0x76,0x69,0x64,0x65]⟩),.c (.str ⟨#[0x66,0x6f,0x6f,0x74]⟩),.c (.str ⟨#[0x6c,0x69,0x6e,0x65]⟩),.c (.str ⟨#[0x6d,0x65,0x65,0x74]⟩),.c (.str ⟨#[0x6d,0x69,0x64,0x70,0x6f,0x69,0x6e,0x74]⟩),.c (.str ⟨#[0x6d,0x69,0x72,0x72,0x6f,0x72]⟩),.c (.str ⟨#[0x6f,0x6e]⟩),.c (.str ⟨#[0x6f,0x74,0x68,0x65,0x72]⟩),.c (.str ⟨#[0x70,0x61,0x72,0x61,0x6c,0x6c,0x65,0x6c]⟩),.c (.str ⟨#[0x70,0x65,0x72,0x70,0x65,0x6e,0x64,0x69,0x63,0x75,0x6c,0x61,0x72]⟩),.c (.str ⟨#[0x70,0x6f,0x69,0x6e,0x74,0x73]⟩),.c (.str ⟨#[0x70,0x72,0x6f,0x76,0x65]⟩),.c (.str ⟨#[0x72,0x61,0x74,0x69,0x6f]⟩),.c (.str ⟨#[0x72,0x65,0x66,0x6c,0x65,0x63,0x74]⟩),.c (.str ⟨#[0x73,0x61,0x6d,0x65]⟩),.c (.str ⟨#[0x73,0x68,0x69,0x66,0x74]⟩),.c (.str ⟨#[0x74,0x75,0x72,0x6e]⟩)])<|Zm 0 1 .nil) .ret⟩
theorem akr:Qd Tryz.prog f106=some aqC:=by kernel_rfl
def c55:az:=⟨59,[.t 2],Zr (dP 1 25 0<|bP 2)<|Zr (Zh 8 2 1<|Yv 9 99 8<|Zm 3 9 .nil)<| .seq (Zr (Yj 4 0)<| .block 0<| .loop<| .seq (Zr (YN 10 4 3)<| .cond (.t 13) .skip (.exit 0))<| .seq (.block 1<|Zr (j1 16 3 4<|Zk 20 .gtr 19 8 .nil)<| .cond (.t 20) (Zr (bP 2) .ret) .skip)<| .rg (kO 14 4 4))<| .seq (Zr (Yj 5 0)<| .block 2<| .loop<| .seq (Zr (mF 21 5 1 1)<| .cond (.t 25) .skip (.exit 2))<| .seq (.block 3<|Zr (eu 28 1 1 5<|dW 31 5 29 30<|Zo (.alloc 6 5 59 (.agg [Zz 0,.ab,.bool false,.ab,.ab]))<|Zs 5 6 32 .nil)<|Zr (Yj 7 0)<| .block 4<| .loop<| .seq (Zr (mF 33 7 1 6)<| .cond (.t 37) .skip (.exit 4))<| .seq (.block 5<|Zr (Yb 40 0 6<|Zk 42 .eql 41 6<|Yu 43 42 0 6<|Zg 43 false (.bin 46 .eql false (.t 45) (.c (Zz 7)))<|Yo 47 43 46<|j' 48 47 3<|Zg 48 true (.bG 50 1 (.t 6))<|Zg 48 true (.ld 51 1 false (.t 50))<|Zg 48 true (.mv 52 (.t 7))<|Zg 48 true (.idx 53 1 (.t 51) (.t 52))<|Zg 48 true (.ld 54 1 false (.t 53))<|Zg 48 true (.idx 55 1 (.t 49) (.t 54))<|Zg 48 true (.ld 56 1 false (.t 55))<|Zg 48 true (.bin 57 .gtr false (.t 56) (.c (Zz 3)))<|Yp 58 48 57 .nil)<| .cond (.t 58) (Zr (bP 2) .ret) .skip)<| .rg (YA 38 7))<| .rg (YA 26 5))<|Zr (YX 2) .ret⟩
theorem anv:Qd Tryz.prog f55=some c55:=by kernel_rfl
def c99:az:=⟨85,[.t 2],Zr (dP 1 25 0<|YK 2)<|Zr (YK 3)<| .seq (Zr (Yj 4 0)<| .block 0<| .loop<| .seq (Zr (mF 7 4 0 1)<| .cond (.t 11) .skip (.exit 0))<| .seq (.block 1<|Zr (lZ 14 0 1 4 6<|Yb 18 2 17<|Zm 5 19<|Yj 6 1)<| .seq (Zr (lZ 20 0 1 4 6<|Yb 24 0 23 .nil)<| .block 2<|Zr (Yn 27 25 2 26)<| .cond (.t 26) (.rg (Zm 28 3<|ir 29 5 0<|Yz 32 28 31<|Zm 34 3<|ir 35 5 1<|Yz 38 34 37<|dM 40 33 39<|Ye 6 40)) (.seq (Zr (Yn 42 25 3 41)<| .cond (.t 41) .skip (.rg (Yn 43 25 4 41)))<| .cond (.t 41) (.rg (Zm 44 3<|ir 45 5 0<|Yz 48 44 47<|Zm 50 3<|ir 51 5 1<|Yz 54 50 53<|dM 56 49 55<|Zm 57 3<|ir 58 5 2<|Yz 61 57 60<|dM 63 56 62<|Ye 6 63)) (Zr (Yn 65 25 5 64)<| .cond (.t 64) (.rg (Zm 66 3<|ir 67 5 0<|Yz 70 66 69<|Zo (.bin 72 .mul false (.c (Zz 2)) (.t 71))<|Zm 73 3<|ir 74 5 1<|Yz 77 73 76<|dM 79 72 78<|Ye 6 79)) .skip)))<| .rg (Ym 80 3 6<|Yy 82 1 3 81 8 80<|Ye 3 83))<| .rg (kO 12 4 4))<|Zr (gU 84 3 2) .ret⟩
theorem anw:Qd Tryz.prog f99=some c99:=by kernel_rfl
def c26:az:=⟨81,[.t 2],Zr (dP 1 25 0<|bP 2)<| .seq (Zr (YI 5 0 1<|Zk 8 .gtr 7 8<|YL 9 8 1 1 3<|Zm 15 14<|Zg 15 false (.ld 16 2 true (.t 1))<|Zg 15 false (.call (some 17) false (.c (.fn 15 [] [])) [.t 16])<|Zg 15 false (.bin 18 .neq false (.t 17) (.c (Zz 0)))<|Yo 19 15 18<|Bg 20 19 2 1 55 .nil)<| .cond (.t 24) (Zr (bP 2) .ret) .skip)<| .seq (Zr (Yj 3 0)<| .block 0<| .loop<| .seq (Zr (mF 25 3 0 1)<| .cond (.t 29) .skip (.exit 0))<| .seq (.block 1<|Zr (lZ 32 0 1 3 6<|Zf 36 3 35<|Zf 37 0 36<|YI 38 1 37<|Zk 41 .gtr 40 2<|Yu 42 41 0 1<|Zg 42 false (.mv 45 (.t 3))<|Zg 42 false (.idx 46 6 (.t 44) (.t 45))<|DS 42 3 2 .nil)<| .cond (.t 52) (Zr (bP 2) .ret) .skip)<| .rg (YA 30 3))<| .seq (Zr (Yj 4 0)<| .block 2<| .loop<| .seq (Zr (mF 53 4 1 1)<| .cond (.t 57) .skip (.exit 2))<| .seq (.block 3<|Zr (lZ 60 1 1 4 5<|Zf 64 2 63<|Zf 65 0 64<|YI 66 1 65<|Zk 69 .gtr 68 2<|Yu 70 69 1 1<|Zg 70 false (.mv 73 (.t 4))<|Zg 70 false (.idx 74 5 (.t 72) (.t 73))<|DS 70 2 2 .nil)<| .cond (.t 80) (Zr (bP 2) .ret) .skip)<| .rg (YA 58 4))<|Zr (YX 2) .ret⟩
theorem anx:Qd Tryz.prog f26=some c26:=by kernel_rfl
def c15:az:=⟨48,[.t 2],Zr (dP 1 25 0<|Yj 2 0)<| .seq (Zr (YI 8 0 1<|Zk 11 .gtr 10 40<|YL 12 11 1 1 8 .nil)<| .cond (.t 17) (Zr (Yj 2 4) .ret) .skip)<| .seq (Zr (YI 18 0 1<|Yj 21 0)<| .block 0<| .loop<|Zr (Yw 22 21 20)<| .seq (.cond (.t 22) .skip (.exit 0))<| .seq (.block 1<|Zr (gU 23 21 3)<|Zr (eu 24 0 1 3<|Zq 27 false 33 [.t 25,.t 26]<|Ye 4 27)<|Zr (YU 28 4)<| .cond (.t 29) (Zr (gU 30 4 2) .ret) .skip)<| .rg (YE 31 21 21))<| .seq (Zr (YI 32 1 1<|Yj 35 0)<| .block 2<| .loop<|Zr (Yw 36 35 34)<| .seq (.cond (.t 36) .skip (.exit 2))<| .seq (.block 3<|Zr (dW 37 5 33 35<|Zo (.alloc 6 5 59 (.agg [Zz 0,.ab,.bool false,.ab,.ab]))<|Zs 5 6 38 .nil)<|Zr (Zh 39 5 6<|YI 40 0 1<|Yr 43 34 39 42<|Ye 7 43)<|Zr (YU 44 7)<| .cond (.t 45) (Zr (gU 46 7 2) .ret) .skip)<| .rg (YE 47 35 35))<|Zr (Yj 2 0) .ret⟩
theorem anz:Qd Tryz.prog f15=some c15:=by kernel_rfl
def c33:az:=⟨81,[.t 4],Zr (Yj 4 0)<|Zr (Ym 10 0 1<|yE 12 10 11 5<|Zs 6 5 13 .nil)<| .seq (Zr (Yb 14 0 5<|Yv 16 62 15<|Zk 17 .lss 16 0 .nil)<| .cond (.t 17) (Zr (Yj 4 8) .ret) .skip)<| .seq (Zr (YI 18 2 5<|Yb 21 0 5<|dJ 23 62 22<|Zb 24 .neq 20 23 .nil)<| .cond (.t 24) (Zr (Yj 4 1) .ret) .skip)<| .seq (Zr (YI 25 2 5<|Yj 28 0)<| .block 0<| .loop<|Zr (Yw 29 28 27)<| .seq (.cond (.t 29) .skip (.exit 0))<| .seq (.block 1<|Zr (Yz 30 26 28<|Ye 7 31)<|Zr (DP 32 7)<| .cond (.t 38) (Zr (Yj 4 2) .ret) .skip)<| .rg (YE 39 28 28))<| .seq (Zr (Yb 40 0 5<|Zk 42 .eql 41 2<|Zm 43 42<|Zg 43 true (.bG 44 3 (.t 5))<|Zg 43 true (.ld 45 3 true (.t 44))<|Zg 43 true (.call (some 46) false (.c (.fn 54 [] [])) [.t 45])<|Zg 43 true (.un 47 .not (.t 46))<|Yp 48 43 47<|Yu 49 48 0 5<|Zg 49 false (.bin 52 .neq false (.t 51) (.c (Zz 2)))<|Zg 49 false (.mv 53 (.t 52))<|Zg 53 true (.bG 54 3 (.t 5))<|Zg 53 true (.ld 55 3 true (.t 54))<|Zg 53 true (.call (some 56) false (.c (.fn 63 [] [])) [.t 55])<|Zg 53 true (.un 57 .not (.t 56))<|Zg 49 false (.pick 58 (.t 53) (.t 57) (.c (.bool false)))<|Yo 59 49 58 .nil)<| .cond (.t 59) (Zr (Yj 4 1) .ret) .skip)<| .seq (Zr (Yb 60 1 5<|Zo (.zP 62 false (.t 61) (.c (.str ⟨#[]⟩))) .nil)<| .cond (.t 62) (Zr (Yj 4 0) .ret) .skip)<| .seq (Zr (Yb 63 1 5<|Yv 65 64 64<|Zu 66 65 .nil)<| .cond (.t 66) (Zr (Yj 4 6) .ret) .skip)<| .seq (Zr (Ym 67 0 1<|Zo (.sl 69 6 (.t 67) none (some (.t 68)) none)<|Zn 70 69<|Yj 71 0)<| .block 2<| .loop<|Zr (Yw 72 71 70)<| .seq (.cond (.t 72) .skip (.exit 2))<| .seq (.block 3<|Zr (yE 73 69 71 9<|Zs 6 9 74 .nil)<|Zr (cV 75 1 9 1 5<|Zo (.zP 79 false (.t 76) (.t 78)) .nil)<| .cond (.t 79) (Zr (Yj 4 7) .ret) .skip)<| .rg (YE 80 71 71))<|Zr (Yj 4 0) .ret⟩
theorem anA:Qd Tryz.prog f33=some c33:=by kernel_rfl
def c70:az:=⟨12,[.t 6],Zr (YK 6)<|Zr (eG 7 0 1 2<|Yr 10 50 8 9<|Yr 11 78 7 10<|Zm 6 11 .nil) .ret⟩
theorem anB:Qd Tryz.prog f70=some c70:=by kernel_rfl
def c69:az:=⟨28,[.cell 6 2 true],Zr (YM 3 2 98 0<|YM 4 2 98 1<|YT 6 98 .nil)<|Zr (eu 7 0 3 2<|cV 10 0 4 0 3<|eu 17 1 3 2<|cV 20 1 4 1 3<|jb 14 50 11 13 75 9<|Yf 16 78 8 15<|jb 24 50 21 23 75 19<|Yf 26 78 18 25<|Zo (.dY 27 [.ab,.ab] [(0,1,.t 16),(1,1,.t 26)])<|Zs 2 6 27 .nil) .ret⟩
theorem anC:Qd Tryz.prog f69=some c69:=by kernel_rfl
def c40:az:=⟨32,[.t 8],Zr (YM 4 2 98 0<|YM 5 2 98 1<|YM 6 2 98 2<|YM 7 2 98 3<|YK 8)<|Zr (cV 9 0 5 0 4<|cV 14 1 7 1 6<|cV 20 1 5 1 4<|cV 25 0 7 0 6<|Yf 13 50 10 12<|jb 18 50 15 17 75 13<|Yf 24 50 21 23<|jb 29 50 26 28 75 24<|Yf 31 50 19 30<|Ye 8 31) .ret⟩
theorem anD:Qd Tryz.prog f40=some c40:=by kernel_rfl
def c74:az:=⟨32,[.t 8],Zr (YM 4 2 98 0<|YM 5 2 98 1<|YM 6 2 98 2<|YM 7 2 98 3<|YK 8)<|Zr (cV 9 0 5 0 4<|cV 14 0 7 0 6<|cV 20 1 5 1 4<|cV 25 1 7 1 6<|Yf 13 50 10 12<|jb 18 50 15 17 75 13<|Yf 24 50 21 23<|jb 29 50 26 28 75 24<|Yf 31 78 19 30<|Ye 8 31) .ret⟩
theorem anE:Qd Tryz.prog f74=some c74:=by kernel_rfl
def c39:az:=⟨10,[.t 4],Zr (dX 2 98 0<|YM 3 2 98 1<|YK 4)<|Zr (YO 5 2 2 2 3<|YO 7 2 2 2 3<|Zq 9 false 74 [.t 5,.t 6,.t 7,.t 8]<|Zm 4 9 .nil) .ret⟩
theorem anF:Qd Tryz.prog f39=some c39:=by kernel_rfl
def c80:az:=⟨16,[.t 8],Zr (YK 8)<|Zr (fU 9 0 3 75<|fU 12 2 1 75<|Yr 15 50 11 14<|Zm 8 15 .nil) .ret⟩
theorem anG:Qd Tryz.prog f80=some c80:=by kernel_rfl
def c20:az:=⟨34,[.t 4,.t 5],Zr (nC 2<|YM 3 2 33 1<|fJ 4 0)<| .seq (Zr (Zh 9 5 2<|YI 10 0 3<|Yr 13 34 9 12<|Zm 6 13 .nil)<|Zr (YU 14 6)<| .cond (.t 15) (Zr (Zm 16 6<|Yk 4<|Zm 5 16 .nil) .ret) .skip)<|Zr (Zh 17 5 2<|Yb 18 0 3<|Yr 20 42 17 19<|Ye 7 20)<| .seq (Zr (Yj 8 0)<| .block 0<| .loop<| .seq (Zr (YN 21 8 7)<| .cond (.t 24) .skip (.exit 0))<| .seq (.block 1<|Zr (j1 27 7 8<|Zn 31 30<|Zk 32 .gtr 31 4000 .nil)<| .cond (.t 32) (Zr (fJ 4 4) .ret) .skip)<| .rg (YA 25 8))<|Zr (Zm 33 7<|jd 4 33) .ret⟩
theorem anH:Qd Tryz.prog f20=some c20:=by kernel_rfl
def c58:az:=⟨25,[.t 2],Zr (YK 2)<|Zr (YK 3)<| .seq (Zr (jd 6 0)<| .block 0<| .loop<|Zr (Yw 8 7 6)<| .seq (.cond (.t 8) .skip (.exit 0))<| .seq (.block 1<|Zr (Zm 9 7<|Zm 4 9 .nil)<|Zr (kO 10 4 5)<| .block 2<| .loop<| .seq (Zr (Ym 12 5 0<|Yw 14 12 13)<| .cond (.t 14) .skip (.exit 2))<| .seq (.block 3<| .rg (eG 17 3 4 5<|Zo (.dY 20 [Zz 0,Zz 0] [(0,1,.t 18),(1,1,.t 19)])<|Yy 21 2 88 20 16 17<|Ye 3 22))<| .rg (kO 15 5 5))<| .rg (jZ 23 7))<|Zr (gU 24 3 2) .ret⟩
theorem anI:Qd Tryz.prog f58=some c58:=by kernel_rfl
def c29:az:=⟨31,[.t 4],Zr (dX 2 88 0<|YM 3 2 88 1<|bP 4)<|Zr (cV 5 0 2 0 3<|Zb 9 .neq 6 8<|DO 10 9 0 1<|DO 17 16 1 0<|DO 24 23 1 1<|Ye 4 30) .ret⟩
theorem anJ:Qd Tryz.prog f29=some c29:=by kernel_rfl
def c30:az:=⟨17,[.t 4],Zr (dX 2 88 0<|YM 3 2 88 1<|bP 4)<|Zr (cV 5 0 2 0 3<|Zb 9 .neq 6 8<|Yu 10 9 1 2<|Zg 10 false (.bG 13 1 (.t 3))<|Zg 10 false (.ld 14 1 false (.t 13))<|Zg 10 false (.bin 15 .neq false (.t 12) (.t 14))<|Yo 16 10 15<|Zm 4 16 .nil) .ret⟩
theorem anK:Qd Tryz.prog f30=some c30:=by kernel_rfl
def c60:az:=⟨11,[.t 4],Zr (Yj 4 0)<| .seq (Zr (Ym 5 0 1<|Yw 7 5 6)<| .cond (.t 7) (Zr (Zc 4 (-1) .nil) .ret) .skip)<| .seq (Zr (Ym 8 0 1<|Zb 10 .gtr 8 9 .nil)<| .cond (.t 10) (Zr (Yj 4 1) .ret) .skip)<|Zr (Yj 4 0) .ret⟩
theorem anL:Qd Tryz.prog f60=some c60:=by kernel_rfl
def c32:az:=⟨74,[.t 4],Zr (nC 2<|Zo (.box 3 5 59 (.t 1))<|Yj 4 0)<| .seq (Zr (cV 6 0 2 0 3<|Zb 10 .neq 7 9 .nil)<| .cond (.t 10) (Zr (cV 11 0 2 0 3<|Yr 15 60 12 14<|Zm 4 15 .nil) .ret) .skip)<| .seq (Zr (Yj 5 0)<| .block 0<| .loop<| .seq (Zr (Zm 16 5<|YI 17 1 2<|Zb 20 .lss 16 19<|j' 21 20 5<|Zg 21 true (.bG 23 1 (.t 3))<|Zg 21 true (.ld 24 1 false (.t 23))<|Zg 21 true (.len 25 (.t 24))<|Zg 21 true (.bin 26 .lss false (.t 22) (.t 25))<|Yp 27 21 26 .nil)<| .cond (.t 27) .skip (.exit 0))<| .seq (.block 1<|Zr (eu 30 1 2 5<|Yz 33 31 32<|eu 35 1 3 5<|Yz 38 36 37<|Zb 40 .neq 34 39 .nil)<| .cond (.t 40) (Zr (eu 41 1 2 5<|Yz 44 42 43<|eu 46 1 3 5<|Yz 49 47 48<|Zq 51 false 60 [.t 45,.t 50]<|Ye 4 51) .ret) .skip)<| .rg (YA 28 5))<| .seq (Zr (YI 52 1 2<|YI 55 1 3<|Zb 58 .neq 54 57 .nil)<| .cond (.t 58) (Zr (YI 59 1 2<|YI 62 1 3<|Yr 65 60 61 64<|Ye 4 65) .ret) .skip)<| .seq (Zr (Yb 66 0 2<|Zk 68 .neq 67 9 .nil)<| .cond (.t 68) (Zr (Yj 4 0) .ret) .skip)<|Zr (YC 69 2 2 3<|YC 71 2 3 3<|Yr 73 61 70 72<|Ye 4 73) .ret⟩
theorem Sp:Qd Tryz.prog f32=some c32:=by kernel_rfl
def c14:az:=⟨9,[.t 4],Zr (nC 2<|Zo (.box 3 5 59 (.t 1))<|bP 4)<|Zr (Zh 5 5 2<|Zh 6 5 3<|Yr 7 32 5 6<|Yn 8 7 0 4) .ret⟩
theorem Sq:Qd Tryz.prog f14=some c14:=by kernel_rfl
def Bm:az:=⟨27,[.t 4],Zr (bP 4)<| .seq (Zr (YB 6 0<|YB 8 1<|Zb 10 .neq 7 9 .nil)<| .cond (.t 10) (Zr (bP 4) .ret) .skip)<| .seq (Zr (Yj 5 0)<| .block 0<| .loop<| .seq (Zr (YN 11 5 0)<| .cond (.t 14) .skip (.exit 0))<| .seq (.block 1<|Zr (Ym 17 0 5<|dW 19 5 17 18<|Ym 21 1 5<|dW 23 5 21 22<|Yr 25 14 20 24<|Zu 26 25 .nil)<| .cond (.t 26) (Zr (bP 4) .ret) .skip)<| .rg (kO 15 5 5))<|Zr (YX 4) .ret⟩
theorem anM:Qd Tryz.prog f10=some Bm:=by kernel_rfl
def c6:az:=⟨37,[.t 0],Zr (bP 0)<|Zr (Zq 6 false 13 [.c (Zz 3)]<|Zm 5 6<|Yh 7 5<|Zm 1 7<|Zm 2 8 .nil)<|Zr (Zq 10 false 13 [.c (Zz 4)]<|Zm 9 10<|Yh 11 9<|Zm 3 11<|Zm 4 12 .nil)<|Zr (Zm 13 2<|Zk 14 .eql 13 0<|j' 15 14 4<|Zg 15 true (.bin 17 .eql false (.t 16) (.c (Zz 0)))<|Yp 18 15 17<|j' 19 18 1<|Zg 19 true (.len 21 (.t 20))<|Zg 19 true (.bin 22 .eql false (.t 21) (.c (Zz 13)))<|Yp 23 19 22<|j' 24 23 3<|Zg 24 true (.len 26 (.t 25))<|Zg 24 true (.bin 27 .eql false (.t 26) (.c (Zz 56)))<|Yp 28 24 27<|j' 29 28 1<|Zg 29 true (.idx 31 5 (.t 30) (.c (Zz 0)))<|Zg 29 true (.ld 32 5 true (.t 31))<|Zg 29 true (.bs 33 1 3 [.c (Zz 0),.c (Zz 1),.c (Zz 2)])<|Zg 29 true (.dY 34 [Zz 0,.ab,.bool false,.ab,.ab] [(0,1,.c (Zz 1)),(1,1,.t 33)])<|Zg 29 true (.call (some 35) false (.c (.fn 14 [] [])) [.t 32,.t 34])<|Yp 36 29 35<|Ye 0 36) .ret⟩
theorem aoZ:Qd Tryz.prog Tryz.f6=some c6:=by kernel_rfl
end Go.Proofs.YtmkijkjaeljieaaGreat
namespace Go.FW
open Go
variable {C : Ctx} {fr : Fr} {hp : HP} {w : World} {K R : Qg}
theorem anN:(∀(O o n:Nat),(PV.ax O o n).dO=[O])/\(∀(k:IntKind)(n:Int),(PV.int k n).dO=[])/\(∀b:Bool,(PV.bool b).dO=[])/\(PV.ab.dO=[])/\(∀(e:Nat)(xs:List PV),(PV.sl e xs).dO=[]):=by refine⟨?_,?_,?_,?_,?_⟩<;>intros<;>rfl
theorem P1{s n m γ ty:Nat}(h1:fr s= .np γ 0 0)(h2:fr γ= .aJ γ 2 ty [.aP [.ax 2000000 0 n,.ax 2000001 0 m]]):Iz fr s 2 [.ax 2000000 0 n,.ax 2000001 0 m]:=
 ⟨γ,0,0,2,ty,_,h1,h2,by simp,by omega,rfl⟩
theorem aha{s n m γ ty t:Nat}{q:PV}{bm:PV->Fr->HP->Prop}(h1:fr s= .np γ 0 0)(h2:fr γ= .aJ γ 2 ty [.aP [.ax 2000000 0 n,.ax 2000001 0 m]])(h3:fr t=q)(h4:q.flat=true)
  (h5:bm (.dx [.ax 2000000 0 n,.ax 2000001 0 m] q) fr hp):ve [.cell s 2 true,.t t] bm fr hp:=by
 subst h3;obtain⟨e1,e2,e3⟩:=ru (hp:=hp) h4;refine Pq (P1 h1 h2) e2 ?_ ?_
 ·show(Qr hp (fr t)).aG=true;rw[e1];exact e3
 ·show bm (.dx _ (Qr hp (fr t))) fr hp;rw[e1];exact h5
theorem rm{s n m γ ty t k:Nat}{ag:Bool}{q:PV}{bm:PV->Fr->HP->Prop}(h1:fr s= .np γ 0 0)(h2:fr γ= .aJ γ 2 ty [.aP [.ax 2000000 0 n,.ax 2000001 0 m]])(h3:gv fr hp (.cell t k ag)=q)(h4:q.aG=true)
  (h5:bm (.dx [.ax 2000000 0 n,.ax 2000001 0 m] q) fr hp):ve [.cell s 2 true,.cell t k ag] bm fr hp:=by
 subst h3;obtain⟨g1,g2⟩:=Iw h4;exact Pq (P1 h1 h2) rfl g1 (by rw[g2];exact h5)
theorem LV{p:PV}(h:p.flat=true):p.refs=[]/\p.aV=[]/\∀γ e ty xs,p≠ .aJ γ e ty xs:=by cases p<;>first|(cases h;done)|exact⟨rfl,rfl,fun _ _ _ _ h=>by cases h⟩
theorem rA{P:Program}(hP:C.P=P){g:FuncId}{l:List PV}{d n m n' m':Nat}{A B A' B':HB}{q:PV}(h:Ax P g (GA n m::l) (fun _=>.undef) (Qj (Qj aA 2000000 A) 2000001 B) fun r _ H=>r= .dx [.ms 2000000 n',.ms 2000001 m'] q/\H 2000000=some A'/\H 2000001=some B')
  (hA:hp 2000000=some A) (hB:hp 2000001=some B) (fA:A.fz=false) (fB:B.fz=false) (hl:l.all PV.flat=true) (qQ:l.length<1000000)
  (hK:K (ae (iZ mm fr) d (.dx [.ms 2000000 n',.ms 2000001 m'] q)) (Qj (Qj hp 2000000 A') 2000001 B')):gF C false (.fn g [] []) (.aP [.ax 2000000 0 n,.ax 2000001 0 m]::l) (some d) fr hp K:=by
 have ss:=Kav.1 hl;refine anp hP h hA hB fA fB (fun x hx=>?_) (fun γ ah=>?_) (by simp;omega) hK
 ·rcases KaH.1 hx with rfl|hx
  ·intro _ _ _ _ h;cases h
  ·exact(LV (ss x hx)).2.2
 ·obtain⟨x,hx,ah⟩:=Kaq.1 ah;rcases KaH.1 hx with rfl|hx
  ·simp[PV.refs,PV.aV,PV.dO]at ah;exact Ay.2 ah
  ·rw[(LV (ss x hx)).1,(LV (ss x hx)).2.1]at ah;cases ah
attribute [go_sem] anN
end Go.FW
namespace Go.FW
open Go
variable {fr : Fr} {hp : HP}
theorem ane{O e ty:Nat}{xs xs':List PV}{fz:Bool}(aj:hp O=some ⟨e,ty,xs,fz⟩)(hl:xs'.length=xs.length)
  (hc:∀(i:Nat)(x x':PV),xs[i]? =some x->xs'[i]? =some x'->x'.aG=true/\x'.cells.length=x.cells.length/\∀(j:Nat)(y y':PV),x.cells[j]? =some y->x'.cells[j]? =some y'->PV.nY y y'):
  Wk fr hp fr (Qj hp O ⟨e,ty,xs',fz⟩):=by
 rintro C tmps w ⟨ρ,hs⟩;obtain⟨hp',nU⟩:∃f,f=Qj hp O ⟨e,ty,xs',fz⟩:=⟨_,rfl⟩
 rw[<-nU];have OF:hp' O=some ⟨e,ty,xs',fz⟩:=by rw[nU];simp[Qj]
 have po:∀γ,γ≠O->hp' γ=hp γ:=fun γ ah=>by rw[nU];simp[Qj,ah]
 have back:∀(i:Nat)(x':PV),xs'[i]? =some x'->∃x,xs[i]? =some x:=fun i x' h=>by have hi:i<xs'.length:=(Kaf.1 h).1;exact⟨xs[i]'(by omega),by simp⟩
 have hX:∀c,aI C ρ hp' c->aI C ρ hp c:=by
  rintro c (hx|⟨γ,hb,g1,g2,g3⟩)
  ·exact .inl hx
  ·by_cases ah:γ=O
   ·subst ah;rw[OF]at g1;cases g1;exact .inr ⟨γ,_,aj,g2,g3⟩
   ·rw[po γ ah]at g1;exact .inr ⟨γ,hb,g1,g2,g3⟩
 have bq:nt w w (aI C ρ hp) (aI C ρ hp'):=⟨fun _ _ _=>rfl,fun c _ hn h=>hn (hX c h),Kae _⟩
 have c1:∀γ,qv ρ ρ hp hp' w w γ:=fun γ=>by
  by_cases ah:γ=O
  ·subst ah;refine⟨rfl,fun hb hq=>?_⟩;rw[aj]at hq;cases hq;exact⟨_,OF,rfl,by show xs.length<=xs'.length;omega,fun _ _ _ h=>h,fun h=>⟨KbV (by rw[show xs=[]from h]at hl;exact hl),rfl,fun _ _=>rfl⟩⟩
  ·exact⟨rfl,fun hb hq=>⟨hb,by rw[po γ ah];exact hq,rfl,Kae _,fun _ _ _ h=>h,fun h=>⟨h,rfl,fun _ _=>rfl⟩⟩⟩
 refine⟨ρ,hs.sz,hs.ext,hs.fI,fun γ bw ah=>?_,fun γ δ c g1 g2 g3 g4=>?_,fun i=>?_⟩
 ·by_cases hq:γ=O
  ·subst hq;rw[OF]at ah;cases ah;have h:=hs.own γ _ aj;refine⟨h.lE,fun i x' aX=>?_,?_,h.fix,h.ro⟩
   ·obtain⟨x,hx⟩:=back i x' aX;obtain⟨d1,d2,_⟩:=hc i x x' hx aX;exact⟨d2.trans (h.len i x hx).1,d1⟩
   ·have bc:=h.bV;cases hr:ρ γ with
    |none=>rw[hr]at bc;exact KbV (by rw[show xs=[]from bc]at hl;exact hl)
    |some b=>
     rw[hr]at bc;obtain⟨b1,b2,cur,cap,k1,k2,k3,k4,k5⟩:=bc;refine⟨b1,b2,cur,cap,k1,k2,by show xs'.length<=cap;have:xs.length<=cap:=k3;omega,k4,fun i x' aX j y' oV=>?_⟩;obtain⟨x,hx⟩:=back i x' aX;obtain⟨_,d2,d3⟩:=hc i x x' hx aX;have hj:j<x'.cells.length:=(Kaf.1 oV).1;have hy:x.cells[j]? =some (x.cells[j]'(by omega)):=by simp
     exact((k5 i x hx j _ hy).le (d3 j _ y' hy oV)).sub hX
  ·rw[po γ hq]at ah;obtain⟨q1,q2,q3,q4,q5⟩:=hs.own γ bw ah;refine⟨q1,q2,?_,q4,q5⟩;cases hr:ρ γ with
   |none=>rw[hr]at q3;exact q3
   |some c=>rw[hr]at q3;exact⟨q3.1,q3.2.1,q3.2.2.move rfl rfl rfl rfl bq.rc⟩
 ·have f:∀γ,hp' γ≠none->hp γ≠none:=fun γ ah=>by
   by_cases hq:γ=O
   ·subst hq;simp[aj]
   ·rwa[po γ hq]at ah
  exact hs.inj γ δ c (f γ g1) (f δ g2) g3 g4
 ·exact(hs.dm i).move bq (fun γ _=>(c1 γ).o) (fun γ _=>(c1 γ).B7) (fun γ e' ty' ys _=>c1 γ)
end Go.FW
namespace Go.FW
open Go
variable {C : Ctx} {fr : Fr} {hp : HP} {w : World} {K R : Qg}
theorem Ml{O ty e e':Nat}(h:hp O=some ⟨2,ty,[.agg [.ab,.ab]],false⟩):Wk fr hp fr (Qj hp O ⟨2,ty,[.agg [.sl e [],.sl e' []]],false⟩):=
 ane h rfl fun i x x' hx aX=>by
  match i,hx,aX with
  |0,hx,aX=>
   simp at hx aX;subst hx aX;refine⟨rfl,rfl,fun j y y' h1 h2=>?_⟩
   match j,h1,h2 with
   |0,h1,h2=>cases h1;cases h2;trivial
   |1,h1,h2=>cases h1;cases h2;trivial
   |j+2,h1,h2=>cases h1
  |i+1,hx,aX=>simp at hx
end Go.FW
namespace Go.FW
open Go
structure PQ(T K E:Nat)(p:List Tm):Prop where
 l:p.length<=T
 b:PB K E p
 n:bN p
theorem PQ.mono{T K E T' K' E':Nat}{p:List Tm}(h:PQ T K E p)(h1:T<=T')(h2:K<=K')(h3:E<=E'):PQ T' K' E' p:=⟨KaQ h.l h1,h.b.mono h2 h3,h.n⟩
theorem PQ.nil{T K E:Nat}:PQ T K E []:=⟨Ka6 _,PB.nil _ _,bN.nil⟩
theorem PQ.add{T K S L E:Nat}{p q:List Tm}(hp:PQ T K E p)(hq:PQ S L E q):PQ (T+S) (K+L) E (Qu p q):=
 ⟨by have:=KU p q;have:=hp.l;have:=hq.l;omega,HY _ _ hp.b hq.b,An hp.n hq.n⟩
theorem PQ.scale{T K L E:Nat}{p:List Tm}{a:Rat}(hp:PQ T K E p)(ha:rs a+1<=L):PQ T (K+L) E (kB p a):=
 ⟨KaQ (TL _ _) hp.l,Wo hp.b ha,s5 hp.n.s _⟩
theorem PQ.mul{T K S L E F:Nat}{p q:List Tm}(hp:PQ T K E p)(hq:PQ S L F q):PQ (T*S) (min T S*(K+L)) (E+F) (cB p q):=by obtain⟨h1,h2⟩:=Q7x hp.b hq.b;refine⟨KaQ h2 (KbU hp.l hq.l),h1.mono (Kam _ ?_) (Kae _),CZ hp.n.s hq.n.s⟩;have:=hp.l;have:=hq.l;omega
theorem PQ.sub{T K S L E:Nat}{p q:List Tm}(hp:PQ T K E p)(hq:PQ S L E q):PQ (T+S) (K+(L+2)) E (bF p q):=hp.add (hq.scale (by have:=Iy;omega))
theorem PQ.var{v:Nat}:PQ 1 4 1 (cq v):=by
 unfold cq;split
 ·exact PQ.nil
 ·rename_i h;refine⟨by simp,fun t ht=>?_,bN.one (t:=(1,jX (v:Int).toNat)) (show(1:Rat)≠0 by decide) (by simp[jX])⟩;simp only[Kay]at ht;subst ht;refine⟨by have:=vh;show rs 1+1<=4;omega,⟨?_,?_,?_⟩,?_⟩
  ·simp[jX];omega
  ·intro x hx;simp[jX]at hx;omega
  ·intro x hx;simp[jX]at hx;omega
  ·simp[jX]
theorem PQ.const{a:Rat}{k:Nat}(h:rs a+1<=k):PQ 1 k 0 (dz a):=by
 refine⟨by unfold dz;split<;>simp,?_,xT a⟩;unfold dz;split
 ·exact PB.nil _ _
 ·intro t ht;simp only[Kay]at ht;subst ht;exact⟨h,⟨by simp,by simp,by simp⟩,by simp⟩
theorem anf{fr:Fr}{hp:HP}{K:Qg}{len e O j o d:Nat}{k:IntKind}(h:0<len):mD len e (.mp O j o) (.int k 0) d fr hp K=K (ae fr d (.mp O j o)) hp:=by simp[mD,h]
theorem ang{fr:Fr}{hp:HP}{K:Qg}{len e O j o d:Nat}{k:IntKind}(h:1<len):mD len e (.mp O j o) (.int k 1) d fr hp K=K (ae fr d (.mp O j (o+e))) hp:=by simp[mD];omega
theorem anh{fr:Fr}{hp:HP}{K:Qg}{e d O n:Nat}{k:IntKind}(h:0<n)(he:(hp O).map (·.e)=some e):dt e (.ax O 0 n) (.int k 0) d fr hp K=K (ae fr d (.mp O 0 0)) hp:=by rw[Ih (by omega) (by omega) he];rfl
theorem ani{fr:Fr}{hp:HP}{K:Qg}{e d O n:Nat}{k:IntKind}(h:1<n)(he:(hp O).map (·.e)=some e):dt e (.ax O 0 n) (.int k 1) d fr hp K=K (ae fr d (.mp O 1 0)) hp:=by rw[Ih (by omega) (by omega) he];rfl
theorem anj{fr:Fr}{hp:HP}{K:Qg}{e d O n:Nat}{k:IntKind}(h:2<n)(he:(hp O).map (·.e)=some e):dt e (.ax O 0 n) (.int k 2) d fr hp K=K (ae fr d (.mp O 2 0)) hp:=by rw[Ih (by omega) (by omega) he];rfl
attribute [go_sem] anf ang anh ani anj
variable {C : Ctx} {fr : Fr} {hp : HP} {w : World} {K R : Qg}
theorem ank(nm:Nat->Bool):Wk fr hp (iZ nm fr) (fun O=>if nm O=true then none else hp O):=by
 rintro C tmps w ⟨ρ,hs⟩;obtain⟨hp',nU⟩:∃f:HP,f=fun O=>if nm O=true then none else hp O:=⟨_,rfl⟩
 rw[<-nU];have pn:∀γ,nm γ=true->hp' γ=none:=fun γ h=>by rw[nU];simp[h]
 have po:∀γ,nm γ=false->hp' γ=hp γ:=fun γ h=>by rw[nU];simp[h]
 have hX:∀c,aI C ρ hp' c->aI C ρ hp c:=by
  rintro c (hx|⟨γ,hb,g1,g2,g3⟩)
  ·exact .inl hx
  ·cases hq:nm γ with
   |true=>rw[pn γ hq]at g1;cases g1
   |false=>rw[po γ hq]at g1;exact .inr ⟨γ,hb,g1,g2,g3⟩
 have bq:nt w w (aI C ρ hp) (aI C ρ hp'):=⟨fun _ _ _=>rfl,fun c _ hn h=>hn (hX c h),Kae _⟩
 have c1:∀γ,nm γ=false->qv ρ ρ hp hp' w w γ:=fun γ ah=>⟨rfl,fun hb hq=>⟨hb,by rw[po γ ah];exact hq,rfl,Kae _,fun _ _ _ h=>h,fun h=>⟨h,rfl,fun _ _=>rfl⟩⟩⟩
 refine⟨ρ,hs.sz,hs.ext,hs.fI,fun γ bw ah=>?_,fun γ δ c g1 g2 g3 g4=>?_,fun i=>?_⟩
 ·cases hq:nm γ with
  |true=>rw[pn γ hq]at ah;cases ah
  | false=>
   rw[po γ hq]at ah;have h:=hs.own γ _ ah;refine⟨h.lE,h.len,?_,h.fix,h.ro⟩;have bc:=h.bV;cases hr:ρ γ with
   |none=>rw[hr]at bc;exact bc
   |some b=>rw[hr]at bc;obtain⟨b1,b2,cur,cap,k1,k2,k3,k4,k5⟩:=bc;exact⟨b1,b2,cur,cap,k1,k2,k3,k4,fun i x hx j y hy=>Qn.sub (k5 i x hx j y hy) hX⟩
 ·cases hq:nm γ with
  |true=>exact absurd (pn γ hq) g1
  |false=>
   cases qS:nm δ with
   |true=>exact absurd (pn δ qS) g2
   |false=>exact hs.inj γ δ c (by rw[<-po γ hq];exact g1) (by rw[<-po δ qS];exact g2) g3 g4
 ·show Qk C ρ hp' w (qI nm (fr i)) _;unfold qI;split
  ·trivial
  ·rename_i hn;have Ff:∀O∈(fr i).refs++(fr i).aV,nm O=false:=fun O aj=>by
    cases hq:nm O with
    |false=>rfl
    |true=>exact absurd (KaU.2 ⟨O,aj,hq⟩) hn
   exact Qk.qZ (hs.dm i) bq (fun O aj=>(c1 O (Ff O (Kcd _ aj))).o) (fun O aj=>c1 O (Ff O (Kby _ aj)))
end Go.FW
namespace Go.FW
open Go
variable {fr : Fr} {hp : HP}
theorem Ti{nm:Nat->Bool}{W:List (Nat×Nat)}{J F:Fr}:iZ nm (bu W J F)=bu W (iZ nm J) (iZ nm F):=by funext s;unfold iZ bu;split<;>rfl
theorem Tj{nm:Nat->Bool}(h:∀x,nm x=true->2000000<=x){B:List Nat}{F:Fr}:iZ nm (eH B F)=eH B F:=by
 funext s;obtain⟨h1,h2,_,_⟩:=Df B F s;show qI nm (eH B F s)=eH B F s;unfold qI;rw[if_neg];intro hn;obtain⟨x,hx,lI⟩:=KaU.1 hn;have:=h x lI;rcases KaS.1 hx with hx|hx
 ·have:=h1 x hx;simp[lL]at this;omega
 ·have:=h2 x hx;simp[mY,lL]at this;omega
theorem ahb{γ:Nat}(ah:2000000<=γ){p:PV}(h:vX p):dV γ p=p:=by
 obtain⟨h1,h2,h3,h4⟩:=h;have k1:∀O∈p.refs,O≠γ:=fun O aj e=>by have:=h1 O aj;subst e;simp[lL]at this;omega
 have k2:∀O∈p.aV,O≠γ:=fun O aj e=>by have:=h2 O aj;subst e;simp[mY,lL]at this;omega
 cases p with
 |ax O o n=>first|(simp[dV,fF,k1 O (by simp[PV.refs,PV.bS])];done)|(simp[dV,fF,k2 O (by simp[PV.aV,PV.dO])];done)
 |mp O i o=>simp[dV,fF,k1 O (by simp[PV.refs,PV.bS])]
 |rb O o n=>first|(simp[dV,fF,k1 O (by simp[PV.refs,PV.bS])];done)|simp[dV,fF,k2 O (by simp[PV.aV,PV.dO])]
 |fn f a b=>simp only[dV,bU];rw[if_neg];intro hn;exact k1 γ (by simpa using hn) rfl
 |aJ bj e ty xs=>exact absurd rfl (h3 bj e ty xs)
 |aP cs=>exact absurd rfl (h4 cs).1
 |fb cs=>exact absurd rfl (h4 cs).2.1
 |dx cs q=>exact absurd rfl ((h4 cs).2.2 q)
 |_=>rfl
theorem aks{γ:Nat}{x:PV}{W:List (Nat×Nat)}{J F:Fr}{B:List Nat}(hW:mX W γ=true)(ah:2000000<=γ):Ba γ x (bu W J (eH B F))=bu W (Ba γ x J) (eH B F):=by
 funext s;show(if s=γ then x else dV γ (if mX W s then J s else eH B F s))=if mX W s then(if s=γ then x else dV γ (J s))else eH B F s
 by_cases e:s=γ
 ·subst e;rw[if_pos rfl,if_pos hW,if_pos rfl]
 ·rw[if_neg e,if_neg e];split
  ·rfl
  ·exact ahb ah (Df B F s)
def MH(nm:Nat->Bool)(hp:HP):HP:=fun O=>if nm O=true then none else hp O
theorem akt{nm:Nat->Bool}{O:Nat}:MH nm hp O=if nm O=true then none else hp O:=rfl
def one(γ:Nat):Nat->Bool:=fun x=>decide (x=γ)
theorem anl{γ x:Nat}:one γ x=decide (x=γ):=rfl
theorem aku(γ:Nat):Wk fr hp (iZ (one γ) fr) (MH (one γ) hp):=ank (one γ)
theorem ao0{γ:Nat}(h:2000000<=γ){W:List (Nat×Nat)}{B:List Nat}{J F:Fr}:iZ (one γ) (bu W J (eH B F))=bu W (iZ (one γ) J) (eH B F):=by rw[Ti,Tj];intro x hx;have:x=γ:=of_decide_eq_true hx;omega
theorem ahJ{K:Qg}{e d:Nat}{k:IntKind}{x0 x1 x2:PV}{xs:List PV}:dt e (.sl e (x0::x1::x2::xs)) (.int k 2) d fr hp K=K (ae fr d (.pt x2.cells)) hp:=by simp[dt]
theorem ahK{K:Qg}{e d:Nat}{k:IntKind}{x0 x1 x2 x3:PV}{xs:List PV}:dt e (.sl e (x0::x1::x2::x3::xs)) (.int k 3) d fr hp K=K (ae fr d (.pt x3.cells)) hp:=by simp[dt]
theorem ahL{K:Qg}{e d:Nat}{k:IntKind}{x0 x1 x2 x3 x4:PV}{xs:List PV}:dt e (.sl e (x0::x1::x2::x3::x4::xs)) (.int k 4) d fr hp K=K (ae fr d (.pt x4.cells)) hp:=by simp[dt]
theorem ahM{K:Qg}{e d:Nat}{k:IntKind}{x0 x1 x2 x3 x4 x5:PV}{xs:List PV}:dt e (.sl e (x0::x1::x2::x3::x4::x5::xs)) (.int k 5) d fr hp K=K (ae fr d (.pt x5.cells)) hp:=by simp[dt]
theorem ahN{K:Qg}{e d:Nat}{k:IntKind}{x0 x1 x2 x3 x4 x5 x6:PV}{xs:List PV}:dt e (.sl e (x0::x1::x2::x3::x4::x5::x6::xs)) (.int k 6) d fr hp K=K (ae fr d (.pt x6.cells)) hp:=by simp[dt]
theorem ahO{K:Qg}{e d:Nat}{k:IntKind}{x0 x1 x2 x3 x4 x5 x6 x7:PV}{xs:List PV}:dt e (.sl e (x0::x1::x2::x3::x4::x5::x6::x7::xs)) (.int k 7) d fr hp K=K (ae fr d (.pt x7.cells)) hp:=by simp[dt]
attribute [go_sem] akt anl ahJ ahK ahL ahM ahN ahO
end Go.FW
