/- Part 7 of the proof of CertcheckNames: CL, U4, U7, U8, P8, U10, K0, CLW, FwYB. Own lemmas; no conditions. -/
import Derived.Test.YtccppnepkfbpkaaGreatCertcheckNamesPart6
set_option maxHeartbeats 1000000
set_option linter.unusedSimpArgs false
set_option linter.unusedVariables false
set_option linter.unnecessarySimpa false
set_option maxRecDepth 100000
namespace Go.Proofs.YtccppnepkfbpkaaGreat
open Go Go.FW
def akU:ay:=⟨17,[.t 2],Zr (Yi 2 0)<| .seq (Zr (Yc 3 0)<| .block 0<| .seq (Zr (Ys 5 3 1 4)<| .cond (.t 4) .skip (.rg (Ys 6 3 5 4)))<| .cond (.t 4) (Zr (Yi 2 3) .ret) (.seq (Zr (Ys 8 3 2 7)<| .cond (.t 7) .skip (Zr (Ys 9 3 3 7)<| .cond (.t 7) .skip (Zr (Ys 10 3 4 7)<| .cond (.t 7) .skip (Zr (Ys 11 3 6 7)<| .cond (.t 7) .skip (.rg (Ys 12 3 9 7))))))<| .cond (.t 7) (Zr (Yi 2 4) .ret) (Zr (Ys 14 3 7 13)<| .cond (.t 13) (Zr (Yi 2 8) .ret) (Zr (Ys 16 3 8 15)<| .cond (.t 15) (Zr (Yi 2 2) .ret) .skip))))<|Zr (Yi 2 0) .ret⟩
theorem L6:Qe Tryz.prog Tryz.f127=some akU:=by kernel_rfl
def akV:ay:=⟨20,[.t 2],Zr (Zo (.box 1 3 53 (.t 0))<|
 Ye 2)<|Zr (Zf 3 0 1<|
 Yb 4 0 3<|
 Zu 6 5<|
 Zm 7 6<|
 Zg 7 true (.cc 8 0 (.t 1))<|
 Zg 7 true (.cc 9 1 (.t 8))<|
 Zg 7 true (.ld 10 1 false (.t 9))<|
 Zg 7 true (.len 11 (.t 10))<|
 Zg 7 true (.bin 12 .eql false (.t 11) (.c (Zz 0)))<|
 Yk 13 7 12<|
 Zm 14 13<|
 YQ 14 2 1<|
 n9 14<|
 Zg 14 true (.bin 18 .eql false (.t 17) (.c (Zz 0)))<|
 Yk 19 14 18<|
 Yc 2 19) .ret⟩
theorem aeL:Qe Tryz.prog Tryz.f128=some akV:=by kernel_rfl
def c78:ay:=⟨51,[.t 4],Zr (Zo (.box 2 5 103 (.t 0))<|
 Yi 4 0)<| .seq (Zr (Yb 7 0 2<|
 Yn 9 127 8<|
 gp 10 9 0)<| .cond (.t 10) (Zr (Yi 4 8) .ret) .skip)<| .seq (Zr (YT 11 1 2<|
 Yb 14 0 2<|
 ek 16 127 15<|
 Zb 17 .neq 13 16 .nil)<| .cond (.t 17) (Zr (Yi 4 1) .ret) .skip)<| .seq (Zr (YT 18 1 2<|
 Yi 21 0)<| .block 0<| .loop<|Zr (Yu 22 21 20)<| .seq (.cond (.t 22) .skip (.exit 0))<| .seq (.block 1<|Zr (Yo 23 19 21<|
 Yc 6 24)<|Zr (iX 25 6<|
 oa 27 26 6 1<|
 Zg 27 false (.bin 30 .geq false (.t 28) (.t 29))<|
 ep 31 27 30)<| .cond (.t 31) (Zr (Yi 4 2) .ret) .skip)<| .rg (YE 32 21 21))<| .seq (Zr (Yb 33 0 2<|
 Zk 35 .eql 34 9<|
 Zm 36 35<|
 AG 36 2 2 55<|
 Yk 41 36 40 .nil)<| .cond (.t 41) (Zr (Yi 4 1) .ret) .skip)<| .seq (Zr (Yb 42 0 2<|
 Zk 44 .neq 43 9<|
 Zm 45 44<|
 AG 45 2 2 128<|
 Yk 50 45 49 .nil)<| .cond (.t 50) (Zr (Yi 4 1) .ret) .skip)<|Zr (Yi 4 0) .ret⟩
theorem ahw:Qe Tryz.prog Tryz.f78=some c78:=by kernel_rfl
def akS:ay:=⟨22,[.t 2],Zr (Yi 2 0)<| .seq (Zr (Yc 3 0)<| .block 0<|Zr (Ys 5 3 1 4)<| .cond (.t 4) (Zr (Yi 2 0) .ret) (.seq (Zr (Ys 7 3 2 6)<| .cond (.t 6) .skip (Zr (Ys 8 3 5 6)<| .cond (.t 6) .skip (Zr (Ys 9 3 6 6)<| .cond (.t 6) .skip (.rg (Ys 10 3 14 6)))))<| .cond (.t 6) (Zr (Yi 2 2) .ret) (.seq (Zr (Ys 12 3 3 11)<| .cond (.t 11) .skip (Zr (Ys 13 3 4 11)<| .cond (.t 11) .skip (Zr (Ys 14 3 7 11)<| .cond (.t 11) .skip (Zr (Ys 15 3 8 11)<| .cond (.t 11) .skip (Zr (Ys 16 3 10 11)<| .cond (.t 11) .skip (.rg (Ys 17 3 11 11)))))))<| .cond (.t 11) (Zr (Yi 2 3) .ret) (.seq (Zr (Ys 19 3 9 18)<| .cond (.t 18) .skip (Zr (Ys 20 3 12 18)<| .cond (.t 18) .skip (.rg (Ys 21 3 13 18))))<| .cond (.t 18) (Zr (Yi 2 4) .ret) .skip))))<|Zr (jT 2) .ret⟩
theorem L7:Qe Tryz.prog Tryz.f124=some akS:=by kernel_rfl
def akT:ay:=⟨20,[.t 2],Zr (Zo (.box 1 3 53 (.t 0))<|
 Ye 2)<|Zr (Zf 3 0 1<|
 Yb 4 0 3<|
 Zu 6 5<|
 Zm 7 6<|
 Zg 7 true (.cc 8 0 (.t 1))<|
 Zg 7 true (.cc 9 1 (.t 8))<|
 Zg 7 true (.ld 10 1 false (.t 9))<|
 Zg 7 true (.len 11 (.t 10))<|
 Zg 7 true (.bin 12 .eql false (.t 11) (.c (Zz 0)))<|
 Yk 13 7 12<|
 Zm 14 13<|
 YQ 14 2 1<|
 n9 14<|
 Zg 14 true (.bin 18 .eql false (.t 17) (.c (Zz 0)))<|
 Yk 19 14 18<|
 Yc 2 19) .ret⟩
theorem aeM:Qe Tryz.prog Tryz.f125=some akT:=by kernel_rfl
def alq:ay:=⟨17,[.t 2],Zr (Ye 2)<|Zr (Zm 3 0<|
 Zo (.bin 4 .geq false (.t 3) (.c (.int .u8 65)))<|
 YJ 5 4 0<|
 Zg 5 true (.bin 7 .leq false (.t 6) (.c (.int .u8 90)))<|
 Yk 8 5 7<|
 Yw 9 8 0<|
 Zg 9 false (.bin 11 .geq false (.t 10) (.c (.int .u8 97)))<|
 Zg 9 false (.mv 12 (.t 11))<|
 Zg 12 true (.mv 13 (.t 0))<|
 Zg 12 true (.bin 14 .leq false (.t 13) (.c (.int .u8 122)))<|
 Zg 9 false (.pick 15 (.t 12) (.t 14) (.c (.bool false)))<|
 Yh 16 9 15<|
 Yc 2 16) .ret⟩
theorem aeN:Qe Tryz.prog Tryz.f164=some alq:=by kernel_rfl
def alr:ay:=⟨9,[.t 2],Zr (Ye 2)<|Zr (Zm 3 0<|
 Zo (.bin 4 .geq false (.t 3) (.c (.int .u8 48)))<|
 YJ 5 4 0<|
 Zg 5 true (.bin 7 .leq false (.t 6) (.c (.int .u8 57)))<|
 Yk 8 5 7<|
 Zm 2 8 .nil) .ret⟩
theorem aeO:Qe Tryz.prog Tryz.f165=some alr:=by kernel_rfl
def als:ay:=⟨2,[.t 0],Zr (YG 0)<|Zr (Zo (.bs 1 1 9 [.c (.str ⟨#[0x61,0x6e,0x67,0x6c,0x65]⟩),.c (.str ⟨#[0x61,0x70,0x65,0x78]⟩),.c (.str ⟨#[0x62,0x69,0x73,0x65,0x63,0x74,0x6f,0x72]⟩),.c (.str ⟨#[0x63,0x65,0x6e,0x74,0x65,0x72]⟩),.c (.str ⟨#[0x63,0x69,0x72,0x63,0x6c,0x65]⟩),.c (.str ⟨#[0x63,0x69,0x72,0x63,0x75,0x6d]⟩),.c (.str ⟨#[0x63,0x6f,0x6c,0x6c,0x69,0x6e,0x65,0x61,0x72]⟩),.c (.str ⟨#[0x63,0x6f,0x6d,0x6d,0x6f,0x6e]⟩),.c (.str ⟨#[0x63,0x6f,0x6e,0x63,0x79,0x63,0x6c,0x69,0x63]⟩),.c (.str ⟨#[0x63,0x6f,0x6e,0x67,0x72,0x75,0x65,0x6e,0x74]⟩),.c (.str ⟨#[0x63,0x72,0x6f,0x73,0x73]⟩),.c (.str ⟨#[0x63,0x75,0x74]⟩),.c (.str ⟨#[0x64,0x69,0x76,0x69,0x64,0x65]⟩),.c (.str ⟨#[0x66,0x6f,0x6f,0x74]⟩),.c (.str ⟨#[0x6c,0x69,0x6e,0x65]⟩),.c (.str ⟨#[0x6d,0x65,0x65,0x74]⟩),.c (.str ⟨#[0x6d,0x69,0x64,0x70,0x6f,0x69,0x6e,0x74]⟩),.c (.str ⟨#[0x6d,0x69,0x72,0x72,0x6f,0x72]⟩),.c (.str ⟨#[0x6f,0x6e]⟩),.c (.str ⟨#[0x6f,0x74,0x68,0x65,0x72]⟩),.c (.str ⟨#[0x70,0x61,0x72,0x61,0x6c,0x6c,0x65,0x6c]⟩),.c (.str ⟨#[0x70,0x65,0x72,0x70,0x65,0x6e,0x64,0x69,0x63,0x75,0x6c,0x61,0x72]⟩),.c (.str ⟨#[0x70,0x6f,0x69,0x6e,0x74,0x73]⟩),.c (.str ⟨#[0x70,0x72,0x6f,0x76,0x65]⟩),.c (.str ⟨#[0x72,0x61,0x74,0x69,0x6f]⟩),.c (.str ⟨#[0x72,0x65,0x66,0x6c,0x65,0x63,0x74]⟩),.c (.str ⟨#[0x73,0x61,0x6d,0x65]⟩),.c (.str ⟨#[0x73,0x68,0x69,0x66,0x74]⟩),.c (.str ⟨#[0x74,0x75,0x72,0x6e]⟩)])<|
 Zm 0 1 .nil) .ret⟩
theorem aeP:Qe Tryz.prog Tryz.f166=some als:=by kernel_rfl
def akR:ay:=⟨59,[.t 2],Zr (YZ 1 25 0<|
 Ye 2)<|Zr (fm 8 2 1 163<|
 Zm 3 9 .nil)<| .seq (Zr (Yi 4 0)<| .block 0<| .loop<| .seq (Zr (YK 10 4 3)<| .cond (.t 13) .skip (.exit 0))<| .seq (.block 1<|Zr (fE 16 3 4<|
 gK 20 19 8)<| .cond (.t 20) (Zr (Ye 2) .ret) .skip)<| .rg (Zm 14 4<|
 YE 15 14 4))<| .seq (Zr (Yi 5 0)<| .block 2<| .loop<| .seq (Zr (nh 21 5 1 1)<| .cond (.t 25) .skip (.exit 2))<| .seq (.block 3<|Zr (dC 28 1 1 5<|
 YM 31 5 29 30<|
 Zo (.alloc 6 5 103 (.agg [Zz 0,.aa,.bool false,.aa,.aa]))<|
 Zs 5 6 32 .nil)<|Zr (Yi 7 0)<| .block 4<| .loop<| .seq (Zr (nh 33 7 1 6)<| .cond (.t 37) .skip (.exit 4))<| .seq (.block 5<|Zr (Yb 40 0 6<|
 Zk 42 .eql 41 6<|
 Yx 43 42 0 6<|
 Zg 43 false (.bin 46 .eql false (.t 45) (.c (Zz 7)))<|
 Yh 47 43 46<|
 YJ 48 47 3<|
 Zg 48 true (.cc 50 1 (.t 6))<|
 Zg 48 true (.ld 51 1 false (.t 50))<|
 Zg 48 true (.mv 52 (.t 7))<|
 Zg 48 true (.idx 53 1 (.t 51) (.t 52))<|
 rp 48<|
 Zg 48 true (.idx 55 1 (.t 49) (.t 54))<|
 Zg 48 true (.ld 56 1 false (.t 55))<|
 Zg 48 true (.bin 57 .gtr false (.t 56) (.c (Zz 3)))<|
 Yk 58 48 57 .nil)<| .cond (.t 58) (Zr (Ye 2) .ret) .skip)<| .rg (YX 38 7))<| .rg (YX 26 5))<|Zr (YL 2) .ret⟩
theorem aeQ:Qe Tryz.prog Tryz.f123=some akR:=by kernel_rfl
def alp:ay:=⟨85,[.t 2],Zr (YZ 1 25 0<|
 YG 2)<|Zr (YG 3)<| .seq (Zr (Yi 4 0)<| .block 0<| .loop<| .seq (Zr (nh 7 4 0 1)<| .cond (.t 11) .skip (.exit 0))<| .seq (.block 1<|Zr (dC 14 0 1 4<|
 Zi 17 6 15 16<|
 Yb 18 2 17<|
 Zm 5 19<|
 Yi 6 1)<| .seq (Zr (dC 20 0 1 4<|
 Zi 23 6 21 22<|
 Yb 24 0 23 .nil)<| .block 2<|Zr (Ys 27 25 2 26)<| .cond (.t 26) (.rg (Yf 28 3 5<|
 Yv 30 29 0<|
 Yo 32 28 31<|
 Yf 34 3 5<|
 Yv 36 35 1<|
 Yo 38 34 37<|
 cT 40 33 39<|
 Yc 6 40)) (.seq (Zr (Ys 42 25 3 41)<| .cond (.t 41) .skip (.rg (Ys 43 25 4 41)))<| .cond (.t 41) (.rg (Yf 44 3 5<|
 Yv 46 45 0<|
 Yo 48 44 47<|
 Yf 50 3 5<|
 Yv 52 51 1<|
 Yo 54 50 53<|
 cT 56 49 55<|
 Yf 57 3 5<|
 Yv 59 58 2<|
 Yo 61 57 60<|
 cT 63 56 62<|
 Yc 6 63)) (Zr (Ys 65 25 5 64)<| .cond (.t 64) (.rg (Yf 66 3 5<|
 Yv 68 67 0<|
 Yo 70 66 69<|
 Zo (.bin 72 .mul false (.c (Zz 2)) (.t 71))<|
 Yf 73 3 5<|
 Yv 75 74 1<|
 Yo 77 73 76<|
 cT 79 72 78<|
 Yc 6 79)) .skip)))<| .rg (Yf 80 3 6<|
 YB 82 1 3 81 8 80<|
 Yc 3 83))<| .rg (Zm 12 4<|
 YE 13 12 4))<|Zr (dn 84 3 2) .ret⟩
theorem aeR:Qe Tryz.prog Tryz.f163=some alp:=by kernel_rfl
def c76:ay:=⟨81,[.t 2],Zr (YZ 1 25 0<|
 Ye 2)<| .seq (Zr (YT 5 0 1<|
 Zk 8 .gtr 7 8<|
 ya 9 8 1 1 3<|
 Zm 15 14<|
 Zg 15 false (.ld 16 2 true (.t 1))<|
 Zg 15 false (.call (some 17) false (.c (.fn 38 [] [])) [.t 16])<|
 Zg 15 false (.bin 18 .neq false (.t 17) (.c (Zz 0)))<|
 Yh 19 15 18<|
 Zm 20 19<|
 Zg 20 false (.ld 21 2 true (.t 1))<|
 xZ 20 123 .nil)<| .cond (.t 24) (Zr (Ye 2) .ret) .skip)<| .seq (Zr (Yi 3 0)<| .block 0<| .loop<| .seq (Zr (nh 25 3 0 1)<| .cond (.t 29) .skip (.exit 0))<| .seq (.block 1<|Zr (dC 32 0 1 3<|
 Zi 35 6 33 34<|
 Zf 36 3 35<|
 Zf 37 0 36<|
 YT 38 1 37<|
 Zk 41 .gtr 40 2<|
 Yx 42 41 0 1<|
 Zg 42 false (.mv 45 (.t 3))<|
 Zg 42 false (.idx 46 6 (.t 44) (.t 45))<|
 AI 42 3 2 .nil)<| .cond (.t 52) (Zr (Ye 2) .ret) .skip)<| .rg (YX 30 3))<| .seq (Zr (Yi 4 0)<| .block 2<| .loop<| .seq (Zr (nh 53 4 1 1)<| .cond (.t 57) .skip (.exit 2))<| .seq (.block 3<|Zr (dC 60 1 1 4<|
 Zi 63 5 61 62<|
 Zf 64 2 63<|
 Zf 65 0 64<|
 YT 66 1 65<|
 Zk 69 .gtr 68 2<|
 Yx 70 69 1 1<|
 Zg 70 false (.mv 73 (.t 4))<|
 Zg 70 false (.idx 74 5 (.t 72) (.t 73))<|
 AI 70 2 2 .nil)<| .cond (.t 80) (Zr (Ye 2) .ret) .skip)<| .rg (YX 58 4))<|Zr (YL 2) .ret⟩
theorem ahx:Qe Tryz.prog Tryz.f76=some c76:=by kernel_rfl
def c38:ay:=⟨48,[.t 2],Zr (YZ 1 25 0<|
 Yi 2 0)<| .seq (Zr (YT 8 0 1<|
 Zk 11 .gtr 10 40<|
 ya 12 11 1 1 8 .nil)<| .cond (.t 17) (Zr (Yi 2 4) .ret) .skip)<| .seq (Zr (YT 18 0 1<|
 Yi 21 0)<| .block 0<| .loop<|Zr (Yu 22 21 20)<| .seq (.cond (.t 22) .skip (.exit 0))<| .seq (.block 1<|Zr (dn 23 21 3)<|Zr (dC 24 0 1 3<|
 Yl 27 77 25 26<|
 Yc 4 27)<|Zr (YW 28 4)<| .cond (.t 29) (Zr (dn 30 4 2) .ret) .skip)<| .rg (YE 31 21 21))<| .seq (Zr (YT 32 1 1<|
 Yi 35 0)<| .block 2<| .loop<|Zr (Yu 36 35 34)<| .seq (.cond (.t 36) .skip (.exit 2))<| .seq (.block 3<|Zr (YM 37 5 33 35<|
 Zo (.alloc 6 5 103 (.agg [Zz 0,.aa,.bool false,.aa,.aa]))<|
 Zs 5 6 38 .nil)<|Zr (Zh 39 5 6<|
 YT 40 0 1<|
 Yl 43 78 39 42<|
 Yc 7 43)<|Zr (YW 44 7)<| .cond (.t 45) (Zr (dn 46 7 2) .ret) .skip)<| .rg (YE 47 35 35))<|Zr (Yi 2 0) .ret⟩
theorem ahy:Qe Tryz.prog Tryz.f38=some c38:=by kernel_rfl
def c77:ay:=⟨81,[.t 4],Zr (Yi 4 0)<|Zr (Yf 10 0 1<|
 yc 12 10 11 5<|
 Zs 6 5 13 .nil)<| .seq (Zr (Yb 14 0 5<|
 Yn 16 124 15<|
 Zk 17 .lss 16 0 .nil)<| .cond (.t 17) (Zr (Yi 4 8) .ret) .skip)<| .seq (Zr (YT 18 2 5<|
 Yb 21 0 5<|
 ek 23 124 22<|
 Zb 24 .neq 20 23 .nil)<| .cond (.t 24) (Zr (Yi 4 1) .ret) .skip)<| .seq (Zr (YT 25 2 5<|
 Yi 28 0)<| .block 0<| .loop<|Zr (Yu 29 28 27)<| .seq (.cond (.t 29) .skip (.exit 0))<| .seq (.block 1<|Zr (Yo 30 26 28<|
 Yc 7 31)<|Zr (iX 32 7<|
 oa 34 33 7 1<|
 Zg 34 false (.bin 37 .geq false (.t 35) (.t 36))<|
 ep 38 34 37)<| .cond (.t 38) (Zr (Yi 4 2) .ret) .skip)<| .rg (YE 39 28 28))<| .seq (Zr (Yb 40 0 5<|
 Zk 42 .eql 41 2<|
 Zm 43 42<|
 Zg 43 true (.cc 44 3 (.t 5))<|
 Zg 43 true (.ld 45 3 true (.t 44))<|
 Zg 43 true (.call (some 46) false (.c (.fn 55 [] [])) [.t 45])<|
 Zg 43 true (.un 47 .not (.t 46))<|
 Yk 48 43 47<|
 Yx 49 48 0 5<|
 Zg 49 false (.bin 52 .neq false (.t 51) (.c (Zz 2)))<|
 Zg 49 false (.mv 53 (.t 52))<|
 AG 53 3 5 125<|
 Zg 49 false (.pick 58 (.t 53) (.t 57) (.c (.bool false)))<|
 ep 59 49 58)<| .cond (.t 59) (Zr (Yi 4 1) .ret) .skip)<| .seq (Zr (Yb 60 1 5<|
 Zo (.wQ 62 false (.t 61) (.c (.str ⟨#[]⟩))) .nil)<| .cond (.t 62) (Zr (Yi 4 0) .ret) .skip)<| .seq (Zr (Yb 63 1 5<|
 Yn 65 126 64<|
 Zu 66 65 .nil)<| .cond (.t 66) (Zr (Yi 4 6) .ret) .skip)<| .seq (Zr (Yf 67 0 1<|
 Zo (.sl 69 6 (.t 67) none (some (.t 68)) none)<|
 Zn 70 69<|
 Yi 71 0)<| .block 2<| .loop<|Zr (Yu 72 71 70)<| .seq (.cond (.t 72) .skip (.exit 2))<| .seq (.block 3<|Zr (yc 73 69 71 9<|
 Zs 6 9 74 .nil)<|Zr (cF 75 1 9 1 5<|
 Zo (.wQ 79 false (.t 76) (.t 78)) .nil)<| .cond (.t 79) (Zr (Yi 4 7) .ret) .skip)<| .rg (YE 80 71 71))<|Zr (Yi 4 0) .ret⟩
theorem ahz:Qe Tryz.prog Tryz.f77=some c77:=by kernel_rfl
def akY:ay:=⟨12,[.t 6],Zr (YG 6)<|Zr (de 7 0 1 2<|
 Yl 10 137 8 9<|
 Yl 11 46 7 10<|
 Zm 6 11 .nil) .ret⟩
theorem aeS:Qe Tryz.prog Tryz.f132=some akY:=by kernel_rfl
def akX:ay:=⟨28,[.cell 6 2 true],Zr (YI 3 135 0<|
 YI 4 135 1<|
 YS 6 135 .nil)<|Zr (dC 7 0 3 2<|
 cF 10 0 4 0 3<|
 dC 17 1 3 2<|
 cF 20 1 4 1 3<|
 Ym 14 137 11 13<|
 Zq 15 true 19 [.t 9,.t 14]<|
 Ym 16 46 8 15<|
 eD 24 137 21 23 19 19<|
 Ym 26 46 18 25<|
 Zo (.dv 27 [.aa,.aa] [(0,1,.t 16),(1,1,.t 26)])<|
 Zs 2 6 27 .nil) .ret⟩
theorem aeT:Qe Tryz.prog Tryz.f131=some akX:=by kernel_rfl
def c84:ay:=⟨32,[.t 8],Zr (YI 4 135 0<|
 YI 5 135 1<|
 YI 6 135 2<|
 YI 7 135 3<|
 YG 8)<|Zr (cF 9 0 5 0 4<|
 cF 14 1 7 1 6<|
 cF 20 1 5 1 4<|
 cF 25 0 7 0 6<|
 Ym 13 137 10 12<|
 Ym 18 137 15 17<|
 Zq 19 true 19 [.t 13,.t 18]<|
 Ym 24 137 21 23<|
 eD 29 137 26 28 19 24<|
 Ym 31 137 19 30<|
 Yc 8 31) .ret⟩
theorem ahA:Qe Tryz.prog Tryz.f84=some c84:=by kernel_rfl
def ak0:ay:=⟨32,[.t 8],Zr (YI 4 135 0<|
 YI 5 135 1<|
 YI 6 135 2<|
 YI 7 135 3<|
 YG 8)<|Zr (cF 9 0 5 0 4<|
 cF 14 0 7 0 6<|
 cF 20 1 5 1 4<|
 cF 25 1 7 1 6<|
 Ym 13 137 10 12<|
 Ym 18 137 15 17<|
 Zq 19 true 19 [.t 13,.t 18]<|
 Ym 24 137 21 23<|
 eD 29 137 26 28 19 24<|
 Ym 31 46 19 30<|
 Yc 8 31) .ret⟩
theorem aeU:Qe Tryz.prog Tryz.f136=some ak0:=by kernel_rfl
def c83:ay:=⟨10,[.t 4],Zr (fp 2 135 0<|
 YI 3 135 1<|
 YG 4)<|Zr (YN 5 2 3<|
 YN 7 2 3<|
 Zq 9 false 136 [.t 5,.t 6,.t 7,.t 8]<|
 Zm 4 9 .nil) .ret⟩
theorem ahB:Qe Tryz.prog Tryz.f83=some c83:=by kernel_rfl
def ak3:ay:=⟨16,[.t 8],Zr (YG 8)<|Zr (Yf 9 0 3<|
 Zq 11 false 19 [.t 9,.t 10]<|
 Yf 12 2 1<|
 Zq 14 false 19 [.t 12,.t 13]<|
 Yl 15 137 11 14<|
 Zm 8 15 .nil) .ret⟩
theorem afv:Qe Tryz.prog Tryz.f139=some ak3:=by kernel_rfl
def c43:ay:=⟨34,[.t 4,.t 5],Zr (Zo (.box 2 5 103 (.t 0))<|
 YI 3 30 1<|
 fo 4 0)<| .seq (Zr (Zh 9 5 2<|
 YT 10 0 3<|
 Yl 13 78 9 12<|
 Zm 6 13 .nil)<|Zr (YW 14 6)<| .cond (.t 15) (Zr (Zm 16 6<|
 Yj 4<|
 Zm 5 16 .nil) .ret) .skip)<|Zr (Zh 17 5 2<|
 Yb 18 0 3<|
 Yl 20 86 17 19<|
 Yc 7 20)<| .seq (Zr (Yi 8 0)<| .block 0<| .loop<| .seq (Zr (YK 21 8 7)<| .cond (.t 24) .skip (.exit 0))<| .seq (.block 1<|Zr (fE 27 7 8<|
 Zn 31 30<|
 gK 32 31 4000)<| .cond (.t 32) (Zr (fo 4 4) .ret) .skip)<| .rg (YX 25 8))<|Zr (Zm 33 7<|
 Zm 4 33<|
 Yi 5 0) .ret⟩
theorem aic:Qe Tryz.prog Tryz.f43=some c43:=by kernel_rfl
theorem OH{p:List Tm}{n:Bool}{a d:List Nat}{m:List Int}{K E k:Nat}(hp:PB K E p)(hs:iz p)(mr:NZ p)(hr:Raw k n a d)(hk:k<=2^32)(hm:MB E m)(hl:m.getLast? ≠some 0)(hK:K<=2^32)(hE:E<=2^38)(fX:p.length<=2^36):
  Qd Tryz.prog 45 [PV.ao p,PV.rr n a d,PV.mono m] (· =PV.ao (pO p (rv n a d) m)):=by
 have Tk:=hr.rs;refine aB Qg Tryz.func45 ahi fun C hP=>?_;refine Sz0 ?_;refine Qn okB [(7,7),(12,26)] [] (fun k J hp=>k<=p.length/\(∀t∈p.drop k,aY t.2 m<0)/\J 7= .int .i64 (k:Nat)/\hp 4=some ⟨3,53,[PV.rr n a d],false⟩) p.length ?_ ?_
 ·refine⟨by omega,by simp,?_⟩;exact Tz0
 rintro j J h ⟨hj,hd,h7,ez⟩;refine Sz1 h7 ?_;refine Q4 (fun hg=>?_) (fun hg=>?_)
 ·obtain⟨i,rfl⟩:∃i,j=i+1:=⟨j-1,by omega⟩
  have e:((i+1:Nat):Int)-1=i:=by omega
  have hi:i<p.length:=by omega
  have cx:=hp.get hi;have ux:p.drop i=p[i]::p.drop (i+1):=Kau hi;have bN:p.take (i+1)=p.take i++[p[i]]:=Kam hi;have lC:=UL hs hi;have aW:p=p.take i++p[i]::p.drop (i+1):=by rw[<-ux,Kbg]
  have c1:=cx.c;generalize hx:p[i]=x at *
  refine Sz3 h7 e hx ?_;refine Qa hP (Ap cx.m hm (by omega)) rfl rfl rfl ?_;refine Sz3 h7 e hx ?_;refine Qb (fun hc=>?_) (fun hc=>?_)
  ·refine Sz3 h7 e hx ?_;refine Qi i (by omega) ⟨by omega,?_,?_⟩
   ·rw[ux];intro t ht;rcases KaC.1 ht with rfl|ht
    ·exact hc
    ·exact hd t ht
   ·exact Tz1 ez
  ·refine Sz3 h7 e hx ?_;refine Q4 (fun _=>?_) (fun h=>by omega);refine Sz3 h7 e hx ?_;refine Qa hP (Ap cx.m hm (by omega)) rfl rfl rfl ?_;refine Sz3 h7 e hx ?_;refine Qb (fun eL=>?_) (fun eL=>?_)
   ·have nB:x.2=m:=(Iy cx.l hl).1 eL;have bY:=mr _ (Kah hi);rw[hx]at bY;have dT:pO p (rv n a d) m=p.take i++(if x.1+rv n a d=0 then []else [(x.1+rv n a d,m)])++p.drop (i+1):=by
     have Sb:p=p.take i++(x.1,m)::p.drop (i+1):=by rw[<-nB];exact aW
     rw[pO];split
     ·rename_i h0;have e0:x.1+0=x.1:=Rat.add_zero _;rw[h0,kW,e0,if_neg bY];simpa using Sb
     ·conv=>lhs;rw[Sb]
      exact L0 (fun t ht=>by rw[<-nB];exact lC t ht)
    have pq:(p.take i).length<=p.length:=List.length_take_le' _ _;have eV:(p.drop (i+1)).length<=p.length:=by rw[Ka2];omega
    have uL:=vk x.1 (rv n a d);have hxr:=gV (q:=x.1) (k:=2^32) (by omega);have bR:=OC (k:=2^32) hxr (show Raw (2^32) n a d from⟨hr.la,hr.ld,by have:=hr.sa;omega,by have:=hr.sd;omega,by omega⟩) (by omega);rw[gF]at bR;refine Sz4 h7 e hx ez ?_;refine dp ?_ ?_
    all_goals
     refine Sz4 h7 e hx ez ?_;refine Qa hP bR rfl rfl rfl ?_;refine Sz4 h7 e hx ez ?_;refine Qa hP (HM (a:=x.1+rv n a d) (by omega)) rfl rfl rfl ?_;refine Sz4 h7 e hx ez ?_;refine Qb (fun hz=>?_) (fun hz=>?_)
     ·rw[if_neg (fun h=>hz (fZ.2 h))]at dT;refine Sz4 h7 e hx ez ?_;rw[Qz (f:=PV.term) (y:=(x.1+rv n a d,m)) (xs:=p.take i) (ty':=77) (fz:=false) Tz0 bf (by omega) rfl (by omega) (by omega)];refine Sz4 h7 e hx ez ?_;rw[jI (f:=PV.term) (xs:=p.take i++[(x.1+rv n a d,m)]) (ys:=p.drop (i+1)) Tz0 (by simp<;>omega) (by omega) (by omega) (by omega)];refine bo ?_;refine Qc ?_ rfl;rw[Kai (by simp<;>omega),dT]
     ·rw[if_pos (fZ.1 (Decidable.not_not.1 hz)),Kas]at dT;refine Sz4 h7 e hx ez ?_;rw[jI (f:=PV.term) (xs:=p.take i) (ys:=p.drop (i+1)) Tz0 (by simp<;>omega) (by omega) (by omega) (by omega)];refine bo ?_;refine Qc ?_ rfl;rw[Kai (by simp<;>omega),dT]
   ·have o7:Qq p [(rv n a d,m)]=p.take (i+1)++(rv n a d,m)::p.drop (i+1):=by
     have:=IE (m:=m) (c:=rv n a d) (u:=p.take (i+1)) (v:=p.drop (i+1)) (fun t ht=>by
      rw[bN]at ht;rcases KaM.1 ht with ht|ht
      ·exact wT (lC t ht) (by omega)
      ·simp only[Kay]at ht;subst ht;omega) hd
     rwa[Kbg]at this
    have pq:(p.take (i+1)).length<=p.length:=List.length_take_le' _ _;have eV:(p.drop (i+1)).length<=p.length:=by rw[Ka2];omega
    refine Sz2 h7 ez ?_;refine Qa hP (CG hr (by omega)) rfl rfl rfl ?_;refine Sz2 h7 ez ?_;refine Qb (fun hz=>?_) (fun hz=>?_)
    ·have tj:¬rv n a d=0:=fun h=>hz (fZ.2 h);refine Sz2 h7 ez ?_;refine Qa hP (u9 hr (by omega)) rfl rfl rfl ?_;refine Sz2 h7 ez ?_;rw[Qz (f:=PV.term) (y:=(rv n a d,m)) (xs:=p.take (i+1)) (ty':=77) (fz:=false) Tz0 bf (by omega) rfl (by omega) (by omega)];refine Sz2 h7 ez ?_;rw[jI (f:=PV.term) (xs:=p.take (i+1)++[(rv n a d,m)]) (ys:=p.drop (i+1)) Tz0 (by simp<;>omega) (by omega) (by omega) (by omega)];refine bo ?_;refine Qc ?_ rfl;rw[Kai (by simp<;>omega),pO,if_neg tj,o7];simp
    ·have tj:rv n a d=0:=fZ.1 (Decidable.not_not.1 hz);refine Sz2 h7 ez ?_;rw[jI (f:=PV.term) (xs:=p.take (i+1)) (ys:=p.drop (i+1)) Tz0 (by simp<;>omega) (by omega) (by omega) (by omega)];refine bo ?_;refine Qc ?_ rfl;rw[Kai (by simp<;>omega),pO,if_pos tj,kW,Kbg]
 ·obtain rfl:j=0:=by omega
  have o7:Qq p [(rv n a d,m)]=[]++(rv n a d,m)::p:=IE (m:=m) (c:=rv n a d) (u:=[]) (v:=p) (by simp) (by simpa using hd);refine Sz1 h7 ?_;rw[VH (by omega)];refine Sz2 h7 ez ?_;refine Qa hP (CG hr (by omega)) rfl rfl rfl ?_;refine Sz2 h7 ez ?_;refine Qb (fun hz=>?_) (fun hz=>?_)
  ·have tj:¬rv n a d=0:=fun h=>hz (fZ.2 h);refine Sz2 h7 ez ?_;refine Qa hP (u9 hr (by omega)) rfl rfl rfl ?_;refine Sz2 h7 ez ?_;rw[Qz (f:=PV.term) (y:=(rv n a d,m)) (xs:=([]:List Tm)) (ty':=77) (fz:=false) Tz0 bf (by omega) (n:=0) rfl (by omega) (by omega)];refine Sz2 h7 ez ?_;rw[jI (f:=PV.term) (xs:=([]:List Tm)++[(rv n a d,m)]) (ys:=p) Tz0 (by simp<;>omega) (by omega) (by omega) (by omega)];refine bo ?_;refine Qc ?_ rfl;rw[Kai (by simp<;>omega),pO,if_neg tj,o7];simp
  ·have tj:rv n a d=0:=fZ.1 (Decidable.not_not.1 hz);refine Sz2 h7 ez ?_;rw[jI (f:=PV.term) (xs:=([]:List Tm)) (ys:=p) Tz0 (by simp<;>omega) (by omega) (by omega) (by omega)];refine bo ?_;refine Qc ?_ rfl;rw[Kai (by simp<;>omega),pO,if_pos tj,kW]
theorem N6{n:Bool}{a d:List Nat}{k:Nat}(hr:Raw k n a d)(hk:k<=2^32):Qd Tryz.prog 20 [PV.rr n a d] (· =PV.ao (cM (rv n a d))):=by
 have bR:=(OH (p:=[]) (m:=[]) (K:=1) (E:=1) (PB.nil _ _) trivial (by simp[NZ]) hr hk ⟨by simp,by simp,by simp⟩ (by simp) (by omega) (by omega) (by simp)).le (args':=[.aa,PV.rr n a d,.aa]) ⟨trivial,Qf _,trivial,trivial⟩;have e:pO [] (rv n a d) []=cM (rv n a d):=by rw[pO,sh];rfl
 rw[e]at bR;refine aB Qg Tryz.func20 ahd fun C hP=>?_;refine Sz0 ?_;refine Qa hP bR rfl rfl rfl ?_;refine Sz0 ?_;exact Qc rfl rfl
theorem aad{a:Rat}{k:Nat}(h:rs a<=k)(hk:k<2^36):Qd Tryz.prog 148 [PV.rat a] (· =PV.ao (cM a)):=by
 have:=UT (gV h) hk
 rwa[gF]at this
theorem Py{a:Rat}{k:Nat}(h:rs a<=k)(hk:k<=2^32):Qd Tryz.prog 20 [PV.rat a] (· =PV.ao (cM a)):=by
 have:=N6 (gV h) hk
 rwa[gF]at this
theorem acs(v:Nat)(n:Int)(h:n=((n.toNat:Nat):Int)):(List.replicate (v+1) (0:Int)).set v n=mW v n.toNat:=by
 unfold mW;rw[<-h];induction v with
 |zero=>rfl
 |succ v ih=>rw[KbJ,List.set_cons_succ,ih];rfl
theorem acu(v:Nat):tX v=mW v 1:=rfl
theorem CR{v:Nat}(hv:v<64):Qd Tryz.prog 18 [.int .i64 v] (· =PV.ao (Q3 v)):=by
 have nA:(List.replicate (v+1) (0:Int)).set v 1=mW v 1:=acs v 1 rfl;have SQ:v<(List.replicate (v+1) (0:Int)).length:=by simp
 have wm:=sM;have eM:(mW v 1).length=v+1:=by simp[mW]
 have bR:=(OH (p:=[]) (m:=mW v 1) (K:=1) (E:=1) (k:=4) (PB.nil _ _) trivial (by simp[NZ]) (gV (q:=((1:Int):Rat)) (k:=4) (by rw[show((1:Int):Rat)=1 from rfl];omega)) (by omega) (aeB hv) (ZP (by omega)) (by omega) (by omega) (by simp)).le (args':=[.aa,PV.rat ((1:Int):Rat),PV.mono (mW v 1)]) ⟨trivial,Qf _,Qf _,trivial⟩;rw[gF]at bR;have e:pO [] ((1:Int):Rat) (mW v 1)=Q3 v:=by rw[pO,sh,if_neg (by decide),Q3,if_neg (by omega),KbF,acu];rfl
 rw[e]at bR;refine aB Qg Tryz.func18 ahR fun C hP=>?_;refine Sz0 ?_;refine Qo (fun h=>by omega) (fun _=>?_);refine Sz0 ?_;refine Qb (fun h=>by omega) (fun _=>?_);refine Sz1 nA ?_;refine Qa hP (r9 (x:=1) (by omega) (by omega)) rfl rfl rfl ?_;generalize((1:Int):Rat)=c at *
 refine Sz0 ?_;refine oJ hP bR (by simp+decide (disch:=try exact E0) only[go_sem,iB,KaP,KaY,KaR,KaV,Kas];simp[Kai,eM]) rfl ?_;refine Sz0 ?_;exact Qc rfl rfl
def Rn:ay:=⟨25,[.cell 8 2 true,.t 9],Zr (YI 4 30 0<|
 YS 8 30<|
 .wk<| .wk<|YG 9)<|Zr (Yb 10 1 4<|
 de 12 1 2 3<|
 Zo (.dv 15 [Zz 0,Zz 0,Zz 0] [(0,1,.t 12),(1,1,.t 13),(2,1,.t 14)])<|
 Zo (.bs 16 3 193 [.t 15])<|
 Zo (.app 17 3 24 193 (.t 11) (.t 16))<|
 Zf 18 1 4<|
 Zs 1 18 17 .nil)<|Zr (Zh 19 2 4<|
 YT 20 1 4<|
 Zk 23 .sub 22 1<|
 ek 24 18 23<|
 Zs 2 8 19<|
 Yc 9 24) .ret⟩
theorem afw:Qe Tryz.prog Tryz.f133=some Rn.strip:=by kernel_rfl
def Cp:ay:=⟨29,[.cell 6 2 true,.cell 7 2 true],Zr (YI 3 30 0<|
 YS 6 30<|
 .wk<| .wk<|YS 7 135 .nil)<|Zr (YS 8 135<|
 .wk .nil)<| .seq (Zr (Zm 9 2<|
 gK 10 9 0)<| .cond (.t 10) (.rg (Zh 12 2 3<|
 .wk<|Zm 13 1<|
 Zq 14 false 133 [.t 12,.c (Zz 1),.t 13,.c (Zz 0)]<|
 Zm 11 14<|
 Yd 15 11<|
 Zs 2 3 15<|
 Zf 17 0 8<|
 Zs 1 17 16 .nil)) .skip)<| .seq (Zr (Zm 18 2<|
 gK 19 18 1)<| .cond (.t 19) (.rg (Zh 21 2 3<|
 .wk<|Zm 22 1<|
 Zq 23 false 133 [.t 21,.c (Zz 1),.t 22,.c (Zz 1)]<|
 Zm 20 23<|
 Yd 24 20<|
 Zs 2 3 24<|
 Zf 26 1 8<|
 Zs 1 26 25 .nil)) .skip)<|Zr (Zh 27 2 3<|
 .br (Zh 28 2 8<|
 Zs 2 6 27<|
 Zs 2 7 28 .nil) (Zs 2 6 27<|
 Zh 28 2 8<|
 Zs 2 7 28 .nil)) .ret⟩
theorem Ie:Qe Tryz.prog Tryz.f130=some Cp.strip:=by kernel_rfl
def Ro:ay:=⟨28,[.cell 6 2 true,.cell 7 2 true],Zr (YI 3 30 0<|
 YS 6 30<|
 .wk<| .wk<|YS 7 135 .nil)<|Zr (YS 8 135 .nil)<|Zr (Zh 10 2 3<|
 .wk<|Yf 11 1 2<|
 Zq 13 false 133 [.t 10,.c (Zz 2),.t 11,.t 12]<|
 Zm 9 13<|
 Yd 14 9<|
 Zs 2 3 14<|
 Zf 16 0 8<|
 Zs 1 16 15 .nil)<|Zr (Zh 18 2 3<|
 .wk<|Yf 19 1 2<|
 Zk 21 .add 20 1<|
 Zq 22 false 133 [.t 18,.c (Zz 2),.t 19,.t 21]<|
 Zm 17 22<|
 Yd 23 17<|
 Zs 2 3 23<|
 Zf 25 1 8<|
 Zs 1 25 24 .nil)<|Zr (Zh 26 2 3<|
 .br (Zh 27 2 8<|
 Zs 2 6 26<|
 Zs 2 7 27 .nil) (Zs 2 6 26<|
 Zh 27 2 8<|
 Zs 2 7 27 .nil)) .ret⟩
theorem afx:Qe Tryz.prog Tryz.f134=some Ro.strip:=by kernel_rfl
def Ry:ay:=⟨157,[.cell 8 2 true,.cell 9 2 true],Zr (YI 4 30 0<|
 YI 5 25 1<|
 YS 8 30<|
 .wk<| .wk<|YS 9 135 .nil)<|Zr (dC 18 0 5 2<|
 yc 21 19 20 10<|
 Zs 6 10 22 .nil)<|Zr (YG 11)<| .seq (Zr (YT 23 2 10<|
 Yi 26 0)<| .block 0<| .loop<|Zr (Yu 27 26 25)<| .seq (.cond (.t 27) .skip (.exit 0))<| .seq (.block 1<|Zr (Yo 28 24 26<|
 Yc 13 29)<| .rg (Zm 30 11<|
 dC 31 0 4 13<|
 YM 34 2 32 33<|
 Zo (.bs 36 2 135 [.t 35])<|
 Zo (.app 37 2 48 135 (.t 30) (.t 36))<|
 Yc 11 37))<| .rg (YE 38 26 26))<| .seq (Zr (Yb 39 0 10 .nil)<| .block 2<|Zr (Ys 42 40 1 41)<| .cond (.t 41) (Zr (Zh 43 2 4<|
 Yf 44 2 3<|
 Zq 46 false 130 [.t 43,.t 44,.t 45]<|
 Yd 47 46<|
 Zs 2 8 47<|
 Zs 2 9 48 .nil) .ret) (Zr (Ys 50 40 2 49)<| .cond (.t 49) (Zr (Zh 51 2 4<|
 YO 52 11 2 0<|
 Zh 54 2 53<|
 YO 55 11 2 1<|
 Zh 57 2 56<|
 Zf 58 3 10<|
 Zh 59 3 58<|
 ek 60 20 59<|
 Zq 61 true 131 [.t 54,.t 57,.t 60]<|
 Zs 2 8 51<|
 Zs 2 9 61 .nil) .ret) (Zr (Ys 63 40 3 62)<| .cond (.t 62) (Zr (Zh 64 2 4<|
 yf 65 0 2 0 1<|
 yf 78 1 2 1 1<|
 Zq 77 true 132 [.t 68,.t 72,.t 76]<|
 Zq 90 true 132 [.t 81,.t 85,.t 89]<|
 Zo (.dv 91 [.aa,.aa] [(0,1,.t 77),(1,1,.t 90)])<|
 Zs 2 8 64<|
 Zs 2 9 91 .nil) .ret) (Zr (Ys 93 40 4 92)<| .cond (.t 92) (Zr (Zh 94 2 4<|
 yf 95 0 1 1 2<|
 yf 108 1 2 0 1<|
 Zq 107 true 132 [.t 98,.t 102,.t 106]<|
 Zq 120 true 132 [.t 111,.t 115,.t 119]<|
 Zo (.dv 121 [.aa,.aa] [(0,1,.t 107),(1,1,.t 120)])<|
 Zs 2 8 94<|
 Zs 2 9 121 .nil) .ret) (Zr (Ys 123 40 5 122)<| .cond (.t 122) (Zr (fG 125 2 4 2<|
 Zq 127 false 133 [.t 125,.c (Zz 1),.t 126,.c (Zz 0)]<|
 Zm 124 127<|
 Yd 128 124<|
 YS 14 30<|
 .wk<| .wk<|Zs 2 14 128<|
 Yc 15 129)<|Zr (Zh 130 2 14<|
 YO 131 11 2 0<|
 Zh 133 2 132<|
 YO 134 11 2 1<|
 fG 136 2 135 15<|
 Zq 138 true 131 [.t 133,.t 136,.t 137]<|
 Zs 2 8 130<|
 Zs 2 9 138 .nil) .ret) (Zr (Ys 140 40 6 139)<| .cond (.t 139) (Zr (fG 142 2 4 2<|
 Zq 144 false 133 [.t 142,.c (Zz 1),.t 143,.c (Zz 0)]<|
 Zm 141 144<|
 Yd 145 141<|
 YS 16 30<|
 .wk<| .wk<|Zs 2 16 145<|
 Yc 17 146)<|Zr (fG 147 2 16 2<|
 Zq 149 false 134 [.t 147,.t 148,.c (Zz 1)]<|
 Yd 150 149<|
 Zs 2 8 150<|
 Zs 2 9 151 .nil) .ret) .skip))))))<|Zr (fG 152 2 4 2<|
 Zq 154 false 134 [.t 152,.t 153,.c (Zz 0)]<|
 Yd 155 154<|
 Zs 2 8 155<|
 Zs 2 9 156 .nil) .ret⟩
theorem aid:Qe Tryz.prog Tryz.f80=some Ry.strip:=by kernel_rfl
def Rw:ay:=⟨64,[.cell 2 2 true,.t 3],Zr (YZ 1 25 0<|
 Zo (.alloc 2 2 30 (.agg [.aa,.aa]))<|
 Yi 3 0)<| .seq (Zr (fm 11 2 1 38<|
 Zm 4 12 .nil)<|Zr (YW 13 4)<| .cond (.t 14) (Zr (Zo (.dv 15 [.aa,.aa] [])<|
 Zm 16 4<|
 Zs 2 2 15<|
 Yc 3 16) .ret) .skip)<|Zr (YS 5 30<|
 .wk<| .wk<| .wk<| .wk .nil)<|Zr (Yi 6 0)<| .seq (Zr (YT 17 0 1<|
 Yi 20 0)<| .block 0<| .loop<|Zr (Yu 21 20 19)<| .seq (.cond (.t 21) .skip (.exit 0))<| .seq (.block 1<|Zr (Zm 22 20<|
 yc 23 18 20 8<|
 Zm 7 22<|
 Zs 6 8 24 .nil)<|Zr (Zh 26 2 5<|
 .wk<|Zh 27 2 1<|
 Yf 28 7 6<|
 Zq 30 false 80 [.t 26,.t 27,.t 28,.t 29]<|
 Zm 25 30<|
 Yd 31 25<|
 YS 9 30<|
 .wk<| .wk<|YS 10 135<|
 Zs 2 9 31<|
 Zs 2 10 32 .nil)<| .seq (Zr (YT 33 1 9<|
 Zk 36 .gtr 35 64<|
 ya 37 36 0 10 4000<|
 ya 43 42 1 10 4000 .nil)<| .cond (.t 48) (Zr (Zo (.dv 49 [.aa,.aa] [])<|
 Zs 2 2 49<|
 Yi 3 4) .ret) .skip)<|Zr (Zh 50 2 9<|
 .wk<|Zs 2 5 50 .nil)<|Zr (Yb 51 0 5<|
 Zh 53 2 10<|
 YB 54 2 135 53 48 52<|
 Zf 56 0 5<|
 Zs 1 56 55 .nil)<|Zr (Yb 57 0 8<|
 gp 59 58 1)<| .cond (.t 59) (.rg (YX 60 6)) .skip)<| .rg (Yz 62 20 20))<|Zr (Zh 63 2 5<|
 .wk<|Zs 2 2 63<|
 Yi 3 0) .ret⟩
theorem aie:Qe Tryz.prog Tryz.f40=some Rw.strip:=by kernel_rfl
end Go.Proofs.YtccppnepkfbpkaaGreat
namespace Go.FW
open Go
variable {C : Ctx} {fr : Fr} {hp : HP} {w : World} {K R : Qh}
theorem aif:(∀(β o n:Nat),(PV.au β o n).dh=[β])/\(∀(k:IntKind)(n:Int),(PV.int k n).dh=[])/\(∀b:Bool,(PV.bool b).dh=[])/\(PV.aa.dh=[])/\(∀(e:Nat)(xs:List PV),(PV.sl e xs).dh=[]):=by refine⟨?_,?_,?_,?_,?_⟩<;>intros<;>rfl
theorem Lw{s n m γ ty:Nat}(h1:fr s= .np γ 0 0)(h2:fr γ= .aF γ 2 ty [.aK [.au 2000000 0 n,.au 2000001 0 m]]):B6 fr s 2 [.au 2000000 0 n,.au 2000001 0 m]:=
 ⟨γ,0,0,2,ty,_,h1,h2,by simp,by omega,rfl⟩
theorem acv{s n m γ ty t:Nat}{q:PV}{bb:PV->Fr->HP->Prop}(h1:fr s= .np γ 0 0)(h2:fr γ= .aF γ 2 ty [.aK [.au 2000000 0 n,.au 2000001 0 m]])(h3:fr t=q)(h4:q.flat=true)
  (h5:bb (.cO [.au 2000000 0 n,.au 2000001 0 m] q) fr hp):sP [.cell s 2 true,.t t] bb fr hp:=by
 subst h3;obtain⟨e1,e2,e3⟩:=qH (hp:=hp) h4;refine LC (Lw h1 h2) e2 ?_ ?_
 ·show(Qu hp (fr t)).aD=true;rw[e1];exact e3
 ·show bb (.cO _ (Qu hp (fr t))) fr hp;rw[e1];exact h5
theorem pG{s n m γ ty t k:Nat}{ag:Bool}{q:PV}{bb:PV->Fr->HP->Prop}(h1:fr s= .np γ 0 0)(h2:fr γ= .aF γ 2 ty [.aK [.au 2000000 0 n,.au 2000001 0 m]])(h3:gv fr hp (.cell t k ag)=q)(h4:q.aD=true)
  (h5:bb (.cO [.au 2000000 0 n,.au 2000001 0 m] q) fr hp):sP [.cell s 2 true,.cell t k ag] bb fr hp:=by
 subst h3;obtain⟨g1,g2⟩:=B4 h4;exact LC (Lw h1 h2) rfl g1 (by rw[g2];exact h5)
theorem H6{p:PV}(h:p.flat=true):p.refs=[]/\p.aN=[]/\∀γ e ty xs,p≠ .aF γ e ty xs:=by cases p<;>first|(cases h;done)|exact⟨rfl,rfl,fun _ _ _ _ h=>by cases h⟩
theorem pJ{P:Program}(hP:C.P=P){g:FuncId}{l:List PV}{d n m n' m':Nat}{A B A' B':HB}{q:PV}(h:xq P g (Co n m::l) (fun _=>.undef) (Ql (Ql aw 2000000 A) 2000001 B) fun r _ H=>r= .cO [.ms 2000000 n',.ms 2000001 m'] q/\H 2000000=some A'/\H 2000001=some B')
  (hA:hp 2000000=some A) (hB:hp 2000001=some B) (fA:A.fz=false) (fB:B.fz=false) (hl:l.all PV.flat=true) (lA:l.length<1000000)
  (hK:K (ae (ia kP fr) d (.cO [.ms 2000000 n',.ms 2000001 m'] q)) (Ql (Ql hp 2000000 A') 2000001 B')):fC C false (.fn g [] []) (.aK [.au 2000000 0 n,.au 2000001 0 m]::l) (some d) fr hp K:=by
 have rC:=Kaq.1 hl;refine aht hP h hA hB fA fB (fun x hx=>?_) (fun γ ah=>?_) (by simp;omega) hK
 ·rcases KaC.1 hx with rfl|hx
  ·intro _ _ _ _ h;cases h
  ·exact(H6 (rC x hx)).2.2
 ·obtain⟨x,hx,ah⟩:=Kap.1 ah;rcases KaC.1 hx with rfl|hx
  ·simp[PV.refs,PV.aN,PV.dh]at ah;exact xr.2 ah
  ·rw[(H6 (rC x hx)).1,(H6 (rC x hx)).2.1]at ah;cases ah
attribute [go_sem] aif
end Go.FW
