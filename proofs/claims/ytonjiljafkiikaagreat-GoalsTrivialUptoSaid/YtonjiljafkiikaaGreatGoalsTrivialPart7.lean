/- Part 7 of the proof of GoalsTrivial: CL, U4, U7, U8, P8, U10, K0, CLW, FwYB. Own lemmas; no conditions. -/
import Derived.Test.YtonjiljafkiikaaGreatGoalsTrivialPart6
set_option maxHeartbeats 1000000
set_option linter.unusedSimpArgs false
set_option linter.unusedVariables false
set_option linter.unnecessarySimpa false
set_option maxRecDepth 100000
namespace Go.Proofs.YtonjiljafkiikaaGreat
open Go Go.FW
def uy:aw:=⟨17,[.t 2],Zr (Zc 2 0 .nil)<| .seq (Zr (Zm 3 0 .nil)<| .block 0<| .seq (Zr (Zk 5 .eql 3 1<|
 Zm 4 5 .nil)<| .cond (.t 4) .skip (.rg (Zk 6 .eql 3 5<|
 Zm 4 6 .nil)))<| .cond (.t 4) (Zr (Zc 2 3 .nil) .ret) (.seq (Zr (Zk 8 .eql 3 2<|
 Zm 7 8 .nil)<| .cond (.t 7) .skip (Zr (Zk 9 .eql 3 3<|
 Zm 7 9 .nil)<| .cond (.t 7) .skip (Zr (Zk 10 .eql 3 4<|
 Zm 7 10 .nil)<| .cond (.t 7) .skip (Zr (Zk 11 .eql 3 6<|
 Zm 7 11 .nil)<| .cond (.t 7) .skip (.rg (Zk 12 .eql 3 9<|
 Zm 7 12 .nil))))))<| .cond (.t 7) (Zr (Zc 2 4 .nil) .ret) (Zr (Zk 14 .eql 3 7<|
 Zm 13 14 .nil)<| .cond (.t 13) (Zr (Zc 2 8 .nil) .ret) (Zr (Zk 16 .eql 3 8<|
 Zm 15 16 .nil)<| .cond (.t 15) (Zr (Zc 2 2 .nil) .ret) .skip))))<|Zr (Zc 2 0 .nil) .ret⟩
theorem FA:Qe Tryz.prog Tryz.f23=some uy:=by kernel_rfl
def CS:aw:=⟨20,[.t 2],Zr (Zo (.box 1 3 32 (.t 0))<|
 Zo (.mv 2 (.c (.bool false))) .nil)<|Zr (Zf 3 0 1<|
 Zf 4 0 3<|
 Zl 5 1 4<|
 Zu 6 5<|
 Zm 7 6<|
 Zg 7 true (.bw 8 0 (.t 1))<|
 Zg 7 true (.bw 9 1 (.t 8))<|
 Zg 7 true (.ld 10 1 false (.t 9))<|
 Zg 7 true (.len 11 (.t 10))<|
 Zg 7 true (.bin 12 .eql false (.t 11) (.c (Zz 0)))<|
 Zo (.pick 13 (.t 7) (.t 12) (.c (.bool false)))<|
 Zm 14 13<|
 Zg 14 true (.bw 15 2 (.t 1))<|
 Zg 14 true (.ld 16 1 false (.t 15))<|
 Zg 14 true (.len 17 (.t 16))<|
 Zg 14 true (.bin 18 .eql false (.t 17) (.c (Zz 0)))<|
 Zo (.pick 19 (.t 14) (.t 18) (.c (.bool false)))<|
 Zm 2 19 .nil) .ret⟩
theorem UT:Qe Tryz.prog Tryz.f25=some CS:=by kernel_rfl
def c7:aw:=⟨51,[.t 4],Zr (Zo (.box 2 5 34 (.t 0))<|
 Zc 4 0 .nil)<| .seq (Zr (Zf 7 0 2<|
 Zl 8 1 7<|
 Zq 9 false 23 [.t 8]<|
 Zk 10 .eql 9 0 .nil)<| .cond (.t 10) (Zr (Zc 4 8 .nil) .ret) .skip)<| .seq (Zr (Zf 11 1 2<|
 Zl 12 1 11<|
 Zn 13 12<|
 Zf 14 0 2<|
 Zl 15 1 14<|
 Zq 16 true 23 [.t 15]<|
 Zb 17 .neq 13 16 .nil)<| .cond (.t 17) (Zr (Zc 4 1 .nil) .ret) .skip)<| .seq (Zr (Zf 18 1 2<|
 Zl 19 1 18<|
 Zn 20 19<|
 Zc 21 0 .nil)<| .block 0<| .loop<|Zr (Zb 22 .lss 21 20 .nil)<| .seq (.cond (.t 22) .skip (.exit 0))<| .seq (.block 1<|Zr (Zi 23 1 19 21<|
 Zl 24 1 23<|
 Zm 6 24 .nil)<|Zr (Zm 25 6<|
 Zk 26 .lss 25 0<|
 Zm 27 26<|
 Zg 27 false (.mv 28 (.t 6))<|
 Zg 27 false (.mv 29 (.t 1))<|
 Zg 27 false (.bin 30 .geq false (.t 28) (.t 29))<|
 Zo (.pick 31 (.t 27) (.c (.bool true)) (.t 30)) .nil)<| .cond (.t 31) (Zr (Zc 4 2 .nil) .ret) .skip)<| .rg (Zk 32 .add 21 1<|
 Zm 21 32 .nil))<| .seq (Zr (Zf 33 0 2<|
 Zl 34 1 33<|
 Zk 35 .eql 34 9<|
 Zm 36 35<|
 Zg 36 true (.bw 37 2 (.t 2))<|
 Zg 36 true (.ld 38 3 true (.t 37))<|
 Zg 36 true (.call (some 39) false (.c (.fn 24 [] [])) [.t 38])<|
 Zg 36 true (.un 40 .not (.t 39))<|
 Zo (.pick 41 (.t 36) (.t 40) (.c (.bool false))) .nil)<| .cond (.t 41) (Zr (Zc 4 1 .nil) .ret) .skip)<| .seq (Zr (Zf 42 0 2<|
 Zl 43 1 42<|
 Zk 44 .neq 43 9<|
 Zm 45 44<|
 Zg 45 true (.bw 46 2 (.t 2))<|
 Zg 45 true (.ld 47 3 true (.t 46))<|
 Zg 45 true (.call (some 48) false (.c (.fn 25 [] [])) [.t 47])<|
 Zg 45 true (.un 49 .not (.t 48))<|
 Zo (.pick 50 (.t 45) (.t 49) (.c (.bool false))) .nil)<| .cond (.t 50) (Zr (Zc 4 1 .nil) .ret) .skip)<|Zr (Zc 4 0 .nil) .ret⟩
theorem Wv:Qe Tryz.prog Tryz.f7=some c7:=by kernel_rfl
def uz:aw:=⟨17,[.t 2],Zr (Zc 2 0 .nil)<| .seq (Zr (Zm 3 0 .nil)<| .block 0<|Zr (Zk 5 .eql 3 8<|
 Zm 4 5 .nil)<| .cond (.t 4) (Zr (Zc 2 2 .nil) .ret) (.seq (Zr (Zk 7 .eql 3 1<|
 Zm 6 7 .nil)<| .cond (.t 6) .skip (.rg (Zk 8 .eql 3 5<|
 Zm 6 8 .nil)))<| .cond (.t 6) (Zr (Zc 2 3 .nil) .ret) (.seq (Zr (Zk 10 .eql 3 2<|
 Zm 9 10 .nil)<| .cond (.t 9) .skip (Zr (Zk 11 .eql 3 3<|
 Zm 9 11 .nil)<| .cond (.t 9) .skip (Zr (Zk 12 .eql 3 4<|
 Zm 9 12 .nil)<| .cond (.t 9) .skip (Zr (Zk 13 .eql 3 6<|
 Zm 9 13 .nil)<| .cond (.t 9) .skip (.rg (Zk 14 .eql 3 9<|
 Zm 9 14 .nil))))))<| .cond (.t 9) (Zr (Zc 2 4 .nil) .ret) (Zr (Zk 16 .eql 3 7<|
 Zm 15 16 .nil)<| .cond (.t 15) (Zr (Zc 2 8 .nil) .ret) .skip))))<|Zr (Zc 2 0 .nil) .ret⟩
theorem FB:Qe Tryz.prog Tryz.f59=some uz:=by kernel_rfl
def Dl:aw:=⟨20,[.t 2],Zr (Zo (.box 1 3 32 (.t 0))<|
 Zo (.mv 2 (.c (.bool false))) .nil)<|Zr (Zf 3 0 1<|
 Zf 4 0 3<|
 Zl 5 1 4<|
 Zu 6 5<|
 Zm 7 6<|
 Zg 7 true (.bw 8 0 (.t 1))<|
 Zg 7 true (.bw 9 1 (.t 8))<|
 Zg 7 true (.ld 10 1 false (.t 9))<|
 Zg 7 true (.len 11 (.t 10))<|
 Zg 7 true (.bin 12 .eql false (.t 11) (.c (Zz 0)))<|
 Zo (.pick 13 (.t 7) (.t 12) (.c (.bool false)))<|
 Zm 14 13<|
 Zg 14 true (.bw 15 2 (.t 1))<|
 Zg 14 true (.ld 16 1 false (.t 15))<|
 Zg 14 true (.len 17 (.t 16))<|
 Zg 14 true (.bin 18 .eql false (.t 17) (.c (Zz 0)))<|
 Zo (.pick 19 (.t 14) (.t 18) (.c (.bool false)))<|
 Zm 2 19 .nil) .ret⟩
theorem UU:Qe Tryz.prog Tryz.f61=some Dl:=by kernel_rfl
def CW:aw:=⟨53,[.t 4],Zr (Zo (.box 2 5 34 (.t 0))<|
 Zc 4 0 .nil)<|Zr (Zf 8 0 2<|
 Zl 9 1 8<|
 Zq 10 false 59 [.t 9]<|
 Zm 5 10 .nil)<| .seq (Zr (Zm 11 5<|
 Zk 12 .eql 11 0 .nil)<| .cond (.t 12) (Zr (Zc 4 8 .nil) .ret) .skip)<| .seq (Zr (Zf 13 1 2<|
 Zl 14 1 13<|
 Zn 15 14<|
 Zm 16 5<|
 Zb 17 .neq 15 16 .nil)<| .cond (.t 17) (Zr (Zc 4 1 .nil) .ret) .skip)<| .seq (Zr (Zf 18 1 2<|
 Zl 19 1 18<|
 Zn 20 19<|
 Zc 21 0 .nil)<| .block 0<| .loop<|Zr (Zb 22 .lss 21 20 .nil)<| .seq (.cond (.t 22) .skip (.exit 0))<| .seq (.block 1<|Zr (Zi 23 1 19 21<|
 Zl 24 1 23<|
 Zm 7 24 .nil)<|Zr (Zm 25 7<|
 Zk 26 .lss 25 0<|
 Zm 27 26<|
 Zg 27 false (.mv 28 (.t 7))<|
 Zg 27 false (.mv 29 (.t 1))<|
 Zg 27 false (.bin 30 .geq false (.t 28) (.t 29))<|
 Zo (.pick 31 (.t 27) (.c (.bool true)) (.t 30)) .nil)<| .cond (.t 31) (Zr (Zc 4 2 .nil) .ret) .skip)<| .rg (Zk 32 .add 21 1<|
 Zm 21 32 .nil))<| .seq (Zr (Zf 33 0 2<|
 Zl 34 1 33<|
 Zk 35 .eql 34 9<|
 Zm 36 35<|
 Zg 36 true (.bw 37 2 (.t 2))<|
 Zg 36 true (.ld 38 3 true (.t 37))<|
 Zg 36 true (.call (some 39) false (.c (.fn 60 [] [])) [.t 38])<|
 Zg 36 true (.un 40 .not (.t 39))<|
 Zo (.pick 41 (.t 36) (.t 40) (.c (.bool false)))<|
 Zm 42 41<|
 Zg 42 false (.bw 43 0 (.t 2))<|
 Zg 42 false (.ld 44 1 false (.t 43))<|
 Zg 42 false (.bin 45 .neq false (.t 44) (.c (Zz 9)))<|
 Zg 42 false (.mv 46 (.t 45))<|
 Zg 46 true (.bw 47 2 (.t 2))<|
 Zg 46 true (.ld 48 3 true (.t 47))<|
 Zg 46 true (.call (some 49) false (.c (.fn 61 [] [])) [.t 48])<|
 Zg 46 true (.un 50 .not (.t 49))<|
 Zg 42 false (.pick 51 (.t 46) (.t 50) (.c (.bool false)))<|
 Zo (.pick 52 (.t 42) (.c (.bool true)) (.t 51)) .nil)<| .cond (.t 52) (Zr (Zc 4 1 .nil) .ret) .skip)<|Zr (Zc 4 0 .nil) .ret⟩
theorem UW:Qe Tryz.prog Tryz.f29=some CW:=by kernel_rfl
def ur:aw:=⟨22,[.t 2],Zr (Zc 2 0 .nil)<| .seq (Zr (Zm 3 0 .nil)<| .block 0<|Zr (Zk 5 .eql 3 1<|
 Zm 4 5 .nil)<| .cond (.t 4) (Zr (Zc 2 0 .nil) .ret) (.seq (Zr (Zk 7 .eql 3 2<|
 Zm 6 7 .nil)<| .cond (.t 6) .skip (Zr (Zk 8 .eql 3 5<|
 Zm 6 8 .nil)<| .cond (.t 6) .skip (Zr (Zk 9 .eql 3 6<|
 Zm 6 9 .nil)<| .cond (.t 6) .skip (.rg (Zk 10 .eql 3 14<|
 Zm 6 10 .nil)))))<| .cond (.t 6) (Zr (Zc 2 2 .nil) .ret) (.seq (Zr (Zk 12 .eql 3 3<|
 Zm 11 12 .nil)<| .cond (.t 11) .skip (Zr (Zk 13 .eql 3 4<|
 Zm 11 13 .nil)<| .cond (.t 11) .skip (Zr (Zk 14 .eql 3 7<|
 Zm 11 14 .nil)<| .cond (.t 11) .skip (Zr (Zk 15 .eql 3 8<|
 Zm 11 15 .nil)<| .cond (.t 11) .skip (Zr (Zk 16 .eql 3 10<|
 Zm 11 16 .nil)<| .cond (.t 11) .skip (.rg (Zk 17 .eql 3 11<|
 Zm 11 17 .nil)))))))<| .cond (.t 11) (Zr (Zc 2 3 .nil) .ret) (.seq (Zr (Zk 19 .eql 3 9<|
 Zm 18 19 .nil)<| .cond (.t 18) .skip (Zr (Zk 20 .eql 3 12<|
 Zm 18 20 .nil)<| .cond (.t 18) .skip (.rg (Zk 21 .eql 3 13<|
 Zm 18 21 .nil))))<| .cond (.t 18) (Zr (Zc 2 4 .nil) .ret) .skip))))<|Zr (Zc 2 (-1) .nil) .ret⟩
theorem JD:Qe Tryz.prog Tryz.f104=some ur:=by kernel_rfl
def CF:aw:=⟨20,[.t 2],Zr (Zo (.box 1 3 32 (.t 0))<|
 Zo (.mv 2 (.c (.bool false))) .nil)<|Zr (Zf 3 0 1<|
 Zf 4 0 3<|
 Zl 5 1 4<|
 Zu 6 5<|
 Zm 7 6<|
 Zg 7 true (.bw 8 0 (.t 1))<|
 Zg 7 true (.bw 9 1 (.t 8))<|
 Zg 7 true (.ld 10 1 false (.t 9))<|
 Zg 7 true (.len 11 (.t 10))<|
 Zg 7 true (.bin 12 .eql false (.t 11) (.c (Zz 0)))<|
 Zo (.pick 13 (.t 7) (.t 12) (.c (.bool false)))<|
 Zm 14 13<|
 Zg 14 true (.bw 15 2 (.t 1))<|
 Zg 14 true (.ld 16 1 false (.t 15))<|
 Zg 14 true (.len 17 (.t 16))<|
 Zg 14 true (.bin 18 .eql false (.t 17) (.c (Zz 0)))<|
 Zo (.pick 19 (.t 14) (.t 18) (.c (.bool false)))<|
 Zm 2 19 .nil) .ret⟩
theorem Th:Qe Tryz.prog Tryz.f105=some CF:=by kernel_rfl
def CL:aw:=⟨17,[.t 2],Zr (Zo (.mv 2 (.c (.bool false))) .nil)<|Zr (Zm 3 0<|
 Zo (.bin 4 .geq false (.t 3) (.c (.int .u8 65)))<|
 Zm 5 4<|
 Zg 5 true (.mv 6 (.t 0))<|
 Zg 5 true (.bin 7 .leq false (.t 6) (.c (.int .u8 90)))<|
 Zo (.pick 8 (.t 5) (.t 7) (.c (.bool false)))<|
 Zm 9 8<|
 Zg 9 false (.mv 10 (.t 0))<|
 Zg 9 false (.bin 11 .geq false (.t 10) (.c (.int .u8 97)))<|
 Zg 9 false (.mv 12 (.t 11))<|
 Zg 12 true (.mv 13 (.t 0))<|
 Zg 12 true (.bin 14 .leq false (.t 13) (.c (.int .u8 122)))<|
 Zg 9 false (.pick 15 (.t 12) (.t 14) (.c (.bool false)))<|
 Zo (.pick 16 (.t 9) (.c (.bool true)) (.t 15))<|
 Zm 2 16 .nil) .ret⟩
theorem Ti:Qe Tryz.prog Tryz.f142=some CL:=by kernel_rfl
def CM:aw:=⟨9,[.t 2],Zr (Zo (.mv 2 (.c (.bool false))) .nil)<|Zr (Zm 3 0<|
 Zo (.bin 4 .geq false (.t 3) (.c (.int .u8 48)))<|
 Zm 5 4<|
 Zg 5 true (.mv 6 (.t 0))<|
 Zg 5 true (.bin 7 .leq false (.t 6) (.c (.int .u8 57)))<|
 Zo (.pick 8 (.t 5) (.t 7) (.c (.bool false)))<|
 Zm 2 8 .nil) .ret⟩
theorem Tj:Qe Tryz.prog Tryz.f143=some CM:=by kernel_rfl
def CN:aw:=⟨2,[.t 0],Zr (Zo (.mv 0 (.c .aa)) .nil)<|Zr (Zo (.bs 1 1 9 [.c (.str ⟨#[0x61,0x6e,0x67,0x6c,0x65]⟩),.c (.str ⟨#[0x61,0x70,0x65,0x78]⟩),.c (.str ⟨#[0x62,0x69,0x73,0x65,0x63,0x74,0x6f,0x72]⟩),.c (.str ⟨#[0x63,0x65,0x6e,0x74,0x65,0x72]⟩),.c (.str ⟨#[0x63,0x69,0x72,0x63,0x6c,0x65]⟩),.c (.str ⟨#[0x63,0x69,0x72,0x63,0x75,0x6d]⟩),.c (.str ⟨#[0x63,0x6f,0x6c,0x6c,0x69,0x6e,0x65,0x61,0x72]⟩),.c (.str ⟨#[0x63,0x6f,0x6d,0x6d,0x6f,0x6e]⟩),.c (.str ⟨#[0x63,0x6f,0x6e,0x63,0x79,0x63,0x6c,0x69,0x63]⟩),.c (.str ⟨#[0x63,0x6f,0x6e,0x67,0x72,0x75,0x65,0x6e,0x74]⟩),.c (.str ⟨#[0x63,0x72,0x6f,0x73,0x73]⟩),.c (.str ⟨#[0x63,0x75,0x74]⟩),.c (.str ⟨#[0x64,0x69,0x76,0x69,0x64,0x65]⟩),.c (.str ⟨#[0x66,0x6f,0x6f,0x74]⟩),.c (.str ⟨#[0x6c,0x69,0x6e,0x65]⟩),.c (.str ⟨#[0x6d,0x65,0x65,0x74]⟩),.c (.str ⟨#[0x6d,0x69,0x64,0x70,0x6f,0x69,0x6e,0x74]⟩),.c (.str ⟨#[0x6d,0x69,0x72,0x72,0x6f,0x72]⟩),.c (.str ⟨#[0x6f,0x6e]⟩),.c (.str ⟨#[0x6f,0x74,0x68,0x65,0x72]⟩),.c (.str ⟨#[0x70,0x61,0x72,0x61,0x6c,0x6c,0x65,0x6c]⟩),.c (.str ⟨#[0x70,0x65,0x72,0x70,0x65,0x6e,0x64,0x69,0x63,0x75,0x6c,0x61,0x72]⟩),.c (.str ⟨#[0x70,0x6f,0x69,0x6e,0x74,0x73]⟩),.c (.str ⟨#[0x70,0x72,0x6f,0x76,0x65]⟩),.c (.str ⟨#[0x72,0x61,0x74,0x69,0x6f]⟩),.c (.str ⟨#[0x72,0x65,0x66,0x6c,0x65,0x63,0x74]⟩),.c (.str ⟨#[0x73,0x61,0x6d,0x65]⟩),.c (.str ⟨#[0x73,0x68,0x69,0x66,0x74]⟩),.c (.str ⟨#[0x74,0x75,0x72,0x6e]⟩)])<|
 Zm 0 1 .nil) .ret⟩
theorem Tk:Qe Tryz.prog Tryz.f144=some CN:=by kernel_rfl
def CP:aw:=⟨59,[.t 2],Zr (Zo (.box 1 2 25 (.t 0))<|
 Zo (.mv 2 (.c (.bool false))) .nil)<|Zr (Zh 8 2 1<|
 Zq 9 false 44 [.t 8]<|
 Zm 3 9 .nil)<| .seq (Zr (Zc 4 0 .nil)<| .block 0<| .loop<| .seq (Zr (Zm 10 4<|
 Zm 11 3<|
 Zn 12 11<|
 Zb 13 .lss 10 12 .nil)<| .cond (.t 13) .skip (.exit 0))<| .seq (.block 1<|Zr (Zm 16 3<|
 Zm 17 4<|
 Zi 18 1 16 17<|
 Zl 19 1 18<|
 Zk 20 .gtr 19 8 .nil)<| .cond (.t 20) (Zr (Zo (.mv 2 (.c (.bool false))) .nil) .ret) .skip)<| .rg (Zm 14 4<|
 Zk 15 .add 14 1<|
 Zm 4 15 .nil))<| .seq (Zr (Zc 5 0 .nil)<| .block 2<| .loop<| .seq (Zr (Zm 21 5<|
 Zf 22 1 1<|
 Zl 23 1 22<|
 Zn 24 23<|
 Zb 25 .lss 21 24 .nil)<| .cond (.t 25) .skip (.exit 2))<| .seq (.block 3<|Zr (Zf 28 1 1<|
 Zl 29 1 28<|
 Zm 30 5<|
 Zi 31 5 29 30<|
 Zh 32 5 31<|
 Zo (.alloc 6 5 34 (.agg [Zz 0,.aa,.bool false,.aa,.aa]))<|
 Zs 5 6 32 .nil)<|Zr (Zc 7 0 .nil)<| .block 4<| .loop<| .seq (Zr (Zm 33 7<|
 Zf 34 1 6<|
 Zl 35 1 34<|
 Zn 36 35<|
 Zb 37 .lss 33 36 .nil)<| .cond (.t 37) .skip (.exit 4))<| .seq (.block 5<|Zr (Zf 40 0 6<|
 Zl 41 1 40<|
 Zk 42 .eql 41 6<|
 Zm 43 42<|
 Zg 43 false (.bw 44 0 (.t 6))<|
 Zg 43 false (.ld 45 1 false (.t 44))<|
 Zg 43 false (.bin 46 .eql false (.t 45) (.c (Zz 7)))<|
 Zo (.pick 47 (.t 43) (.c (.bool true)) (.t 46))<|
 Zm 48 47<|
 Zg 48 true (.mv 49 (.t 3))<|
 Zg 48 true (.bw 50 1 (.t 6))<|
 Zg 48 true (.ld 51 1 false (.t 50))<|
 Zg 48 true (.mv 52 (.t 7))<|
 Zg 48 true (.idx 53 1 (.t 51) (.t 52))<|
 Zg 48 true (.ld 54 1 false (.t 53))<|
 Zg 48 true (.idx 55 1 (.t 49) (.t 54))<|
 Zg 48 true (.ld 56 1 false (.t 55))<|
 Zg 48 true (.bin 57 .gtr false (.t 56) (.c (Zz 3)))<|
 Zo (.pick 58 (.t 48) (.t 57) (.c (.bool false))) .nil)<| .cond (.t 58) (Zr (Zo (.mv 2 (.c (.bool false))) .nil) .ret) .skip)<| .rg (Zm 38 7<|
 Zk 39 .add 38 1<|
 Zm 7 39 .nil))<| .rg (Zm 26 5<|
 Zk 27 .add 26 1<|
 Zm 5 27 .nil))<|Zr (Zo (.mv 2 (.c (.bool true))) .nil) .ret⟩
theorem UX:Qe Tryz.prog Tryz.f22=some CP:=by kernel_rfl
def C6:aw:=⟨85,[.t 2],Zr (Zo (.box 1 2 25 (.t 0))<|
 Zo (.mv 2 (.c .aa)) .nil)<|Zr (Zo (.mv 3 (.c .aa)) .nil)<| .seq (Zr (Zc 4 0 .nil)<| .block 0<| .loop<| .seq (Zr (Zm 7 4<|
 Zf 8 0 1<|
 Zl 9 1 8<|
 Zn 10 9<|
 Zb 11 .lss 7 10 .nil)<| .cond (.t 11) .skip (.exit 0))<| .seq (.block 1<|Zr (Zf 14 0 1<|
 Zl 15 1 14<|
 Zm 16 4<|
 Zi 17 6 15 16<|
 Zf 18 2 17<|
 Zl 19 1 18<|
 Zm 5 19<|
 Zc 6 1 .nil)<| .seq (Zr (Zf 20 0 1<|
 Zl 21 1 20<|
 Zm 22 4<|
 Zi 23 6 21 22<|
 Zf 24 0 23<|
 Zl 25 1 24 .nil)<| .block 2<|Zr (Zk 27 .eql 25 2<|
 Zm 26 27 .nil)<| .cond (.t 26) (.rg (Zm 28 3<|
 Zm 29 5<|
 Zo (.idx 30 1 (.t 29) (.c (Zz 0)))<|
 Zl 31 1 30<|
 Zi 32 1 28 31<|
 Zl 33 1 32<|
 Zm 34 3<|
 Zm 35 5<|
 Zo (.idx 36 1 (.t 35) (.c (Zz 1)))<|
 Zl 37 1 36<|
 Zi 38 1 34 37<|
 Zl 39 1 38<|
 Zb 40 .add 33 39<|
 Zm 6 40 .nil)) (.seq (Zr (Zk 42 .eql 25 3<|
 Zm 41 42 .nil)<| .cond (.t 41) .skip (.rg (Zk 43 .eql 25 4<|
 Zm 41 43 .nil)))<| .cond (.t 41) (.rg (Zm 44 3<|
 Zm 45 5<|
 Zo (.idx 46 1 (.t 45) (.c (Zz 0)))<|
 Zl 47 1 46<|
 Zi 48 1 44 47<|
 Zl 49 1 48<|
 Zm 50 3<|
 Zm 51 5<|
 Zo (.idx 52 1 (.t 51) (.c (Zz 1)))<|
 Zl 53 1 52<|
 Zi 54 1 50 53<|
 Zl 55 1 54<|
 Zb 56 .add 49 55<|
 Zm 57 3<|
 Zm 58 5<|
 Zo (.idx 59 1 (.t 58) (.c (Zz 2)))<|
 Zl 60 1 59<|
 Zi 61 1 57 60<|
 Zl 62 1 61<|
 Zb 63 .add 56 62<|
 Zm 6 63 .nil)) (Zr (Zk 65 .eql 25 5<|
 Zm 64 65 .nil)<| .cond (.t 64) (.rg (Zm 66 3<|
 Zm 67 5<|
 Zo (.idx 68 1 (.t 67) (.c (Zz 0)))<|
 Zl 69 1 68<|
 Zi 70 1 66 69<|
 Zl 71 1 70<|
 Zo (.bin 72 .mul false (.c (Zz 2)) (.t 71))<|
 Zm 73 3<|
 Zm 74 5<|
 Zo (.idx 75 1 (.t 74) (.c (Zz 1)))<|
 Zl 76 1 75<|
 Zi 77 1 73 76<|
 Zl 78 1 77<|
 Zb 79 .add 72 78<|
 Zm 6 79 .nil)) .skip)))<| .rg (Zm 80 3<|
 Zm 81 6<|
 Zo (.bs 82 1 3 [.t 81])<|
 Zo (.app 83 1 8 3 (.t 80) (.t 82))<|
 Zm 3 83 .nil))<| .rg (Zm 12 4<|
 Zk 13 .add 12 1<|
 Zm 4 13 .nil))<|Zr (Zm 84 3<|
 Zm 2 84 .nil) .ret⟩
theorem UY:Qe Tryz.prog Tryz.f44=some C6:=by kernel_rfl
def c6:aw:=⟨81,[.t 2],Zr (Zo (.box 1 2 25 (.t 0))<|
 Zo (.mv 2 (.c (.bool false))) .nil)<| .seq (Zr (Zf 5 0 1<|
 Zl 6 1 5<|
 Zn 7 6<|
 Zk 8 .gtr 7 8<|
 Zm 9 8<|
 Zg 9 false (.bw 10 1 (.t 1))<|
 Zg 9 false (.ld 11 1 false (.t 10))<|
 Zg 9 false (.len 12 (.t 11))<|
 Zg 9 false (.bin 13 .gtr false (.t 12) (.c (Zz 3)))<|
 Zo (.pick 14 (.t 9) (.c (.bool true)) (.t 13))<|
 Zm 15 14<|
 Zg 15 false (.ld 16 2 true (.t 1))<|
 Zg 15 false (.call (some 17) false (.c (.fn 21 [] [])) [.t 16])<|
 Zg 15 false (.bin 18 .neq false (.t 17) (.c (Zz 0)))<|
 Zo (.pick 19 (.t 15) (.c (.bool true)) (.t 18))<|
 Zm 20 19<|
 Zg 20 false (.ld 21 2 true (.t 1))<|
 Zg 20 false (.call (some 22) false (.c (.fn 22 [] [])) [.t 21])<|
 Zg 20 false (.un 23 .not (.t 22))<|
 Zo (.pick 24 (.t 20) (.c (.bool true)) (.t 23)) .nil)<| .cond (.t 24) (Zr (Zo (.mv 2 (.c (.bool false))) .nil) .ret) .skip)<| .seq (Zr (Zc 3 0 .nil)<| .block 0<| .loop<| .seq (Zr (Zm 25 3<|
 Zf 26 0 1<|
 Zl 27 1 26<|
 Zn 28 27<|
 Zb 29 .lss 25 28 .nil)<| .cond (.t 29) .skip (.exit 0))<| .seq (.block 1<|Zr (Zf 32 0 1<|
 Zl 33 1 32<|
 Zm 34 3<|
 Zi 35 6 33 34<|
 Zf 36 3 35<|
 Zf 37 0 36<|
 Zf 38 1 37<|
 Zl 39 1 38<|
 Zn 40 39<|
 Zk 41 .gtr 40 2<|
 Zm 42 41<|
 Zg 42 false (.bw 43 0 (.t 1))<|
 Zg 42 false (.ld 44 1 false (.t 43))<|
 Zg 42 false (.mv 45 (.t 3))<|
 Zg 42 false (.idx 46 6 (.t 44) (.t 45))<|
 Zg 42 false (.bw 47 3 (.t 46))<|
 Zg 42 false (.bw 48 2 (.t 47))<|
 Zg 42 false (.ld 49 1 false (.t 48))<|
 Zg 42 false (.len 50 (.t 49))<|
 Zg 42 false (.bin 51 .gtr false (.t 50) (.c (Zz 2)))<|
 Zo (.pick 52 (.t 42) (.c (.bool true)) (.t 51)) .nil)<| .cond (.t 52) (Zr (Zo (.mv 2 (.c (.bool false))) .nil) .ret) .skip)<| .rg (Zm 30 3<|
 Zk 31 .add 30 1<|
 Zm 3 31 .nil))<| .seq (Zr (Zc 4 0 .nil)<| .block 2<| .loop<| .seq (Zr (Zm 53 4<|
 Zf 54 1 1<|
 Zl 55 1 54<|
 Zn 56 55<|
 Zb 57 .lss 53 56 .nil)<| .cond (.t 57) .skip (.exit 2))<| .seq (.block 3<|Zr (Zf 60 1 1<|
 Zl 61 1 60<|
 Zm 62 4<|
 Zi 63 5 61 62<|
 Zf 64 2 63<|
 Zf 65 0 64<|
 Zf 66 1 65<|
 Zl 67 1 66<|
 Zn 68 67<|
 Zk 69 .gtr 68 2<|
 Zm 70 69<|
 Zg 70 false (.bw 71 1 (.t 1))<|
 Zg 70 false (.ld 72 1 false (.t 71))<|
 Zg 70 false (.mv 73 (.t 4))<|
 Zg 70 false (.idx 74 5 (.t 72) (.t 73))<|
 Zg 70 false (.bw 75 2 (.t 74))<|
 Zg 70 false (.bw 76 2 (.t 75))<|
 Zg 70 false (.ld 77 1 false (.t 76))<|
 Zg 70 false (.len 78 (.t 77))<|
 Zg 70 false (.bin 79 .gtr false (.t 78) (.c (Zz 2)))<|
 Zo (.pick 80 (.t 70) (.c (.bool true)) (.t 79)) .nil)<| .cond (.t 80) (Zr (Zo (.mv 2 (.c (.bool false))) .nil) .ret) .skip)<| .rg (Zm 58 4<|
 Zk 59 .add 58 1<|
 Zm 4 59 .nil))<|Zr (Zo (.mv 2 (.c (.bool true))) .nil) .ret⟩
theorem W3:Qe Tryz.prog Tryz.f6=some c6:=by kernel_rfl
def CO:aw:=⟨48,[.t 2],Zr (Zo (.box 1 2 25 (.t 0))<|
 Zc 2 0 .nil)<| .seq (Zr (Zf 8 0 1<|
 Zl 9 1 8<|
 Zn 10 9<|
 Zk 11 .gtr 10 40<|
 Zm 12 11<|
 Zg 12 false (.bw 13 1 (.t 1))<|
 Zg 12 false (.ld 14 1 false (.t 13))<|
 Zg 12 false (.len 15 (.t 14))<|
 Zg 12 false (.bin 16 .gtr false (.t 15) (.c (Zz 8)))<|
 Zo (.pick 17 (.t 12) (.c (.bool true)) (.t 16)) .nil)<| .cond (.t 17) (Zr (Zc 2 4 .nil) .ret) .skip)<| .seq (Zr (Zf 18 0 1<|
 Zl 19 1 18<|
 Zn 20 19<|
 Zc 21 0 .nil)<| .block 0<| .loop<|Zr (Zb 22 .lss 21 20 .nil)<| .seq (.cond (.t 22) .skip (.exit 0))<| .seq (.block 1<|Zr (Zm 23 21<|
 Zm 3 23 .nil)<|Zr (Zf 24 0 1<|
 Zl 25 1 24<|
 Zm 26 3<|
 Zq 27 false 43 [.t 25,.t 26]<|
 Zm 4 27 .nil)<|Zr (Zm 28 4<|
 Zk 29 .neq 28 0 .nil)<| .cond (.t 29) (Zr (Zm 30 4<|
 Zm 2 30 .nil) .ret) .skip)<| .rg (Zk 31 .add 21 1<|
 Zm 21 31 .nil))<| .seq (Zr (Zf 32 1 1<|
 Zl 33 1 32<|
 Zn 34 33<|
 Zc 35 0 .nil)<| .block 2<| .loop<|Zr (Zb 36 .lss 35 34 .nil)<| .seq (.cond (.t 36) .skip (.exit 2))<| .seq (.block 3<|Zr (Zi 37 5 33 35<|
 Zh 38 5 37<|
 Zo (.alloc 6 5 34 (.agg [Zz 0,.aa,.bool false,.aa,.aa]))<|
 Zs 5 6 38 .nil)<|Zr (Zh 39 5 6<|
 Zf 40 0 1<|
 Zl 41 1 40<|
 Zn 42 41<|
 Zq 43 false 7 [.t 39,.t 42]<|
 Zm 7 43 .nil)<|Zr (Zm 44 7<|
 Zk 45 .neq 44 0 .nil)<| .cond (.t 45) (Zr (Zm 46 7<|
 Zm 2 46 .nil) .ret) .skip)<| .rg (Zk 47 .add 35 1<|
 Zm 35 47 .nil))<|Zr (Zc 2 0 .nil) .ret⟩
theorem UZ:Qe Tryz.prog Tryz.f21=some CO:=by kernel_rfl
def C5:aw:=⟨81,[.t 4],Zr (Zc 4 0 .nil)<|Zr (Zm 10 0<|
 Zm 11 1<|
 Zi 12 6 10 11<|
 Zh 13 6 12<|
 Zo (.alloc 5 6 76 (.agg [Zz 0,.str ⟨#[]⟩,.aa,.bool false,.aa,.aa]))<|
 Zs 6 5 13 .nil)<| .seq (Zr (Zf 14 0 5<|
 Zl 15 1 14<|
 Zq 16 false 104 [.t 15]<|
 Zk 17 .lss 16 0 .nil)<| .cond (.t 17) (Zr (Zc 4 8 .nil) .ret) .skip)<| .seq (Zr (Zf 18 2 5<|
 Zl 19 1 18<|
 Zn 20 19<|
 Zf 21 0 5<|
 Zl 22 1 21<|
 Zq 23 true 104 [.t 22]<|
 Zb 24 .neq 20 23 .nil)<| .cond (.t 24) (Zr (Zc 4 1 .nil) .ret) .skip)<| .seq (Zr (Zf 25 2 5<|
 Zl 26 1 25<|
 Zn 27 26<|
 Zc 28 0 .nil)<| .block 0<| .loop<|Zr (Zb 29 .lss 28 27 .nil)<| .seq (.cond (.t 29) .skip (.exit 0))<| .seq (.block 1<|Zr (Zi 30 1 26 28<|
 Zl 31 1 30<|
 Zm 7 31 .nil)<|Zr (Zm 32 7<|
 Zk 33 .lss 32 0<|
 Zm 34 33<|
 Zg 34 false (.mv 35 (.t 7))<|
 Zg 34 false (.mv 36 (.t 1))<|
 Zg 34 false (.bin 37 .geq false (.t 35) (.t 36))<|
 Zo (.pick 38 (.t 34) (.c (.bool true)) (.t 37)) .nil)<| .cond (.t 38) (Zr (Zc 4 2 .nil) .ret) .skip)<| .rg (Zk 39 .add 28 1<|
 Zm 28 39 .nil))<| .seq (Zr (Zf 40 0 5<|
 Zl 41 1 40<|
 Zk 42 .eql 41 2<|
 Zm 43 42<|
 Zg 43 true (.bw 44 3 (.t 5))<|
 Zg 43 true (.ld 45 3 true (.t 44))<|
 Zg 43 true (.call (some 46) false (.c (.fn 24 [] [])) [.t 45])<|
 Zg 43 true (.un 47 .not (.t 46))<|
 Zo (.pick 48 (.t 43) (.t 47) (.c (.bool false)))<|
 Zm 49 48<|
 Zg 49 false (.bw 50 0 (.t 5))<|
 Zg 49 false (.ld 51 1 false (.t 50))<|
 Zg 49 false (.bin 52 .neq false (.t 51) (.c (Zz 2)))<|
 Zg 49 false (.mv 53 (.t 52))<|
 Zg 53 true (.bw 54 3 (.t 5))<|
 Zg 53 true (.ld 55 3 true (.t 54))<|
 Zg 53 true (.call (some 56) false (.c (.fn 105 [] [])) [.t 55])<|
 Zg 53 true (.un 57 .not (.t 56))<|
 Zg 49 false (.pick 58 (.t 53) (.t 57) (.c (.bool false)))<|
 Zo (.pick 59 (.t 49) (.c (.bool true)) (.t 58)) .nil)<| .cond (.t 59) (Zr (Zc 4 1 .nil) .ret) .skip)<| .seq (Zr (Zf 60 1 5<|
 Zl 61 1 60<|
 Zo (.qW 62 false (.t 61) (.c (.str ⟨#[]⟩))) .nil)<| .cond (.t 62) (Zr (Zc 4 0 .nil) .ret) .skip)<| .seq (Zr (Zf 63 1 5<|
 Zl 64 1 63<|
 Zq 65 false 106 [.t 64]<|
 Zu 66 65 .nil)<| .cond (.t 66) (Zr (Zc 4 6 .nil) .ret) .skip)<| .seq (Zr (Zm 67 0<|
 Zm 68 1<|
 Zo (.sl 69 6 (.t 67) none (some (.t 68)) none)<|
 Zn 70 69<|
 Zc 71 0 .nil)<| .block 2<| .loop<|Zr (Zb 72 .lss 71 70 .nil)<| .seq (.cond (.t 72) .skip (.exit 2))<| .seq (.block 3<|Zr (Zi 73 6 69 71<|
 Zh 74 6 73<|
 Zo (.alloc 9 6 76 (.agg [Zz 0,.str ⟨#[]⟩,.aa,.bool false,.aa,.aa]))<|
 Zs 6 9 74 .nil)<|Zr (Zf 75 1 9<|
 Zl 76 1 75<|
 Zf 77 1 5<|
 Zl 78 1 77<|
 Zo (.qW 79 false (.t 76) (.t 78)) .nil)<| .cond (.t 79) (Zr (Zc 4 7 .nil) .ret) .skip)<| .rg (Zk 80 .add 71 1<|
 Zm 71 80 .nil))<|Zr (Zc 4 0 .nil) .ret⟩
theorem U':Qe Tryz.prog Tryz.f43=some C5:=by kernel_rfl
def Dh:aw:=⟨12,[.t 6],Zr (Zo (.mv 6 (.c .aa)) .nil)<|Zr (Zm 7 0<|
 Zm 8 1<|
 Zm 9 2<|
 Zq 10 false 71 [.t 8,.t 9]<|
 Zq 11 false 50 [.t 7,.t 10]<|
 Zm 6 11 .nil) .ret⟩
theorem Va:Qe Tryz.prog Tryz.f56=some Dh:=by kernel_rfl
def Df:aw:=⟨28,[.cell 6 2 true],Zr (Zo (.box 3 2 82 (.t 0))<|
 Zo (.box 4 2 82 (.t 1))<|
 Zo (.alloc 6 2 82 (.agg [.aa,.aa])) .nil)<|Zr (Zf 7 0 3<|
 Zl 8 1 7<|
 Zm 9 2<|
 Zf 10 0 4<|
 Zl 11 1 10<|
 Zf 12 0 3<|
 Zl 13 1 12<|
 Zf 17 1 3<|
 Zl 18 1 17<|
 Zm 19 2<|
 Zf 20 1 4<|
 Zl 21 1 20<|
 Zf 22 1 3<|
 Zl 23 1 22<|
 Zq 14 true 71 [.t 11,.t 13]<|
 Zq 15 true 26 [.t 9,.t 14]<|
 Zq 16 true 50 [.t 8,.t 15]<|
 Zq 24 true 71 [.t 21,.t 23]<|
 Zq 25 true 26 [.t 19,.t 24]<|
 Zq 26 true 50 [.t 18,.t 25]<|
 Zo (.cc 27 [.aa,.aa] [(0,1,.t 16),(1,1,.t 26)])<|
 Zs 2 6 27 .nil) .ret⟩
theorem Vb:Qe Tryz.prog Tryz.f54=some Df:=by kernel_rfl
def Dm:aw:=⟨28,[.t 8],Zr (Zo (.box 4 2 82 (.t 0))<|
 Zo (.box 5 2 82 (.t 1))<|
 Zo (.box 6 2 82 (.t 2))<|
 Zo (.box 7 2 82 (.t 3))<|
 Zo (.mv 8 (.c .aa)) .nil)<|Zr (Zh 11 2 4<|
 Zh 12 2 5<|
 Zh 14 2 6<|
 Zh 15 2 7<|
 .br (Zq 13 true 114 [.t 11,.t 12]<|
 .br (Zq 16 true 114 [.t 14,.t 15]<|
 .br (Zo (.alloc 9 2 159 (.agg [.aa,.aa]))<|
 Zo (.alloc 10 2 159 (.agg [.aa,.aa]))<|
 Zs 2 9 13<|
 Zs 2 10 16 .nil) (Zo (.alloc 10 2 159 (.agg [.aa,.aa]))<|
 Zo (.alloc 9 2 159 (.agg [.aa,.aa]))<|
 Zs 2 9 13<|
 Zs 2 10 16 .nil)) (.br (Zo (.alloc 9 2 159 (.agg [.aa,.aa]))<|
 .br (Zq 16 true 114 [.t 14,.t 15]<|
 Zo (.alloc 10 2 159 (.agg [.aa,.aa]))<|
 Zs 2 9 13<|
 Zs 2 10 16 .nil) (Zo (.alloc 10 2 159 (.agg [.aa,.aa]))<|
 Zq 16 true 114 [.t 14,.t 15]<|
 Zs 2 9 13<|
 Zs 2 10 16 .nil)) (Zo (.alloc 10 2 159 (.agg [.aa,.aa]))<|
 .br (Zq 16 true 114 [.t 14,.t 15]<|
 Zo (.alloc 9 2 159 (.agg [.aa,.aa]))<|
 Zs 2 9 13<|
 Zs 2 10 16 .nil) (Zo (.alloc 9 2 159 (.agg [.aa,.aa]))<|
 Zq 16 true 114 [.t 14,.t 15]<|
 Zs 2 9 13<|
 Zs 2 10 16 .nil)))) (.br (Zo (.alloc 9 2 159 (.agg [.aa,.aa]))<|
 .br (Zq 13 true 114 [.t 11,.t 12]<|
 .br (Zq 16 true 114 [.t 14,.t 15]<|
 Zo (.alloc 10 2 159 (.agg [.aa,.aa]))<|
 Zs 2 9 13<|
 Zs 2 10 16 .nil) (Zo (.alloc 10 2 159 (.agg [.aa,.aa]))<|
 Zq 16 true 114 [.t 14,.t 15]<|
 Zs 2 9 13<|
 Zs 2 10 16 .nil)) (Zo (.alloc 10 2 159 (.agg [.aa,.aa]))<|
 Zq 13 true 114 [.t 11,.t 12]<|
 Zq 16 true 114 [.t 14,.t 15]<|
 Zs 2 9 13<|
 Zs 2 10 16 .nil)) (Zo (.alloc 10 2 159 (.agg [.aa,.aa]))<|
 .br (Zq 13 true 114 [.t 11,.t 12]<|
 .br (Zq 16 true 114 [.t 14,.t 15]<|
 Zo (.alloc 9 2 159 (.agg [.aa,.aa]))<|
 Zs 2 9 13<|
 Zs 2 10 16 .nil) (Zo (.alloc 9 2 159 (.agg [.aa,.aa]))<|
 Zq 16 true 114 [.t 14,.t 15]<|
 Zs 2 9 13<|
 Zs 2 10 16 .nil)) (Zo (.alloc 9 2 159 (.agg [.aa,.aa]))<|
 Zq 13 true 114 [.t 11,.t 12]<|
 Zq 16 true 114 [.t 14,.t 15]<|
 Zs 2 9 13<|
 Zs 2 10 16 .nil))))<|Zr (Zo (.kB 17 2 1 (.t 9) (.c (Zz 0)))<|
 Zl 18 1 17<|
 Zo (.kB 19 2 1 (.t 10) (.c (Zz 1)))<|
 Zl 20 1 19<|
 Zo (.kB 22 2 1 (.t 9) (.c (Zz 1)))<|
 Zl 23 1 22<|
 Zo (.kB 24 2 1 (.t 10) (.c (Zz 0)))<|
 Zl 25 1 24<|
 Zq 21 true 115 [.t 18,.t 20]<|
 Zq 26 true 115 [.t 23,.t 25]<|
 Zq 27 true 68 [.t 21,.t 26]<|
 Zm 8 27 .nil) .ret⟩
theorem VM:Qe Tryz.prog Tryz.f62=some Dm:=by kernel_rfl
def Dn:aw:=⟨16,[.t 8],Zr (Zo (.box 4 2 82 (.t 0))<|
 Zo (.box 5 2 82 (.t 1))<|
 Zo (.box 6 2 82 (.t 2))<|
 Zo (.box 7 2 82 (.t 3))<|
 Zo (.mv 8 (.c .aa)) .nil)<|Zr (Zh 9 2 4<|
 Zh 10 2 5<|
 Zh 12 2 6<|
 Zh 13 2 7<|
 Zq 11 true 114 [.t 9,.t 10]<|
 Zq 14 true 114 [.t 12,.t 13]<|
 Zq 15 true 116 [.t 11,.t 14]<|
 Zm 8 15 .nil) .ret⟩
theorem VN:Qe Tryz.prog Tryz.f63=some Dn:=by kernel_rfl
def CH:aw:=⟨16,[.cell 4 2 true],Zr (Zo (.box 2 2 82 (.t 0))<|
 Zo (.box 3 2 82 (.t 1))<|
 Zo (.alloc 4 2 159 (.agg [.aa,.aa])) .nil)<|Zr (Zf 5 0 3<|
 Zl 6 1 5<|
 Zf 7 0 2<|
 Zl 8 1 7<|
 Zf 10 1 3<|
 Zl 11 1 10<|
 Zf 12 1 2<|
 Zl 13 1 12<|
 Zq 9 true 68 [.t 6,.t 8]<|
 Zq 14 true 68 [.t 11,.t 13]<|
 Zo (.cc 15 [.aa,.aa] [(0,1,.t 9),(1,1,.t 14)])<|
 Zs 2 4 15 .nil) .ret⟩
theorem Tl:Qe Tryz.prog Tryz.f114=some CH:=by kernel_rfl
def CI:aw:=⟨16,[.t 4],Zr (Zo (.box 2 2 159 (.t 0))<|
 Zo (.box 3 2 159 (.t 1))<|
 Zo (.mv 4 (.c .aa)) .nil)<|Zr (Zo (.kB 5 2 1 (.t 2) (.c (Zz 0)))<|
 Zl 6 1 5<|
 Zo (.kB 7 2 1 (.t 3) (.c (Zz 0)))<|
 Zl 8 1 7<|
 Zo (.kB 10 2 1 (.t 2) (.c (Zz 1)))<|
 Zl 11 1 10<|
 Zo (.kB 12 2 1 (.t 3) (.c (Zz 1)))<|
 Zl 13 1 12<|
 Zq 9 true 115 [.t 6,.t 8]<|
 Zq 14 true 115 [.t 11,.t 13]<|
 Zq 15 true 120 [.t 9,.t 14]<|
 Zm 4 15 .nil) .ret⟩
theorem Tn:Qe Tryz.prog Tryz.f116=some CI:=by kernel_rfl
def CJ:aw:=⟨18,[.t 4],Zr (Zo (.mv 4 (.c .aa)) .nil)<| .seq (Zr (Zm 7 1<|
 Zn 8 7<|
 Zc 9 0 .nil)<| .block 0<| .loop<|Zr (Zb 10 .lss 9 8 .nil)<| .seq (.cond (.t 10) .skip (.exit 0))<| .seq (.block 1<|Zr (Zi 11 1 7 9<|
 Zl 12 1 11<|
 Zm 6 12 .nil)<| .rg (Zm 13 0<|
 Zm 14 6<|
 Zq 15 false 115 [.t 13,.t 14]<|
 Zm 0 15 .nil))<| .rg (Zk 16 .add 9 1<|
 Zm 9 16 .nil))<|Zr (Zm 17 0<|
 Zm 4 17 .nil) .ret⟩
theorem To:Qe Tryz.prog Tryz.f121=some CJ:=by kernel_rfl
def Dr:aw:=⟨14,[.t 6],Zr (Zo (.mv 6 (.c .aa)) .nil)<|Zr (Zm 7 1<|
 Zm 8 2<|
 Zq 9 false 120 [.t 7,.t 8]<|
 Zm 10 0<|
 Zq 11 false 65 [.c (Zz 2)]<|
 Zq 12 false 117 [.t 10,.t 11]<|
 Zq 13 false 68 [.t 9,.t 12]<|
 Zm 6 13 .nil) .ret⟩
theorem VO:Qe Tryz.prog Tryz.f66=some Dr:=by kernel_rfl
def Dp:aw:=⟨36,[.t 4],Zr (Zo (.box 3 3 32 (.t 1))<|
 Zo (.mv 4 (.c .aa)) .nil)<|Zr (Zm 6 0<|
 Zo (.idx 7 2 (.t 6) (.c (Zz 0)))<|
 Zh 8 2 7<|
 Zm 9 0<|
 Zo (.idx 10 2 (.t 9) (.c (Zz 1)))<|
 Zh 11 2 10<|
 Zm 12 0<|
 Zo (.idx 13 2 (.t 12) (.c (Zz 0)))<|
 Zh 14 2 13<|
 Zm 15 0<|
 Zo (.idx 16 2 (.t 15) (.c (Zz 1)))<|
 Zh 17 2 16<|
 Zq 18 false 63 [.t 8,.t 11,.t 14,.t 17]<|
 Zm 5 18 .nil)<|Zr (Zm 19 5<|
 Zm 20 0<|
 Zo (.idx 21 2 (.t 20) (.c (Zz 2)))<|
 Zh 22 2 21<|
 Zm 23 0<|
 Zo (.idx 24 2 (.t 23) (.c (Zz 3)))<|
 Zh 25 2 24<|
 Zm 26 0<|
 Zo (.idx 27 2 (.t 26) (.c (Zz 2)))<|
 Zh 28 2 27<|
 Zm 29 0<|
 Zo (.idx 30 2 (.t 29) (.c (Zz 3)))<|
 Zh 31 2 30<|
 Zh 33 3 3<|
 Zq 32 true 63 [.t 22,.t 25,.t 28,.t 31]<|
 Zq 34 true 117 [.t 32,.t 33]<|
 Zq 35 true 68 [.t 19,.t 34]<|
 Zm 4 35 .nil) .ret⟩
theorem VP:Qe Tryz.prog Tryz.f64=some Dp:=by kernel_rfl
def Ds:aw:=⟨60,[.t 2],Zr (Zo (.mv 2 (.c .aa)) .nil)<|Zr (Zm 3 0<|
 Zo (.idx 4 2 (.t 3) (.c (Zz 0)))<|
 Zh 5 2 4<|
 Zm 6 0<|
 Zo (.idx 7 2 (.t 6) (.c (Zz 1)))<|
 Zh 8 2 7<|
 Zm 9 0<|
 Zo (.idx 10 2 (.t 9) (.c (Zz 2)))<|
 Zh 11 2 10<|
 Zm 12 0<|
 Zo (.idx 13 2 (.t 12) (.c (Zz 3)))<|
 Zh 14 2 13<|
 Zm 16 0<|
 Zo (.idx 17 2 (.t 16) (.c (Zz 4)))<|
 Zh 18 2 17<|
 Zm 19 0<|
 Zo (.idx 20 2 (.t 19) (.c (Zz 5)))<|
 Zh 21 2 20<|
 Zm 22 0<|
 Zo (.idx 23 2 (.t 22) (.c (Zz 6)))<|
 Zh 24 2 23<|
 Zm 25 0<|
 Zo (.idx 26 2 (.t 25) (.c (Zz 7)))<|
 Zh 27 2 26<|
 Zm 31 0<|
 Zo (.idx 32 2 (.t 31) (.c (Zz 4)))<|
 Zh 33 2 32<|
 Zm 34 0<|
 Zo (.idx 35 2 (.t 34) (.c (Zz 5)))<|
 Zh 36 2 35<|
 Zm 37 0<|
 Zo (.idx 38 2 (.t 37) (.c (Zz 6)))<|
 Zh 39 2 38<|
 Zm 40 0<|
 Zo (.idx 41 2 (.t 40) (.c (Zz 7)))<|
 Zh 42 2 41<|
 Zm 44 0<|
 Zo (.idx 45 2 (.t 44) (.c (Zz 0)))<|
 Zh 46 2 45<|
 Zm 47 0<|
 Zo (.idx 48 2 (.t 47) (.c (Zz 1)))<|
 Zh 49 2 48<|
 Zm 50 0<|
 Zo (.idx 51 2 (.t 50) (.c (Zz 2)))<|
 Zh 52 2 51<|
 Zm 53 0<|
 Zo (.idx 54 2 (.t 53) (.c (Zz 3)))<|
 Zh 55 2 54<|
 Zq 15 true 62 [.t 5,.t 8,.t 11,.t 14]<|
 Zq 28 true 63 [.t 18,.t 21,.t 24,.t 27]<|
 Zo (.bs 29 1 51 [.t 28])<|
 Zq 30 true 121 [.t 15,.t 29]<|
 Zq 43 true 62 [.t 33,.t 36,.t 39,.t 42]<|
 Zq 56 true 63 [.t 46,.t 49,.t 52,.t 55]<|
 Zo (.bs 57 1 51 [.t 56])<|
 Zq 58 true 121 [.t 43,.t 57]<|
 Zq 59 true 68 [.t 30,.t 58]<|
 Zm 2 59 .nil) .ret⟩
theorem VQ:Qe Tryz.prog Tryz.f67=some Ds:=by kernel_rfl
def fQ:aw:=⟨150,[.t 4],Zr (Zo (.box 2 5 34 (.t 0))<|
 Zo (.mv 4 (.c .aa)) .nil)<| .seq (Zr (Zf 5 0 2<|
 Zl 6 1 5 .nil)<| .block 0<|Zr (Zk 8 .eql 6 1<|
 Zm 7 8 .nil)<| .cond (.t 7) (Zr (Zm 9 1<|
 Zo (.idx 10 2 (.t 9) (.c (Zz 0)))<|
 Zh 11 2 10<|
 Zm 12 1<|
 Zo (.idx 13 2 (.t 12) (.c (Zz 1)))<|
 Zh 14 2 13<|
 Zm 15 1<|
 Zo (.idx 16 2 (.t 15) (.c (Zz 0)))<|
 Zh 17 2 16<|
 Zm 18 1<|
 Zo (.idx 19 2 (.t 18) (.c (Zz 2)))<|
 Zh 20 2 19<|
 Zq 21 false 62 [.t 11,.t 14,.t 17,.t 20]<|
 Zo (.bs 22 1 51 [.t 21])<|
 Zm 4 22 .nil) .ret) (Zr (Zk 24 .eql 6 2<|
 Zm 23 24 .nil)<| .cond (.t 23) (Zr (Zm 25 1<|
 Zo (.idx 26 2 (.t 25) (.c (Zz 0)))<|
 Zh 27 2 26<|
 Zm 28 1<|
 Zo (.idx 29 2 (.t 28) (.c (Zz 1)))<|
 Zh 30 2 29<|
 Zm 31 1<|
 Zo (.idx 32 2 (.t 31) (.c (Zz 2)))<|
 Zh 33 2 32<|
 Zm 34 1<|
 Zo (.idx 35 2 (.t 34) (.c (Zz 3)))<|
 Zh 36 2 35<|
 Zq 37 false 62 [.t 27,.t 30,.t 33,.t 36]<|
 Zo (.bs 38 1 51 [.t 37])<|
 Zm 4 38 .nil) .ret) (Zr (Zk 40 .eql 6 3<|
 Zm 39 40 .nil)<| .cond (.t 39) (Zr (Zm 41 1<|
 Zo (.idx 42 2 (.t 41) (.c (Zz 0)))<|
 Zh 43 2 42<|
 Zm 44 1<|
 Zo (.idx 45 2 (.t 44) (.c (Zz 1)))<|
 Zh 46 2 45<|
 Zm 47 1<|
 Zo (.idx 48 2 (.t 47) (.c (Zz 2)))<|
 Zh 49 2 48<|
 Zm 50 1<|
 Zo (.idx 51 2 (.t 50) (.c (Zz 3)))<|
 Zh 52 2 51<|
 Zq 53 false 63 [.t 43,.t 46,.t 49,.t 52]<|
 Zo (.bs 54 1 51 [.t 53])<|
 Zm 4 54 .nil) .ret) (Zr (Zk 56 .eql 6 4<|
 Zm 55 56 .nil)<| .cond (.t 55) (Zr (Zm 57 1<|
 Zq 58 false 65 [.c (Zz 1)]<|
 Zq 59 false 64 [.t 57,.t 58]<|
 Zo (.bs 60 1 51 [.t 59])<|
 Zm 4 60 .nil) .ret) (Zr (Zk 62 .eql 6 5<|
 Zm 61 62 .nil)<| .cond (.t 61) (Zr (Zm 63 1<|
 Zo (.idx 64 2 (.t 63) (.c (Zz 0)))<|
 Zf 65 0 64<|
 Zl 66 1 65<|
 Zm 67 1<|
 Zo (.idx 68 2 (.t 67) (.c (Zz 1)))<|
 Zf 69 0 68<|
 Zl 70 1 69<|
 Zm 71 1<|
 Zo (.idx 72 2 (.t 71) (.c (Zz 2)))<|
 Zf 73 0 72<|
 Zl 74 1 73<|
 Zm 76 1<|
 Zo (.idx 77 2 (.t 76) (.c (Zz 0)))<|
 Zf 78 1 77<|
 Zl 79 1 78<|
 Zm 80 1<|
 Zo (.idx 81 2 (.t 80) (.c (Zz 1)))<|
 Zf 82 1 81<|
 Zl 83 1 82<|
 Zm 84 1<|
 Zo (.idx 85 2 (.t 84) (.c (Zz 2)))<|
 Zf 86 1 85<|
 Zl 87 1 86<|
 Zq 75 true 66 [.t 66,.t 70,.t 74]<|
 Zq 88 true 66 [.t 79,.t 83,.t 87]<|
 Zo (.bs 89 1 51 [.t 75,.t 88])<|
 Zm 4 89 .nil) .ret) (Zr (Zk 91 .eql 6 6<|
 Zm 90 91 .nil)<| .cond (.t 90) (Zr (Zm 92 1<|
 Zo (.idx 93 2 (.t 92) (.c (Zz 1)))<|
 Zh 94 2 93<|
 Zm 95 1<|
 Zo (.idx 96 2 (.t 95) (.c (Zz 0)))<|
 Zh 97 2 96<|
 Zm 98 1<|
 Zo (.idx 99 2 (.t 98) (.c (Zz 1)))<|
 Zh 100 2 99<|
 Zm 101 1<|
 Zo (.idx 102 2 (.t 101) (.c (Zz 2)))<|
 Zh 103 2 102<|
 Zm 104 1<|
 Zo (.idx 105 2 (.t 104) (.c (Zz 3)))<|
 Zh 106 2 105<|
 Zm 107 1<|
 Zo (.idx 108 2 (.t 107) (.c (Zz 0)))<|
 Zh 109 2 108<|
 Zm 110 1<|
 Zo (.idx 111 2 (.t 110) (.c (Zz 3)))<|
 Zh 112 2 111<|
 Zm 113 1<|
 Zo (.idx 114 2 (.t 113) (.c (Zz 2)))<|
 Zh 115 2 114<|
 Zo (.bs 116 2 82 [.t 94,.t 97,.t 100,.t 103,.t 106,.t 109,.t 112,.t 115])<|
 Zq 117 false 67 [.t 116]<|
 Zo (.bs 118 1 51 [.t 117])<|
 Zm 4 118 .nil) .ret) (Zr (Zk 120 .eql 6 7<|
 Zm 119 120 .nil)<| .cond (.t 119) (Zr (Zm 121 1<|
 Zq 122 false 67 [.t 121]<|
 Zo (.bs 123 1 51 [.t 122])<|
 Zm 4 123 .nil) .ret) (Zr (Zk 125 .eql 6 8<|
 Zm 124 125 .nil)<| .cond (.t 124) (Zr (Zm 126 1<|
 Zo (.idx 127 2 (.t 126) (.c (Zz 0)))<|
 Zf 128 0 127<|
 Zl 129 1 128<|
 Zm 130 1<|
 Zo (.idx 131 2 (.t 130) (.c (Zz 1)))<|
 Zf 132 0 131<|
 Zl 133 1 132<|
 Zm 135 1<|
 Zo (.idx 136 2 (.t 135) (.c (Zz 0)))<|
 Zf 137 1 136<|
 Zl 138 1 137<|
 Zm 139 1<|
 Zo (.idx 140 2 (.t 139) (.c (Zz 1)))<|
 Zf 141 1 140<|
 Zl 142 1 141<|
 Zq 134 true 68 [.t 129,.t 133]<|
 Zq 143 true 68 [.t 138,.t 142]<|
 Zo (.bs 144 1 51 [.t 134,.t 143])<|
 Zm 4 144 .nil) .ret) .skip))))))))<|Zr (Zm 145 1<|
 Zf 146 2 2<|
 Zh 147 3 146<|
 Zq 148 false 64 [.t 145,.t 147]<|
 Zo (.bs 149 1 51 [.t 148])<|
 Zm 4 149 .nil) .ret⟩
theorem nq:Qe Tryz.prog Tryz.f30=some fQ:=by kernel_rfl
def CG:aw:=⟨51,[.t 4,.t 5],Zr (Zo (.box 2 5 34 (.t 0))<|
 Zo (.box 3 2 43 (.t 1))<|
 Zo (.mv 4 (.c .aa))<|
 Zc 5 0 .nil)<| .seq (Zr (Zh 13 5 2<|
 Zf 14 0 3<|
 Zl 15 1 14<|
 Zn 16 15<|
 Zq 17 false 29 [.t 13,.t 16]<|
 Zm 6 17 .nil)<|Zr (Zm 18 6<|
 Zk 19 .neq 18 0 .nil)<| .cond (.t 19) (Zr (Zm 20 6<|
 Zo (.mv 4 (.c .aa))<|
 Zm 5 20 .nil) .ret) .skip)<|Zr (Zo (.mv 7 (.c .aa)) .nil)<| .seq (Zr (Zf 21 1 2<|
 Zl 22 1 21<|
 Zn 23 22<|
 Zc 24 0 .nil)<| .block 0<| .loop<|Zr (Zb 25 .lss 24 23 .nil)<| .seq (.cond (.t 25) .skip (.exit 0))<| .seq (.block 1<|Zr (Zi 26 1 22 24<|
 Zl 27 1 26<|
 Zm 9 27 .nil)<| .rg (Zm 28 7<|
 Zf 29 0 3<|
 Zl 30 1 29<|
 Zm 31 9<|
 Zi 32 2 30 31<|
 Zh 33 2 32<|
 Zo (.bs 34 2 82 [.t 33])<|
 Zo (.app 35 2 48 82 (.t 28) (.t 34))<|
 Zm 7 35 .nil))<| .rg (Zk 36 .add 24 1<|
 Zm 24 36 .nil))<|Zr (Zh 37 5 2<|
 Zm 38 7<|
 Zq 39 false 30 [.t 37,.t 38]<|
 Zm 10 39 .nil)<| .seq (Zr (Zm 40 10<|
 Zn 41 40<|
 Zc 42 0 .nil)<| .block 2<| .loop<|Zr (Zb 43 .lss 42 41 .nil)<| .seq (.cond (.t 43) .skip (.exit 2))<| .seq (.block 3<|Zr (Zi 44 1 40 42<|
 Zl 45 1 44<|
 Zm 12 45 .nil)<|Zr (Zm 46 12<|
 Zn 47 46<|
 Zk 48 .gtr 47 4000 .nil)<| .cond (.t 48) (Zr (Zo (.mv 4 (.c .aa))<|
 Zc 5 4 .nil) .ret) .skip)<| .rg (Zk 49 .add 42 1<|
 Zm 42 49 .nil))<|Zr (Zm 50 10<|
 Zm 4 50<|
 Zc 5 0 .nil) .ret⟩
theorem VR:Qe Tryz.prog Tryz.f11=some CG:=by kernel_rfl
def c3:aw:=⟨84,[.t 4],Zr (Zo (.box 2 2 25 (.t 0))<|
 Zo (.box 3 5 34 (.t 1))<|
 Zo (.mv 4 (.c (.bool false))) .nil)<| .seq (Zr (Zh 12 2 2<|
 Zq 13 false 6 [.t 12]<|
 Zu 14 13<|
 Zm 15 14<|
 Zg 15 false (.bw 16 1 (.t 3))<|
 Zg 15 false (.ld 17 1 false (.t 16))<|
 Zg 15 false (.len 18 (.t 17))<|
 Zg 15 false (.bin 19 .gtr false (.t 18) (.c (Zz 12)))<|
 Zo (.pick 20 (.t 15) (.c (.bool true)) (.t 19))<|
 Zm 21 20<|
 Zg 21 false (.ld 22 5 true (.t 3))<|
 Zg 21 false (.bw 23 0 (.t 2))<|
 Zg 21 false (.ld 24 1 false (.t 23))<|
 Zg 21 false (.len 25 (.t 24))<|
 Zg 21 false (.call (some 26) false (.c (.fn 7 [] [])) [.t 22,.t 25])<|
 Zg 21 false (.bin 27 .eql false (.t 26) (.c (Zz 0)))<|
 Zg 21 false (.mv 28 (.t 27))<|
 Zg 28 true (.ld 29 2 true (.t 2))<|
 Zg 28 true (.ld 30 5 true (.t 3))<|
 Zg 28 true (.call (some 31) false (.c (.fn 8 [] [])) [.t 29,.t 30])<|
 Zg 28 true (.call (some 32) false (.c (.fn 6 [] [])) [.t 31])<|
 Zg 28 true (.un 33 .not (.t 32))<|
 Zg 21 false (.pick 34 (.t 28) (.t 33) (.c (.bool false)))<|
 Zo (.pick 35 (.t 21) (.c (.bool true)) (.t 34)) .nil)<| .cond (.t 35) (Zr (Zq 36 false 9 []<|
 Zm 4 36 .nil) .ret) .skip)<|Zr (Zh 38 2 2<|
 Zq 39 false 10 [.t 38]<|
 Zm 37 39<|
 Zo (.ext 40 (.t 37) 0)<|
 Zo (.ext 41 (.t 37) 1)<|
 Zo (.alloc 5 2 43 (.agg [.aa,.aa]))<|
 Zs 2 5 40<|
 Zm 6 41 .nil)<| .seq (Zr (Zm 42 6<|
 Zk 43 .neq 42 0 .nil)<| .cond (.t 43) (Zr (Zq 44 false 9 []<|
 Zm 4 44 .nil) .ret) .skip)<|Zr (Zh 46 5 3<|
 Zh 47 2 5<|
 Zq 48 false 11 [.t 46,.t 47]<|
 Zm 45 48<|
 Zo (.ext 49 (.t 45) 0)<|
 Zo (.ext 50 (.t 45) 1)<|
 Zm 7 49<|
 Zm 8 50 .nil)<|Zr (Zh 52 5 3<|
 Zh 53 2 5<|
 Zq 54 false 12 [.t 52,.t 53]<|
 Zm 51 54<|
 Zo (.ext 55 (.t 51) 0)<|
 Zo (.ext 56 (.t 51) 1)<|
 Zm 9 55<|
 Zm 10 56 .nil)<| .seq (Zr (Zm 57 8<|
 Zm 58 10<|
 Zb 59 .neq 57 58<|
 Zm 60 59<|
 Zg 60 false (.mv 61 (.t 7))<|
 Zg 60 false (.len 62 (.t 61))<|
 Zg 60 false (.mv 63 (.t 9))<|
 Zg 60 false (.len 64 (.t 63))<|
 Zg 60 false (.bin 65 .neq false (.t 62) (.t 64))<|
 Zo (.pick 66 (.t 60) (.c (.bool true)) (.t 65)) .nil)<| .cond (.t 66) (Zr (Zo (.mv 4 (.c (.bool false))) .nil) .ret) .skip)<| .seq (Zr (Zm 67 7<|
 Zn 68 67<|
 Zc 69 0 .nil)<| .block 0<| .loop<|Zr (Zb 70 .lss 69 68 .nil)<| .seq (.cond (.t 70) .skip (.exit 0))<| .seq (.block 1<|Zr (Zm 71 69<|
 Zm 11 71 .nil)<|Zr (Zm 72 7<|
 Zm 73 11<|
 Zi 74 1 72 73<|
 Zl 75 1 74<|
 Zm 76 9<|
 Zm 77 11<|
 Zi 78 1 76 77<|
 Zl 79 1 78<|
 Zq 80 false 13 [.t 75,.t 79]<|
 Zu 81 80 .nil)<| .cond (.t 81) (Zr (Zo (.mv 4 (.c (.bool false))) .nil) .ret) .skip)<| .rg (Zk 82 .add 69 1<|
 Zm 69 82 .nil))<|Zr (Zq 83 false 9 []<|
 Zm 4 83 .nil) .ret⟩
theorem GV{p:List Tm}{n:Bool}{a d:List Nat}{m:List Int}{K E k:Nat}(hp:PB K E p)(hs:gE p)(ku:NZ p)(hr:Raw k n a d)(hk:k<=2^32)(hm:MB E m)(hl:m.getLast? ≠some 0)(hK:K<=2^32)(hE:E<=2^38)(ff:p.length<=2^36):
  Qd Tryz.prog 52 [PV.aC p,PV.rr n a d,PV.mono m] (· =PV.aC (lO p (rv n a d) m)):=by
 have KR:=hr.rs;refine Qf Qk Tryz.func52 rfl Ul (by simp[De]) fun C hP=>?_;simp only[De,Zo,Zg,Zm,Zc,Zf,Zl,Zh,Zs,Zi,Zb,Zk,Zn,Zu,Zq,Zr,Zz];refine Sz0 ?_;refine Q5 (by repeat (first|exact Qx|exact Qq|exact Qr|exact Qt|exact Qu|apply Qp|apply Qw|apply Q3|apply Q8|apply Q9|apply Qn|apply Q7)) [(7,7),(12,26)] [] (fun k J hp=>k<=p.length/\(∀t∈p.drop k,bh t.2 m<0)/\J 7= .int .i64 (k:Nat)/\hp 4=some ⟨3,32,[PV.rr n a d],false⟩) p.length ?_ ?_
 ·refine⟨by omega,by simp,?_⟩;exact Tz0
 rintro j J h ⟨hj,hd,h7,fH⟩;refine Sz1 h7 ?_;refine ep (fun hg=>?_) (fun hg=>?_)
 ·obtain⟨i,rfl⟩:∃i,j=i+1:=⟨j-1,by omega⟩
  have e:((i+1:Nat):Int)-1=i:=by omega
  have hi:i<p.length:=by omega
  have dD:=hp.get hi;have oT:p.drop i=p[i]::p.drop (i+1):=Kar hi;have cy:p.take (i+1)=p.take i++[p[i]]:=KaD hi;have ir:=XT hs hi;have dJ:p=p.take i++p[i]::p.drop (i+1):=by rw[<-oT,Kbh]
  have c1:=dD.c;generalize hx:p[i]=x at *
  refine Sz3 h7 e hx ?_;refine Qa hP (xt dD.m hm (by omega)) rfl rfl rfl ?_;refine Sz3 h7 e hx ?_;refine Qb (fun hc=>?_) (fun hc=>?_)
  ·refine Sz3 h7 e hx ?_;refine Qm i (by omega) ⟨by omega,?_,?_⟩
   ·rw[oT];intro t ht;rcases KaH.1 ht with rfl|ht
    ·exact hc
    ·exact hd t ht
   ·exact Tz1 fH
  ·refine Sz3 h7 e hx ?_;refine ep (fun _=>?_) (fun h=>by omega);refine Sz3 h7 e hx ?_;refine Qa hP (xt dD.m hm (by omega)) rfl rfl rfl ?_;refine Sz3 h7 e hx ?_;refine Qb (fun fq=>?_) (fun fq=>?_)
   ·have jH:x.2=m:=(BZ dD.l hl).1 fq;have bG:=ku _ (Kao hi);rw[hx]at bG;have cM:lO p (rv n a d) m=p.take i++(if x.1+rv n a d=0 then []else [(x.1+rv n a d,m)])++p.drop (i+1):=by
     have J8:p=p.take i++(x.1,m)::p.drop (i+1):=by rw[<-jH];exact dJ
     rw[lO];split
     ·rename_i h0;have e0:x.1+0=x.1:=Rat.add_zero _;rw[h0,jm,e0,if_neg bG];simpa using J8
     ·conv=>lhs;rw[J8]
      exact Jz (fun t ht=>by rw[<-jH];exact ir t ht)
    have mX:(p.take i).length<=p.length:=List.length_take_le' _ _;have dK:(p.drop (i+1)).length<=p.length:=by rw[KaX];omega
    have KK:=xx x.1 (rv n a d);have hxr:=jo (q:=x.1) (k:=2^32) (by omega);have dB:=GS (k:=2^32) hxr (show Raw (2^32) n a d from⟨hr.la,hr.ld,by have:=hr.sa;omega,by have:=hr.sd;omega,by omega⟩) (by omega);rw[js]at dB;refine Sz4 h7 e hx fH ?_;refine iE ?_ ?_
    all_goals
     refine Sz4 h7 e hx fH ?_;refine Qa hP dB rfl rfl rfl ?_;refine Sz4 h7 e hx fH ?_;refine Qa hP (BC (a:=x.1+rv n a d) (by omega)) rfl rfl rfl ?_;refine Sz4 h7 e hx fH ?_;refine Qb (fun hz=>?_) (fun hz=>?_)
     ·rw[if_neg (fun h=>hz (iC.2 h))]at cM;refine Sz4 h7 e hx fH ?_;rw[dm (f:=PV.term) (y:=(x.1+rv n a d,m)) (xs:=p.take i) (ty':=104) (fz:=false) Tz0 bA (by omega) rfl (by omega) (by omega)];refine Sz4 h7 e hx fH ?_;rw[jq (f:=PV.term) (xs:=p.take i++[(x.1+rv n a d,m)]) (ys:=p.drop (i+1)) Tz0 (by simp<;>omega) (by omega) (by omega) (by omega)];refine cC ?_;refine Qc ?_ rfl;rw[Kai (by simp<;>omega),cM]
     ·rw[if_pos (iC.1 (Decidable.not_not.1 hz)),Kan]at cM;refine Sz4 h7 e hx fH ?_;rw[jq (f:=PV.term) (xs:=p.take i) (ys:=p.drop (i+1)) Tz0 (by simp<;>omega) (by omega) (by omega) (by omega)];refine cC ?_;refine Qc ?_ rfl;rw[Kai (by simp<;>omega),cM]
   ·have lb:Q2 p [(rv n a d,m)]=p.take (i+1)++(rv n a d,m)::p.drop (i+1):=by
     have:=B5 (m:=m) (c:=rv n a d) (u:=p.take (i+1)) (v:=p.drop (i+1)) (fun t ht=>by
      rw[cy]at ht;rcases KaR.1 ht with ht|ht
      ·exact s3 (ir t ht) (by omega)
      ·simp only[KaQ]at ht;subst ht;omega) hd
     rwa[Kbh]at this
    have mX:(p.take (i+1)).length<=p.length:=List.length_take_le' _ _;have dK:(p.drop (i+1)).length<=p.length:=by rw[KaX];omega
    refine Sz2 h7 fH ?_;refine Qa hP (AQ hr (by omega)) rfl rfl rfl ?_;refine Sz2 h7 fH ?_;refine Qb (fun hz=>?_) (fun hz=>?_)
    ·have nU:¬rv n a d=0:=fun h=>hz (iC.2 h);refine Sz2 h7 fH ?_;refine Qa hP (pq hr (by omega)) rfl rfl rfl ?_;refine Sz2 h7 fH ?_;rw[dm (f:=PV.term) (y:=(rv n a d,m)) (xs:=p.take (i+1)) (ty':=104) (fz:=false) Tz0 bA (by omega) rfl (by omega) (by omega)];refine Sz2 h7 fH ?_;rw[jq (f:=PV.term) (xs:=p.take (i+1)++[(rv n a d,m)]) (ys:=p.drop (i+1)) Tz0 (by simp<;>omega) (by omega) (by omega) (by omega)];refine cC ?_;refine Qc ?_ rfl;rw[Kai (by simp<;>omega),lO,if_neg nU,lb];simp
    ·have nU:rv n a d=0:=iC.1 (Decidable.not_not.1 hz);refine Sz2 h7 fH ?_;rw[jq (f:=PV.term) (xs:=p.take (i+1)) (ys:=p.drop (i+1)) Tz0 (by simp<;>omega) (by omega) (by omega) (by omega)];refine cC ?_;refine Qc ?_ rfl;rw[Kai (by simp<;>omega),lO,if_pos nU,jm,Kbh]
 ·obtain rfl:j=0:=by omega
  have lb:Q2 p [(rv n a d,m)]=[]++(rv n a d,m)::p:=B5 (m:=m) (c:=rv n a d) (u:=[]) (v:=p) (by simp) (by simpa using hd);refine Sz1 h7 ?_;rw[X5 (by omega)];refine Sz2 h7 fH ?_;refine Qa hP (AQ hr (by omega)) rfl rfl rfl ?_;refine Sz2 h7 fH ?_;refine Qb (fun hz=>?_) (fun hz=>?_)
  ·have nU:¬rv n a d=0:=fun h=>hz (iC.2 h);refine Sz2 h7 fH ?_;refine Qa hP (pq hr (by omega)) rfl rfl rfl ?_;refine Sz2 h7 fH ?_;rw[dm (f:=PV.term) (y:=(rv n a d,m)) (xs:=([]:List Tm)) (ty':=104) (fz:=false) Tz0 bA (by omega) (n:=0) rfl (by omega) (by omega)];refine Sz2 h7 fH ?_;rw[jq (f:=PV.term) (xs:=([]:List Tm)++[(rv n a d,m)]) (ys:=p) Tz0 (by simp<;>omega) (by omega) (by omega) (by omega)];refine cC ?_;refine Qc ?_ rfl;rw[Kai (by simp<;>omega),lO,if_neg nU,lb];simp
  ·have nU:rv n a d=0:=iC.1 (Decidable.not_not.1 hz);refine Sz2 h7 fH ?_;rw[jq (f:=PV.term) (xs:=([]:List Tm)) (ys:=p) Tz0 (by simp<;>omega) (by omega) (by omega) (by omega)];refine cC ?_;refine Qc ?_ rfl;rw[Kai (by simp<;>omega),lO,if_pos nU,jm]
theorem Xz{n:Bool}{a d:List Nat}{k:Nat}(hr:Raw k n a d)(hk:k<=2^32):Qd Tryz.prog 55 [PV.rr n a d] (· =PV.aC (kK (rv n a d))):=by
 have dB:=(GV (p:=[]) (m:=[]) (K:=1) (E:=1) (PB.nil _ _) trivial (by simp[NZ]) hr hk ⟨by simp,by simp,by simp⟩ (by simp) (by omega) (by omega) (by simp)).le (args':=[.aa,PV.rr n a d,.aa]) ⟨trivial,cf _,trivial,trivial⟩;have e:lO [] (rv n a d) []=kK (rv n a d):=by rw[lO,pF];rfl
 rw[e]at dB;refine Qf Qk Tryz.func55 rfl UP (by simp[Dg]) fun C hP=>?_;simp only[Dg,Zo,Zg,Zm,Zc,Zf,Zl,Zh,Zs,Zi,Zb,Zk,Zn,Zu,Zq,Zr,Zz];refine Sz0 ?_;refine Qa hP dB rfl rfl rfl ?_;refine Sz0 ?_;exact Qc rfl rfl
theorem I3(v:Nat)(n:Int)(h:n=((n.toNat:Nat):Int)):(List.replicate (v+1) (0:Int)).set v n=ic v n.toNat:=by
 unfold ic;rw[<-h];induction v with
 |zero=>rfl
 |succ v ih=>rw[Kbv,List.set_cons_succ,ih];rfl
theorem PW(v:Nat):oD v=ic v 1:=rfl
theorem Bc{v:Nat}(hv:v<64):Qd Tryz.prog 27 [.int .i64 v] (· =PV.aC (bV v)):=by
 have jG:(List.replicate (v+1) (0:Int)).set v 1=ic v 1:=I3 v 1 rfl;have Kz:v<(List.replicate (v+1) (0:Int)).length:=by simp
 have sF:=Lr;have dM:(ic v 1).length=v+1:=by simp[ic]
 have dB:=(GV (p:=[]) (m:=ic v 1) (K:=1) (E:=1) (k:=4) (PB.nil _ _) trivial (by simp[NZ]) (jo (q:=((1:Int):Rat)) (k:=4) (by rw[show((1:Int):Rat)=1 from rfl];omega)) (by omega) (RJ hv) (NQ (by omega)) (by omega) (by omega) (by simp)).le (args':=[.aa,PV.rat ((1:Int):Rat),PV.mono (ic v 1)]) ⟨trivial,cf _,cf _,trivial⟩;rw[js]at dB;have e:lO [] ((1:Int):Rat) (ic v 1)=bV v:=by rw[lO,pF,if_neg (by decide),bV,if_neg (by omega),KbU,PW];rfl
 rw[e]at dB;refine Qf Qk Tryz.func27 rfl Vn (by simp[CU]) fun C hP=>?_;simp only[CU,Zo,Zg,Zm,Zc,Zf,Zl,Zh,Zs,Zi,Zb,Zk,Zn,Zu,Zq,Zr,Zz];refine Sz0 ?_;refine Q6 (fun h=>by omega) (fun _=>?_);refine Sz0 ?_;refine Qb (fun h=>by omega) (fun _=>?_);refine Sz1 jG ?_;refine Qa hP (G' (x:=1) (by omega) (by omega)) rfl rfl rfl ?_;generalize((1:Int):Rat)=c at *
 refine Sz0 ?_;refine gX hP dB (by simp+decide (disch:=try exact E0) only[go_sem,eG,Kaw,KaF,Kay,KaI,Kan];simp[Kai,dM]) rfl ?_;refine Sz0 ?_;exact Qc rfl rfl
def Di:aw:=⟨25,[.cell 8 2 true,.t 9],Zr (Zo (.box 4 2 43 (.t 0))<|
 Zo (.alloc 8 2 43 (.agg [.aa,.aa]))<|
 .wk<| .wk<|Zo (.mv 9 (.c .aa)) .nil)<|Zr (Zf 10 1 4<|
 Zl 11 1 10<|
 Zm 12 1<|
 Zm 13 2<|
 Zm 14 3<|
 Zo (.cc 15 [Zz 0,Zz 0,Zz 0] [(0,1,.t 12),(1,1,.t 13),(2,1,.t 14)])<|
 Zo (.bs 16 3 99 [.t 15])<|
 Zo (.app 17 3 24 99 (.t 11) (.t 16))<|
 Zf 18 1 4<|
 Zs 1 18 17 .nil)<|Zr (Zh 19 2 4<|
 Zf 20 1 4<|
 Zl 21 1 20<|
 Zn 22 21<|
 Zk 23 .sub 22 1<|
 Zq 24 true 27 [.t 23]<|
 Zs 2 8 19<|
 Zm 9 24 .nil) .ret⟩
theorem VS:Qe Tryz.prog Tryz.f57=some Di.strip:=by kernel_rfl
def qf:aw:=⟨29,[.cell 6 2 true,.cell 7 2 true],Zr (Zo (.box 3 2 43 (.t 0))<|
 Zo (.alloc 6 2 43 (.agg [.aa,.aa]))<|
 .wk<| .wk<|Zo (.alloc 7 2 82 (.agg [.aa,.aa])) .nil)<|Zr (Zo (.alloc 8 2 82 (.agg [.aa,.aa]))<|
 .wk .nil)<| .seq (Zr (Zm 9 2<|
 Zk 10 .gtr 9 0 .nil)<| .cond (.t 10) (.rg (Zh 12 2 3<|
 .wk<|Zm 13 1<|
 Zq 14 false 57 [.t 12,.c (Zz 1),.t 13,.c (Zz 0)]<|
 Zm 11 14<|
 Zo (.ext 15 (.t 11) 0)<|
 Zo (.ext 16 (.t 11) 1)<|
 Zs 2 3 15<|
 Zf 17 0 8<|
 Zs 1 17 16 .nil)) .skip)<| .seq (Zr (Zm 18 2<|
 Zk 19 .gtr 18 1 .nil)<| .cond (.t 19) (.rg (Zh 21 2 3<|
 .wk<|Zm 22 1<|
 Zq 23 false 57 [.t 21,.c (Zz 1),.t 22,.c (Zz 1)]<|
 Zm 20 23<|
 Zo (.ext 24 (.t 20) 0)<|
 Zo (.ext 25 (.t 20) 1)<|
 Zs 2 3 24<|
 Zf 26 1 8<|
 Zs 1 26 25 .nil)) .skip)<|Zr (Zh 27 2 3<|
 .br (Zh 28 2 8<|
 Zs 2 6 27<|
 Zs 2 7 28 .nil) (Zs 2 6 27<|
 Zh 28 2 8<|
 Zs 2 7 28 .nil)) .ret⟩
theorem Cw:Qe Tryz.prog Tryz.f53=some qf.strip:=by kernel_rfl
def Dj:aw:=⟨28,[.cell 6 2 true,.cell 7 2 true],Zr (Zo (.box 3 2 43 (.t 0))<|
 Zo (.alloc 6 2 43 (.agg [.aa,.aa]))<|
 .wk<| .wk<|Zo (.alloc 7 2 82 (.agg [.aa,.aa])) .nil)<|Zr (Zo (.alloc 8 2 82 (.agg [.aa,.aa])) .nil)<|Zr (Zh 10 2 3<|
 .wk<|Zm 11 1<|
 Zm 12 2<|
 Zq 13 false 57 [.t 10,.c (Zz 2),.t 11,.t 12]<|
 Zm 9 13<|
 Zo (.ext 14 (.t 9) 0)<|
 Zo (.ext 15 (.t 9) 1)<|
 Zs 2 3 14<|
 Zf 16 0 8<|
 Zs 1 16 15 .nil)<|Zr (Zh 18 2 3<|
 .wk<|Zm 19 1<|
 Zm 20 2<|
 Zk 21 .add 20 1<|
 Zq 22 false 57 [.t 18,.c (Zz 2),.t 19,.t 21]<|
 Zm 17 22<|
 Zo (.ext 23 (.t 17) 0)<|
 Zo (.ext 24 (.t 17) 1)<|
 Zs 2 3 23<|
 Zf 25 1 8<|
 Zs 1 25 24 .nil)<|Zr (Zh 26 2 3<|
 .br (Zh 27 2 8<|
 Zs 2 6 26<|
 Zs 2 7 27 .nil) (Zs 2 6 26<|
 Zh 27 2 8<|
 Zs 2 7 27 .nil)) .ret⟩
theorem VT:Qe Tryz.prog Tryz.f58=some Dj.strip:=by kernel_rfl
def CV:aw:=⟨157,[.cell 8 2 true,.cell 9 2 true],Zr (Zo (.box 4 2 43 (.t 0))<|
 Zo (.box 5 2 25 (.t 1))<|
 Zo (.alloc 8 2 43 (.agg [.aa,.aa]))<|
 .wk<| .wk<|Zo (.alloc 9 2 82 (.agg [.aa,.aa])) .nil)<|Zr (Zf 18 0 5<|
 Zl 19 1 18<|
 Zm 20 2<|
 Zi 21 6 19 20<|
 Zh 22 6 21<|
 Zo (.alloc 10 6 76 (.agg [Zz 0,.str ⟨#[]⟩,.aa,.bool false,.aa,.aa]))<|
 Zs 6 10 22 .nil)<|Zr (Zo (.mv 11 (.c .aa)) .nil)<| .seq (Zr (Zf 23 2 10<|
 Zl 24 1 23<|
 Zn 25 24<|
 Zc 26 0 .nil)<| .block 0<| .loop<|Zr (Zb 27 .lss 26 25 .nil)<| .seq (.cond (.t 27) .skip (.exit 0))<| .seq (.block 1<|Zr (Zi 28 1 24 26<|
 Zl 29 1 28<|
 Zm 13 29 .nil)<| .rg (Zm 30 11<|
 Zf 31 0 4<|
 Zl 32 1 31<|
 Zm 33 13<|
 Zi 34 2 32 33<|
 Zh 35 2 34<|
 Zo (.bs 36 2 82 [.t 35])<|
 Zo (.app 37 2 48 82 (.t 30) (.t 36))<|
 Zm 11 37 .nil))<| .rg (Zk 38 .add 26 1<|
 Zm 26 38 .nil))<| .seq (Zr (Zf 39 0 10<|
 Zl 40 1 39 .nil)<| .block 2<|Zr (Zk 42 .eql 40 1<|
 Zm 41 42 .nil)<| .cond (.t 41) (Zr (Zh 43 2 4<|
 Zm 44 2<|
 Zm 45 3<|
 Zq 46 false 53 [.t 43,.t 44,.t 45]<|
 Zo (.ext 47 (.t 46) 0)<|
 Zo (.ext 48 (.t 46) 1)<|
 Zs 2 8 47<|
 Zs 2 9 48 .nil) .ret) (Zr (Zk 50 .eql 40 2<|
 Zm 49 50 .nil)<| .cond (.t 49) (Zr (Zh 51 2 4<|
 Zm 52 11<|
 Zo (.idx 53 2 (.t 52) (.c (Zz 0)))<|
 Zh 54 2 53<|
 Zm 55 11<|
 Zo (.idx 56 2 (.t 55) (.c (Zz 1)))<|
 Zh 57 2 56<|
 Zf 58 3 10<|
 Zh 59 3 58<|
 Zq 60 true 55 [.t 59]<|
 Zq 61 true 54 [.t 54,.t 57,.t 60]<|
 Zs 2 8 51<|
 Zs 2 9 61 .nil) .ret) (Zr (Zk 63 .eql 40 3<|
 Zm 62 63 .nil)<| .cond (.t 62) (Zr (Zh 64 2 4<|
 Zm 65 11<|
 Zo (.idx 66 2 (.t 65) (.c (Zz 0)))<|
 Zf 67 0 66<|
 Zl 68 1 67<|
 Zm 69 11<|
 Zo (.idx 70 2 (.t 69) (.c (Zz 2)))<|
 Zf 71 0 70<|
 Zl 72 1 71<|
 Zm 73 11<|
 Zo (.idx 74 2 (.t 73) (.c (Zz 1)))<|
 Zf 75 0 74<|
 Zl 76 1 75<|
 Zm 78 11<|
 Zo (.idx 79 2 (.t 78) (.c (Zz 0)))<|
 Zf 80 1 79<|
 Zl 81 1 80<|
 Zm 82 11<|
 Zo (.idx 83 2 (.t 82) (.c (Zz 2)))<|
 Zf 84 1 83<|
 Zl 85 1 84<|
 Zm 86 11<|
 Zo (.idx 87 2 (.t 86) (.c (Zz 1)))<|
 Zf 88 1 87<|
 Zl 89 1 88<|
 Zq 77 true 56 [.t 68,.t 72,.t 76]<|
 Zq 90 true 56 [.t 81,.t 85,.t 89]<|
 Zo (.cc 91 [.aa,.aa] [(0,1,.t 77),(1,1,.t 90)])<|
 Zs 2 8 64<|
 Zs 2 9 91 .nil) .ret) (Zr (Zk 93 .eql 40 4<|
 Zm 92 93 .nil)<| .cond (.t 92) (Zr (Zh 94 2 4<|
 Zm 95 11<|
 Zo (.idx 96 2 (.t 95) (.c (Zz 0)))<|
 Zf 97 0 96<|
 Zl 98 1 97<|
 Zm 99 11<|
 Zo (.idx 100 2 (.t 99) (.c (Zz 1)))<|
 Zf 101 1 100<|
 Zl 102 1 101<|
 Zm 103 11<|
 Zo (.idx 104 2 (.t 103) (.c (Zz 2)))<|
 Zf 105 1 104<|
 Zl 106 1 105<|
 Zm 108 11<|
 Zo (.idx 109 2 (.t 108) (.c (Zz 0)))<|
 Zf 110 1 109<|
 Zl 111 1 110<|
 Zm 112 11<|
 Zo (.idx 113 2 (.t 112) (.c (Zz 2)))<|
 Zf 114 0 113<|
 Zl 115 1 114<|
 Zm 116 11<|
 Zo (.idx 117 2 (.t 116) (.c (Zz 1)))<|
 Zf 118 0 117<|
 Zl 119 1 118<|
 Zq 107 true 56 [.t 98,.t 102,.t 106]<|
 Zq 120 true 56 [.t 111,.t 115,.t 119]<|
 Zo (.cc 121 [.aa,.aa] [(0,1,.t 107),(1,1,.t 120)])<|
 Zs 2 8 94<|
 Zs 2 9 121 .nil) .ret) (Zr (Zk 123 .eql 40 5<|
 Zm 122 123 .nil)<| .cond (.t 122) (Zr (Zh 125 2 4<|
 Zm 126 2<|
 Zq 127 false 57 [.t 125,.c (Zz 1),.t 126,.c (Zz 0)]<|
 Zm 124 127<|
 Zo (.ext 128 (.t 124) 0)<|
 Zo (.ext 129 (.t 124) 1)<|
 Zo (.alloc 14 2 43 (.agg [.aa,.aa]))<|
 .wk<| .wk<|Zs 2 14 128<|
 Zm 15 129 .nil)<|Zr (Zh 130 2 14<|
 Zm 131 11<|
 Zo (.idx 132 2 (.t 131) (.c (Zz 0)))<|
 Zh 133 2 132<|
 Zm 134 11<|
 Zo (.idx 135 2 (.t 134) (.c (Zz 1)))<|
 Zh 136 2 135<|
 Zm 137 15<|
 Zq 138 true 54 [.t 133,.t 136,.t 137]<|
 Zs 2 8 130<|
 Zs 2 9 138 .nil) .ret) (Zr (Zk 140 .eql 40 6<|
 Zm 139 140 .nil)<| .cond (.t 139) (Zr (Zh 142 2 4<|
 Zm 143 2<|
 Zq 144 false 57 [.t 142,.c (Zz 1),.t 143,.c (Zz 0)]<|
 Zm 141 144<|
 Zo (.ext 145 (.t 141) 0)<|
 Zo (.ext 146 (.t 141) 1)<|
 Zo (.alloc 16 2 43 (.agg [.aa,.aa]))<|
 .wk<| .wk<|Zs 2 16 145<|
 Zm 17 146 .nil)<|Zr (Zh 147 2 16<|
 Zm 148 2<|
 Zq 149 false 58 [.t 147,.t 148,.c (Zz 1)]<|
 Zo (.ext 150 (.t 149) 0)<|
 Zo (.ext 151 (.t 149) 1)<|
 Zs 2 8 150<|
 Zs 2 9 151 .nil) .ret) .skip))))))<|Zr (Zh 152 2 4<|
 Zm 153 2<|
 Zq 154 false 58 [.t 152,.t 153,.c (Zz 0)]<|
 Zo (.ext 155 (.t 154) 0)<|
 Zo (.ext 156 (.t 154) 1)<|
 Zs 2 8 155<|
 Zs 2 9 156 .nil) .ret⟩
theorem VU:Qe Tryz.prog Tryz.f28=some CV.strip:=by kernel_rfl
def CE:aw:=⟨64,[.cell 2 2 true,.t 3],Zr (Zo (.box 1 2 25 (.t 0))<|
 Zo (.alloc 2 2 43 (.agg [.aa,.aa]))<|
 Zc 3 0 .nil)<| .seq (Zr (Zh 11 2 1<|
 Zq 12 false 21 [.t 11]<|
 Zm 4 12 .nil)<|Zr (Zm 13 4<|
 Zk 14 .neq 13 0 .nil)<| .cond (.t 14) (Zr (Zo (.cc 15 [.aa,.aa] [])<|
 Zm 16 4<|
 Zs 2 2 15<|
 Zm 3 16 .nil) .ret) .skip)<|Zr (Zo (.alloc 5 2 43 (.agg [.aa,.aa]))<|
 .wk<| .wk<| .wk<| .wk .nil)<|Zr (Zc 6 0 .nil)<| .seq (Zr (Zf 17 0 1<|
 Zl 18 1 17<|
 Zn 19 18<|
 Zc 20 0 .nil)<| .block 0<| .loop<|Zr (Zb 21 .lss 20 19 .nil)<| .seq (.cond (.t 21) .skip (.exit 0))<| .seq (.block 1<|Zr (Zm 22 20<|
 Zi 23 6 18 20<|
 Zh 24 6 23<|
 Zo (.alloc 8 6 76 (.agg [Zz 0,.str ⟨#[]⟩,.aa,.bool false,.aa,.aa]))<|
 Zm 7 22<|
 Zs 6 8 24 .nil)<|Zr (Zh 26 2 5<|
 .wk<|Zh 27 2 1<|
 Zm 28 7<|
 Zm 29 6<|
 Zq 30 false 28 [.t 26,.t 27,.t 28,.t 29]<|
 Zm 25 30<|
 Zo (.ext 31 (.t 25) 0)<|
 Zo (.ext 32 (.t 25) 1)<|
 Zo (.alloc 9 2 43 (.agg [.aa,.aa]))<|
 .wk<| .wk<|Zo (.alloc 10 2 82 (.agg [.aa,.aa]))<|
 Zs 2 9 31<|
 Zs 2 10 32 .nil)<| .seq (Zr (Zf 33 1 9<|
 Zl 34 1 33<|
 Zn 35 34<|
 Zk 36 .gtr 35 64<|
 Zm 37 36<|
 Zg 37 false (.bw 38 0 (.t 10))<|
 Zg 37 false (.ld 39 1 false (.t 38))<|
 Zg 37 false (.len 40 (.t 39))<|
 Zg 37 false (.bin 41 .gtr false (.t 40) (.c (Zz 4000)))<|
 Zo (.pick 42 (.t 37) (.c (.bool true)) (.t 41))<|
 Zm 43 42<|
 Zg 43 false (.bw 44 1 (.t 10))<|
 Zg 43 false (.ld 45 1 false (.t 44))<|
 Zg 43 false (.len 46 (.t 45))<|
 Zg 43 false (.bin 47 .gtr false (.t 46) (.c (Zz 4000)))<|
 Zo (.pick 48 (.t 43) (.c (.bool true)) (.t 47)) .nil)<| .cond (.t 48) (Zr (Zo (.cc 49 [.aa,.aa] [])<|
 Zs 2 2 49<|
 Zc 3 4 .nil) .ret) .skip)<|Zr (Zh 50 2 9<|
 .wk<|Zs 2 5 50 .nil)<|Zr (Zf 51 0 5<|
 Zl 52 1 51<|
 Zh 53 2 10<|
 Zo (.bs 54 2 82 [.t 53])<|
 Zo (.app 55 2 48 82 (.t 52) (.t 54))<|
 Zf 56 0 5<|
 Zs 1 56 55 .nil)<|Zr (Zf 57 0 8<|
 Zl 58 1 57<|
 Zk 59 .eql 58 1 .nil)<| .cond (.t 59) (.rg (Zm 60 6<|
 Zk 61 .add 60 1<|
 Zm 6 61 .nil)) .skip)<| .rg (Zk 62 .add 20 1<|
 Zm 20 62 .nil))<|Zr (Zh 63 2 5<|
 .wk<|Zs 2 2 63<|
 Zc 3 0 .nil) .ret⟩
theorem VV:Qe Tryz.prog Tryz.f10=some CE.strip:=by kernel_rfl
end Go.Proofs.YtonjiljafkiikaaGreat
namespace Go.FW
open Go
variable {C : Ctx} {fr : Fr} {hp : HP} {w : World} {K R : Qg}
theorem VW:(∀(β o n:Nat),(PV.ao β o n).cA=[β])/\(∀(k:IntKind)(n:Int),(PV.int k n).cA=[])/\(∀b:Bool,(PV.bool b).cA=[])/\(PV.aa.cA=[])/\(∀(e:Nat)(xs:List PV),(PV.sl e xs).cA=[]):=by refine⟨?_,?_,?_,?_,?_⟩<;>intros<;>rfl
theorem I4{s n m γ ty:Nat}(h1:fr s= .np γ 0 0)(h2:fr γ= .az γ 2 ty [.aE [.ao 2000000 0 n,.ao 2000001 0 m]]):xE fr s 2 [.ao 2000000 0 n,.ao 2000001 0 m]:=
 ⟨γ,0,0,2,ty,_,h1,h2,by simp,by omega,rfl⟩
theorem PX{s n m γ ty t:Nat}{q:PV}{aP:PV->Fr->HP->Prop}(h1:fr s= .np γ 0 0)(h2:fr γ= .az γ 2 ty [.aE [.ao 2000000 0 n,.ao 2000001 0 m]])(h3:fr t=q)(h4:q.flat=true)
  (h5:aP (.cj [.ao 2000000 0 n,.ao 2000001 0 m] q) fr hp):nE [.cell s 2 true,.t t] aP fr hp:=by
 subst h3;obtain⟨e1,e2,e3⟩:=m8 (hp:=hp) h4;refine IV (I4 h1 h2) e2 ?_ ?_
 ·show(Qy hp (fr t)).ax=true;rw[e1];exact e3
 ·show aP (.cj _ (Qy hp (fr t))) fr hp;rw[e1];exact h5
theorem lD{s n m γ ty t k:Nat}{ag:Bool}{q:PV}{aP:PV->Fr->HP->Prop}(h1:fr s= .np γ 0 0)(h2:fr γ= .az γ 2 ty [.aE [.ao 2000000 0 n,.ao 2000001 0 m]])(h3:gv fr hp (.cell t k ag)=q)(h4:q.ax=true)
  (h5:aP (.cj [.ao 2000000 0 n,.ao 2000001 0 m] q) fr hp):nE [.cell s 2 true,.cell t k ag] aP fr hp:=by
 subst h3;obtain⟨g1,g2⟩:=xC h4;exact IV (I4 h1 h2) rfl g1 (by rw[g2];exact h5)
theorem BV{p:PV}(h:p.flat=true):p.refs=[]/\p.aI=[]/\∀γ e ty xs,p≠ .az γ e ty xs:=by cases p<;>first|(cases h;done)|exact⟨rfl,rfl,fun _ _ _ _ h=>by cases h⟩
theorem lH{P:Program}(hP:C.P=P){g:FuncId}{l:List PV}{d n m n' m':Nat}{A B A' B':HB}{q:PV}(h:rF P g (vL n m::l) (fun _=>.undef) (Qi (Qi au 2000000 A) 2000001 B) fun r _ H=>r= .cj [.ms 2000000 n',.ms 2000001 m'] q/\H 2000000=some A'/\H 2000001=some B')
  (hA:hp 2000000=some A) (hB:hp 2000001=some B) (fA:A.fz=false) (fB:B.fz=false) (hl:l.all PV.flat=true) (sC:l.length<1000000)
  (hK:K (ae (e9 gR fr) d (.cj [.ms 2000000 n',.ms 2000001 m'] q)) (Qi (Qi hp 2000000 A') 2000001 B')):ez C false (.fn g [] []) (.aE [.ao 2000000 0 n,.ao 2000001 0 m]::l) (some d) fr hp K:=by
 have mQ:=KaB.1 hl;refine VC hP h hA hB fA fB (fun x hx=>?_) (fun γ af=>?_) (by simp;omega) hK
 ·rcases KaH.1 hx with rfl|hx
  ·intro _ _ _ _ h;cases h
  ·exact(BV (mQ x hx)).2.2
 ·obtain⟨x,hx,af⟩:=Kam.1 af;rcases KaH.1 hx with rfl|hx
  ·simp[PV.refs,PV.aI,PV.cA]at af;exact rG.2 af
  ·rw[(BV (mQ x hx)).1,(BV (mQ x hx)).2.1]at af;cases af
attribute [go_sem] VW
end Go.FW
