/- Part 6 of the proof of GoalsTrivial: CS3, CS2, CS, S1, S2, S3, S4, S5, S6, S7, S8, S9, CM, R3, R4, M1, M2, T1, T1b, T1c, T1d, U1, CP, P1, P2, U2, P3, P4, U3, CU, FwNH, FwNI, FwNJ, FwVB, FwVC, FwYA. Own lemmas; no conditions. -/
import Derived.Test.YtonjiljafkiikaaGreatGoalsTrivialPart5
set_option maxHeartbeats 1000000
set_option linter.unusedSimpArgs false
set_option linter.unusedVariables false
set_option linter.unnecessarySimpa false
set_option maxRecDepth 100000
namespace Go.Proofs.YtonjiljafkiikaaGreat
open Go Go.FW
def Dc:aw:=⟨92,[.t 4],Zr (Zo (.mv 4 (.c .aa)) .nil)<|Zr (Zo (.mv 5 (.c .aa)) .nil)<|Zr (Zc 6 0<|
 Zc 7 0 .nil)<| .seq (.block 0<| .loop<| .seq (Zr (Zm 10 6<|
 Zm 11 0<|
 Zn 12 11<|
 Zb 13 .lss 10 12<|
 Zm 14 13<|
 Zg 14 false (.mv 15 (.t 7))<|
 Zg 14 false (.mv 16 (.t 1))<|
 Zg 14 false (.len 17 (.t 16))<|
 Zg 14 false (.bin 18 .lss false (.t 15) (.t 17))<|
 Zo (.pick 19 (.t 14) (.c (.bool true)) (.t 18)) .nil)<| .cond (.t 19) .skip (.exit 0))<| .block 1<|Zr (Zc 8 1 .nil)<| .seq (Zr (Zm 20 6<|
 Zm 21 0<|
 Zn 22 21<|
 Zb 23 .eql 20 22 .nil)<| .cond (.t 23) (.rg (Zc 8 (-1) .nil)) (Zr (Zm 24 7<|
 Zm 25 1<|
 Zn 26 25<|
 Zb 27 .lss 24 26 .nil)<| .cond (.t 27) (.rg (Zm 28 0<|
 Zm 29 6<|
 Zi 30 4 28 29<|
 Zf 31 3 30<|
 Zl 32 1 31<|
 Zm 33 1<|
 Zm 34 7<|
 Zi 35 4 33 34<|
 Zf 36 3 35<|
 Zl 37 1 36<|
 Zq 38 false 75 [.t 32,.t 37,.c (Zz 0)]<|
 Zm 8 38 .nil)) .skip))<| .block 2<|Zr (Zm 68 8<|
 Zk 69 .gtr 68 0<|
 Zm 67 69 .nil)<| .cond (.t 67) (Zr (Zm 70 5<|
 Zm 71 0<|
 Zm 72 6<|
 Zi 73 4 71 72<|
 Zh 74 4 73<|
 Zo (.bs 75 4 104 [.t 74])<|
 Zo (.app 76 4 80 104 (.t 70) (.t 75))<|
 Zm 5 76 .nil)<| .rg (Zm 77 6<|
 Zk 78 .add 77 1<|
 Zm 6 78 .nil)) (Zr (Zm 80 8<|
 Zk 81 .lss 80 0<|
 Zm 79 81 .nil)<| .cond (.t 79) (Zr (Zm 82 5<|
 Zm 83 1<|
 Zm 84 7<|
 Zi 85 4 83 84<|
 Zh 86 4 85<|
 Zo (.bs 87 4 104 [.t 86])<|
 Zo (.app 88 4 80 104 (.t 82) (.t 87))<|
 Zm 5 88 .nil)<| .rg (Zm 89 7<|
 Zk 90 .add 89 1<|
 Zm 7 90 .nil)) (.seq (Zr (Zm 39 0<|
 Zm 40 6<|
 Zi 41 4 39 40<|
 Zf 42 0 41<|
 Zh 43 3 42<|
 Zm 44 1<|
 Zm 45 7<|
 Zi 46 4 44 45<|
 Zf 47 0 46<|
 Zh 48 3 47<|
 .br (Zq 49 true 41 [.t 43,.t 48]<|
 Zo (.alloc 9 3 32 (.agg [.bool false,.aa,.aa]))<|
 Zs 3 9 49 .nil) (Zo (.alloc 9 3 32 (.agg [.bool false,.aa,.aa]))<|
 Zq 49 true 41 [.t 43,.t 48]<|
 Zs 3 9 49 .nil))<|Zr (Zh 50 3 9<|
 Zq 51 false 109 [.t 50]<|
 Zk 52 .neq 51 0 .nil)<| .cond (.t 52) (.rg (Zm 53 5<|
 Zh 54 3 9<|
 Zm 55 0<|
 Zm 56 6<|
 Zi 57 4 55 56<|
 Zf 58 3 57<|
 Zl 59 1 58<|
 Zo (.cc 60 [.bool false,.aa,.aa,.aa] [(0,3,.t 54),(3,1,.t 59)])<|
 Zo (.bs 61 4 104 [.t 60])<|
 Zo (.app 62 4 80 104 (.t 53) (.t 61))<|
 Zm 5 62 .nil)) .skip)<|Zr (Zm 63 6<|
 Zk 64 .add 63 1<|
 Zm 6 64 .nil)<| .rg (Zm 65 7<|
 Zk 66 .add 65 1<|
 Zm 7 66 .nil))))<|Zr (Zm 91 5<|
 Zm 4 91 .nil) .ret⟩
theorem UN:Qe Tryz.prog Tryz.f50=some Dc:=by kernel_rfl
def CX:aw:=⟨58,[.t 4],Zr (Zc 4 0 .nil)<| .seq (Zr (Zc 5 0 .nil)<| .block 0<| .loop<| .seq (Zr (Zm 8 5<|
 Zm 9 0<|
 Zn 10 9<|
 Zb 11 .lss 8 10<|
 Zm 12 11<|
 Zg 12 true (.mv 13 (.t 5))<|
 Zg 12 true (.mv 14 (.t 1))<|
 Zg 12 true (.len 15 (.t 14))<|
 Zg 12 true (.bin 16 .lss false (.t 13) (.t 15))<|
 Zo (.pick 17 (.t 12) (.t 16) (.c (.bool false))) .nil)<| .cond (.t 17) .skip (.exit 0))<| .seq (.block 1<| .seq (Zr (Zm 20 0<|
 Zm 21 5<|
 Zi 22 4 20 21<|
 Zf 23 3 22<|
 Zl 24 1 23<|
 Zm 25 1<|
 Zm 26 5<|
 Zi 27 4 25 26<|
 Zf 28 3 27<|
 Zl 29 1 28<|
 Zq 30 false 75 [.t 24,.t 29,.c (Zz 0)]<|
 Zm 6 30 .nil)<|Zr (Zm 31 6<|
 Zk 32 .neq 31 0 .nil)<| .cond (.t 32) (Zr (Zm 33 6<|
 Zm 4 33 .nil) .ret) .skip)<|Zr (Zm 34 0<|
 Zm 35 5<|
 Zi 36 4 34 35<|
 Zf 37 0 36<|
 Zh 38 3 37<|
 Zm 39 1<|
 Zm 40 5<|
 Zi 41 4 39 40<|
 Zf 42 0 41<|
 Zh 43 3 42<|
 Zq 44 false 42 [.t 38,.t 43]<|
 Zm 7 44 .nil)<|Zr (Zm 45 7<|
 Zk 46 .neq 45 0 .nil)<| .cond (.t 46) (Zr (Zm 47 7<|
 Zm 4 47 .nil) .ret) .skip)<| .rg (Zm 18 5<|
 Zk 19 .add 18 1<|
 Zm 5 19 .nil))<| .seq (Zr (Zm 48 0<|
 Zn 49 48<|
 Zm 50 1<|
 Zn 51 50<|
 Zb 52 .lss 49 51 .nil)<| .cond (.t 52) (Zr (Zc 4 (-1) .nil) .ret) .skip)<| .seq (Zr (Zm 53 0<|
 Zn 54 53<|
 Zm 55 1<|
 Zn 56 55<|
 Zb 57 .gtr 54 56 .nil)<| .cond (.t 57) (Zr (Zc 4 1 .nil) .ret) .skip)<|Zr (Zc 4 0 .nil) .ret⟩
theorem UO:Qe Tryz.prog Tryz.f32=some CX:=by kernel_rfl
def Dg:aw:=⟨5,[.t 2],Zr (Zo (.box 1 3 32 (.t 0))<|
 Zo (.mv 2 (.c .aa)) .nil)<|Zr (Zh 3 3 1<|
 Zq 4 false 52 [.c .aa,.t 3,.c .aa]<|
 Zm 2 4 .nil) .ret⟩
theorem UP:Qe Tryz.prog Tryz.f55=some Dg:=by kernel_rfl
def CK:aw:=⟨9,[.t 4],Zr (Zo (.mv 4 (.c (.bool false))) .nil)<|Zr (Zm 5 0<|
 Zm 6 1<|
 Zq 7 false 32 [.t 5,.t 6]<|
 Zk 8 .eql 7 0<|
 Zm 4 8 .nil) .ret⟩
theorem UQ:Qe Tryz.prog Tryz.f13=some CK:=by kernel_rfl
def CT:aw:=⟨22,[.t 4],Zr (Zo (.mv 4 (.c .aa)) .nil)<|Zr (Zo (.mv 5 (.c .aa)) .nil)<| .seq (Zr (Zc 6 0 .nil)<| .block 0<| .loop<| .seq (Zr (Zm 7 6<|
 Zm 8 1<|
 Zn 9 8<|
 Zb 10 .lss 7 9 .nil)<| .cond (.t 10) .skip (.exit 0))<| .seq (.block 1<| .rg (Zm 13 5<|
 Zm 14 0<|
 Zm 15 1<|
 Zm 16 6<|
 Zi 17 4 15 16<|
 Zh 18 4 17<|
 Zq 19 false 51 [.t 14,.t 18]<|
 Zq 20 false 50 [.t 13,.t 19]<|
 Zm 5 20 .nil))<| .rg (Zm 11 6<|
 Zk 12 .add 11 1<|
 Zm 6 12 .nil))<|Zr (Zm 21 5<|
 Zm 4 21 .nil) .ret⟩
theorem UR:Qe Tryz.prog Tryz.f26=some CT:=by kernel_rfl
def zF:aw:=⟨6,[.t 2],Zr (Zo (.mv 2 (.c .aa)) .nil)<|Zr (Zm 3 0<|
 Zq 4 false 38 [.c (Zz (-1))]<|
 Zq 5 false 74 [.t 3,.t 4]<|
 Zm 2 5 .nil) .ret⟩
theorem RK:Qe Tryz.prog Tryz.f123=some zF:=by kernel_rfl
def Dv:aw:=⟨35,[.t 4],Zr (Zo (.box 3 3 32 (.t 1))<|
 Zo (.mv 4 (.c .aa)) .nil)<|Zr (Zo (.mv 5 (.c .aa)) .nil)<| .seq (Zr (Zc 6 0 .nil)<| .block 0<| .loop<| .seq (Zr (Zm 7 6<|
 Zm 8 0<|
 Zn 9 8<|
 Zb 10 .lss 7 9<|
 Zm 11 10<|
 Zg 11 true (.ld 12 3 true (.t 3))<|
 Zg 11 true (.call (some 13) false (.c (.fn 109 [] [])) [.t 12])<|
 Zg 11 true (.bin 14 .neq false (.t 13) (.c (Zz 0)))<|
 Zo (.pick 15 (.t 11) (.t 14) (.c (.bool false))) .nil)<| .cond (.t 15) .skip (.exit 0))<| .seq (.block 1<| .rg (Zm 18 5<|
 Zm 19 0<|
 Zm 20 6<|
 Zi 21 4 19 20<|
 Zf 22 0 21<|
 Zh 23 3 22<|
 Zh 24 3 3<|
 Zm 26 0<|
 Zm 27 6<|
 Zi 28 4 26 27<|
 Zf 29 3 28<|
 Zl 30 1 29<|
 Zq 25 true 39 [.t 23,.t 24]<|
 Zo (.cc 31 [.bool false,.aa,.aa,.aa] [(0,3,.t 25),(3,1,.t 30)])<|
 Zo (.bs 32 4 104 [.t 31])<|
 Zo (.app 33 4 80 104 (.t 18) (.t 32))<|
 Zm 5 33 .nil))<| .rg (Zm 16 6<|
 Zk 17 .add 16 1<|
 Zm 6 17 .nil))<|Zr (Zm 34 5<|
 Zm 4 34 .nil) .ret⟩
theorem Uj:Qe Tryz.prog Tryz.f74=some Dv:=by kernel_rfl
def Du:aw:=⟨9,[.t 4],Zr (Zo (.mv 4 (.c .aa)) .nil)<|Zr (Zm 5 0<|
 Zm 6 1<|
 Zq 7 false 123 [.t 6]<|
 Zq 8 false 50 [.t 5,.t 7]<|
 Zm 4 8 .nil) .ret⟩
theorem Uk:Qe Tryz.prog Tryz.f71=some Du:=by kernel_rfl
def De:aw:=⟨88,[.t 6],Zr (Zo (.box 4 3 32 (.t 1))<|
 Zo (.mv 6 (.c .aa)) .nil)<|Zr (Zm 10 0<|
 Zn 11 10<|
 Zm 7 11 .nil)<| .seq (.block 0<| .loop<| .seq (Zr (Zm 12 7<|
 Zk 13 .gtr 12 0<|
 Zm 14 13<|
 Zg 14 true (.mv 15 (.t 0))<|
 Zg 14 true (.mv 16 (.t 7))<|
 Zg 14 true (.bin 17 .sub false (.t 16) (.c (Zz 1)))<|
 Zg 14 true (.idx 18 4 (.t 15) (.t 17))<|
 Zg 14 true (.bw 19 3 (.t 18))<|
 Zg 14 true (.ld 20 1 false (.t 19))<|
 Zg 14 true (.mv 21 (.t 2))<|
 Zg 14 true (.call (some 22) false (.c (.fn 75 [] [])) [.t 20,.t 21,.c (Zz 0)])<|
 Zg 14 true (.bin 23 .lss false (.t 22) (.c (Zz 0)))<|
 Zo (.pick 24 (.t 14) (.t 23) (.c (.bool false))) .nil)<| .cond (.t 24) .skip (.exit 0))<| .block 1<| .rg (Zm 25 7<|
 Zk 26 .sub 25 1<|
 Zm 7 26 .nil))<|Zr (Zo (.mv 8 (.c .aa)) .nil)<| .seq (Zr (Zm 27 7<|
 Zk 28 .gtr 27 0<|
 Zm 29 28<|
 Zg 29 true (.mv 30 (.t 0))<|
 Zg 29 true (.mv 31 (.t 7))<|
 Zg 29 true (.bin 32 .sub false (.t 31) (.c (Zz 1)))<|
 Zg 29 true (.idx 33 4 (.t 30) (.t 32))<|
 Zg 29 true (.bw 34 3 (.t 33))<|
 Zg 29 true (.ld 35 1 false (.t 34))<|
 Zg 29 true (.mv 36 (.t 2))<|
 Zg 29 true (.call (some 37) false (.c (.fn 75 [] [])) [.t 35,.t 36,.c (Zz 0)])<|
 Zg 29 true (.bin 38 .eql false (.t 37) (.c (Zz 0)))<|
 Zo (.pick 39 (.t 29) (.t 38) (.c (.bool false))) .nil)<| .cond (.t 39) (Zr (Zm 40 8<|
 Zm 41 0<|
 Zm 42 7<|
 Zk 43 .sub 42 1<|
 Zo (.sl 44 4 (.t 41) none (some (.t 43)) none)<|
 Zo (.app 45 4 80 104 (.t 40) (.t 44))<|
 Zm 8 45 .nil)<| .seq (Zr (Zm 46 0<|
 Zm 47 7<|
 Zk 48 .sub 47 1<|
 Zi 49 4 46 48<|
 Zf 50 0 49<|
 Zh 51 3 50<|
 Zh 52 3 4<|
 .br (Zq 53 true 41 [.t 51,.t 52]<|
 Zo (.alloc 9 3 32 (.agg [.bool false,.aa,.aa]))<|
 Zs 3 9 53 .nil) (Zo (.alloc 9 3 32 (.agg [.bool false,.aa,.aa]))<|
 Zq 53 true 41 [.t 51,.t 52]<|
 Zs 3 9 53 .nil))<|Zr (Zh 54 3 9<|
 Zq 55 false 109 [.t 54]<|
 Zk 56 .neq 55 0 .nil)<| .cond (.t 56) (.rg (Zm 57 8<|
 Zh 58 3 9<|
 Zm 59 2<|
 Zo (.cc 60 [.bool false,.aa,.aa,.aa] [(0,3,.t 58),(3,1,.t 59)])<|
 Zo (.bs 61 4 104 [.t 60])<|
 Zo (.app 62 4 80 104 (.t 57) (.t 61))<|
 Zm 8 62 .nil)) .skip)<|Zr (Zm 63 8<|
 Zm 64 0<|
 Zm 65 7<|
 Zo (.sl 66 4 (.t 64) (some (.t 65)) none none)<|
 Zo (.app 67 4 80 104 (.t 63) (.t 66))<|
 Zm 6 67 .nil) .ret) .skip)<|Zr (Zm 68 8<|
 Zm 69 0<|
 Zm 70 7<|
 Zo (.sl 71 4 (.t 69) none (some (.t 70)) none)<|
 Zo (.app 72 4 80 104 (.t 68) (.t 71))<|
 Zm 8 72 .nil)<| .seq (Zr (Zh 73 3 4<|
 Zq 74 false 109 [.t 73]<|
 Zk 75 .neq 74 0 .nil)<| .cond (.t 75) (.rg (Zm 76 8<|
 Zh 77 3 4<|
 Zq 78 false 100 [.t 77]<|
 Zm 79 2<|
 Zo (.cc 80 [.bool false,.aa,.aa,.aa] [(0,3,.t 78),(3,1,.t 79)])<|
 Zo (.bs 81 4 104 [.t 80])<|
 Zo (.app 82 4 80 104 (.t 76) (.t 81))<|
 Zm 8 82 .nil)) .skip)<|Zr (Zm 83 8<|
 Zm 84 0<|
 Zm 85 7<|
 Zo (.sl 86 4 (.t 84) (some (.t 85)) none none)<|
 Zo (.app 87 4 80 104 (.t 83) (.t 86))<|
 Zm 6 87 .nil) .ret⟩
theorem Ul:Qe Tryz.prog Tryz.f52=some De:=by kernel_rfl
def Dd:aw:=⟨34,[.t 4],Zr (Zo (.box 3 4 104 (.t 1))<|
 Zo (.mv 4 (.c .aa)) .nil)<|Zr (Zo (.mv 5 (.c .aa)) .nil)<| .seq (Zr (Zc 6 0 .nil)<| .block 0<| .loop<| .seq (Zr (Zm 7 6<|
 Zm 8 0<|
 Zn 9 8<|
 Zb 10 .lss 7 9 .nil)<| .cond (.t 10) .skip (.exit 0))<| .seq (.block 1<| .rg (Zm 13 5<|
 Zm 14 0<|
 Zm 15 6<|
 Zi 16 4 14 15<|
 Zf 17 0 16<|
 Zh 18 3 17<|
 Zf 19 0 3<|
 Zh 20 3 19<|
 Zm 22 0<|
 Zm 23 6<|
 Zi 24 4 22 23<|
 Zf 25 3 24<|
 Zl 26 1 25<|
 Zf 27 3 3<|
 Zl 28 1 27<|
 Zq 21 true 39 [.t 18,.t 20]<|
 Zq 29 true 110 [.t 26,.t 28]<|
 Zo (.cc 30 [.bool false,.aa,.aa,.aa] [(0,3,.t 21),(3,1,.t 29)])<|
 Zo (.bs 31 4 104 [.t 30])<|
 Zo (.app 32 4 80 104 (.t 13) (.t 31))<|
 Zm 5 32 .nil))<| .rg (Zm 11 6<|
 Zk 12 .add 11 1<|
 Zm 6 12 .nil))<|Zr (Zm 33 5<|
 Zm 4 33 .nil) .ret⟩
theorem Um:Qe Tryz.prog Tryz.f51=some Dd:=by kernel_rfl
def zG:aw:=⟨18,[.t 2],Zr (Zc 2 0 .nil)<|Zr (Zc 3 0 .nil)<| .seq (Zr (Zc 4 0 .nil)<| .block 0<| .loop<| .seq (Zr (Zm 5 4<|
 Zm 6 0<|
 Zn 7 6<|
 Zb 8 .lss 5 7 .nil)<| .cond (.t 8) .skip (.exit 0))<| .seq (.block 1<| .rg (Zm 11 3<|
 Zm 12 0<|
 Zm 13 4<|
 Zi 14 1 12 13<|
 Zl 15 1 14<|
 Zb 16 .add 11 15<|
 Zm 3 16 .nil))<| .rg (Zm 9 4<|
 Zk 10 .add 9 1<|
 Zm 4 10 .nil))<|Zr (Zm 17 3<|
 Zm 2 17 .nil) .ret⟩
theorem RL:Qe Tryz.prog Tryz.f124=some zG:=by kernel_rfl
def zH:aw:=⟨17,[.t 4],Zr (Zc 4 0 .nil)<| .seq (Zr (Zm 5 1<|
 Zk 6 .lss 5 0<|
 Zm 7 6<|
 Zg 7 false (.mv 8 (.t 1))<|
 Zg 7 false (.mv 9 (.t 0))<|
 Zg 7 false (.len 10 (.t 9))<|
 Zg 7 false (.bin 11 .geq false (.t 8) (.t 10))<|
 Zo (.pick 12 (.t 7) (.c (.bool true)) (.t 11)) .nil)<| .cond (.t 12) (Zr (Zc 4 0 .nil) .ret) .skip)<|Zr (Zm 13 0<|
 Zm 14 1<|
 Zi 15 1 13 14<|
 Zl 16 1 15<|
 Zm 4 16 .nil) .ret⟩
theorem RM:Qe Tryz.prog Tryz.f126=some zH:=by kernel_rfl
def zI:aw:=⟨30,[.t 4],Zr (Zo (.mv 4 (.c .aa)) .nil)<|Zr (Zo (.mv 5 (.c .aa)) .nil)<| .seq (Zr (Zc 6 0 .nil)<| .block 0<| .loop<| .seq (Zr (Zm 7 6<|
 Zm 8 0<|
 Zn 9 8<|
 Zb 10 .lss 7 9<|
 Zm 11 10<|
 Zg 11 false (.mv 12 (.t 6))<|
 Zg 11 false (.mv 13 (.t 1))<|
 Zg 11 false (.len 14 (.t 13))<|
 Zg 11 false (.bin 15 .lss false (.t 12) (.t 14))<|
 Zo (.pick 16 (.t 11) (.c (.bool true)) (.t 15)) .nil)<| .cond (.t 16) .skip (.exit 0))<| .seq (.block 1<| .rg (Zm 19 5<|
 Zm 20 0<|
 Zm 21 6<|
 Zq 22 false 126 [.t 20,.t 21]<|
 Zm 23 1<|
 Zm 24 6<|
 Zq 25 false 126 [.t 23,.t 24]<|
 Zb 26 .add 22 25<|
 Zo (.bs 27 1 3 [.t 26])<|
 Zo (.app 28 1 8 3 (.t 19) (.t 27))<|
 Zm 5 28 .nil))<| .rg (Zm 17 6<|
 Zk 18 .add 17 1<|
 Zm 6 18 .nil))<|Zr (Zm 29 5<|
 Zm 4 29 .nil) .ret⟩
theorem RN:Qe Tryz.prog Tryz.f110=some zI:=by kernel_rfl
def Dw:aw:=⟨48,[.t 6],Zr (Zc 6 0 .nil)<| .seq (Zr (Zm 8 2<|
 Zk 9 .eql 8 1<|
 Zm 10 9<|
 Zg 10 true (.mv 11 (.t 0))<|
 Zg 10 true (.call (some 12) false (.c (.fn 124 [] [])) [.t 11])<|
 Zg 10 true (.mv 13 (.t 1))<|
 Zg 10 true (.call (some 14) false (.c (.fn 124 [] [])) [.t 13])<|
 Zg 10 true (.bin 15 .neq false (.t 12) (.t 14))<|
 Zo (.pick 16 (.t 10) (.t 15) (.c (.bool false))) .nil)<| .cond (.t 16) (Zr (Zm 17 0<|
 Zq 18 false 124 [.t 17]<|
 Zm 19 1<|
 Zq 20 false 124 [.t 19]<|
 Zb 21 .sub 18 20<|
 Zq 22 false 125 [.t 21]<|
 Zm 6 22 .nil) .ret) .skip)<| .seq (Zr (Zm 23 0<|
 Zn 24 23<|
 Zm 25 1<|
 Zn 26 25<|
 Zo (.mx 27 (.t 24) (.t 26))<|
 Zk 28 .sub 27 1<|
 Zm 7 28 .nil)<| .block 0<| .loop<| .seq (Zr (Zm 29 7<|
 Zk 30 .geq 29 0 .nil)<| .cond (.t 30) .skip (.exit 0))<| .seq (.block 1<|Zr (Zm 33 0<|
 Zm 34 7<|
 Zq 35 false 126 [.t 33,.t 34]<|
 Zm 36 1<|
 Zm 37 7<|
 Zq 38 false 126 [.t 36,.t 37]<|
 Zb 39 .neq 35 38 .nil)<| .cond (.t 39) (Zr (Zm 40 0<|
 Zm 41 7<|
 Zq 42 false 126 [.t 40,.t 41]<|
 Zm 43 1<|
 Zm 44 7<|
 Zq 45 false 126 [.t 43,.t 44]<|
 Zb 46 .sub 42 45<|
 Zq 47 false 125 [.t 46]<|
 Zm 6 47 .nil) .ret) .skip)<| .rg (Zm 31 7<|
 Zk 32 .sub 31 1<|
 Zm 7 32 .nil))<|Zr (Zc 6 0 .nil) .ret⟩
theorem Un:Qe Tryz.prog Tryz.f75=some Dw:=by kernel_rfl
def zJ:aw:=⟨7,[.t 2],Zr (Zc 2 0 .nil)<| .seq (Zr (Zm 3 0<|
 Zk 4 .lss 3 0 .nil)<| .cond (.t 4) (Zr (Zc 2 (-1) .nil) .ret) .skip)<| .seq (Zr (Zm 5 0<|
 Zk 6 .gtr 5 0 .nil)<| .cond (.t 6) (Zr (Zc 2 1 .nil) .ret) .skip)<|Zr (Zc 2 0 .nil) .ret⟩
theorem RO:Qe Tryz.prog Tryz.f125=some zJ:=by kernel_rfl
def zK:aw:=⟨24,[.t 2],Zr (Zo (.mv 2 (.c .aa)) .nil)<|Zr (Zm 5 0<|
 Zn 6 5<|
 Zm 3 6 .nil)<| .seq (.block 0<| .loop<| .seq (Zr (Zm 7 3<|
 Zk 8 .gtr 7 0<|
 Zm 9 8<|
 Zg 9 true (.mv 10 (.t 0))<|
 Zg 9 true (.mv 11 (.t 3))<|
 Zg 9 true (.bin 12 .sub false (.t 11) (.c (Zz 1)))<|
 Zg 9 true (.idx 13 1 (.t 10) (.t 12))<|
 Zg 9 true (.ld 14 1 false (.t 13))<|
 Zg 9 true (.bin 15 .eql false (.t 14) (.c (.int .u16 0)))<|
 Zo (.pick 16 (.t 9) (.t 15) (.c (.bool false))) .nil)<| .cond (.t 16) .skip (.exit 0))<| .block 1<| .rg (Zm 17 3<|
 Zk 18 .sub 17 1<|
 Zm 3 18 .nil))<|Zr (Zo (.mv 4 (.c .aa)) .nil)<|Zr (Zm 19 4<|
 Zm 20 0<|
 Zm 21 3<|
 Zo (.sl 22 1 (.t 20) none (some (.t 21)) none)<|
 Zo (.app 23 1 2 152 (.t 19) (.t 22))<|
 Zm 2 23 .nil) .ret⟩
theorem RP:Qe Tryz.prog Tryz.f107=some zK:=by kernel_rfl
def Db:aw:=⟨15,[.t 2],Zr (Zo (.mv 2 (.c .aa)) .nil)<|Zr (Zo (.mv 3 (.c .aa)) .nil)<| .seq (.block 0<| .loop<| .seq (Zr (Zm 4 0<|
 Zo (.bin 5 .gtr false (.t 4) (.c (.int .u64 0))) .nil)<| .cond (.t 5) .skip (.exit 0))<| .block 1<|Zr (Zm 6 3<|
 Zm 7 0<|
 Zo (.bin 8 .rem false (.t 7) (.c (.int .u64 65536)))<|
 Zo (.conv 9 .u16 (.t 8))<|
 Zo (.bs 10 1 152 [.t 9])<|
 Zo (.app 11 1 2 152 (.t 6) (.t 10))<|
 Zm 3 11 .nil)<| .rg (Zm 12 0<|
 Zo (.bin 13 .quo false (.t 12) (.c (.int .u64 65536)))<|
 Zm 0 13 .nil))<|Zr (Zm 14 3<|
 Zm 2 14 .nil) .ret⟩
theorem Uo:Qe Tryz.prog Tryz.f49=some Db:=by kernel_rfl
def Ab:aw:=⟨21,[.t 2],Zr (Zo (.mv 2 (.c (.int .u64 0))) .nil)<|Zr (Zo (.mv 3 (.c (.int .u64 0))) .nil)<| .seq (Zr (Zm 5 0<|
 Zn 6 5<|
 Zk 7 .sub 6 1<|
 Zm 4 7 .nil)<| .block 0<| .loop<| .seq (Zr (Zm 8 4<|
 Zk 9 .geq 8 0 .nil)<| .cond (.t 9) .skip (.exit 0))<| .seq (.block 1<| .rg (Zm 12 3<|
 Zo (.bin 13 .mul false (.t 12) (.c (.int .u64 65536)))<|
 Zm 14 0<|
 Zm 15 4<|
 Zi 16 1 14 15<|
 Zl 17 1 16<|
 Zo (.conv 18 .u64 (.t 17))<|
 Zb 19 .add 13 18<|
 Zm 3 19 .nil))<| .rg (Zm 10 4<|
 Zk 11 .sub 10 1<|
 Zm 4 11 .nil))<|Zr (Zm 20 3<|
 Zm 2 20 .nil) .ret⟩
theorem RQ:Qe Tryz.prog Tryz.f145=some Ab:=by kernel_rfl
def Ac:aw:=⟨14,[.t 4],Zr (Zc 4 0 .nil)<| .seq (Zr (Zm 5 1<|
 Zm 6 0<|
 Zn 7 6<|
 Zb 8 .lss 5 7 .nil)<| .cond (.t 8) (Zr (Zm 9 0<|
 Zm 10 1<|
 Zi 11 1 9 10<|
 Zl 12 1 11<|
 Zo (.conv 13 .i64 (.t 12))<|
 Zm 4 13 .nil) .ret) .skip)<|Zr (Zc 4 0 .nil) .ret⟩
theorem St:Qe Tryz.prog Tryz.f139=some Ac:=by kernel_rfl
def Ad:aw:=⟨30,[.t 4],Zr (Zc 4 0 .nil)<| .seq (Zr (Zm 6 0<|
 Zn 7 6<|
 Zm 8 1<|
 Zn 9 8<|
 Zo (.mx 10 (.t 7) (.t 9))<|
 Zk 11 .sub 10 1<|
 Zm 5 11 .nil)<| .block 0<| .loop<| .seq (Zr (Zm 12 5<|
 Zk 13 .geq 12 0 .nil)<| .cond (.t 13) .skip (.exit 0))<| .seq (.block 1<| .seq (Zr (Zm 16 0<|
 Zm 17 5<|
 Zq 18 false 139 [.t 16,.t 17]<|
 Zm 19 1<|
 Zm 20 5<|
 Zq 21 false 139 [.t 19,.t 20]<|
 Zb 22 .lss 18 21 .nil)<| .cond (.t 22) (Zr (Zc 4 (-1) .nil) .ret) .skip)<|Zr (Zm 23 0<|
 Zm 24 5<|
 Zq 25 false 139 [.t 23,.t 24]<|
 Zm 26 1<|
 Zm 27 5<|
 Zq 28 false 139 [.t 26,.t 27]<|
 Zb 29 .gtr 25 28 .nil)<| .cond (.t 29) (Zr (Zc 4 1 .nil) .ret) .skip)<| .rg (Zm 14 5<|
 Zk 15 .sub 14 1<|
 Zm 5 15 .nil))<|Zr (Zc 4 0 .nil) .ret⟩
theorem Su:Qe Tryz.prog Tryz.f141=some Ad:=by kernel_rfl
def Ae:aw:=⟨44,[.t 4],Zr (Zo (.mv 4 (.c .aa)) .nil)<|Zr (Zo (.mv 5 (.c .aa)) .nil)<|Zr (Zc 6 0 .nil)<| .seq (Zr (Zc 7 0 .nil)<| .block 0<| .loop<| .seq (Zr (Zm 9 7<|
 Zm 10 0<|
 Zn 11 10<|
 Zb 12 .lss 9 11<|
 Zm 13 12<|
 Zg 13 false (.mv 14 (.t 7))<|
 Zg 13 false (.mv 15 (.t 1))<|
 Zg 13 false (.len 16 (.t 15))<|
 Zg 13 false (.bin 17 .lss false (.t 14) (.t 16))<|
 Zo (.pick 18 (.t 13) (.c (.bool true)) (.t 17))<|
 Zm 19 18<|
 Zg 19 false (.mv 20 (.t 6))<|
 Zg 19 false (.bin 21 .gtr false (.t 20) (.c (Zz 0)))<|
 Zo (.pick 22 (.t 19) (.c (.bool true)) (.t 21)) .nil)<| .cond (.t 22) .skip (.exit 0))<| .seq (.block 1<|Zr (Zm 25 0<|
 Zm 26 7<|
 Zq 27 false 139 [.t 25,.t 26]<|
 Zm 28 1<|
 Zm 29 7<|
 Zq 30 false 139 [.t 28,.t 29]<|
 Zb 31 .add 27 30<|
 Zm 32 6<|
 Zb 33 .add 31 32<|
 Zm 8 33 .nil)<|Zr (Zm 34 5<|
 Zm 35 8<|
 Zk 36 .rem 35 65536<|
 Zo (.conv 37 .u16 (.t 36))<|
 Zo (.bs 38 1 152 [.t 37])<|
 Zo (.app 39 1 2 152 (.t 34) (.t 38))<|
 Zm 5 39 .nil)<| .rg (Zm 40 8<|
 Zk 41 .quo 40 65536<|
 Zm 6 41 .nil))<| .rg (Zm 23 7<|
 Zk 24 .add 23 1<|
 Zm 7 24 .nil))<|Zr (Zm 42 5<|
 Zq 43 false 107 [.t 42]<|
 Zm 4 43 .nil) .ret⟩
theorem Sv:Qe Tryz.prog Tryz.f138=some Ae:=by kernel_rfl
def Af:aw:=⟨40,[.t 4,.t 5],Zr (Zo (.mv 4 (.c .aa))<|
 Zc 5 0 .nil)<| .seq (Zr (Zm 10 0<|
 Zm 11 1<|
 Zq 12 false 141 [.t 10,.t 11]<|
 Zk 13 .lss 12 0 .nil)<| .cond (.t 13) (Zr (Zo (.mv 4 (.c .aa))<|
 Zc 5 2 .nil) .ret) .skip)<|Zr (Zo (.mv 6 (.c .aa)) .nil)<|Zr (Zc 7 0 .nil)<| .seq (Zr (Zc 8 0 .nil)<| .block 0<| .loop<| .seq (Zr (Zm 14 8<|
 Zm 15 0<|
 Zn 16 15<|
 Zb 17 .lss 14 16 .nil)<| .cond (.t 17) .skip (.exit 0))<| .seq (.block 1<|Zr (Zm 20 0<|
 Zm 21 8<|
 Zq 22 false 139 [.t 20,.t 21]<|
 Zm 23 1<|
 Zm 24 8<|
 Zq 25 false 139 [.t 23,.t 24]<|
 Zb 26 .sub 22 25<|
 Zm 27 7<|
 Zb 28 .sub 26 27<|
 Zm 9 28 .nil)<|Zr (Zc 7 0 .nil)<| .seq (Zr (Zm 29 9<|
 Zk 30 .lss 29 0 .nil)<| .cond (.t 30) (Zr (Zm 31 9<|
 Zk 32 .add 31 65536<|
 Zm 9 32 .nil)<| .rg (Zc 7 1 .nil)) .skip)<| .rg (Zm 33 6<|
 Zm 34 9<|
 Zo (.conv 35 .u16 (.t 34))<|
 Zo (.bs 36 1 152 [.t 35])<|
 Zo (.app 37 1 2 152 (.t 33) (.t 36))<|
 Zm 6 37 .nil))<| .rg (Zm 18 8<|
 Zk 19 .add 18 1<|
 Zm 8 19 .nil))<|Zr (Zm 38 6<|
 Zq 39 false 107 [.t 38]<|
 Zm 4 39<|
 Zc 5 0 .nil) .ret⟩
theorem Sw:Qe Tryz.prog Tryz.f140=some Af:=by kernel_rfl
def DB:aw:=⟨65,[.t 4],Zr (Zo (.mv 4 (.c .aa)) .nil)<|Zr (Zm 10 0<|
 Zn 11 10<|
 Zm 12 1<|
 Zn 13 12<|
 Zb 14 .add 11 13<|
 Zk 15 .add 14 1<|
 Zo (.mk 16 1 2 152 (.int .u16 0) (.t 15) (.t 15))<|
 Zm 5 16 .nil)<| .seq (Zr (Zc 6 0 .nil)<| .block 0<| .loop<| .seq (Zr (Zm 17 6<|
 Zm 18 0<|
 Zn 19 18<|
 Zb 20 .lss 17 19 .nil)<| .cond (.t 20) .skip (.exit 0))<| .seq (.block 1<|Zr (Zo (.mv 7 (.c (.int .u64 0))) .nil)<|Zr (Zc 8 0 .nil)<| .block 2<| .loop<| .seq (Zr (Zm 23 8<|
 Zm 24 1<|
 Zn 25 24<|
 Zb 26 .lss 23 25<|
 Zm 27 26<|
 Zg 27 false (.mv 28 (.t 7))<|
 Zg 27 false (.bin 29 .gtr false (.t 28) (.c (.int .u64 0)))<|
 Zo (.pick 30 (.t 27) (.c (.bool true)) (.t 29)) .nil)<| .cond (.t 30) .skip (.exit 2))<| .seq (.block 3<|Zr (Zm 33 5<|
 Zm 34 6<|
 Zm 35 8<|
 Zb 36 .add 34 35<|
 Zi 37 1 33 36<|
 Zl 38 1 37<|
 Zo (.conv 39 .u64 (.t 38))<|
 Zm 40 0<|
 Zm 41 6<|
 Zi 42 1 40 41<|
 Zl 43 1 42<|
 Zo (.conv 44 .u64 (.t 43))<|
 Zm 45 1<|
 Zm 46 8<|
 Zm 51 7<|
 Zq 47 true 139 [.t 45,.t 46]<|
 Zo (.conv 48 .u64 (.t 47))<|
 Zb 49 .mul 44 48<|
 Zb 50 .add 39 49<|
 Zb 52 .add 50 51<|
 Zm 9 52 .nil)<|Zr (Zm 53 5<|
 Zm 54 6<|
 Zm 55 8<|
 Zb 56 .add 54 55<|
 Zm 57 9<|
 Zo (.bin 58 .rem false (.t 57) (.c (.int .u64 65536)))<|
 Zo (.conv 59 .u16 (.t 58))<|
 Zi 60 1 53 56<|
 Zs 1 60 59 .nil)<| .rg (Zm 61 9<|
 Zo (.bin 62 .quo false (.t 61) (.c (.int .u64 65536)))<|
 Zm 7 62 .nil))<| .rg (Zm 31 8<|
 Zk 32 .add 31 1<|
 Zm 8 32 .nil))<| .rg (Zm 21 6<|
 Zk 22 .add 21 1<|
 Zm 6 22 .nil))<|Zr (Zm 63 5<|
 Zq 64 false 107 [.t 63]<|
 Zm 4 64 .nil) .ret⟩
theorem Up:Qe Tryz.prog Tryz.f99=some DB:=by kernel_rfl
def Ag:aw:=⟨27,[.t 4],Zr (Zo (.mv 4 (.c (.int .u64 0))) .nil)<|Zr (Zo (.mv 5 (.c (.int .u64 0)))<|
 Zo (.mv 6 (.c (.int .u64 65535))) .nil)<| .seq (.block 0<| .loop<| .seq (Zr (Zm 8 5<|
 Zm 9 6<|
 Zb 10 .lss 8 9 .nil)<| .cond (.t 10) .skip (.exit 0))<| .block 1<|Zr (Zm 11 5<|
 Zm 12 6<|
 Zb 13 .add 11 12<|
 Zo (.bin 14 .add false (.t 13) (.c (.int .u64 1)))<|
 Zo (.bin 15 .quo false (.t 14) (.c (.int .u64 2)))<|
 Zm 7 15 .nil)<|Zr (Zm 16 1<|
 Zm 17 7<|
 Zq 18 false 49 [.t 17]<|
 Zq 19 false 99 [.t 16,.t 18]<|
 Zm 20 0<|
 Zq 21 false 141 [.t 19,.t 20]<|
 Zk 22 .leq 21 0 .nil)<| .cond (.t 22) (.rg (Zm 23 7<|
 Zm 5 23 .nil)) (.rg (Zm 24 7<|
 Zo (.bin 25 .sub false (.t 24) (.c (.int .u64 1)))<|
 Zm 6 25 .nil)))<|Zr (Zm 26 5<|
 Zm 4 26 .nil) .ret⟩
theorem Sx:Qe Tryz.prog Tryz.f146=some Ag:=by kernel_rfl
def Ah:aw:=⟨73,[.t 4,.t 5,.t 6],Zr (Zo (.mv 4 (.c .aa))<|
 Zo (.mv 5 (.c .aa))<|
 Zc 6 0 .nil)<|Zr (Zm 11 0<|
 Zq 12 false 107 [.t 11]<|
 Zm 13 1<|
 Zq 14 false 107 [.t 13]<|
 Zm 0 12<|
 Zm 1 14 .nil)<| .seq (Zr (Zm 15 1<|
 Zn 16 15<|
 Zk 17 .eql 16 0 .nil)<| .cond (.t 17) (Zr (Zo (.mv 4 (.c .aa))<|
 Zo (.mv 5 (.c .aa))<|
 Zc 6 3 .nil) .ret) .skip)<| .seq (Zr (Zm 18 0<|
 Zn 19 18<|
 Zk 20 .leq 19 4<|
 Zm 21 20<|
 Zg 21 true (.mv 22 (.t 1))<|
 Zg 21 true (.len 23 (.t 22))<|
 Zg 21 true (.bin 24 .leq false (.t 23) (.c (Zz 4)))<|
 Zo (.pick 25 (.t 21) (.t 24) (.c (.bool false))) .nil)<| .cond (.t 25) (Zr (Zm 26 0<|
 Zq 27 false 145 [.t 26]<|
 Zm 28 1<|
 Zq 29 false 145 [.t 28]<|
 Zb 30 .quo 27 29<|
 Zq 31 false 49 [.t 30]<|
 Zm 32 0<|
 Zq 33 false 145 [.t 32]<|
 Zm 34 1<|
 Zq 35 false 145 [.t 34]<|
 Zb 36 .rem 33 35<|
 Zq 37 false 49 [.t 36]<|
 Zm 4 31<|
 Zm 5 37<|
 Zc 6 0 .nil) .ret) .skip)<|Zr (Zo (.mv 7 (.c .aa))<|
 Zo (.mv 8 (.c .aa)) .nil)<| .seq (Zr (Zm 38 0<|
 Zn 39 38<|
 Zk 40 .sub 39 1<|
 Zm 9 40 .nil)<| .block 0<| .loop<| .seq (Zr (Zm 41 9<|
 Zk 42 .geq 41 0 .nil)<| .cond (.t 42) .skip (.exit 0))<| .seq (.block 1<|Zr (Zm 45 0<|
 Zm 46 9<|
 Zi 47 1 45 46<|
 Zl 48 1 47<|
 Zo (.bs 49 1 152 [.t 48])<|
 Zm 50 8<|
 Zo (.app 51 1 2 152 (.t 49) (.t 50))<|
 Zq 52 false 107 [.t 51]<|
 Zm 8 52 .nil)<|Zr (Zm 53 8<|
 Zm 54 1<|
 Zq 55 false 146 [.t 53,.t 54]<|
 Zm 10 55 .nil)<|Zr (Zm 56 10<|
 Zo (.conv 57 .u16 (.t 56))<|
 Zo (.bs 58 1 152 [.t 57])<|
 Zm 59 7<|
 Zo (.app 60 1 2 152 (.t 58) (.t 59))<|
 Zm 7 60 .nil)<| .rg (Zm 62 8<|
 Zm 63 1<|
 Zm 64 10<|
 Zq 65 false 49 [.t 64]<|
 Zq 66 false 99 [.t 63,.t 65]<|
 Zq 67 false 140 [.t 62,.t 66]<|
 Zm 61 67<|
 Zo (.ext 68 (.t 61) 0)<|
 Zo (.ext 69 (.t 61) 1)<|
 Zm 8 68 .nil))<| .rg (Zm 43 9<|
 Zk 44 .sub 43 1<|
 Zm 9 44 .nil))<|Zr (Zm 70 7<|
 Zq 71 false 107 [.t 70]<|
 Zm 72 8<|
 Zm 4 71<|
 Zm 5 72<|
 Zc 6 0 .nil) .ret⟩
theorem Sy:Qe Tryz.prog Tryz.f108=some Ah:=by kernel_rfl
def Da:aw:=⟨25,[.t 4],Zr (Zo (.mv 4 (.c .aa)) .nil)<|Zr (Zm 8 0<|
 Zq 9 false 107 [.t 8]<|
 Zm 10 1<|
 Zq 11 false 107 [.t 10]<|
 Zm 0 9<|
 Zm 1 11 .nil)<| .seq (.block 0<| .loop<| .seq (Zr (Zm 12 1<|
 Zn 13 12<|
 Zk 14 .gtr 13 0 .nil)<| .cond (.t 14) .skip (.exit 0))<| .block 1<|Zr (Zm 16 0<|
 Zm 17 1<|
 Zq 18 false 108 [.t 16,.t 17]<|
 Zm 15 18<|
 Zo (.ext 19 (.t 15) 0)<|
 Zo (.ext 20 (.t 15) 1)<|
 Zo (.ext 21 (.t 15) 2)<|
 Zm 5 19<|
 Zm 6 20<|
 Zm 7 21 .nil)<| .rg (Zm 22 1<|
 Zm 23 6<|
 Zm 0 22<|
 Zm 1 23 .nil))<|Zr (Zm 24 0<|
 Zm 4 24 .nil) .ret⟩
theorem Uq:Qe Tryz.prog Tryz.f48=some Da:=by kernel_rfl
def C8:aw:=⟨15,[.t 2],Zr (Zo (.mv 2 (.c (.bool false))) .nil)<|Zr (Zm 3 0<|
 Zn 4 3<|
 Zk 5 .eql 4 0<|
 Zm 6 5<|
 Zg 6 false (.mv 7 (.t 0))<|
 Zg 6 false (.mv 8 (.t 0))<|
 Zg 6 false (.len 9 (.t 8))<|
 Zg 6 false (.bin 10 .sub false (.t 9) (.c (Zz 1)))<|
 Zg 6 false (.idx 11 1 (.t 7) (.t 10))<|
 Zg 6 false (.ld 12 1 false (.t 11))<|
 Zg 6 false (.bin 13 .neq false (.t 12) (.c (.int .u16 0)))<|
 Zo (.pick 14 (.t 6) (.c (.bool true)) (.t 13))<|
 Zm 2 14 .nil) .ret⟩
theorem Ur:Qe Tryz.prog Tryz.f46=some C8:=by kernel_rfl
def C9:aw:=⟨26,[.t 4],Zr (Zo (.mv 4 (.c (.bool false))) .nil)<| .seq (Zr (Zm 6 0<|
 Zn 7 6<|
 Zm 8 1<|
 Zn 9 8<|
 Zb 10 .neq 7 9 .nil)<| .cond (.t 10) (Zr (Zo (.mv 4 (.c (.bool false))) .nil) .ret) .skip)<| .seq (Zr (Zc 5 0 .nil)<| .block 0<| .loop<| .seq (Zr (Zm 11 5<|
 Zm 12 0<|
 Zn 13 12<|
 Zb 14 .lss 11 13 .nil)<| .cond (.t 14) .skip (.exit 0))<| .seq (.block 1<|Zr (Zm 17 0<|
 Zm 18 5<|
 Zi 19 1 17 18<|
 Zl 20 1 19<|
 Zm 21 1<|
 Zm 22 5<|
 Zi 23 1 21 22<|
 Zl 24 1 23<|
 Zb 25 .neq 20 24 .nil)<| .cond (.t 25) (Zr (Zo (.mv 4 (.c (.bool false))) .nil) .ret) .skip)<| .rg (Zm 15 5<|
 Zk 16 .add 15 1<|
 Zm 5 16 .nil))<|Zr (Zo (.mv 4 (.c (.bool true))) .nil) .ret⟩
theorem Us:Qe Tryz.prog Tryz.f47=some C9:=by kernel_rfl
def C7:aw:=⟨17,[.t 2],Zr (Zo (.box 1 2 30 (.t 0))<|
 Zo (.mv 2 (.c (.bool false))) .nil)<|Zr (Zf 3 1 1<|
 Zl 4 1 3<|
 Zq 5 false 46 [.t 4]<|
 Zm 6 5<|
 Zg 6 true (.bw 7 0 (.t 1))<|
 Zg 6 true (.ld 8 1 false (.t 7))<|
 Zg 6 true (.mv 9 (.t 8))<|
 Zg 9 true (.bw 10 1 (.t 1))<|
 Zg 9 true (.ld 11 1 false (.t 10))<|
 Zg 9 true (.len 12 (.t 11))<|
 Zg 9 true (.bin 13 .eql false (.t 12) (.c (Zz 0)))<|
 Zg 6 true (.pick 14 (.t 9) (.t 13) (.c (.bool false)))<|
 Zg 6 true (.un 15 .not (.t 14))<|
 Zo (.pick 16 (.t 6) (.t 15) (.c (.bool false)))<|
 Zm 2 16 .nil) .ret⟩
theorem Vc:Qe Tryz.prog Tryz.f45=some C7:=by kernel_rfl
def Ai:aw:=⟨15,[.cell 4 2 true],Zr (Zo (.alloc 4 2 30 (.agg [.bool false,.aa])) .nil)<|Zr (Zm 5 1<|
 Zq 6 false 107 [.t 5]<|
 Zm 1 6 .nil)<|Zr (Zm 7 0<|
 Zm 8 7<|
 Zg 8 true (.mv 9 (.t 1))<|
 Zg 8 true (.len 10 (.t 9))<|
 Zg 8 true (.bin 11 .gtr false (.t 10) (.c (Zz 0)))<|
 Zo (.pick 12 (.t 8) (.t 11) (.c (.bool false)))<|
 Zm 13 1<|
 Zo (.cc 14 [.bool false,.aa] [(0,1,.t 12),(1,1,.t 13)])<|
 Zs 2 4 14 .nil) .ret⟩
theorem SA:Qe Tryz.prog Tryz.f137=some Ai:=by kernel_rfl
def Aj:aw:=⟨8,[.cell 2 2 true],Zr (Zo (.box 1 2 30 (.t 0))<|
 Zo (.alloc 2 2 30 (.agg [.bool false,.aa])) .nil)<|Zr (Zf 3 0 1<|
 Zl 4 1 3<|
 Zf 5 1 1<|
 Zl 6 1 5<|
 Zq 7 false 137 [.t 4,.t 6]<|
 Zs 2 2 7 .nil) .ret⟩
theorem SB:Qe Tryz.prog Tryz.f136=some Aj:=by kernel_rfl
def Dy:aw:=⟨17,[.cell 2 2 true],Zr (Zo (.alloc 2 2 30 (.agg [.bool false,.aa])) .nil)<| .seq (Zr (Zm 3 0<|
 Zk 4 .lss 3 0 .nil)<| .cond (.t 4) (Zr (Zm 5 0<|
 Zk 6 .add 5 1<|
 Zo (.un 7 .neg (.t 6))<|
 Zo (.conv 8 .u64 (.t 7))<|
 Zq 9 false 49 [.t 8]<|
 Zq 10 false 49 [.c (.int .u64 1)]<|
 Zq 11 false 138 [.t 9,.t 10]<|
 Zq 12 false 137 [.c (.bool true),.t 11]<|
 Zs 2 2 12 .nil) .ret) .skip)<|Zr (Zm 13 0<|
 Zo (.conv 14 .u64 (.t 13))<|
 Zq 15 false 49 [.t 14]<|
 Zq 16 false 137 [.c (.bool false),.t 15]<|
 Zs 2 2 16 .nil) .ret⟩
theorem Vd:Qe Tryz.prog Tryz.f97=some Dy:=by kernel_rfl
def Ak:aw:=⟨11,[.t 2],Zr (Zo (.box 1 2 30 (.t 0))<|
 Zc 2 0 .nil)<|Zr (Zh 3 2 1<|
 Zq 4 false 136 [.t 3]<|
 Zs 2 1 4 .nil)<| .seq (Zr (Zf 5 1 1<|
 Zl 6 1 5<|
 Zn 7 6<|
 Zk 8 .eql 7 0 .nil)<| .cond (.t 8) (Zr (Zc 2 0 .nil) .ret) .skip)<| .seq (Zr (Zf 9 0 1<|
 Zl 10 1 9 .nil)<| .cond (.t 10) (Zr (Zc 2 (-1) .nil) .ret) .skip)<|Zr (Zc 2 1 .nil) .ret⟩
theorem SD:Qe Tryz.prog Tryz.f147=some Ak:=by kernel_rfl
def Al:aw:=⟨38,[.t 4],Zr (Zo (.box 2 2 30 (.t 0))<|
 Zo (.box 3 2 30 (.t 1))<|
 Zc 4 0 .nil)<|Zr (Zh 5 2 2<|
 Zh 7 2 3<|
 Zq 6 true 136 [.t 5]<|
 Zq 8 true 136 [.t 7]<|
 Zs 2 2 6<|
 Zs 2 3 8 .nil)<| .seq (.block 0<|Zr (Zf 10 0 2<|
 Zl 11 1 10<|
 Zm 12 11<|
 Zg 12 true (.bw 13 0 (.t 3))<|
 Zg 12 true (.ld 14 1 false (.t 13))<|
 Zg 12 true (.un 15 .not (.t 14))<|
 Zo (.pick 16 (.t 12) (.t 15) (.c (.bool false)))<|
 Zm 9 16 .nil)<| .cond (.t 9) (Zr (Zc 4 (-1) .nil) .ret) (Zr (Zf 18 0 3<|
 Zl 19 1 18<|
 Zm 20 19<|
 Zg 20 true (.bw 21 0 (.t 2))<|
 Zg 20 true (.ld 22 1 false (.t 21))<|
 Zg 20 true (.un 23 .not (.t 22))<|
 Zo (.pick 24 (.t 20) (.t 23) (.c (.bool false)))<|
 Zm 17 24 .nil)<| .cond (.t 17) (Zr (Zc 4 1 .nil) .ret) (Zr (Zf 26 0 2<|
 Zl 27 1 26<|
 Zm 25 27 .nil)<| .cond (.t 25) (Zr (Zf 28 1 3<|
 Zl 29 1 28<|
 Zf 30 1 2<|
 Zl 31 1 30<|
 Zq 32 false 141 [.t 29,.t 31]<|
 Zm 4 32 .nil) .ret) .skip)))<|Zr (Zf 33 1 2<|
 Zl 34 1 33<|
 Zf 35 1 3<|
 Zl 36 1 35<|
 Zq 37 false 141 [.t 34,.t 36]<|
 Zm 4 37 .nil) .ret⟩
theorem SE:Qe Tryz.prog Tryz.f103=some Al:=by kernel_rfl
def Am:aw:=⟨48,[.cell 4 2 true],Zr (Zo (.box 2 2 30 (.t 0))<|
 Zo (.box 3 2 30 (.t 1))<|
 Zo (.alloc 4 2 30 (.agg [.bool false,.aa])) .nil)<| .seq (Zr (Zf 9 0 2<|
 Zl 10 1 9<|
 Zf 11 0 3<|
 Zl 12 1 11<|
 Zo (.bin 13 .eql true (.t 10) (.t 12)) .nil)<| .cond (.t 13) (Zr (Zf 14 0 2<|
 Zl 15 1 14<|
 Zf 16 1 2<|
 Zl 17 1 16<|
 Zf 18 1 3<|
 Zl 19 1 18<|
 Zq 20 true 138 [.t 17,.t 19]<|
 Zq 21 true 137 [.t 15,.t 20]<|
 Zs 2 4 21 .nil) .ret) .skip)<| .seq (Zr (Zf 23 1 2<|
 Zl 24 1 23<|
 Zf 25 1 3<|
 Zl 26 1 25<|
 Zq 27 false 140 [.t 24,.t 26]<|
 Zm 22 27<|
 Zo (.ext 28 (.t 22) 0)<|
 Zo (.ext 29 (.t 22) 1)<|
 Zm 5 28<|
 Zm 6 29 .nil)<|Zr (Zm 30 6<|
 Zk 31 .eql 30 0 .nil)<| .cond (.t 31) (Zr (Zf 32 0 2<|
 Zl 33 1 32<|
 Zm 34 5<|
 Zq 35 false 137 [.t 33,.t 34]<|
 Zs 2 4 35 .nil) .ret) .skip)<|Zr (Zf 37 1 3<|
 Zl 38 1 37<|
 Zf 39 1 2<|
 Zl 40 1 39<|
 Zq 41 false 140 [.t 38,.t 40]<|
 Zm 36 41<|
 Zo (.ext 42 (.t 36) 0)<|
 Zo (.ext 43 (.t 36) 1)<|
 Zm 7 42<|
 Zm 8 43 .nil)<|Zr (Zf 44 0 3<|
 Zl 45 1 44<|
 Zm 46 7<|
 Zq 47 false 137 [.t 45,.t 46]<|
 Zs 2 4 47 .nil) .ret⟩
theorem SF:Qe Tryz.prog Tryz.f101=some Am:=by kernel_rfl
def DA:aw:=⟨16,[.cell 4 2 true],Zr (Zo (.box 2 2 30 (.t 0))<|
 Zo (.box 3 2 30 (.t 1))<|
 Zo (.alloc 4 2 30 (.agg [.bool false,.aa])) .nil)<|Zr (Zf 5 0 2<|
 Zl 6 1 5<|
 Zf 7 0 3<|
 Zl 8 1 7<|
 Zo (.bin 9 .neq true (.t 6) (.t 8))<|
 Zf 10 1 2<|
 Zl 11 1 10<|
 Zf 12 1 3<|
 Zl 13 1 12<|
 Zq 14 true 99 [.t 11,.t 13]<|
 Zq 15 true 137 [.t 9,.t 14]<|
 Zs 2 4 15 .nil) .ret⟩
theorem Ve:Qe Tryz.prog Tryz.f98=some DA:=by kernel_rfl
def CR:aw:=⟨27,[.t 2],Zr (Zo (.box 1 3 32 (.t 0))<|
 Zo (.mv 2 (.c (.bool false))) .nil)<|Zr (Zf 3 0 1<|
 Zh 4 2 3<|
 Zq 5 false 45 [.t 4]<|
 Zm 6 5<|
 Zg 6 true (.bw 7 2 (.t 1))<|
 Zg 6 true (.ld 8 1 false (.t 7))<|
 Zg 6 true (.call (some 9) false (.c (.fn 46 [] [])) [.t 8])<|
 Zo (.pick 10 (.t 6) (.t 9) (.c (.bool false)))<|
 Zm 11 10<|
 Zg 11 true (.bw 12 0 (.t 1))<|
 Zg 11 true (.bw 13 1 (.t 12))<|
 Zg 11 true (.ld 14 1 false (.t 13))<|
 Zg 11 true (.bw 15 2 (.t 1))<|
 Zg 11 true (.ld 16 1 false (.t 15))<|
 Zg 11 true (.call (some 17) false (.c (.fn 48 [] [])) [.t 14,.t 16])<|
 Zg 11 true (.call (some 18) false (.c (.fn 49 [] [])) [.c (.int .u64 1)])<|
 Zg 11 true (.call (some 19) false (.c (.fn 47 [] [])) [.t 17,.t 18])<|
 Zo (.pick 20 (.t 11) (.t 19) (.c (.bool false)))<|
 Zm 21 20<|
 Zg 21 true (.bw 22 2 (.t 1))<|
 Zg 21 true (.ld 23 1 false (.t 22))<|
 Zg 21 true (.len 24 (.t 23))<|
 Zg 21 true (.bin 25 .gtr false (.t 24) (.c (Zz 0)))<|
 Zo (.pick 26 (.t 21) (.t 25) (.c (.bool false)))<|
 Zm 2 26 .nil) .ret⟩
theorem Vf:Qe Tryz.prog Tryz.f24=some CR:=by kernel_rfl
def Dx:aw:=⟨44,[.cell 4 3 true],Zr (Zo (.box 2 2 30 (.t 0))<|
 Zo (.alloc 4 3 32 (.agg [.bool false,.aa,.aa])) .nil)<| .seq (Zr (Zm 12 1<|
 Zq 13 false 107 [.t 12]<|
 Zn 14 13<|
 Zk 15 .eql 14 0 .nil)<| .cond (.t 15) (Zr (Zq 16 false 49 [.c (.int .u64 1)]<|
 Zo (.cc 17 [.bool false,.aa,.aa] [(2,1,.t 16)])<|
 Zs 3 4 17 .nil) .ret) .skip)<|Zr (Zf 18 1 2<|
 Zl 19 1 18<|
 Zm 20 1<|
 Zq 21 false 48 [.t 19,.t 20]<|
 Zm 5 21 .nil)<|Zr (Zf 23 1 2<|
 Zl 24 1 23<|
 Zm 25 5<|
 Zq 26 false 108 [.t 24,.t 25]<|
 Zm 22 26<|
 Zo (.ext 27 (.t 22) 0)<|
 Zo (.ext 28 (.t 22) 1)<|
 Zo (.ext 29 (.t 22) 2)<|
 Zm 6 27<|
 Zm 7 28<|
 Zm 8 29 .nil)<|Zr (Zm 31 1<|
 Zm 32 5<|
 Zq 33 false 108 [.t 31,.t 32]<|
 Zm 30 33<|
 Zo (.ext 34 (.t 30) 0)<|
 Zo (.ext 35 (.t 30) 1)<|
 Zo (.ext 36 (.t 30) 2)<|
 Zm 9 34<|
 Zm 10 35<|
 Zm 11 36 .nil)<|Zr (Zf 37 0 2<|
 Zl 38 1 37<|
 Zm 39 6<|
 Zo (.cc 40 [.bool false,.aa] [(0,1,.t 38),(1,1,.t 39)])<|
 Zq 41 false 136 [.t 40]<|
 Zm 42 9<|
 Zo (.cc 43 [.bool false,.aa,.aa] [(0,2,.t 41),(2,1,.t 42)])<|
 Zs 3 4 43 .nil) .ret⟩
theorem Vg:Qe Tryz.prog Tryz.f96=some Dx:=by kernel_rfl
def An:aw:=⟨8,[.cell 2 3 true],Zr (Zo (.box 1 3 32 (.t 0))<|
 Zo (.alloc 2 3 32 (.agg [.bool false,.aa,.aa])) .nil)<|Zr (Zf 3 0 1<|
 Zh 4 2 3<|
 Zf 5 2 1<|
 Zl 6 1 5<|
 Zq 7 false 96 [.t 4,.t 6]<|
 Zs 3 2 7 .nil) .ret⟩
theorem SG:Qe Tryz.prog Tryz.f100=some An:=by kernel_rfl
def CY:aw:=⟨7,[.cell 2 3 true],Zr (Zo (.alloc 2 3 32 (.agg [.bool false,.aa,.aa])) .nil)<|Zr (Zm 3 0<|
 Zq 4 false 97 [.t 3]<|
 Zq 5 false 49 [.c (.int .u64 1)]<|
 Zq 6 false 96 [.t 4,.t 5]<|
 Zs 3 2 6 .nil) .ret⟩
theorem Vh:Qe Tryz.prog Tryz.f38=some CY:=by kernel_rfl
def Ao:aw:=⟨5,[.cell 2 2 true],Zr (Zo (.alloc 2 2 30 (.agg [.bool false,.aa])) .nil)<|Zr (Zm 3 0<|
 Zo (.cc 4 [.bool false,.aa] [(1,1,.t 3)])<|
 Zs 2 2 4 .nil) .ret⟩
theorem SH:Qe Tryz.prog Tryz.f102=some Ao:=by kernel_rfl
def Ap:aw:=⟨7,[.t 2],Zr (Zo (.box 1 3 32 (.t 0))<|
 Zc 2 0 .nil)<|Zr (Zh 3 3 1<|
 Zq 4 false 100 [.t 3]<|
 Zo (.si 5 0 2 true (.t 4))<|
 Zq 6 false 147 [.t 5]<|
 Zm 2 6 .nil) .ret⟩
theorem SI:Qe Tryz.prog Tryz.f109=some Ap:=by kernel_rfl
def C4:aw:=⟨22,[.t 4],Zr (Zo (.box 2 3 32 (.t 0))<|
 Zo (.box 3 3 32 (.t 1))<|
 Zc 4 0 .nil)<|Zr (Zh 5 3 2<|
 Zh 7 3 3<|
 Zq 6 true 100 [.t 5]<|
 Zq 8 true 100 [.t 7]<|
 Zs 3 2 6<|
 Zs 3 3 8 .nil)<|Zr (Zf 9 0 2<|
 Zh 10 2 9<|
 Zf 11 2 3<|
 Zl 12 1 11<|
 Zf 15 0 3<|
 Zh 16 2 15<|
 Zf 17 2 2<|
 Zl 18 1 17<|
 Zq 13 true 102 [.t 12]<|
 Zq 14 true 98 [.t 10,.t 13]<|
 Zq 19 true 102 [.t 18]<|
 Zq 20 true 98 [.t 16,.t 19]<|
 Zq 21 true 103 [.t 14,.t 20]<|
 Zm 4 21 .nil) .ret⟩
theorem Vi:Qe Tryz.prog Tryz.f42=some C4:=by kernel_rfl
def C1:aw:=⟨28,[.cell 4 3 true],Zr (Zo (.box 2 3 32 (.t 0))<|
 Zo (.box 3 3 32 (.t 1))<|
 Zo (.alloc 4 3 32 (.agg [.bool false,.aa,.aa])) .nil)<|Zr (Zh 5 3 2<|
 Zh 7 3 3<|
 Zq 6 true 100 [.t 5]<|
 Zq 8 true 100 [.t 7]<|
 Zs 3 2 6<|
 Zs 3 3 8 .nil)<|Zr (Zf 9 0 2<|
 Zh 10 2 9<|
 Zf 11 2 3<|
 Zl 12 1 11<|
 Zf 15 0 3<|
 Zh 16 2 15<|
 Zf 17 2 2<|
 Zl 18 1 17<|
 Zf 22 2 2<|
 Zl 23 1 22<|
 Zf 24 2 3<|
 Zl 25 1 24<|
 Zq 13 true 102 [.t 12]<|
 Zq 14 true 98 [.t 10,.t 13]<|
 Zq 19 true 102 [.t 18]<|
 Zq 20 true 98 [.t 16,.t 19]<|
 Zq 21 true 101 [.t 14,.t 20]<|
 Zq 26 true 99 [.t 23,.t 25]<|
 Zq 27 true 96 [.t 21,.t 26]<|
 Zs 3 4 27 .nil) .ret⟩
theorem Vj:Qe Tryz.prog Tryz.f41=some C1:=by kernel_rfl
def CZ:aw:=⟨16,[.cell 4 3 true],Zr (Zo (.box 2 3 32 (.t 0))<|
 Zo (.box 3 3 32 (.t 1))<|
 Zo (.alloc 4 3 32 (.agg [.bool false,.aa,.aa])) .nil)<|Zr (Zf 5 0 2<|
 Zh 6 2 5<|
 Zf 7 0 3<|
 Zh 8 2 7<|
 Zf 10 2 2<|
 Zl 11 1 10<|
 Zf 12 2 3<|
 Zl 13 1 12<|
 Zq 9 true 98 [.t 6,.t 8]<|
 Zq 14 true 99 [.t 11,.t 13]<|
 Zq 15 true 96 [.t 9,.t 14]<|
 Zs 3 4 15 .nil) .ret⟩
theorem Vk:Qe Tryz.prog Tryz.f39=some CZ:=by kernel_rfl
theorem jR{l:List Nat}(hv:Qj l)(hl:l.length<2^42):Qd Tryz.prog 107 [PV.nat l] (· =PV.num (val l)):=by
 have aaq:=tM hv;refine Qf Qk Tryz.func107 rfl RP (by simp[zK]) fun C hP=>?_;simp only[zK,Zo,Zg,Zm,Zc,Zf,Zl,Zh,Zs,Zi,Zb,Zk,Zn,Zu,Zq,Zr,Zz];refine Sz0 ?_;refine Q5 (by repeat (first|exact Qx|exact Qq|exact Qr|exact Qt|exact Qu|apply Qp|apply Qw|apply Q3|apply Q8|apply Q9|apply Qn|apply Q7)) [(3,3),(7,18)] [] (fun m J hp=>m<=l.length/\cut l m=aj (val l)/\J 3= .int .i64 m/\hp=au) l.length ?_ ?_
 ·refine⟨Kae _,aaq,?_⟩;exact Tz0
 rintro n J _ ⟨hn,hc,h3,rfl⟩;refine Sz1 h3 ?_;refine ep (fun hg=>?_) (fun hg=>?_)
 ·obtain _|n:=n
  ·omega
  have e:((n+1:Nat):Int)-1=n:=by omega
  simp only[cut]at hc;simp+decide (disch:=try exact D2 h3 e) only[go_sem,h3,e];refine Qb (fun hz=>?_) (fun hz=>?_)
  ·rw[if_pos (by grind)]at hc;refine Sz2 h3 e ?_;refine Qm n (by omega) ⟨by omega,hc,?_⟩;exact Tz0
  ·rw[if_neg (by grind)]at hc;have ak:(l.take (n+1)).length<2^42:=by rw[Kau];omega
   refine ux h3 e ?_;exact Qc (by rw[Kai (by simp),hc]) rfl
 ·obtain rfl:n=0:=by omega
  simp+decide (disch:=first|omega|rfl|(simp+decide only[go_sem,h3,Kb0,Kbf,Kbo]<;>rfl)|fail) only[go_sem,h3,Kb0,Kbf,Kbo];rw[Bi (ys:=[]) rfl (by omega) (by simp) (by simp)];refine cC ?_;exact Qc (by show _=PV.nat (aj (val l));rw[<-hc];rfl) rfl
theorem lu{n:Nat}(hn:n<18446744073709551616):Qd Tryz.prog 49 [.int .u64 n] (· =PV.num n):=by
 have hlen:=nf hn;unfold nl at hlen;refine Qf Qk Tryz.func49 rfl Uo (by simp[Db]) fun C hP=>?_;simp only[Db,Zo,Zg,Zm,Zc,Zf,Zl,Zh,Zs,Zi,Zb,Zk,Zn,Zu,Zq,Zr,Zz];refine Sz0 ?_;refine mC 3 900 1 152 (by omega) Tz0 ?_;refine Q5 (by repeat (first|exact Qx|exact Qq|exact Qr|exact Qt|exact Qu|apply Qp|apply Qw|apply Q3|apply Q8|apply Q9|apply Qn|apply Q7)) [(0,0),(3,13)] [10,11,900] (fun m J hp=>∃done:List Nat,aj n=done++aj m/\m<=n/\J 0= .int .u64 m/\J 3= .ms 900 done.length/\hp 900=some ⟨1,152,bD done,false⟩) n ?_ ?_
 ·refine⟨[],rfl,Kae _,?_⟩;exact Tz0
 rintro m J hp ⟨done,hd,hm,h0,h3,hh⟩;rw[hd,KaG]at hlen;refine Sz2 h0 h3 ?_;refine Qb (fun hz=>?_) (fun hz=>?_)
 ·have a9:m≠0:=by omega
  have kW:aj n=(done++[m%65536])++aj (m/65536):=by rw[hd,om a9];simp
  refine Sz3 h0 h3 @Nat.mod_mod ?_;rw[dm (f:=fun(x:Nat)=>.int .u16 x) (y:=m%65536) (xs:=done) (ty':=152) (fz:=false) (Tz1 hh) bA (by omega) rfl (by omega) (by omega)];refine Sz2 h0 h3 ?_;refine Qm (m/65536) (by omega) ⟨done++[m%65536],kW,by omega,?_⟩;refine Sz2 h0 h3 ?_;simp
 ·obtain rfl:m=0:=by omega
  rw[ek,Kan]at hd;refine ux h3 hh ?_;exact Qc (by show _=PV.nat (aj n);rw[hd,Kai (by simp)]) rfl
theorem jl{a:List Nat}{i:Nat}(ha:Qj a)(hl:a.length<2^43):Qd Tryz.prog 139 [PV.nat a,.int .i64 i] (· = .int .i64 (dg a i:Nat)):=by
 refine Qf Qk Tryz.func139 rfl St (by simp[Ac]) fun C hP=>?_;simp only[Ac,Zo,Zg,Zm,Zc,Zf,Zl,Zh,Zs,Zi,Zb,Zk,Zn,Zu,Zq,Zr,Zz];refine Sz0 ?_;refine Qb (fun hi=>?_) (fun hi=>?_)
 ·have aA:i<a.length:=by omega
  have yj:=cY ha aA;have hg:dg a i=a[i]:=et aA;refine Sz0 ?_;exact Qc (by rw[hg]) rfl
 ·refine Sz0 ?_;exact Qc (by rw[dg,eu (by omega)];rfl) rfl
theorem vT{a:List Nat}(ha:Qj a)(hl:a.length<=4):Qd Tryz.prog 145 [PV.nat a] (· = .int .u64 (val a:Nat)):=by
 have ak:∀k,val (a.drop k)<18446744073709551616:=fun k=>by have h1:=kJ (s7 ha k);have:65536^(a.drop k).length<=65536^4:=KaV (by omega) (by rw[KaX];omega);omega
 refine Qf Qk Tryz.func145 rfl RQ (by simp[Ab]) fun C hP=>?_;simp only[Ab,Zo,Zg,Zm,Zc,Zf,Zl,Zh,Zs,Zi,Zb,Zk,Zn,Zu,Zq,Zr,Zz];refine Sz0 ?_;refine Q5 (by repeat (first|exact Qx|exact Qq|exact Qr|exact Qt|exact Qu|apply Qp|apply Qw|apply Q3|apply Q8|apply Q9|apply Qn|apply Q7)) [(3,4),(8,19)] [] (fun k J hp=>k<=a.length/\J 3= .int .u64 (val (a.drop k):Nat)/\J 4= .int .i64 ((k:Int)-1)) a.length ?_ ?_
 ·refine⟨Kae _,?_⟩;refine Sz0 ?_;simp[val]
 rintro k J h ⟨hk,h3,h4⟩;refine Sz2 h3 h4 ?_;refine Qb (fun hg=>?_) (fun hg=>?_)
 ·obtain _|n:=k
  ·omega
  have hn:n<a.length:=by omega
  have DR:=cY ha hn;have e:((n+1:Nat):Int)-1=n:=by omega
  have hv:=iD hn;have h1:=ak n;generalize cL:a[n]=x at *
  have e2:val (a.drop (n+1))*65536+x=val (a.drop n):=by omega
  refine Sz5 h3 h4 e cL e2 ?_;refine Qm n (by omega) ⟨by omega,?_⟩;exact Tz0
 ·obtain rfl:k=0:=by omega
  simp+decide (disch:=first|omega|rfl|(simp+decide only[go_sem,h3,Kbp]<;>rfl)|fail) only[go_sem,h3,Kbp];exact Qc rfl rfl
theorem wg{a b:List Nat}(ha:Qj a)(hb:Qj b)(bm:a.length<2^42)(dv:b.length<2^42):Qd Tryz.prog 141 [PV.nat a,PV.nat b] (· = .int .i64 (fP (val a) (val b))):=by
 refine Qf Qk Tryz.func141 rfl Su (by simp[Ad]) fun C hP=>?_;simp only[Ad,Zo,Zg,Zm,Zc,Zf,Zl,Zh,Zs,Zi,Zb,Zk,Zn,Zu,Zq,Zr,Zz];refine Sz1 @Jr ?_;refine Q5 (by repeat (first|exact Qx|exact Qq|exact Qr|exact Qt|exact Qu|apply Qp|apply Qw|apply Q3|apply Q8|apply Q9|apply Qn|apply Q7)) [(4,5),(12,29)] [] (fun k J hp=>k<=max a.length b.length/\val (a.drop k)=val (b.drop k)/\J 5= .int .i64 ((k:Int)-1)) (max a.length b.length) ?_ ?_
 ·refine⟨Kae _,?_,?_⟩
  ·rw[Kak (by omega),Kak (by omega)]
  ·exact Tz0
 rintro k J h ⟨hk,hv,h5⟩;refine Sz1 h5 ?_;refine Qb (fun hg=>?_) (fun hg=>?_)
 ·obtain _|n:=k
  ·omega
  have e:((n+1:Nat):Int)-1=n:=by omega
  have e1:=rm a n;have e2:=rm b n;have d1:=pR ha n;have d2:=pR hb n;refine Sz2 h5 e ?_;refine Qa hP (jl ha (by omega)) rfl rfl rfl ?_;refine Sz2 h5 e ?_;refine Qa hP (jl hb (by omega)) rfl rfl rfl ?_;refine Sz2 h5 e ?_;refine Qb (fun hc=>?_) (fun hc=>?_)
  ·have ak:=GL (a:=a) (b:=b) ha (i:=n) (by omega);refine Sz0 ?_;exact Qc (by rw[Cf ak]) rfl
  refine Sz2 h5 e ?_;refine Qa hP (jl ha (by omega)) rfl rfl rfl ?_;refine Sz2 h5 e ?_;refine Qa hP (jl hb (by omega)) rfl rfl rfl ?_;refine Sz2 h5 e ?_;refine Qb (fun fq=>?_) (fun fq=>?_)
  ·have ak:=GL (a:=b) (b:=a) hb (i:=n) (by omega);refine Sz0 ?_;exact Qc (by rw[Cg ak]) rfl
  ·refine Sz2 h5 e ?_;refine Qm n (by omega) ⟨by omega,by omega,?_⟩;exact Tz0
 ·obtain rfl:k=0:=by omega
  refine Sz0 ?_;exact Qc (by rw[Jq (by simpa using hv)]) rfl
theorem Gl{a:List Nat}(ha:Qj a)(hl:a.length<2^43):Qd Tryz.prog 46 [PV.nat a] (· = .bool (decide (a.getLast? ≠some 0))):=by
 refine Qf Qk Tryz.func46 rfl Ur (by simp[C8]) fun C hP=>?_;simp only[C8,Zo,Zg,Zm,Zc,Zf,Zl,Zh,Zs,Zi,Zb,Zk,Zn,Zu,Zq,Zr,Zz];refine Sz0 ?_;refine Q6 (fun h0=>?_) (fun h0=>?_)
 ·have:a=[]:=Kas.1 (by omega);subst this;refine Sz0 ?_;exact Qc (by simp) rfl
 ·obtain⟨k,hk⟩:∃k,a.length=k+1:=⟨a.length-1,by omega⟩
  have sA:=Pa hk;have e:((k+1:Nat):Int)-1=k:=by omega
  generalize hy:a[k]'(by omega)=y at *
  refine Sz3 hk e hy ?_;refine Qc (congrArg PV.bool ?_) rfl;rw[sA];exact decide_eq_decide.2 ⟨fun h h'=>h (by injection h' with h';rw[h'];rfl),fun h h'=>h (by rw[show y=0 by omega])⟩
theorem XI{a b:List Nat}(bm:a.length<2^43)(dv:b.length<2^43):Qd Tryz.prog 47 [PV.nat a,PV.nat b] (· = .bool (decide (a=b))):=by
 refine Qf Qk Tryz.func47 rfl Us (by simp[C9]) fun C hP=>?_;simp only[C9,Zo,Zg,Zm,Zc,Zf,Zl,Zh,Zs,Zi,Zb,Zk,Zn,Zu,Zq,Zr,Zz];refine Sz0 ?_;refine Qb (fun h0=>?_) (fun h0=>?_)
 ·refine Sz0 ?_;exact Qc (congrArg PV.bool (by rw[decide_eq_false];rintro rfl;exact h0 rfl)) rfl
 have hlen:a.length=b.length:=by omega
 refine Sz0 ?_;refine Q5 (by repeat (first|exact Qx|exact Qq|exact Qr|exact Qt|exact Qu|apply Qp|apply Qw|apply Q3|apply Q8|apply Q9|apply Qn|apply Q7)) [(4,5),(11,25)] [] (fun n J hp=>∃i,n=a.length-i/\i<=a.length/\a.take i=b.take i/\J 5= .int .i64 (i:Nat)) a.length ?_ ?_
 ·refine⟨0,rfl,by omega,by simp,?_⟩;refine Sz0 ?_;rfl
 rintro _ J h ⟨i,rfl,hi,he,h5⟩;refine Sz1 h5 ?_;refine Qb (fun hg=>?_) (fun hg=>?_)
 ·have aA:i<a.length:=by omega
  have Kn:i<b.length:=by omega
  have ta:=KaD aA;have tb:=KaD Kn;have a9:a=b->a[i]=b[i]:=fun h=>by subst h;rfl
  generalize hx:a[i]=x at *
  generalize hy:b[i]=y at *
  refine Sz3 h5 hx hy ?_;refine Qb (fun hc=>?_) (fun hc=>?_)
  ·refine Sz0 ?_;exact Qc (congrArg PV.bool (by rw[decide_eq_false];intro h;exact hc (by rw[a9 h]))) rfl
  ·refine Sz1 h5 ?_;refine Qm (a.length-(i+1)) (by omega) ⟨i+1,rfl,by omega,by rw[ta,tb,he,show x=y by omega],?_⟩;exact Tz0
 ·obtain rfl:i=a.length:=by omega
  rw[Kbn,hlen,Kbn]at he;refine Sz0 ?_;exact Qc (congrArg PV.bool (by rw[he];simp)) rfl
theorem GP{a b:List Nat}(ha:Qj a)(hb:Qj b)(bm:a.length<2^40)(dv:b.length<2^40):Qd Tryz.prog 138 [PV.nat a,PV.nat b] (· =PV.num (val a+val b)):=by
 refine Qf Qk Tryz.func138 rfl Sv (by simp[Ae]) fun C hP=>?_;simp only[Ae,Zo,Zg,Zm,Zc,Zf,Zl,Zh,Zs,Zi,Zb,Zk,Zn,Zu,Zq,Zr,Zz];refine Sz0 ?_;refine mC 5 900 1 152 (by omega) Tz0 ?_;refine Q5 (by repeat (first|exact Qx|exact Qq|exact Qr|exact Qt|exact Qu|apply Qp|apply Qw|apply Q3|apply Q8|apply Q9|apply Qn|apply Q7)) [(5,41)] [38,39,900] (fun m J hp=>∃(i c:Nat)(out:List Nat),m=2*(max a.length b.length-i)+c/\c<=1/\i<=max a.length b.length+1/\(i<=max a.length b.length∨c=0)/\out.length=i/\Qj out/\val out+65536^i*(c+val (a.drop i)+val (b.drop i))=val a+val b/\J 5= .ms 900 out.length/\J 6= .int .i64 c/\J 7= .int .i64 i/\hp 900=some ⟨1,152,bD out,false⟩) (2*max a.length b.length) ?_ ?_
 ·refine⟨0,0,[],rfl,by omega,by omega,by omega,rfl,jT,by simp[val],?_⟩;refine Sz0 ?_;simp
 rintro _ J h ⟨i,c,out,rfl,hc,hi,kq,dZ,iZ,hv,h5,h6,h7,hh⟩;have e1:=rm a i;have e2:=rm b i;have d1:=pR ha i;have d2:=pR hb i;refine Sz3 h5 h6 h7 ?_;refine Q6 (fun hg=>?_) (fun hg=>?_)
 ·have ak:i<max a.length b.length:=by omega
  have dT:(dg a i+dg b i+c)/65536<=1:=by omega
  have mh:val (out++[(dg a i+dg b i+c)%65536])+65536^(i+1)*((dg a i+dg b i+c)/65536+val (a.drop (i+1))+val (b.drop (i+1)))=val a+val b:=by
   rw[wX,dZ,Kbg,<-hv,e1,e2];have:=Ka9 (dg a i+dg b i+c) 65536;generalize 65536^i=P at *
   generalize(dg a i+dg b i+c)/65536=q at *
   generalize(dg a i+dg b i+c)%65536=r at *
   have e:c+(dg a i+65536*val (a.drop (i+1)))+(dg b i+65536*val (b.drop (i+1)))=r+65536*(q+val (a.drop (i+1))+val (b.drop (i+1))):=by omega
   rw[e,KaL P,Ka4];omega
  refine Sz3 h5 h6 h7 ?_;refine Qa hP (jl ha (by omega)) rfl rfl rfl ?_;refine Sz3 h5 h6 h7 ?_;refine Qa hP (jl hb (by omega)) rfl rfl rfl ?_;refine Sz4 h5 h6 h7 @Nat.mod_mod ?_;rw[dm (f:=fun(x:Nat)=>.int .u16 x) (y:=(dg a i+dg b i+c)%65536) (xs:=out) (ty':=152) (fz:=false) (Tz1 hh) bA (by omega) rfl (by omega) (by omega)];refine Sz3 h5 h6 h7 ?_;refine Qm (2*(max a.length b.length-(i+1))+(dg a i+dg b i+c)/65536) ?_ ⟨i+1,(dg a i+dg b i+c)/65536,out++[(dg a i+dg b i+c)%65536],rfl,dT,by omega,?_,by simp[dZ],?_,mh,?_⟩
  ·by_cases ak:i<max a.length b.length
   ·omega
   ·have z1:dg a i=0:=by rw[dg,eu (by omega)]
    have z2:dg b i=0:=by rw[dg,eu (by omega)]
    rw[z1,z2];omega
  ·by_cases ak:i<max a.length b.length
   ·omega
   ·have z1:dg a i=0:=by rw[dg,eu (by omega)]
    have z2:dg b i=0:=by rw[dg,eu (by omega)]
    rw[z1,z2];omega
  ·rw[jQ];exact⟨iZ,by intro z hz;simp at hz;omega⟩
  ·refine Sz0 ?_;simp
 refine Sz3 h5 h6 h7 ?_;refine Q6 (fun gm=>?_) (fun gm=>?_)
 ·have ak:i<max a.length b.length:=by omega
  have dT:(dg a i+dg b i+c)/65536<=1:=by omega
  have mh:val (out++[(dg a i+dg b i+c)%65536])+65536^(i+1)*((dg a i+dg b i+c)/65536+val (a.drop (i+1))+val (b.drop (i+1)))=val a+val b:=by
   rw[wX,dZ,Kbg,<-hv,e1,e2];have:=Ka9 (dg a i+dg b i+c) 65536;generalize 65536^i=P at *
   generalize(dg a i+dg b i+c)/65536=q at *
   generalize(dg a i+dg b i+c)%65536=r at *
   have e:c+(dg a i+65536*val (a.drop (i+1)))+(dg b i+65536*val (b.drop (i+1)))=r+65536*(q+val (a.drop (i+1))+val (b.drop (i+1))):=by omega
   rw[e,KaL P,Ka4];omega
  refine Sz3 h5 h6 h7 ?_;refine Qa hP (jl ha (by omega)) rfl rfl rfl ?_;refine Sz3 h5 h6 h7 ?_;refine Qa hP (jl hb (by omega)) rfl rfl rfl ?_;refine Sz4 h5 h6 h7 @Nat.mod_mod ?_;rw[dm (f:=fun(x:Nat)=>.int .u16 x) (y:=(dg a i+dg b i+c)%65536) (xs:=out) (ty':=152) (fz:=false) (Tz1 hh) bA (by omega) rfl (by omega) (by omega)];refine Sz3 h5 h6 h7 ?_;refine Qm (2*(max a.length b.length-(i+1))+(dg a i+dg b i+c)/65536) ?_ ⟨i+1,(dg a i+dg b i+c)/65536,out++[(dg a i+dg b i+c)%65536],rfl,dT,by omega,?_,by simp[dZ],?_,mh,?_⟩
  ·by_cases ak:i<max a.length b.length
   ·omega
   ·have z1:dg a i=0:=by rw[dg,eu (by omega)]
    have z2:dg b i=0:=by rw[dg,eu (by omega)]
    rw[z1,z2];omega
  ·by_cases ak:i<max a.length b.length
   ·omega
   ·have z1:dg a i=0:=by rw[dg,eu (by omega)]
    have z2:dg b i=0:=by rw[dg,eu (by omega)]
    rw[z1,z2];omega
  ·rw[jQ];exact⟨iZ,by intro z hz;simp at hz;omega⟩
  ·refine Sz0 ?_;simp
 refine Sz3 h5 h6 h7 ?_;refine Qb (fun hg3=>?_) (fun hg3=>?_)
 ·have Kn:i<=max a.length b.length:=by omega
  have dT:(dg a i+dg b i+c)/65536<=1:=by omega
  have mh:val (out++[(dg a i+dg b i+c)%65536])+65536^(i+1)*((dg a i+dg b i+c)/65536+val (a.drop (i+1))+val (b.drop (i+1)))=val a+val b:=by
   rw[wX,dZ,Kbg,<-hv,e1,e2];have:=Ka9 (dg a i+dg b i+c) 65536;generalize 65536^i=P at *
   generalize(dg a i+dg b i+c)/65536=q at *
   generalize(dg a i+dg b i+c)%65536=r at *
   have e:c+(dg a i+65536*val (a.drop (i+1)))+(dg b i+65536*val (b.drop (i+1)))=r+65536*(q+val (a.drop (i+1))+val (b.drop (i+1))):=by omega
   rw[e,KaL P,Ka4];omega
  refine Sz3 h5 h6 h7 ?_;refine Qa hP (jl ha (by omega)) rfl rfl rfl ?_;refine Sz3 h5 h6 h7 ?_;refine Qa hP (jl hb (by omega)) rfl rfl rfl ?_;refine Sz4 h5 h6 h7 @Nat.mod_mod ?_;rw[dm (f:=fun(x:Nat)=>.int .u16 x) (y:=(dg a i+dg b i+c)%65536) (xs:=out) (ty':=152) (fz:=false) (Tz1 hh) bA (by omega) rfl (by omega) (by omega)];refine Sz3 h5 h6 h7 ?_;refine Qm (2*(max a.length b.length-(i+1))+(dg a i+dg b i+c)/65536) ?_ ⟨i+1,(dg a i+dg b i+c)/65536,out++[(dg a i+dg b i+c)%65536],rfl,dT,by omega,?_,by simp[dZ],?_,mh,?_⟩
  ·by_cases ak:i<max a.length b.length
   ·omega
   ·have z1:dg a i=0:=by rw[dg,eu (by omega)]
    have z2:dg b i=0:=by rw[dg,eu (by omega)]
    rw[z1,z2];omega
  ·by_cases ak:i<max a.length b.length
   ·omega
   ·have z1:dg a i=0:=by rw[dg,eu (by omega)]
    have z2:dg b i=0:=by rw[dg,eu (by omega)]
    rw[z1,z2];omega
  ·rw[jQ];exact⟨iZ,by intro z hz;simp at hz;omega⟩
  ·refine Sz0 ?_;simp
 ·obtain rfl:c=0:=by omega
  rw[Kak (by omega),Kak (by omega)]at hv;simp only[val,KaJ,KbI]at hv;refine Sz2 h5 hh ?_;refine pB hP (jR iZ (by omega)) (by simp+decide (disch:=try exact E1 hh) only[go_sem,hh,eG,Kaw,KaF,Kay,KaI,Kan];simp[Kai]) rfl fun hp'=>?_;refine Sz0 ?_;exact Qc (by rw[hv]) rfl
theorem AY{a b:List Nat}(ha:Qj a)(hb:Qj b)(bm:a.length<2^40)(dv:b.length<2^40):Qd Tryz.prog 140 [PV.nat a,PV.nat b] (· =if val a<val b then .aJ [PV.num 0,.int .i64 2]else .aJ [PV.num (val a-val b),.int .i64 0]):=by
 refine Qf Qk Tryz.func140 rfl Sw (by simp[Af]) fun C hP=>?_;simp only[Af,Zo,Zg,Zm,Zc,Zf,Zl,Zh,Zs,Zi,Zb,Zk,Zn,Zu,Zq,Zr,Zz];refine Sz0 ?_;refine Qa hP (wg ha hb (by omega) (by omega)) rfl rfl rfl ?_;refine Sz0 ?_;refine Qb (fun hc=>?_) (fun hc=>?_)
 ·rw[if_pos (wU.1 hc)];refine Sz0 ?_;exact lP rfl rfl rfl rA (cf _)
 have fc:¬val a<val b:=fun h=>hc (wU.2 h);rw[if_neg fc];refine Sz0 ?_;refine mC 6 900 1 152 (by omega) Tz0 ?_;refine Q5 (by repeat (first|exact Qx|exact Qq|exact Qr|exact Qt|exact Qu|apply Qp|apply Qw|apply Q3|apply Q8|apply Q9|apply Qn|apply Q7)) [(6,9),(14,37)] [36,37,900] (fun m J hp=>∃(i c:Nat)(out:List Nat),m=a.length-i/\c<=1/\i<=a.length/\out.length=i/\Qj out/\val (a.take i)+65536^i*c=val out+val (b.take i)/\J 6= .ms 900 out.length/\J 7= .int .i64 c/\J 8= .int .i64 i/\hp 900=some ⟨1,152,bD out,false⟩) a.length ?_ ?_
 ·refine⟨0,0,[],rfl,by omega,by omega,rfl,jT,by simp[val],?_⟩;refine Sz0 ?_;simp
 rintro _ J h ⟨i,c,out,rfl,qp,hi,dZ,iZ,hv,h6,h7,h8,hh⟩;refine Sz3 h6 h7 h8 ?_;refine Qb (fun hg=>?_) (fun hg=>?_)
 ·have aA:i<a.length:=by omega
  have e1:=Gf a i;have e2:=Gf b i;have d1:=pR ha i;have d2:=pR hb i;refine Sz3 h6 h7 h8 ?_;refine Qa hP (jl ha (by omega)) rfl rfl rfl ?_;refine Sz3 h6 h7 h8 ?_;refine Qa hP (jl hb (by omega)) rfl rfl rfl ?_;refine Sz3 h6 h7 h8 ?_;have step:∀(d c':Nat),d<65536->c'<=1->dg a i+65536*c'=d+dg b i+c->val (a.take (i+1))+65536^(i+1)*c'=val (out++[d])+val (b.take (i+1)):=fun d c' _ _ h3=>by
   rw[wX,dZ,e1,e2,Kbg];generalize 65536^i=P at *
   have:P*(dg a i+65536*c')=P*(d+dg b i+c):=by rw[h3]
   rw[KaL,<-Nat.mul_assoc,KaL,KaL]at this;omega
  refine Qb (fun hd=>?_) (fun hd=>?_)
  ·obtain⟨d,uM⟩:∃d:Nat,(dg a i:Int)-(dg b i:Int)-(c:Int)+65536=d:=⟨((dg a i:Int)-(dg b i:Int)-(c:Int)+65536).toNat,by omega⟩
   have aR:=step d 1 (by omega) (by omega) (by omega);refine Sz4 h6 h7 h8 uM ?_;rw[dm (f:=fun(x:Nat)=>.int .u16 x) (y:=d) (xs:=out) (ty':=152) (fz:=false) (Tz1 hh) (by simp+decide (disch:=first|omega|rfl|(simp+decide only[go_sem,Kaz (by omega:d<65536)]<;>rfl)|fail) only[go_sem,Kaz (by omega:d<65536)]) (by omega) rfl (by omega) (by omega)];refine Sz3 h6 h7 h8 ?_;refine Qm (a.length-(i+1)) (by omega) ⟨i+1,1,out++[d],rfl,by omega,by omega,by simp[dZ],?_,aR,?_⟩
   ·rw[jQ];exact⟨iZ,by intro z hz;simp at hz;omega⟩
   ·refine Sz0 ?_;simp
  ·obtain⟨d,uM⟩:∃d:Nat,(dg a i:Int)-(dg b i:Int)-(c:Int)=d:=⟨((dg a i:Int)-(dg b i:Int)-(c:Int)).toNat,by omega⟩
   have aR:=step d 0 (by omega) (by omega) (by omega);refine Sz4 h6 h7 h8 uM ?_;rw[dm (f:=fun(x:Nat)=>.int .u16 x) (y:=d) (xs:=out) (ty':=152) (fz:=false) (Tz1 hh) (by simp+decide (disch:=first|omega|rfl|(simp+decide only[go_sem,Kaz (by omega:d<65536)]<;>rfl)|fail) only[go_sem,Kaz (by omega:d<65536)]) (by omega) rfl (by omega) (by omega)];refine Sz3 h6 h7 h8 ?_;refine Qm (a.length-(i+1)) (by omega) ⟨i+1,0,out++[d],rfl,by omega,by omega,by simp[dZ],?_,aR,?_⟩
   ·rw[jQ];exact⟨iZ,by intro z hz;simp at hz;omega⟩
   ·refine Sz0 ?_;simp
 ·obtain rfl:i=a.length:=by omega
  have hbz:val (b.drop a.length)=0:=wb (by have:=kJ ha;omega);have nK:=Bn b a.length;rw[hbz,KbI,KaJ]at nK;rw[Kbn,<-nK]at hv;have hvo:=kJ iZ;rw[dZ]at hvo;have DW:c=0:=by
   match c,qp with
   |0,_=>rfl
   |1,_=>exfalso;have:=kJ ha;omega
  subst DW;refine Sz2 h6 hh ?_;refine pB hP (jR iZ (by omega)) (by simp+decide (disch:=try exact E1 hh) only[go_sem,hh,eG,Kaw,KaF,Kay,KaI,Kan];simp[Kai]) rfl fun hp'=>?_;refine Sz0 ?_;exact lP rfl rfl rfl (od (congrArg PV.num (by omega))) (cf _)
theorem AZ{a b:List Nat}(ha:Qj a)(hb:Qj b)(bm:a.length<2^40)(dv:b.length<2^40):Qd Tryz.prog 99 [PV.nat a,PV.nat b] (· =PV.num (val a*val b)):=by
 refine Qf Qk Tryz.func99 rfl Up (by simp[DB]) fun C hP=>?_;simp only[DB,Zo,Zg,Zm,Zc,Zf,Zl,Zh,Zs,Zi,Zb,Zk,Zn,Zu,Zq,Zr,Zz];refine Sz0 ?_;refine Q5 (by repeat (first|exact Qx|exact Qq|exact Qr|exact Qt|exact Qu|apply Qp|apply Qw|apply Q3|apply Q8|apply Q9|apply Qn|apply Q7)) [(6,9),(17,62)] [] (fun m J hp=>∃(i:Nat)(L:List Nat),m=a.length-i/\i<=a.length/\L.length=a.length+b.length+1/\Qj L/\val L=val (a.take i)*val b/\J 6= .int .i64 i/\hp=Qi au 16 ⟨1,152,bD L,false⟩) a.length ?_ ?_
 ·refine⟨0,List.replicate (a.length+b.length+1) 0,rfl,by omega,by simp,?_,by simp[val,HU],?_⟩
  ·intro z hz;rw[List.eq_of_mem_replicate hz];omega
  ·refine Sz0 ?_;simp
 rintro _ J _ ⟨i,L,rfl,hi,yd,hL,hv,h6,rfl⟩;refine Sz1 h6 ?_;refine Qb (fun hg=>?_) (fun hg=>?_)
 ·have aA:i<a.length:=by omega
  have yj:=cY ha aA;have ir:=sZ aA;have Lb:dg L (i+b.length)=0:=by apply L7;apply wb;rw[hv,Nat.pow_add];have h1:=n7 ha i (by omega);have h2:=kJ hb;exact Nat.mul_lt_mul'' h1 h2
  generalize cL:a[i]=ai at *
  refine Sz2 h6 cL ?_;refine Q5 (by repeat (first|exact Qx|exact Qq|exact Qr|exact Qt|exact Qu|apply Qp|apply Qw|apply Q3|apply Q8|apply Q9|apply Qn|apply Q7)) [(7,9),(23,62)] [] (fun m J hp=>∃(k c:Nat)(M:List Nat),m=b.length+1-k/\k<=b.length+1/\(k<=b.length∨c=0)/\c<65536/\M.length=L.length/\Qj M/\val M+65536^(i+k)*(c+ai*val (b.drop k))=val L+65536^i*(ai*val b)/\(∀j,i+k<=j->dg M j=dg L j)/\J 7= .int .u64 c/\J 8= .int .i64 k/\hp=Qi au 16 ⟨1,152,bD M,false⟩) (b.length+1) ?_ ?_
  ·refine⟨0,0,L,rfl,by omega,by omega,by omega,rfl,hL,by simp,fun _ _=>rfl,?_⟩;refine Sz1 h6 ?_;simp
  rintro _ J2 _ ⟨k,c,M,rfl,hk,oY,hc,J5,hM,hw,qI,h7,h8,rfl⟩;have e2:=rm b k;have d2:=pR hb k;refine Sz3 h6 h7 h8 ?_;refine Q6 (fun uT=>?_) (fun uT=>?_)
  ·have aaM:k<=b.length:=by omega
   have hj:i+k<M.length:=by omega
   have hx:=cY hM hj;have jG:=fun v=>Jv (v:=v) hj;have qA:=oa yj d2;have qu:dg M (i+k)=M[i+k]:=et hj;generalize jH:M[i+k]=x at *
   have oS:=Ka9 (x+ai*dg b k+c) 65536;have jE:=Hy (T:=val L+65536^i*(ai*val b)) (jG ((x+ai*dg b k+c)%65536)) (by rw[<-e2];exact hw) oS;have hr:=Kbl (x+ai*dg b k+c) (show 0<65536 by omega);have hq:(x+ai*dg b k+c)/65536<65536:=by omega
   have gJ:¬k<b.length->(x+ai*dg b k+c)/65536=0:=fun h=>by
    have z1:dg b k=0:=by rw[dg,eu (by omega)]
    have z2:x=0:=by rw[<-qu,qI _ (Kae _),show i+k=i+b.length by omega,Lb]
    rw[z1,z2];omega
   have uW:Qj (M.set (i+k) ((x+ai*dg b k+c)%65536)):=fun z hz=>by
    rcases List.mem_or_eq_of_mem_set hz with h|h
    ·exact hM z h
    ·omega
   have e5:IntKind.u64.wrap ((ai*dg b k:Nat):Int)=((ai*dg b k:Nat):Int):=nd (by omega) (by omega);refine Sz5 h6 h7 h8 cL jH ?_;refine Qa hP (jl hb (by omega)) rfl rfl rfl ?_;refine Sz7 h6 h7 h8 cL jH e5 @Nat.mod_mod ?_;refine Qm (b.length+1-(k+1)) (by omega) ⟨k+1,(x+ai*dg b k+c)/65536,M.set (i+k) ((x+ai*dg b k+c)%65536),rfl,by omega,?_,hq,by rw[List.length_set];exact J5,uW,?_,?_,?_⟩
   ·by_cases h:k<b.length
    ·omega
    ·exact .inr (gJ h)
   ·rw[<-Nat.add_assoc,Kbg];exact jE
   ·intro j hj2;rw[Hz (by omega)];exact qI j (by omega)
   ·exact Tz3 h6 h7 h8
  refine Sz3 h6 h7 h8 ?_;refine Qb (fun DW=>?_) (fun DW=>?_)
  ·have aaM:k<=b.length:=by omega
   have hj:i+k<M.length:=by omega
   have hx:=cY hM hj;have jG:=fun v=>Jv (v:=v) hj;have qA:=oa yj d2;have qu:dg M (i+k)=M[i+k]:=et hj;generalize jH:M[i+k]=x at *
   have oS:=Ka9 (x+ai*dg b k+c) 65536;have jE:=Hy (T:=val L+65536^i*(ai*val b)) (jG ((x+ai*dg b k+c)%65536)) (by rw[<-e2];exact hw) oS;have hr:=Kbl (x+ai*dg b k+c) (show 0<65536 by omega);have hq:(x+ai*dg b k+c)/65536<65536:=by omega
   have gJ:¬k<b.length->(x+ai*dg b k+c)/65536=0:=fun h=>by
    have z1:dg b k=0:=by rw[dg,eu (by omega)]
    have z2:x=0:=by rw[<-qu,qI _ (Kae _),show i+k=i+b.length by omega,Lb]
    rw[z1,z2];omega
   have uW:Qj (M.set (i+k) ((x+ai*dg b k+c)%65536)):=fun z hz=>by
    rcases List.mem_or_eq_of_mem_set hz with h|h
    ·exact hM z h
    ·omega
   have e5:IntKind.u64.wrap ((ai*dg b k:Nat):Int)=((ai*dg b k:Nat):Int):=nd (by omega) (by omega);refine Sz5 h6 h7 h8 cL jH ?_;refine Qa hP (jl hb (by omega)) rfl rfl rfl ?_;refine Sz7 h6 h7 h8 cL jH e5 @Nat.mod_mod ?_;refine Qm (b.length+1-(k+1)) (by omega) ⟨k+1,(x+ai*dg b k+c)/65536,M.set (i+k) ((x+ai*dg b k+c)%65536),rfl,by omega,?_,hq,by rw[List.length_set];exact J5,uW,?_,?_,?_⟩
   ·by_cases h:k<b.length
    ·omega
    ·exact .inr (gJ h)
   ·rw[<-Nat.add_assoc,Kbg];exact jE
   ·intro j hj2;rw[Hz (by omega)];exact qI j (by omega)
   ·exact Tz3 h6 h7 h8
  ·obtain rfl:c=0:=by omega
   rw[Kak (by omega)]at hw;simp only[val,KbI,KaJ]at hw;refine Sz3 h6 h7 h8 ?_;simp (disch:=decide) only[jS,tQ];refine Qm (a.length-(i+1)) (by omega) ⟨i+1,M,rfl,by omega,by omega,hM,?_,?_⟩
   ·rw[hw,hv,ir,Kax,Ka4]
   ·exact Tz0
 ·obtain rfl:i=a.length:=by omega
  rw[Kbn]at hv;refine Sz0 ?_;refine pB hP (jR hL (by omega)) (by simp+decide (disch:=try exact E0) only[go_sem,eG,Kaw,KaF,Kay,KaI,Kan];simp[Kai,yd]) rfl fun hp'=>?_;refine Sz0 ?_;exact Qc (by rw[hv]) rfl
theorem wu{x y:Nat}(hx:nl x<2^40)(hy:nl y<2^40):Qd Tryz.prog 99 [PV.num x,PV.num y] (· =PV.num (x*y)):=by
 have:=AZ (Ql x) (Ql y) hx hy
 rwa[Qz,Qz]at this
theorem LQ{x y:Nat}(hx:nl x<2^42)(hy:nl y<2^42):Qd Tryz.prog 141 [PV.num x,PV.num y] (· = .int .i64 (fP x y)):=by
 have:=wg (Ql x) (Ql y) hx hy
 rwa[Qz,Qz]at this
theorem Hw{x y:Nat}(hx:nl x<2^40)(hy:nl y<2^40)(h:y<=x):Qd Tryz.prog 140 [PV.num x,PV.num y] (· = .aJ [PV.num (x-y),.int .i64 0]):=by
 have:=AY (Ql x) (Ql y) hx hy
 rwa[Qz,Qz,if_neg (by omega)]at this
theorem JB{x y:Nat}:fP x y<=0↔x<=y:=by unfold fP;split<;>(try split)<;>omega
theorem Gm{x y:Nat}(hx:nl x<2^38)(hy:nl y<2^38)(cz:0<y):Qd Tryz.prog 146 [PV.num x,PV.num y] (· = .int .u64 (min 65535 (x/y):Nat)):=by
 have lg:∀(n d:Nat) fr hp K,n<18446744073709551616->bF .quo false (.int .u64 (n:Int)) (.int .u64 2) d fr hp K=K (ae fr d (.int .u64 ((n/2:Nat):Int))) hp:=fun n d fr hp K h=>by rw[show(2:Int)=((2:Nat):Int)from rfl,tP (by omega) h]
 refine Qf Qk Tryz.func146 rfl Sx (by simp[Ag]) fun C hP=>?_;simp only[Ag,Zo,Zg,Zm,Zc,Zf,Zl,Zh,Zs,Zi,Zb,Zk,Zn,Zu,Zq,Zr,Zz];refine Sz0 ?_;refine Q5 (by repeat (first|exact Qx|exact Qq|exact Qr|exact Qt|exact Qu|apply Qp|apply Qw|apply Q3|apply Q8|apply Q9|apply Qn|apply Q7)) [(5,25)] [] (fun m J hp=>∃lo hi:Nat,m=hi-lo/\lo<=hi/\hi<=65535/\y*lo<=x/\(hi=65535∨x<y*(hi+1))/\J 5= .int .u64 lo/\J 6= .int .u64 hi) 65535 ?_ ?_
 ·refine⟨0,65535,rfl,by omega,by omega,by omega,.inl rfl,?_⟩;refine Sz0 ?_;simp
 rintro _ J h ⟨lo,hi,rfl,h1,h2,h3,h4,h5,h6⟩;refine Sz2 h5 h6 ?_;refine Qb (fun hg=>?_) (fun hg=>?_)
 ·have dL:nl ((lo+hi+1)/2)<=4:=nf (by omega);have hm:=lK y ((lo+hi+1)/2);generalize aaX:(lo+hi+1)/2=qO at *
  refine Sz4 h5 h6 lg aaX ?_;refine Qa hP (lu (n:=qO) (by omega)) rfl rfl rfl ?_;refine Sz2 h5 h6 ?_;refine Qa hP (wu (x:=y) (y:=qO) (by omega) (by omega)) rfl rfl rfl ?_;refine Sz2 h5 h6 ?_;refine Qa hP (LQ (x:=y*qO) (y:=x) (by omega) (by omega)) rfl rfl rfl ?_;refine Sz2 h5 h6 ?_;refine Qb (fun hc=>?_) (fun hc=>?_)
  ·rw[JB]at hc;refine Sz2 h5 h6 ?_;refine Qm (hi-qO) (by omega) ⟨qO,hi,rfl,by omega,h2,hc,h4,?_⟩;exact Tz1 h6
  ·rw[JB]at hc;obtain⟨n,rfl⟩:∃n,qO=n+1:=⟨qO-1,by omega⟩
   have e:((n+1:Nat):Int)-1=n:=by omega
   refine Sz3 h5 h6 e ?_;refine Qm (n-lo) (by omega) ⟨lo,n,rfl,by omega,by omega,h3,.inr (by omega),?_⟩;exact Tz1 h5
 ·obtain rfl:lo=hi:=by omega
  refine Sz1 h5 ?_;refine Qc ?_ rfl;have hle:lo<=x/y:=(Nat.le_div_iff_mul_le cz).2 (by rw[KaP];exact h3);rcases h4 with rfl|h4
  ·rw[KbH hle]
  ·have:x/y<lo+1:=(Ka5 cz).2 (by rw[KaP];exact h4);congr 2;omega
theorem Gg{a b:List Nat}(ha:Qj a)(hb:Qj b)(bm:a.length<2^36)(dv:b.length<2^36):Qd Tryz.prog 108 [PV.nat a,PV.nat b]
  (· =if val b=0 then .aJ [PV.num 0,PV.num 0,.int .i64 3]else .aJ [PV.num (val a/val b),PV.num (val a%val b),.int .i64 0]):=by
 have eB:=bP ha;have ft:=bP hb;refine Qf Qk Tryz.func108 rfl Sy (by simp[Ah]) fun C hP=>?_;simp only[Ah,Zo,Zg,Zm,Zc,Zf,Zl,Zh,Zs,Zi,Zb,Zk,Zn,Zu,Zq,Zr,Zz];refine Sz0 ?_;refine Qa hP (jR ha (by omega)) rfl rfl rfl ?_;refine Sz0 ?_;refine Qa hP (jR hb (by omega)) rfl rfl rfl ?_;refine Sz0 ?_;generalize val a=x at *
 generalize val b=y at *
 unfold nl at eB ft;refine Qb (fun hz=>?_) (fun hz=>?_)
 ·have cz:y=0:=iA.1 (lA (by omega));refine Sz0 ?_;rw[if_pos cz];exact oC rfl rfl rfl rfl rA rA (cf _)
 have cz:y≠0:=fun h=>by rw[h,ek]at hz;simp at hz
 rw[if_neg cz];have hyp:0<y:=Ka8 cz;have dM:=Ql x;have iv:=Ql y;have mm:=Qz x;have qK:=Qz y;refine Sz0 ?_;refine ep (fun h1=>?_) (fun h1=>?_)
 ·refine Sz0 ?_;refine Qb (fun h2=>?_) (fun h2=>?_)
  ·have adC:=wy.1 (show nl x<=4 by unfold nl;omega);have adD:=wy.1 (show nl y<=4 by unfold nl;omega);have hq:=Kcg x y;have hr:=Kbl x hyp;refine Sz0 ?_;refine Qa hP (vT dM (by omega)) rfl rfl rfl ?_;refine Sz1 mm ?_;refine Qa hP (vT iv (by omega)) rfl rfl rfl ?_;refine Sz3 mm qK @tP ?_;refine Qa hP (lu (n:=x/y) (by omega)) rfl rfl rfl ?_;refine Sz0 ?_;refine Qa hP (vT dM (by omega)) rfl rfl rfl ?_;refine Sz1 mm ?_;refine Qa hP (vT iv (by omega)) rfl rfl rfl ?_;refine Sz3 mm qK @mB ?_;refine Qa hP (lu (n:=x%y) (by omega)) rfl rfl rfl ?_;refine Sz0 ?_;exact oC rfl rfl rfl rfl (cf _) (cf _) (cf _)
  ·have abh:=trivial;refine Sz0 ?_;refine tR 7 1 Tz0 ?_;refine tR 8 1 Tz0 ?_;refine IS (by repeat (first|exact Qx|exact Qq|exact Qr|exact Qt|exact Qu|apply Qp|apply Qw|apply Q3|apply Q8|apply Q9|apply Qn|apply Q7)) [(7,10),(41,69)] [49,51,58,60] (fun k J hp=>∃qs,k<=(aj x).length/\qs.length=(aj x).length-k/\Qj qs/\val qs=val ((aj x).drop k)/y/\J 7= .sl 1 (bD qs)/\J 8=PV.num (val ((aj x).drop k)%y)/\J 9= .int .i64 ((k:Int)-1)) (aj x).length ?_ ?_
   ·refine⟨[],Kae _,by simp,jT,by simp[val],?_⟩;refine Sz0 ?_;simp[val,ek]
   rintro k J h ⟨qs,hk,KG,lh,mU,h7,h8,h9⟩;refine Sz3 h7 h8 h9 ?_;have hr:=Kbl (val ((aj x).drop k)) hyp;refine Qb (fun hg=>?_) (fun hg=>?_)
   ·obtain _|n:=k
    ·omega
    have hn:n<(aj x).length:=by omega
    have DR:=cY dM hn;have e:((n+1:Nat):Int)-1=n:=by omega
    have aR:=Hq (x:=(aj x)[n]) hyp mU;rw[<-iD hn]at aR;generalize hV:val ((aj x).drop (n+1))%y=r at *
    generalize cL:(aj x)[n]=xi at *
    have qG:(aj r).length<=(aj y).length:=eX (Nat.le_of_lt hr);have mc:Qj ([xi]++aj r):=by rw[jQ];exact⟨by intro z hz;simp at hz;omega,Ql r⟩
    have jd:val ([xi]++aj r)=r*65536+xi:=by rw[jk,Qz];simp[val];omega
    have ak:(r*65536+xi)/y<65536:=by rw[Ka5 hyp];have:(r+1)*65536<=y*65536:=Kal _ hr;omega
    have Er:nl (r*65536+xi)<=(aj y).length+1:=by have:=bP mc;rw[jd,KaG]at this;simp at this;omega
    have oS:=Ka9 (r*65536+xi) y;have eD:nl (y*((r*65536+xi)/y))<=(aj y).length+1:=KaY (eX (by omega)) Er;have Ep:nl ((r*65536+xi)/y)<=4:=nf (by omega);have EA:r*65536+xi-y*((r*65536+xi)/y)=(r*65536+xi)%y:=by omega
    refine Sz5 h7 h8 h9 e cL ?_;rw[jq (f:=fun(x:Nat)=>.int .u16 x) (xs:=[xi]) (ys:=aj r) (n:=1) bA rfl (by omega) (by omega) (by omega)];refine Sz5 h7 h8 h9 e cL ?_;refine gX hP (jR (l:=[xi]++aj r) mc (by simp;omega)) (by simp+decide (disch:=try exact E0) only[go_sem,eG,Kaw,KaF,Kay,KaI,Kan];simp[KbM 1,Kai]) rfl ?_;rw[jd];refine Sz5 h7 h8 h9 e cL ?_;refine Qa hP (Gm (x:=r*65536+xi) (y:=y) (by omega) (by unfold nl;omega) hyp) rfl rfl rfl ?_;rw[Kcr (by omega:(r*65536+xi)/y<=65535)];generalize hD:(r*65536+xi)/y=D at *
    simp+decide (disch:=first|omega|rfl|(simp+decide only[go_sem,h7,h8,h9,e,cL,Kaz ak]<;>rfl)|fail) only[go_sem,h7,h8,h9,e,cL,Kaz ak];rw[jq (f:=fun(x:Nat)=>.int .u16 x) (xs:=[D]) (ys:=qs) (n:=1) bA rfl (by omega) (by omega) (by omega)];refine Sz5 h7 h8 h9 e cL ?_;refine Qa hP (lu (n:=D) (by omega)) rfl rfl rfl ?_;refine Sz4 h7 h8 h9 e ?_;refine Qa hP (wu (x:=y) (y:=D) (by unfold nl;omega) (by omega)) rfl rfl rfl ?_;refine Sz4 h7 h8 h9 e ?_;refine Qa hP (Hw (x:=r*65536+xi) (y:=y*D) (by omega) (by omega) (by omega)) rfl rfl rfl ?_;rw[EA];refine Sz4 h7 h8 h9 e ?_;refine Hp 7 n rfl ?_ (by omega) ⟨D::qs,by omega,by simp;omega,?_,?_,?_⟩
    ·exact ie
    ·rw[eM];exact⟨ak,lh⟩
    ·rw[val,aR.1]
    ·refine JI aR.2 ?_;simp[KbM 1,Kai]
   ·obtain rfl:k=0:=by omega
    rw[Kbp,mm]at mU h8;refine Sz2 h7 h8 ?_;refine Qa hP (jR lh (by omega)) rfl rfl rfl ?_;refine Sz2 h7 h8 ?_;exact oC rfl rfl rfl rfl (od (by rw[mU])) (cf _) (cf _)
 ·have abh:=trivial;refine Sz0 ?_;refine tR 7 1 Tz0 ?_;refine tR 8 1 Tz0 ?_;refine IS (by repeat (first|exact Qx|exact Qq|exact Qr|exact Qt|exact Qu|apply Qp|apply Qw|apply Q3|apply Q8|apply Q9|apply Qn|apply Q7)) [(7,10),(41,69)] [49,51,58,60] (fun k J hp=>∃qs,k<=(aj x).length/\qs.length=(aj x).length-k/\Qj qs/\val qs=val ((aj x).drop k)/y/\J 7= .sl 1 (bD qs)/\J 8=PV.num (val ((aj x).drop k)%y)/\J 9= .int .i64 ((k:Int)-1)) (aj x).length ?_ ?_
  ·refine⟨[],Kae _,by simp,jT,by simp[val],?_⟩;refine Sz0 ?_;simp[val,ek]
  rintro k J h ⟨qs,hk,KG,lh,mU,h7,h8,h9⟩;refine Sz3 h7 h8 h9 ?_;have hr:=Kbl (val ((aj x).drop k)) hyp;refine Qb (fun hg=>?_) (fun hg=>?_)
  ·obtain _|n:=k
   ·omega
   have hn:n<(aj x).length:=by omega
   have DR:=cY dM hn;have e:((n+1:Nat):Int)-1=n:=by omega
   have aR:=Hq (x:=(aj x)[n]) hyp mU;rw[<-iD hn]at aR;generalize hV:val ((aj x).drop (n+1))%y=r at *
   generalize cL:(aj x)[n]=xi at *
   have qG:(aj r).length<=(aj y).length:=eX (Nat.le_of_lt hr);have mc:Qj ([xi]++aj r):=by rw[jQ];exact⟨by intro z hz;simp at hz;omega,Ql r⟩
   have jd:val ([xi]++aj r)=r*65536+xi:=by rw[jk,Qz];simp[val];omega
   have ak:(r*65536+xi)/y<65536:=by rw[Ka5 hyp];have:(r+1)*65536<=y*65536:=Kal _ hr;omega
   have Er:nl (r*65536+xi)<=(aj y).length+1:=by have:=bP mc;rw[jd,KaG]at this;simp at this;omega
   have oS:=Ka9 (r*65536+xi) y;have eD:nl (y*((r*65536+xi)/y))<=(aj y).length+1:=KaY (eX (by omega)) Er;have Ep:nl ((r*65536+xi)/y)<=4:=nf (by omega);have EA:r*65536+xi-y*((r*65536+xi)/y)=(r*65536+xi)%y:=by omega
   refine Sz5 h7 h8 h9 e cL ?_;rw[jq (f:=fun(x:Nat)=>.int .u16 x) (xs:=[xi]) (ys:=aj r) (n:=1) bA rfl (by omega) (by omega) (by omega)];refine Sz5 h7 h8 h9 e cL ?_;refine gX hP (jR (l:=[xi]++aj r) mc (by simp;omega)) (by simp+decide (disch:=try exact E0) only[go_sem,eG,Kaw,KaF,Kay,KaI,Kan];simp[KbM 1,Kai]) rfl ?_;rw[jd];refine Sz5 h7 h8 h9 e cL ?_;refine Qa hP (Gm (x:=r*65536+xi) (y:=y) (by omega) (by unfold nl;omega) hyp) rfl rfl rfl ?_;rw[Kcr (by omega:(r*65536+xi)/y<=65535)];generalize hD:(r*65536+xi)/y=D at *
   simp+decide (disch:=first|omega|rfl|(simp+decide only[go_sem,h7,h8,h9,e,cL,Kaz ak]<;>rfl)|fail) only[go_sem,h7,h8,h9,e,cL,Kaz ak];rw[jq (f:=fun(x:Nat)=>.int .u16 x) (xs:=[D]) (ys:=qs) (n:=1) bA rfl (by omega) (by omega) (by omega)];refine Sz5 h7 h8 h9 e cL ?_;refine Qa hP (lu (n:=D) (by omega)) rfl rfl rfl ?_;refine Sz4 h7 h8 h9 e ?_;refine Qa hP (wu (x:=y) (y:=D) (by unfold nl;omega) (by omega)) rfl rfl rfl ?_;refine Sz4 h7 h8 h9 e ?_;refine Qa hP (Hw (x:=r*65536+xi) (y:=y*D) (by omega) (by omega) (by omega)) rfl rfl rfl ?_;rw[EA];refine Sz4 h7 h8 h9 e ?_;refine Hp 7 n rfl ?_ (by omega) ⟨D::qs,by omega,by simp;omega,?_,?_,?_⟩
   ·exact ie
   ·rw[eM];exact⟨ak,lh⟩
   ·rw[val,aR.1]
   ·refine JI aR.2 ?_;simp[KbM 1,Kai]
  ·obtain rfl:k=0:=by omega
   rw[Kbp,mm]at mU h8;refine Sz2 h7 h8 ?_;refine Qa hP (jR lh (by omega)) rfl rfl rfl ?_;refine Sz2 h7 h8 ?_;exact oC rfl rfl rfl rfl (od (by rw[mU])) (cf _) (cf _)
theorem Xu{x y:Nat}(hx:nl x<2^36)(hy:nl y<2^36)(h0:y≠0):Qd Tryz.prog 108 [PV.num x,PV.num y] (· = .aJ [PV.num (x/y),PV.num (x%y),.int .i64 0]):=by
 have:=Gg (Ql x) (Ql y) hx hy
 rwa[Qz,Qz,if_neg h0]at this
theorem GQ{a b:List Nat}(ha:Qj a)(hb:Qj b)(bm:a.length<2^36)(dv:b.length<2^36):Qd Tryz.prog 48 [PV.nat a,PV.nat b] (· =PV.num (Nat.gcd (val a) (val b))):=by
 have eB:=bP ha;have ft:=bP hb;refine Qf Qk Tryz.func48 rfl Uq (by simp[Da]) fun C hP=>?_;simp only[Da,Zo,Zg,Zm,Zc,Zf,Zl,Zh,Zs,Zi,Zb,Zk,Zn,Zu,Zq,Zr,Zz];refine Sz0 ?_;refine Qa hP (jR ha (by omega)) rfl rfl rfl ?_;refine Sz0 ?_;refine Qa hP (jR hb (by omega)) rfl rfl rfl ?_;refine Sz0 ?_;refine Q5 (by repeat (first|exact Qx|exact Qq|exact Qr|exact Qt|exact Qu|apply Qp|apply Qw|apply Q3|apply Q8|apply Q9|apply Qn|apply Q7)) [(0,1),(5,7),(12,23)] [] (fun m J hp=>∃x y,m=y/\Nat.gcd x y=Nat.gcd (val a) (val b)/\nl x<2^36/\nl y<2^36/\J 0=PV.num x/\J 1=PV.num y/\hp=au) (val b) ?_ ?_
 ·refine⟨val a,val b,rfl,rfl,by omega,by omega,?_⟩;exact Tz0
 rintro y J _ ⟨x,_,rfl,hg,hx,hy,h0,h1,rfl⟩;generalize Nat.gcd (val a) (val b)=g at *
 refine Sz2 h0 h1 ?_;refine Qb (fun hc=>?_) (fun hc=>?_)
 ·have cz:y≠0:=fun h=>by rw[h,ek]at hc;simp at hc
  have u3:=eX (Nat.le_of_lt (Kbl x (Ka8 cz)));refine Sz2 h0 h1 ?_;refine Qa hP (Xu (x:=x) (y:=y) hx hy cz) rfl rfl rfl ?_;refine Sz2 h0 h1 ?_;refine Qm (x%y) (Kbl _ (Ka8 cz)) ⟨y,x%y,rfl,?_,hy,by omega,?_⟩
  ·rw[<-hg,Kch x y,Nat.gcd_rec y x,Kch]
  ·exact Tz0
 ·have cz:y=0:=iA.1 (lA (by omega));subst cz;refine Sz1 h0 ?_;exact Qc (by rw[<-hg,Kcn]) rfl
theorem pA{n:Bool}{a:List Nat}(ha:Qj a)(bm:a.length<2^42):Qd Tryz.prog 137 [.bool n,PV.nat a] (· =PV.zz (zv n a)):=by
 refine Qf Qk Tryz.func137 rfl SA (by simp[Ai]) fun C hP=>?_;simp only[Ai,Zo,Zg,Zm,Zc,Zf,Zl,Zh,Zs,Zi,Zb,Zk,Zn,Zu,Zq,Zr,Zz];refine Sz0 ?_;refine Qa hP (jR ha bm) rfl rfl rfl ?_;refine Sz0 ?_;refine ra (fun hn=>?_) (fun hn=>?_)
 all_goals
  refine Sz0 ?_;refine cF ?_;refine Sz0 ?_;exact Qc (by have:=BY n (val a);rw[hn]at this;subst hn;simpa[zv]using this) rfl
theorem vZ{n:Bool}{a:List Nat}(ha:Qj a)(bm:a.length<2^42):Qd Tryz.prog 136 [PV.zi n a] (· =PV.zz (zv n a)):=by refine Qf Qk Tryz.func136 rfl SB (by simp[Aj]) fun C hP=>?_;simp only[Aj,Zo,Zg,Zm,Zc,Zf,Zl,Zh,Zs,Zi,Zb,Zk,Zn,Zu,Zq,Zr,Zz];refine Sz0 ?_;refine Qa hP (pA ha bm) rfl rfl rfl ?_;refine Sz0 ?_;refine cF ?_;refine Sz0 ?_;exact Qc rfl rfl
theorem GR{n m:Bool}{a b:List Nat}(ha:Qj a)(hb:Qj b)(bm:a.length<2^40)(dv:b.length<2^40):Qd Tryz.prog 98 [PV.zi n a,PV.zi m b] (· =PV.zz (zv n a*zv m b)):=by
 have hr:nl (val a*val b)<2^42:=by have:=lK (val a) (val b);have:=bP ha;have:=bP hb;omega
 refine Qf Qk Tryz.func98 rfl Ve (by simp[DA]) fun C hP=>?_;simp only[DA,Zo,Zg,Zm,Zc,Zf,Zl,Zh,Zs,Zi,Zb,Zk,Zn,Zu,Zq,Zr,Zz];refine Sz0 ?_;refine Qa hP (AZ ha hb bm dv) rfl rfl rfl ?_;refine Sz0 ?_;refine Qa hP (pA (n:= !(n==m)) (Ql (val a*val b)) hr) rfl rfl rfl ?_;refine Sz0 ?_;refine cF ?_;refine Sz0 ?_;exact Qc (congrArg PV.zz (by rw[pK];unfold zv;cases n<;>cases m<;>simp[Int.neg_mul,Int.mul_neg])) rfl
theorem LR{x:Int}(h1: -9223372036854775808<=x)(h2:x<=9223372036854775807):Qd Tryz.prog 97 [.int .i64 x] (· =PV.zz x):=by
 refine Qf Qk Tryz.func97 rfl Vd (by simp[Dy]) fun C hP=>?_;simp only[Dy,Zo,Zg,Zm,Zc,Zf,Zl,Zh,Zs,Zi,Zb,Zk,Zn,Zu,Zq,Zr,Zz];refine Sz0 ?_;refine Qb (fun hc=>?_) (fun hc=>?_)
 ·obtain⟨y,hy⟩:∃y:Nat,x= -((y:Int)+1):=⟨(-(x+1)).toNat,by omega⟩
  have e1:IntKind.i64.wrap (x+1)= -(y:Int):=by rw[pE (by omega) (by omega)];omega
  have e2:IntKind.i64.wrap (0- -(y:Int))=(y:Int):=by rw[pE (by omega) (by omega)];omega
  have e3:IntKind.u64.wrap (y:Int)=(y:Int):=nd (by omega) (by omega);have nN:nl y<=4:=nf (by omega);have mb:nl (y+1)<=4:=nf (by omega);refine Sz3 e1 e2 e3 ?_;refine Qa hP (lu (n:=y) (by omega)) rfl rfl rfl ?_;refine Sz0 ?_;refine Qa hP (lu (n:=1) (by omega)) rfl rfl rfl ?_;refine Sz0 ?_;refine Qa hP (GP (Ql y) (Ql 1) (show nl y<_ by omega) (show nl 1<_ by rw[tV];omega)) rfl rfl rfl ?_;refine Sz0 ?_;refine Qa hP (pA (n:=true) (Ql (val (aj y)+val (aj 1))) (show nl _<_ by rw[Qz,Qz];omega)) rfl rfl rfl ?_;refine Sz0 ?_;refine cF ?_;refine Sz0 ?_;exact Qc (congrArg PV.zz (by rw[pK,Qz,Qz];simp;omega)) rfl
 ·obtain⟨y,rfl⟩:∃y:Nat,x=y:=⟨x.toNat,by omega⟩
  have nN:nl y<=4:=nf (by omega);refine Sz0 ?_;refine Qa hP (lu (by omega)) rfl rfl rfl ?_;refine Sz0 ?_;refine Qa hP (pA (n:=false) (Ql y) (show nl _<_ by omega)) rfl rfl rfl ?_;refine Sz0 ?_;refine cF ?_;refine Sz0 ?_;exact Qc (congrArg PV.zz (by rw[pK];simp)) rfl
theorem XJ{n:Bool}{a:List Nat}(ha:Qj a)(bm:a.length<2^42):Qd Tryz.prog 147 [PV.zi n a] (· = .int .i64 (gA (zv n a))):=by
 refine Qf Qk Tryz.func147 rfl SD (by simp[Ak]) fun C hP=>?_;simp only[Ak,Zo,Zg,Zm,Zc,Zf,Zl,Zh,Zs,Zi,Zb,Zk,Zn,Zu,Zq,Zr,Zz];refine Sz0 ?_;refine Qa hP (vZ ha bm) rfl rfl rfl ?_;generalize zv n a=z;refine Sz0 ?_;refine Qb (fun hz=>?_) (fun hz=>?_)
 ·have:z=0:=by have:=iA.1 (lA (n:=z.natAbs) (by omega));omega
  subst this;refine Sz0 ?_;exact Qc rfl rfl
 ·have h0:z≠0:=fun h=>by subst h;exact hz (by simp[ek])
  refine Sz0 ?_;refine tk (fun hn=>?_) (fun hn=>?_)
  ·have hn:z<0:=by simpa using hn
   refine Sz0 ?_;exact Qc (by rw[gA,if_pos hn]) rfl
  ·have hn:¬z<0:=by simpa using hn
   refine Sz0 ?_;exact Qc (by rw[gA,if_neg hn,if_pos (by omega)]) rfl
theorem Xv{n:Bool}{a:List Nat}(ha:Qj a)(bm:a.length<2^42):Qd Tryz.prog 45 [PV.zi n a] (· = .bool (lN n a)):=by
 refine Qf Qk Tryz.func45 rfl Vc (by simp[C7]) fun C hP=>?_;simp only[C7,Zo,Zg,Zm,Zc,Zf,Zl,Zh,Zs,Zi,Zb,Zk,Zn,Zu,Zq,Zr,Zz];refine Sz0 ?_;refine Qa hP (Gl ha (by omega)) rfl rfl rfl ?_;refine Sz0 ?_;refine ra (fun hv=>?_) (fun hv=>?_)
 ·refine Sz0 ?_;refine ra (fun hn=>?_) (fun hn=>?_)
  ·refine Sz0 ?_;exact Qc (congrArg PV.bool (by unfold lN;subst hn;cases a<;>simp_all<;>omega)) rfl
  ·refine Sz0 ?_;exact Qc (congrArg PV.bool (by unfold lN;subst hn;cases a<;>simp_all)) rfl
 ·refine Sz0 ?_;exact Qc (congrArg PV.bool (by unfold lN;cases a<;>simp_all)) rfl
theorem Ym{n m:Bool}{a b:List Nat}(ha:Qj a)(hb:Qj b)(bm:a.length<2^41)(dv:b.length<2^41):Qd Tryz.prog 103 [PV.zi n a,PV.zi m b] (· = .int .i64 (dQ (zv n a) (zv m b))):=by
 have hx:nl (zv n a).natAbs<2^41:=by rw[jU];have:=bP ha;omega
 have hy:nl (zv m b).natAbs<2^41:=by rw[jU];have:=bP hb;omega
 refine Qf Qk Tryz.func103 rfl SE (by simp[Al]) fun C hP=>?_;simp only[Al,Zo,Zg,Zm,Zc,Zf,Zl,Zh,Zs,Zi,Zb,Zk,Zn,Zu,Zq,Zr,Zz];refine Sz0 ?_;refine Qa hP (vZ ha (by omega)) rfl rfl rfl ?_;refine Sz0 ?_;refine Qa hP (vZ hb (by omega)) rfl rfl rfl ?_;generalize zv n a=x at *
 generalize zv m b=y at *
 have lx:(aj x.natAbs).length<2^41:=hx;have ly:(aj y.natAbs).length<2^41:=hy;by_cases bG:x<0<;>by_cases cz:y<0
 ·refine Sz2 bG cz ?_;refine Qa hP (wg (Ql y.natAbs) (Ql x.natAbs) (by omega) (by omega)) rfl rfl rfl ?_;refine Sz0 ?_;exact Qc (congrArg (PV.int .i64) (by rw[Qz,Qz];unfold fP dQ;split<;>split<;>(try split)<;>(try split)<;>omega)) rfl
 ·refine Sz2 bG cz ?_;exact Qc (congrArg (PV.int .i64) (by unfold dQ;rw[if_pos (by omega)])) rfl
 ·refine Sz2 bG cz ?_;exact Qc (congrArg (PV.int .i64) (by unfold dQ;rw[if_neg (by omega),if_pos (by omega)])) rfl
 ·refine Sz2 bG cz ?_;refine Qa hP (wg (Ql x.natAbs) (Ql y.natAbs) (by omega) (by omega)) rfl rfl rfl ?_;refine Sz0 ?_;exact Qc (congrArg (PV.int .i64) (by rw[Qz,Qz];unfold fP dQ;split<;>split<;>(try split)<;>(try split)<;>omega)) rfl
theorem Yn{n m:Bool}{a b:List Nat}(ha:Qj a)(hb:Qj b)(bm:a.length<2^40)(dv:b.length<2^40):Qd Tryz.prog 101 [PV.zi n a,PV.zi m b] (· =PV.zz (zv n a+zv m b)):=by
 have eB:=bP ha;have ft:=bP hb;refine Qf Qk Tryz.func101 rfl SF (by simp[Am]) fun C hP=>?_;simp only[Am,Zo,Zg,Zm,Zc,Zf,Zl,Zh,Zs,Zi,Zb,Zk,Zn,Zu,Zq,Zr,Zz];refine Sz0 ?_;refine tk (fun eD=>?_) (fun eD=>?_)
 ·have eD:n=m:=by simpa using eD
  subst eD;have hr:=Fg (val a) (val b);refine Sz0 ?_;refine Qa hP (GP ha hb bm dv) rfl rfl rfl ?_;refine Sz0 ?_;refine Qa hP (pA (n:=n) (Ql (val a+val b)) (show nl _<_ by omega)) rfl rfl rfl ?_;refine Sz0 ?_;refine cF ?_;refine Sz0 ?_;exact Qc (congrArg PV.zz (by rw[pK];unfold zv;split<;>simp<;>omega)) rfl
 have eD:n= !m:=by cases n<;>cases m<;>simp_all
 subst eD;refine Sz0 ?_;refine Qa hP (AY ha hb bm dv) rfl rfl rfl ?_;by_cases hc:val a<val b
 ·rw[if_pos hc];have hr:=eX (Nat.sub_le (val b) (val a));refine Sz0 ?_;refine Qa hP (AY hb ha dv bm) rfl rfl rfl ?_;rw[if_neg (by omega)];refine Sz0 ?_;refine Qa hP (pA (n:=m) (Ql (val b-val a)) (show nl _<_ by omega)) rfl rfl rfl ?_;refine Sz0 ?_;refine cF ?_;refine Sz0 ?_;exact Qc (congrArg PV.zz (by rw[pK];unfold zv;cases m<;>simp<;>omega)) rfl
 ·rw[if_neg hc];have hr:=eX (Nat.sub_le (val a) (val b));refine Sz0 ?_;refine Qa hP (pA (n:= !m) (Ql (val a-val b)) (show nl _<_ by omega)) rfl rfl rfl ?_;refine Sz0 ?_;refine cF ?_;refine Sz0 ?_;exact Qc (congrArg PV.zz (by rw[pK];unfold zv;cases m<;>simp<;>omega)) rfl
theorem Gu{a:List Nat}{g:Nat}(ha:Qj a)(hx:a.length<2^36)(hy:nl g<2^36)(h0:g≠0):Qd Tryz.prog 108 [PV.nat a,PV.num g] (· = .aJ [PV.num (val a/g),PV.num (val a%g),.int .i64 0]):=by
 have:=Gg ha (Ql g) hx hy
 rwa[Qz,if_neg h0]at this
theorem Vl(n:Bool)(a:List Nat)(D:Nat):zv n (aj (val a/Nat.gcd (val a) D))=zv n a/(Nat.gcd (zv n a).natAbs D:Int):=by
 rw[jU,pK];unfold zv;cases n
 ·simp
 ·have hd:((Nat.gcd (val a) D:Nat):Int)∣(val a:Int):=Int.natCast_dvd_natCast.2 (Kcq _ _);simp only[if_true];rw[Int.neg_ediv_of_dvd hd,Int.natCast_ediv]
theorem Gv{n:Bool}{a d:List Nat}(ha:Qj a)(hd:Qj d)(bm:a.length<2^36)(qx:d.length<2^36):Qd Tryz.prog 96 [PV.zi n a,PV.nat d] (· =PV.rat (rv n a d)):=by
 have ks:=bP ha;have Es:=bP hd;refine Qf Qk Tryz.func96 rfl Vg (by simp[Dx]) fun C hP=>?_;simp only[Dx,Zo,Zg,Zm,Zc,Zf,Zl,Zh,Zs,Zi,Zb,Zk,Zn,Zu,Zq,Zr,Zz];refine Sz0 ?_;refine Qa hP (jR hd (by omega)) rfl rfl rfl ?_;refine Sz0 ?_;refine Qb (fun hz=>?_) (fun hz=>?_)
 ·have h0:val d=0:=iA.1 (lA (n:=val d) (by omega));refine Sz0 ?_;refine Qa hP (lu (n:=1) (by omega)) rfl rfl rfl ?_;refine Sz0 ?_;refine cF ?_;refine Sz0 ?_;exact(by unfold rv;rw[GH (.inl h0),ni];exact lE Je rfl)
 ·have h0:val d≠0:=fun h=>by rw[h,ek]at hz;exact hz rfl
  have kZ:Nat.gcd (val a) (val d)≠0:=fun h=>h0 (Nat.gcd_eq_zero_iff.1 h).2;have hg:=eX (Kcs (val a) (Ka8 h0));have hq:=Fx (val a) (Nat.gcd (val a) (val d));refine Sz0 ?_;refine Qa hP (GQ ha hd bm qx) rfl rfl rfl ?_;refine Sz0 ?_;refine Qa hP (Gu ha bm (by omega) kZ) rfl rfl rfl ?_;refine Sz0 ?_;refine Qa hP (Gu hd qx (by omega) kZ) rfl rfl rfl ?_;refine Sz0 ?_;refine Qa hP (vZ (n:=n) (Ql (val a/Nat.gcd (val a) (val d))) (show nl _<_ by omega)) rfl rfl rfl ?_;rw[Vl];have hm:=wC (z:=zv n a) h0;refine Sz0 ?_;refine cF ?_;refine Sz0 ?_;exact Qc (by unfold rv;rw[PV.rat,hm.1,hm.2,jU]) rfl
theorem pq{n:Bool}{a d:List Nat}{k:Nat}(hp:Raw k n a d)(hk:k<2^36):Qd Tryz.prog 100 [PV.rr n a d] (· =PV.rat (rv n a d)):=by obtain⟨ha,hd,sa,sd,k1⟩:=hp;refine Qf Qk Tryz.func100 rfl SG (by simp[An]) fun C hP=>?_;simp only[An,Zo,Zg,Zm,Zc,Zf,Zl,Zh,Zs,Zi,Zb,Zk,Zn,Zu,Zq,Zr,Zz];refine Sz0 ?_;refine Qa hP (Gv (n:=n) ha hd (by omega) (by omega)) rfl rfl rfl ?_;refine Sz0 ?_;refine cF ?_;refine Sz0 ?_;exact Qc rfl rfl
theorem Bg{z:Int}{D:Nat}(hz:nl z.natAbs<2^36)(hD:nl D<2^36):Qd Tryz.prog 96 [PV.zz z,PV.num D] (· =PV.rat (mkRat z D)):=by
 have:=Gv (n:=decide (z<0)) (Ql z.natAbs) (Ql D) hz hD
 rwa[rv,kN,Qz]at this
theorem G'{x:Int}(h1: -9223372036854775808<=x)(h2:x<=9223372036854775807):Qd Tryz.prog 38 [.int .i64 x] (· =PV.rat (x:Rat)):=by have nN:nl x.natAbs<=4:=nf (by omega);refine Qf Qk Tryz.func38 rfl Vh (by simp[CY]) fun C hP=>?_;simp only[CY,Zo,Zg,Zm,Zc,Zf,Zl,Zh,Zs,Zi,Zb,Zk,Zn,Zu,Zq,Zr,Zz];refine Sz0 ?_;refine Qa hP (LR h1 h2) rfl rfl rfl ?_;refine Sz0 ?_;refine Qa hP (lu (n:=1) (by omega)) rfl rfl rfl ?_;refine Sz0 ?_;refine Qa hP (Bg (z:=x) (D:=1) (by omega) (by rw[tV];omega)) rfl rfl rfl ?_;refine Sz0 ?_;refine cF ?_;refine Sz0 ?_;exact Qc (congrArg PV.rat (Rat.mkRat_one x)) rfl
theorem vU(d:List Nat):Qd Tryz.prog 102 [PV.nat d] (· =PV.zi false d):=by refine Qf Qk Tryz.func102 rfl SH (by simp[Ao]) fun C hP=>?_;simp only[Ao,Zo,Zg,Zm,Zc,Zf,Zl,Zh,Zs,Zi,Zb,Zk,Zn,Zu,Zq,Zr,Zz];refine Sz0 ?_;refine cF ?_;refine Sz0 ?_;exact Qc rfl rfl
theorem Ml{x:Int}(hx:nl x.natAbs<2^42):Qd Tryz.prog 147 [PV.zz x] (· = .int .i64 (gA x)):=by
 have:=XJ (n:=decide (x<0)) (Ql x.natAbs) hx
 rwa[kN]at this
theorem AQ{n:Bool}{a d:List Nat}{k:Nat}(hp:Raw k n a d)(hk:k<2^36):Qd Tryz.prog 109 [PV.rr n a d] (· = .int .i64 (ox (rv n a d))):=by have hs:=hp.rs;unfold FW.rs at hs;refine Qf Qk Tryz.func109 rfl SI (by simp[Ap]) fun C hP=>?_;simp only[Ap,Zo,Zg,Zm,Zc,Zf,Zl,Zh,Zs,Zi,Zb,Zk,Zn,Zu,Zq,Zr,Zz];refine Sz0 ?_;refine Qa hP (pq hp hk) rfl rfl rfl ?_;refine Sz0 ?_;refine Qa hP (Ml (x:=(rv n a d).num) (by omega)) rfl rfl rfl ?_;refine Sz0 ?_;exact Qc rfl rfl
theorem wG{x:Int}{d:Nat}(hx:nl x.natAbs<2^40)(hy:nl d<2^40):Qd Tryz.prog 98 [PV.zz x,PV.zi false (aj d)] (· =PV.zz (x*(d:Int))):=by
 have:=GR (n:=decide (x<0)) (m:=false) (Ql x.natAbs) (Ql d) hx hy
 rwa[kN,tx,Qz]at this
theorem NS{x y:Int}(hx:nl x.natAbs<2^40)(hy:nl y.natAbs<2^40):Qd Tryz.prog 101 [PV.zz x,PV.zz y] (· =PV.zz (x+y)):=by
 have:=Yn (n:=decide (x<0)) (m:=decide (y<0)) (Ql x.natAbs) (Ql y.natAbs) hx hy
 rwa[kN,kN]at this
theorem NT{x y:Int}(hx:nl x.natAbs<2^41)(hy:nl y.natAbs<2^41):Qd Tryz.prog 103 [PV.zz x,PV.zz y] (· = .int .i64 (dQ x y)):=by
 have:=Ym (n:=decide (x<0)) (m:=decide (y<0)) (Ql x.natAbs) (Ql y.natAbs) hx hy
 rwa[kN,kN]at this
theorem Yo{n m:Bool}{a d b c:List Nat}{k:Nat}(hp:Raw k n a d)(hq:Raw k m b c)(hk:k<2^34):Qd Tryz.prog 39 [PV.rr n a d,PV.rr m b c] (· =PV.rat (rv n a d*rv m b c)):=by obtain⟨ha,hd,sa,sd,k1⟩:=hp;obtain⟨hb,hc,sb,sc,k2⟩:=hq;have h1:=jP (zv n a) (zv m b);have h2:=lK (val d) (val c);rw[jU,jU]at h1;have e1:=bP ha;have e2:=bP hd;have e3:=bP hb;have e4:=bP hc;refine Qf Qk Tryz.func39 rfl Vk (by simp[CZ]) fun C hP=>?_;simp only[CZ,Zo,Zg,Zm,Zc,Zf,Zl,Zh,Zs,Zi,Zb,Zk,Zn,Zu,Zq,Zr,Zz];refine Sz0 ?_;refine Qa hP (GR (n:=n) (m:=m) ha hb (by omega) (by omega)) rfl rfl rfl ?_;refine Sz0 ?_;refine Qa hP (AZ hd hc (by omega) (by omega)) rfl rfl rfl ?_;refine Sz0 ?_;refine Qa hP (Bg (z:=zv n a*zv m b) (D:=val d*val c) (by omega) (by omega)) rfl rfl rfl ?_;refine Sz0 ?_;refine cF ?_;refine Sz0 ?_;exact Qc (congrArg PV.rat (Rat.mkRat_mul_mkRat _ _ _ _).symm) rfl
theorem Yp{n m:Bool}{a d b c:List Nat}{k:Nat}(hp:Raw k n a d)(hq:Raw k m b c)(hk:k<2^34):Qd Tryz.prog 42 [PV.rr n a d,PV.rr m b c] (· = .int .i64 (pY (rv n a d) (rv m b c))):=by
 have hx:=hp.rs;have hy:=hq.rs;unfold FW.rs at hx hy;refine Qf Qk Tryz.func42 rfl Vi (by simp[C4]) fun C hP=>?_;simp only[C4,Zo,Zg,Zm,Zc,Zf,Zl,Zh,Zs,Zi,Zb,Zk,Zn,Zu,Zq,Zr,Zz];refine Sz0 ?_;refine Qa hP (pq hp (by omega)) rfl rfl rfl ?_;refine Sz0 ?_;refine Qa hP (pq hq (by omega)) rfl rfl rfl ?_;generalize rv n a d=p at *
 generalize rv m b c=q at *
 have h1:=jP p.num (q.den:Int);have h2:=jP q.num (p.den:Int);rw[KbN]at h1 h2;refine Sz0 ?_;refine Qa hP (vU (aj q.den)) rfl rfl rfl ?_;refine Sz0 ?_;refine Qa hP (wG (x:=p.num) (d:=q.den) (by omega) (by omega)) rfl rfl rfl ?_;refine Sz0 ?_;refine Qa hP (vU (aj p.den)) rfl rfl rfl ?_;refine Sz0 ?_;refine Qa hP (wG (x:=q.num) (d:=p.den) (by omega) (by omega)) rfl rfl rfl ?_;refine Sz0 ?_;refine Qa hP (NT (x:=p.num*(q.den:Int)) (y:=q.num*(p.den:Int)) (by omega) (by omega)) rfl rfl rfl ?_;refine Sz0 ?_;exact Qc (congrArg (PV.int .i64) (by rw[<-Rh p.den_nz q.den_nz,Kcp,Kcp])) rfl
theorem GS{n m:Bool}{a d b c:List Nat}{k:Nat}(hp:Raw k n a d)(hq:Raw k m b c)(hk:k<2^34):Qd Tryz.prog 41 [PV.rr n a d,PV.rr m b c] (· =PV.rat (rv n a d+rv m b c)):=by
 have hx:=hp.rs;have hy:=hq.rs;unfold FW.rs at hx hy;refine Qf Qk Tryz.func41 rfl Vj (by simp[C1]) fun C hP=>?_;simp only[C1,Zo,Zg,Zm,Zc,Zf,Zl,Zh,Zs,Zi,Zb,Zk,Zn,Zu,Zq,Zr,Zz];refine Sz0 ?_;refine Qa hP (pq hp (by omega)) rfl rfl rfl ?_;refine Sz0 ?_;refine Qa hP (pq hq (by omega)) rfl rfl rfl ?_;generalize rv n a d=p at *
 generalize rv m b c=q at *
 have h1:=jP p.num (q.den:Int);have h2:=jP q.num (p.den:Int);have h3:=s0 (p.num*(q.den:Int)) (q.num*(p.den:Int));have h4:=lK p.den q.den;rw[KbN]at h1 h2;refine Sz0 ?_;refine Qa hP (vU (aj q.den)) rfl rfl rfl ?_;refine Sz0 ?_;refine Qa hP (wG (x:=p.num) (d:=q.den) (by omega) (by omega)) rfl rfl rfl ?_;refine Sz0 ?_;refine Qa hP (vU (aj p.den)) rfl rfl rfl ?_;refine Sz0 ?_;refine Qa hP (wG (x:=q.num) (d:=p.den) (by omega) (by omega)) rfl rfl rfl ?_;refine Sz0 ?_;refine Qa hP (NS (x:=p.num*(q.den:Int)) (y:=q.num*(p.den:Int)) (by omega) (by omega)) rfl rfl rfl ?_;refine Sz0 ?_;refine Qa hP (wu (x:=p.den) (y:=q.den) (by omega) (by omega)) rfl rfl rfl ?_;refine Sz0 ?_;refine Qa hP (Bg (z:=p.num*(q.den:Int)+q.num*(p.den:Int)) (D:=p.den*q.den) (by omega) (by omega)) rfl rfl rfl ?_;refine Sz0 ?_;refine cF ?_;refine Sz0 ?_;exact Qc (congrArg PV.rat (by rw[<-Rat.mkRat_add_mkRat _ _ p.den_nz q.den_nz,Kcp,Kcp])) rfl
theorem Gn{n:Bool}{a d:List Nat}{k:Nat}(hp:Raw k n a d)(hk:k<2^36):Qd Tryz.prog 24 [PV.rr n a d] (· = .bool (kO n a d)):=by
 obtain⟨ha,hd,sa,sd,k1⟩:=hp;have qv:(aj (Nat.gcd (val a) (val d))).length<2^43:=by
  by_cases h0:val d=0
  ·rw[h0,Kcn];have h4:=bP ha;unfold nl at h4;omega
  ·have h3:=eX (Kcs (val a) (Ka8 h0));have h4:=bP hd;unfold nl at h3 h4;omega
 refine Qf Qk Tryz.func24 rfl Vf (by simp[CR]) fun C hP=>?_;simp only[CR,Zo,Zg,Zm,Zc,Zf,Zl,Zh,Zs,Zi,Zb,Zk,Zn,Zu,Zq,Zr,Zz];refine Sz0 ?_;refine Qa hP (Xv ha (by omega)) rfl rfl rfl ?_;unfold kO;refine Sz0 ?_;cases hio:lN n a
 ·refine Sz0 ?_;exact Qc (by simp) rfl
 rw[Bool.true_and];refine Sz0 ?_;refine Qa hP (Gl hd (by omega)) rfl rfl rfl ?_;refine Sz0 ?_;refine ra (fun hv=>?_) (fun hv=>?_)
 ·refine Sz0 ?_;refine Qa hP (GQ ha hd (by omega) (by omega)) rfl rfl rfl ?_;refine Sz0 ?_;refine Qa hP (lu (n:=1) (by omega)) rfl rfl rfl ?_;refine Sz0 ?_;refine Qa hP (XI qv (by rw[ni];decide)) rfl rfl rfl ?_;rw[ni,decide_eq_decide.2 (GO (Nat.gcd (val a) (val d)))];refine Sz0 ?_;refine ep (fun hg=>?_) (fun hg=>?_)
  ·refine Sz0 ?_;exact Qc (congrArg PV.bool (by cases d<;>simp_all)) rfl
  ·refine Sz0 ?_;exact Qc (congrArg PV.bool (by simp[hg])) rfl
 ·refine Sz0 ?_;exact Qc (congrArg PV.bool (by simp_all)) rfl
def Aq:aw:=⟨47,[.t 6],Zr (Zo (.mv 6 (.c .aa)) .nil)<|Zr (Zm 11 0<|
 Zn 12 11<|
 Zm 13 1<|
 Zn 14 13<|
 Zo (.mx 15 (.t 12) (.t 14))<|
 Zo (.mk 16 1 8 3 (Zz 0) (.t 15) (.t 15))<|
 Zm 7 16 .nil)<| .seq (Zr (Zm 17 7<|
 Zn 18 17<|
 Zc 19 0 .nil)<| .block 0<| .loop<|Zr (Zb 20 .lss 19 18 .nil)<| .seq (.cond (.t 20) .skip (.exit 0))<| .seq (.block 1<|Zr (Zm 21 19<|
 Zm 8 21 .nil)<|Zr (Zc 9 0<|
 Zc 10 0 .nil)<| .seq (Zr (Zm 22 8<|
 Zm 23 0<|
 Zn 24 23<|
 Zb 25 .lss 22 24 .nil)<| .cond (.t 25) (.rg (Zm 26 0<|
 Zm 27 8<|
 Zi 28 1 26 27<|
 Zl 29 1 28<|
 Zm 9 29 .nil)) .skip)<| .seq (Zr (Zm 30 8<|
 Zm 31 1<|
 Zn 32 31<|
 Zb 33 .lss 30 32 .nil)<| .cond (.t 33) (.rg (Zm 34 1<|
 Zm 35 8<|
 Zi 36 1 34 35<|
 Zl 37 1 36<|
 Zm 10 37 .nil)) .skip)<| .rg (Zm 38 7<|
 Zm 39 8<|
 Zm 40 2<|
 Zm 41 9<|
 Zm 42 10<|
 Zo (.call (some 43) false (.t 40) [.t 41,.t 42])<|
 Zi 44 1 38 39<|
 Zs 1 44 43 .nil))<| .rg (Zk 45 .add 19 1<|
 Zm 19 45 .nil))<|Zr (Zm 46 7<|
 Zm 6 46 .nil) .ret⟩
theorem SJ:Qe Tryz.prog Tryz.f185=some Aq:=by kernel_rfl
def Ar:aw:=⟨24,[.t 2],Zr (Zo (.mv 2 (.c .aa)) .nil)<|Zr (Zm 4 0<|
 Zn 5 4<|
 Zm 3 5 .nil)<| .seq (.block 0<| .loop<| .seq (Zr (Zm 6 3<|
 Zk 7 .gtr 6 0<|
 Zm 8 7<|
 Zg 8 true (.mv 9 (.t 0))<|
 Zg 8 true (.mv 10 (.t 3))<|
 Zg 8 true (.bin 11 .sub false (.t 10) (.c (Zz 1)))<|
 Zg 8 true (.idx 12 1 (.t 9) (.t 11))<|
 Zg 8 true (.ld 13 1 false (.t 12))<|
 Zg 8 true (.bin 14 .eql false (.t 13) (.c (Zz 0)))<|
 Zo (.pick 15 (.t 8) (.t 14) (.c (.bool false))) .nil)<| .cond (.t 15) .skip (.exit 0))<| .block 1<| .rg (Zm 16 3<|
 Zk 17 .sub 16 1<|
 Zm 3 17 .nil))<| .seq (Zr (Zm 18 3<|
 Zk 19 .eql 18 0 .nil)<| .cond (.t 19) (Zr (Zo (.mv 2 (.c .aa)) .nil) .ret) .skip)<|Zr (Zm 20 0<|
 Zm 21 3<|
 Zm 22 3<|
 Zo (.sl 23 1 (.t 20) none (some (.t 21)) (some (.t 22)))<|
 Zm 2 23 .nil) .ret⟩
theorem SK:Qe Tryz.prog Tryz.f184=some Ar:=by kernel_rfl
def As:aw:=⟨17,[.t 2],Zr (Zc 2 0 .nil)<|Zr (Zc 3 0 .nil)<| .seq (Zr (Zm 6 0<|
 Zn 7 6<|
 Zc 8 0 .nil)<| .block 0<| .loop<|Zr (Zb 9 .lss 8 7 .nil)<| .seq (.cond (.t 9) .skip (.exit 0))<| .seq (.block 1<|Zr (Zi 10 1 6 8<|
 Zl 11 1 10<|
 Zm 5 11 .nil)<| .rg (Zm 12 3<|
 Zm 13 5<|
 Zb 14 .add 12 13<|
 Zm 3 14 .nil))<| .rg (Zk 15 .add 8 1<|
 Zm 8 15 .nil))<|Zr (Zm 16 3<|
 Zm 2 16 .nil) .ret⟩
theorem SL:Qe Tryz.prog Tryz.f188=some As:=by kernel_rfl
def At:aw:=⟨17,[.t 4],Zr (Zc 4 0 .nil)<| .seq (Zr (Zm 5 1<|
 Zk 6 .lss 5 0<|
 Zm 7 6<|
 Zg 7 false (.mv 8 (.t 1))<|
 Zg 7 false (.mv 9 (.t 0))<|
 Zg 7 false (.len 10 (.t 9))<|
 Zg 7 false (.bin 11 .geq false (.t 8) (.t 10))<|
 Zo (.pick 12 (.t 7) (.c (.bool true)) (.t 11)) .nil)<| .cond (.t 12) (Zr (Zc 4 0 .nil) .ret) .skip)<|Zr (Zm 13 0<|
 Zm 14 1<|
 Zi 15 1 13 14<|
 Zl 16 1 15<|
 Zm 4 16 .nil) .ret⟩
theorem SM:Qe Tryz.prog Tryz.f189=some At:=by kernel_rfl
def Au:aw:=⟨9,[.t 4],Zr (Zo (.mv 4 (.c .aa)) .nil)<|Zr (Zm 5 0<|
 Zm 6 1<|
 Zq 7 false 185 [.t 5,.t 6,.c (.fn 186 [] [])]<|
 Zq 8 false 184 [.t 7]<|
 Zm 4 8 .nil) .ret⟩
theorem SN:Qe Tryz.prog Tryz.f169=some Au:=by kernel_rfl
def Av:aw:=⟨8,[.t 4],Zr (Zc 4 0 .nil)<|Zr (Zm 5 0<|
 Zm 6 1<|
 Zb 7 .add 5 6<|
 Zm 4 7 .nil) .ret⟩
theorem SO:Qe Tryz.prog Tryz.f186=some Av:=by kernel_rfl
def Aw:aw:=⟨46,[.t 6],Zr (Zc 6 0 .nil)<| .seq (Zr (Zm 12 2<|
 Zk 13 .eql 12 1 .nil)<| .cond (.t 13) (Zr (Zm 14 0<|
 Zq 15 false 188 [.t 14]<|
 Zm 16 1<|
 Zq 17 false 188 [.t 16]<|
 Zm 7 15<|
 Zm 8 17 .nil)<|Zr (Zm 18 7<|
 Zm 19 8<|
 Zb 20 .neq 18 19 .nil)<| .cond (.t 20) (.seq (Zr (Zm 21 7<|
 Zm 22 8<|
 Zb 23 .lss 21 22 .nil)<| .cond (.t 23) (Zr (Zc 6 (-1) .nil) .ret) .skip)<|Zr (Zc 6 1 .nil) .ret) .skip) .skip)<| .seq (Zr (Zm 24 0<|
 Zn 25 24<|
 Zm 26 1<|
 Zn 27 26<|
 Zo (.mx 28 (.t 25) (.t 27))<|
 Zk 29 .sub 28 1<|
 Zm 9 29 .nil)<| .block 0<| .loop<| .seq (Zr (Zm 30 9<|
 Zk 31 .geq 30 0 .nil)<| .cond (.t 31) .skip (.exit 0))<| .seq (.block 1<|Zr (Zm 34 0<|
 Zm 35 9<|
 Zq 36 false 189 [.t 34,.t 35]<|
 Zm 37 1<|
 Zm 38 9<|
 Zq 39 false 189 [.t 37,.t 38]<|
 Zm 10 36<|
 Zm 11 39 .nil)<|Zr (Zm 40 10<|
 Zm 41 11<|
 Zb 42 .neq 40 41 .nil)<| .cond (.t 42) (.seq (Zr (Zm 43 10<|
 Zm 44 11<|
 Zb 45 .lss 43 44 .nil)<| .cond (.t 45) (Zr (Zc 6 (-1) .nil) .ret) .skip)<|Zr (Zc 6 1 .nil) .ret) .skip)<| .rg (Zm 32 9<|
 Zk 33 .sub 32 1<|
 Zm 9 33 .nil))<|Zr (Zc 6 0 .nil) .ret⟩
theorem SP:Qe Tryz.prog Tryz.f172=some Aw:=by kernel_rfl
theorem NU{n m:Bool}{a d b c:List Nat}{k:Nat}(hp:Raw k n a d)(hq:Raw k m b c)(hk:k<2^36):Qd Tryz.prog 168 [PV.rr n a d,PV.rr m b c] (· =PV.rat (rv n a d*rv m b c)):=by
 refine Qf Qk Tryz.func168 rfl Sc (by simp[z0]) fun C hP=>?_;simp only[z0,Zo,Zg,Zm,Zc,Zf,Zl,Zh,Zs,Zi,Zb,Zk,Zn,Zu,Zq,Zr,Zz];refine Sz0 ?_;refine gW hP (tf hp.la hp.ld hp.k1 hp.sa hp.sd (by omega)) rfl rfl rfl ?_;rintro _ ⟨n',a',d',rfl,g1,g2,g3,g4,g5,g6⟩;refine Sz0 ?_;refine gW hP (tf hq.la hq.ld hq.k1 hq.sa hq.sd (by omega)) rfl rfl rfl ?_;rintro _ ⟨m',b',c',rfl,e1,e2,e3,e4,e5,e6⟩;refine Sz0 ?_;have hza:nl (zv n' a').natAbs<=k:=by rw[jU];exact KaY (bP g1) g3
 have hzb:nl (zv m' b').natAbs<=k:=by rw[jU];exact KaY (bP e1) e3
 have hvd:nl (val d')<=k:=KaY (bP g2) g4;have vj:nl (val c')<=k:=KaY (bP e2) e4;have h3:=jP (zv n' a') (zv m' b');have h6:=lK (val d') (val c');refine Qa hP (te (n:=n') (m:=m') g1 e1 (by omega) (by omega)) rfl rfl rfl ?_;refine Sz0 ?_;refine Qa hP (wY g2 e2 (by omega) (by omega)) rfl rfl rfl ?_;refine Sz0 ?_;refine Qa hP (wj (z:=zv n' a'*zv m' b') (Ql _) (by omega) (by show nl _<_;omega)) rfl rfl rfl ?_;refine Sz0 ?_;refine cF ?_;refine Sz0 ?_;refine Qc ?_ rfl;rw[Qz,<-g6,<-e6];unfold rv;rw[Rat.mkRat_mul_mkRat]
theorem Mm{n:Bool}{a d:List Nat}{k:Nat}(hp:Raw k n a d)(hk:k<2^36):Qd Tryz.prog 154 [PV.rr n a d] (· = .int .i64 (ox (rv n a d))):=by refine Qf Qk Tryz.func154 rfl R9 (by simp[zX]) fun C hP=>?_;simp only[zX,Zo,Zg,Zm,Zc,Zf,Zl,Zh,Zs,Zi,Zb,Zk,Zn,Zu,Zq,Zr,Zz];refine Sz0 ?_;refine gW hP (tf hp.la hp.ld hp.k1 hp.sa hp.sd (by omega)) rfl rfl rfl ?_;rintro _ ⟨n',a',d',rfl,g1,g2,g3,g4,g5,g6⟩;refine Sz0 ?_;refine Qa hP (X3 g1 (by omega)) rfl rfl rfl ?_;refine Sz0 ?_;exact Qc (by rw[<-g6];unfold rv;rw[Nx g5]) rfl
theorem NV{x:Int}(h1: -9223372036854775808<=x)(h2:x<=9223372036854775807):Qd Tryz.prog 118 [.int .i64 x] (· =PV.zz x):=by
 refine Qf Qk Tryz.func118 rfl R0 (by simp[zO]) fun C hP=>?_;simp only[zO,Zo,Zg,Zm,Zc,Zf,Zl,Zh,Zs,Zi,Zb,Zk,Zn,Zu,Zq,Zr,Zz];refine Sz0 ?_;refine Qb (fun hc=>?_) (fun hc=>?_)
 ·obtain⟨y,hy⟩:∃y:Nat,x= -((y:Int)+1):=⟨(-(x+1)).toNat,by omega⟩
  have e1:IntKind.i64.wrap (x+1)= -(y:Int):=by rw[pE (by omega) (by omega)];omega
  have e2:IntKind.i64.wrap (0- -(y:Int))=(y:Int):=by rw[pE (by omega) (by omega)];omega
  have e3:IntKind.u64.wrap (y:Int)=(y:Int):=nd (by omega) (by omega);have e4:IntKind.u64.wrap ((y+1:Nat):Int)=((y+1:Nat):Int):=nd (by omega) (by omega);refine Sz4 e1 e2 e3 e4 ?_;refine Qa hP (w7 (by omega)) rfl rfl rfl ?_;refine Sz0 ?_;refine Qa hP (rf true (y+1)) rfl rfl rfl ?_;refine Sz0 ?_;refine cF ?_;refine Sz0 ?_;exact Qc (congrArg PV.zz (by simp;omega)) rfl
 ·obtain⟨y,rfl⟩:∃y:Nat,x=y:=⟨x.toNat,by omega⟩
  refine Sz0 ?_;refine Qa hP (w7 (by omega)) rfl rfl rfl ?_;refine Sz0 ?_;refine Qa hP (rf false y) rfl rfl rfl ?_;refine Sz0 ?_;refine cF ?_;refine Sz0 ?_;exact Qc (congrArg PV.zz (by simp)) rfl
theorem Ib{x:Int}(h1: -9223372036854775808<=x)(h2:x<=9223372036854775807):Qd Tryz.prog 65 [.int .i64 x] (· =PV.rat (x:Rat)):=by refine Qf Qk Tryz.func65 rfl UE (by simp[Dq]) fun C hP=>?_;simp only[Dq,Zo,Zg,Zm,Zc,Zf,Zl,Zh,Zs,Zi,Zb,Zk,Zn,Zu,Zq,Zr,Zz];refine Sz0 ?_;refine Qa hP (NV h1 h2) rfl rfl rfl ?_;refine Sz0 ?_;refine Qa hP wF rfl rfl rfl ?_;refine Sz0 ?_;refine cF ?_;refine Sz0 ?_;exact Qc (by rw[PV.rat,Rat.num_intCast,Rat.den_intCast,PV.num,PV.num,ni];rfl) rfl
theorem XK{n:Bool}{a:List Nat}(ha:Qj a)(bm:a.length<2^42):Qd Tryz.prog 111 [PV.zi n a] (· = .bool (lN n a)):=by
 refine Qf Qk Tryz.func111 rfl RY (by simp[zM]) fun C hP=>?_;simp only[zM,Zo,Zg,Zm,Zc,Zf,Zl,Zh,Zs,Zi,Zb,Zk,Zn,Zu,Zq,Zr,Zz];refine Sz0 ?_;refine ep (fun h0=>?_) (fun h0=>?_)
 ·have:a=[]:=Kas.1 (by omega);subst this;refine Sz0 ?_;cases n
  ·refine Sz0 ?_;refine Qc (congrArg PV.bool ?_) rfl;simp[lN]
  ·refine Sz0 ?_;refine Qc (congrArg PV.bool ?_) rfl;simp[lN]
 ·obtain⟨k,hk⟩:∃k,a.length=k+1:=⟨a.length-1,by omega⟩
  have a9:a≠[]:=fun h=>by rw[h]at hk;simp at hk
  have hl:=GI hk;have e:((k+1:Nat):Int)-1=k:=by omega
  generalize hx:a[k]'(by omega)=x at *
  refine Sz3 hk e hx ?_;refine ep (fun h=>?_) (fun h=>absurd (by omega) h);refine Sz3 hk e hx ?_;refine Qc (congrArg PV.bool ?_) rfl;unfold lN;rw[if_neg a9,hl];exact decide_eq_decide.2 ⟨fun h h'=>h (by injection h' with h';rw[h'];rfl),fun h h'=>h (by rw[show x=0 by omega])⟩
theorem Yq{n:Bool}{a d:List Nat}{k:Nat}(hp:Raw k n a d)(hk:k<2^36):Qd Tryz.prog 60 [PV.rr n a d] (· = .bool (kO n a d)):=by
 obtain⟨ha,hd,sa,sd,k1⟩:=hp;refine Qf Qk Tryz.func60 rfl UD (by simp[Dk]) fun C hP=>?_;simp only[Dk,Zo,Zg,Zm,Zc,Zf,Zl,Zh,Zs,Zi,Zb,Zk,Zn,Zu,Zq,Zr,Zz];refine Sz0 ?_;refine Qa hP (XK ha (by omega)) rfl rfl rfl ?_;unfold kO;refine Sz0 ?_;cases hio:lN n a
 ·refine Sz1 @Bool.not_false ?_;exact Qc (by simp) rfl
 rw[Bool.true_and];refine Sz1 @Bool.not_true ?_;refine Q6 (fun h0=>?_) (fun h0=>?_)
 ·have:d=[]:=Kas.1 (by omega);subst this;refine Sz0 ?_;exact Qc (by simp) rfl
 obtain⟨k',du⟩:∃k,d.length=k+1:=⟨d.length-1,by omega⟩
 have a9:d≠[]:=fun h=>by rw[h]at du;simp at du
 have hl:=GI du;have e:((k'+1:Nat):Int)-1=k':=by omega
 generalize hx:d[k']'(by omega)=x at *
 refine Sz3 du e hx ?_;refine Qb (fun h1=>?_) (fun h1=>?_)
 ·refine Sz0 ?_;refine Qc (congrArg PV.bool ?_) rfl;rw[hl,show x=0 by omega];simp
 have bG:x≠0:=by omega
 refine Sz0 ?_;refine Qa hP (wZ (by omega)) rfl rfl rfl ?_;refine Sz0 ?_;refine Q6 (fun h2=>?_) (fun h2=>?_)
 ·subst h2;refine Sz0 ?_;refine Qc (congrArg PV.bool ?_) rfl;simp[val]
 ·refine Sz0 ?_;refine Qa hP (IX ha hd (by omega) (by omega)) rfl rfl rfl ?_;have hD:0<val d:=by apply Ka8;intro h0;have Kg:=Ce hd (by rw[hl];simpa using bG);rw[h0,ek]at Kg;exact a9 Kg.symm
  have qv:(aj (Nat.gcd (val a) (val d))).length<2^43:=by have h3:=eX (Kcs (val a) hD);have h4:=bP hd;unfold nl at h3 h4;omega
  refine Sz0 ?_;refine Qa hP (B4 qv) rfl rfl rfl ?_;refine Sz0 ?_;refine Qc (congrArg PV.bool ?_) rfl;rw[hl];simp[a9,bG]
theorem Yr{a:List Int}(hl:a.length<2^42):Qd Tryz.prog 184 [PV.mono a] (· =PV.mono (nu a)):=by
 refine Qf Qk Tryz.func184 rfl SK (by simp[Ar]) fun C hP=>?_;simp only[Ar,Zo,Zg,Zm,Zc,Zf,Zl,Zh,Zs,Zi,Zb,Zk,Zn,Zu,Zq,Zr,Zz];refine Sz0 ?_;refine Q5 (by repeat (first|exact Qx|exact Qq|exact Qr|exact Qt|exact Qu|apply Qp|apply Qw|apply Q3|apply Q8|apply Q9|apply Qn)) [(3,3),(6,17)] [] (fun n J hp=>n<=a.length/\kg a n=nu a/\J 3= .int .i64 n/\hp=au) a.length ?_ ?_
 ·refine⟨Kae _,rfl,?_⟩;exact Tz0
 rintro n J _ ⟨hn,hc,h3,rfl⟩;refine Sz1 h3 ?_;refine ep (fun hg=>?_) (fun hg=>?_)
 ·obtain _|n:=n
  ·omega
  have e:((n+1:Nat):Int)-1=n:=by omega
  simp only[kg]at hc;simp+decide (disch:=try exact D2 h3 e) only[go_sem,h3,e];refine Qb (fun hz=>?_) (fun hz=>?_)
  ·rw[if_pos (by simp[hz,show n<a.length by omega])]at hc;refine Sz2 h3 e ?_;refine Qm n (by omega) ⟨by omega,hc,?_⟩;exact Tz0
  ·rw[if_neg (by simpa[show n<a.length by omega]using hz)]at hc;refine Sz2 h3 e ?_;refine Qb (fun h=>by omega) (fun h=>?_);refine Sz2 h3 e ?_;exact Qc (congrArg PV.mono hc) rfl
 ·obtain rfl:n=0:=by omega
  refine Sz1 h3 ?_;exact lE (Ny (by rw[<-hc];rfl)) rfl
theorem Gp{a:List Int}(hl:a.length<=1048576)(hb:∀x∈a,0<=x/\x<=1099511627776):Qd Tryz.prog 188 [PV.mono a] (· = .int .i64 (hZ a)):=by
 refine Qf Qk Tryz.func188 rfl SL (by simp[As]) fun C hP=>?_;simp only[As,Zo,Zg,Zm,Zc,Zf,Zl,Zh,Zs,Zi,Zb,Zk,Zn,Zu,Zq,Zr,Zz];refine Sz0 ?_;refine Q5 (by repeat (first|exact Qx|exact Qq|exact Qr|exact Qt|exact Qu|apply Qp|apply Qw|apply Q3|apply Q8|apply Q9|apply Qn)) [(3,3),(5,5),(8,15)] [] (fun k J hp=>∃(i:Nat)(s:Int),k=a.length-i/\i<=a.length/\0<=s/\s<=1099511627776*i/\s+(a.drop i).sum=hZ a/\J 8= .int .i64 (i:Nat)/\J 3= .int .i64 s/\hp=au) a.length ?_ ?_
 ·refine⟨0,0,rfl,by omega,by omega,by omega,by simp[hZ],?_⟩;refine Sz0 ?_;simp
 rintro _ J _ ⟨i,s,rfl,hi,qH,dT,mi,h8,h3,rfl⟩;refine Sz2 h8 h3 ?_;refine Qb (fun hg=>?_) (fun hg=>?_)
 ·have aA:i<a.length:=by omega
  have hx:=hb _ (Kao aA);rw[Kar aA,Kcu]at mi;generalize cL:a[i]=x at *
  refine Sz3 h8 h3 cL ?_;refine Qm (a.length-(i+1)) (by omega) ⟨i+1,s+x,rfl,by omega,by omega,by push_cast;omega,by omega,?_⟩;exact Tz0
 ·rw[Kak (by omega),List.sum_nil,Int.add_zero]at mi;refine Sz1 h3 ?_;exact Qc (by rw[mi]) rfl
theorem Mn{a:List Int}{v:Int}(hl:a.length<2^42):Qd Tryz.prog 189 [PV.mono a,.int .i64 v] (· = .int .i64 (if v<0 then 0 else eN a v.toNat)):=by
 refine Qf Qk Tryz.func189 rfl SM (by simp[At]) fun C hP=>?_;simp only[At,Zo,Zg,Zm,Zc,Zf,Zl,Zh,Zs,Zi,Zb,Zk,Zn,Zu,Zq,Zr,Zz];refine Sz0 ?_;refine Q6 (fun h1=>?_) (fun h1=>?_)
 ·refine Sz0 ?_;exact Qc (by rw[if_pos h1]) rfl
 ·obtain⟨n,rfl⟩:∃n:Nat,v=n:=⟨v.toNat,by omega⟩
  rw[if_neg h1];refine Sz0 ?_;refine Qb (fun h2=>?_) (fun h2=>?_)
  ·refine Sz0 ?_;exact Qc (by rw[gZ (by omega)]) rfl
  ·have hn:n<a.length:=by omega
   refine Sz0 ?_;exact Qc (by rw[iI hn]) rfl
theorem wH{a:List Int}{i:Nat}(hl:a.length<2^42):Qd Tryz.prog 189 [PV.mono a,.int .i64 i] (· = .int .i64 (eN a i)):=by
 have:=Mn (v:=i) hl
 rwa[if_neg (by omega),KbU]at this
theorem Xh{a b:List Int}{f:Nat}{g:Int->Int->Int}(bm:a.length<2^40)(dv:b.length<2^40)(hf:∀i,Qd Tryz.prog f [.int .i64 (eN a i),.int .i64 (eN b i)] (· = .int .i64 (g (eN a i) (eN b i)))):
  Qd Tryz.prog 185 [PV.mono a,PV.mono b,.fn f [] []] (· =PV.mono (gG g a b)):=by
 refine Qf Qk Tryz.func185 rfl SJ (by simp[Aq]) fun C hP=>?_;simp only[Aq,Zo,Zg,Zm,Zc,Zf,Zl,Zh,Zs,Zi,Zb,Zk,Zn,Zu,Zq,Zr,Zz];refine Sz0 ?_;refine Q5 (by repeat (first|exact Qx|exact Qq|exact Qr|exact Qt|exact Qu|apply Qp|apply Qw|apply Q3|apply Q8|apply Q9|apply Qn)) [(8,10),(19,45)] [] (fun k J hp=>∃i,k=max a.length b.length-i/\i<=max a.length b.length/\J 19= .int .i64 (i:Nat)/\hp=Qi au 16 ⟨1,3,lT ((gG g a b).take i++List.replicate (max a.length b.length-i) 0),false⟩) (max a.length b.length) ?_ ?_
 ·refine⟨0,rfl,by omega,?_⟩;refine Sz0 ?_;simp
 rintro _ J _ ⟨i,rfl,hi,ij,rfl⟩;refine Sz1 ij ?_;refine Qb (fun hg=>?_) (fun hg=>?_)
 ·have aA:i<max a.length b.length:=by omega
  have hfi:=hf i;have mX:((gG g a b).take i).length=i:=by rw[Kau,lv];omega
  have jG:=fun v=>NA (v:=v) (z:=(0:Int)) mX (show 0<max a.length b.length-i by omega);have hlen:i<((gG g a b).take i++List.replicate (max a.length b.length-i) (0:Int)).length:=by rw[KaG,mX,List.length_replicate];omega
  have cy:=Bu (g:=g) aA;have fin:∀x y,x=eN a i->y=eN b i->Qd Tryz.prog f [.int .i64 x,.int .i64 y] (· = .int .i64 (g (eN a i) (eN b i))):=by rintro _ _ rfl rfl;exact hfi
  refine Sz1 ij ?_;refine Qb (fun h1=>?_) (fun h1=>?_)
  ·have gi:i<a.length:=by omega
   simp+decide (disch:=try exact D1 ij) only[go_sem,ij];refine Qb (fun h2=>?_) (fun h2=>?_)
   ·have iP:i<b.length:=by omega
    simp+decide (disch:=try exact D1 ij) only[go_sem,ij];refine Qa hP (fin _ _ (iI gi).symm (iI iP).symm) rfl rfl rfl ?_;simp+decide (disch:=first|omega|rfl|(simp+decide only[go_sem,ij,jG,<-cy]<;>rfl)|fail) only[go_sem,ij,jG,<-cy];refine Qm (max a.length b.length-(i+1)) (by omega) ⟨i+1,rfl,by omega,?_⟩;exact Tz1 @Nat.sub_sub
   ·refine Sz1 ij ?_;refine Qa hP (fin _ _ (iI gi).symm (gZ (by omega)).symm) rfl rfl rfl ?_;simp+decide (disch:=first|omega|rfl|(simp+decide only[go_sem,ij,jG,<-cy]<;>rfl)|fail) only[go_sem,ij,jG,<-cy];refine Qm (max a.length b.length-(i+1)) (by omega) ⟨i+1,rfl,by omega,?_⟩;exact Tz1 @Nat.sub_sub
  ·refine Sz1 ij ?_;refine Qb (fun h2=>?_) (fun h2=>by omega);have iP:i<b.length:=by omega
   simp+decide (disch:=try exact D1 ij) only[go_sem,ij];refine Qa hP (fin _ _ (gZ (by omega)).symm (iI iP).symm) rfl rfl rfl ?_;simp+decide (disch:=first|omega|rfl|(simp+decide only[go_sem,ij,jG,<-cy]<;>rfl)|fail) only[go_sem,ij,jG,<-cy];refine Qm (max a.length b.length-(i+1)) (by omega) ⟨i+1,rfl,by omega,?_⟩;exact Tz1 @Nat.sub_sub
 ·obtain rfl:i=max a.length b.length:=by omega
  refine cC ?_;exact Qc (by simp[Kai,lv]) rfl
theorem Ys{x y:Int}(h1: -9223372036854775808<=x+y)(h2:x+y<=9223372036854775807):Qd Tryz.prog 186 [.int .i64 x,.int .i64 y] (· = .int .i64 (x+y)):=by refine Qf Qk Tryz.func186 rfl SO (by simp[Av]) fun C hP=>?_;simp only[Av,Zo,Zg,Zm,Zc,Zf,Zl,Zh,Zs,Zi,Zb,Zk,Zn,Zu,Zq,Zr,Zz];refine Sz0 ?_;exact Qc rfl rfl
theorem Mo{k:Nat}{a b:List Int}(ha:MB k a)(hb:MB k b)(hk:k<=1099511627776):Qd Tryz.prog 169 [PV.mono a,PV.mono b] (· =PV.mono (cH a b)):=by have h1:=ha.len;have h2:=hb.len;have hz:=lv (· + ·) a b;refine Qf Qk Tryz.func169 rfl SN (by simp[Au]) fun C hP=>?_;simp only[Au,Zo,Zg,Zm,Zc,Zf,Zl,Zh,Zs,Zi,Zb,Zk,Zn,Zu,Zq,Zr,Zz];refine Sz0 ?_;refine Qa hP (Xh (f:=186) (g:=(· + ·)) (by omega) (by omega) (fun i=>Ys (by have:=ha.eN i;have:=hb.eN i;omega) (by have:=ha.eN i;have:=hb.eN i;omega))) rfl rfl rfl ?_;refine Sz0 ?_;refine Qa hP (Yr (by omega)) rfl rfl rfl ?_;refine Sz0 ?_;exact Qc rfl rfl
theorem Mp{k:Nat}{a b:List Int}{o:Int}(ha:MB k a)(hb:MB k b)(hk:k<=1099511627776):Qd Tryz.prog 172 [PV.mono a,PV.mono b,.int .i64 o] (· = .int .i64 (ia o a b)):=by
 have h1:=ha.len;have h2:=hb.len;have eB:∀x∈a,0<=x/\x<=1099511627776:=fun x hx=>by have:=ha.lo x hx;have:=ha.hi x hx;omega
 have ft:∀x∈b,0<=x/\x<=1099511627776:=fun x hx=>by have:=hb.lo x hx;have:=hb.hi x hx;omega
 refine Qf Qk Tryz.func172 rfl SP (by simp[Aw]) fun C hP=>?_;simp only[Aw,Zo,Zg,Zm,Zc,Zf,Zl,Zh,Zs,Zi,Zb,Zk,Zn,Zu,Zq,Zr,Zz];refine Sz0 ?_;refine Qb (fun ho=>?_) (fun ho=>?_)
 ·refine Sz0 ?_;refine Qa hP (Gp (by omega) eB) rfl rfl rfl ?_;refine Sz0 ?_;refine Qa hP (Gp (by omega) ft) rfl rfl rfl ?_;refine Sz0 ?_;refine Qb (fun hd=>?_) (fun hd=>?_)
  ·have gq:ia o a b=dQ (hZ a) (hZ b):=by unfold ia;rw[if_pos ⟨ho,hd⟩]
   refine Sz0 ?_;refine Qb (fun h5=>?_) (fun h5=>?_)
   ·refine Sz0 ?_;exact Qc (by rw[gq,dQ,if_pos h5]) rfl
   ·refine Sz0 ?_;exact Qc (by rw[gq,dQ,if_neg h5,if_pos (by omega)]) rfl
  have gq:ia o a b=bh a b:=by unfold ia;rw[if_neg (fun h=>hd h.2)]
  refine Sz0 ?_;refine Q5 (by repeat (first|exact Qx|exact Qq|exact Qr|exact Qt|exact Qu|apply Qp|apply Qw|apply Q3|apply Q8|apply Q9|apply Qn)) [(6,6),(9,11),(30,45)] [] (fun n J hp=>n<=max a.length b.length/\cZ a b n=bh a b/\J 9= .int .i64 ((n:Int)-1)/\hp=au) (max a.length b.length) ?_ ?_
  ·refine⟨by omega,rfl,?_⟩;exact Tz0
  rintro n J _ ⟨hn,hc,h9,rfl⟩;refine Sz1 h9 ?_;refine Qb (fun hg=>?_) (fun hg=>?_)
  ·obtain _|n:=n
   ·omega
   have e:((n+1:Nat):Int)-1=n:=by omega
   rw[cZ]at hc;refine Sz2 h9 e ?_;refine Qa hP (wH (by omega)) rfl rfl rfl ?_;refine Sz2 h9 e ?_;refine Qa hP (wH (by omega)) rfl rfl rfl ?_;refine Sz2 h9 e ?_;refine Qb (fun h4=>?_) (fun h4=>?_)
   ·rw[if_neg h4]at hc;refine Sz2 h9 e ?_;refine Qb (fun h5=>?_) (fun h5=>?_)
    ·refine Sz2 h9 e ?_;exact Qc (by rw[gq,<-hc,dQ,if_pos h5]) rfl
    ·refine Sz2 h9 e ?_;exact Qc (by rw[gq,<-hc,dQ,if_neg h5,if_pos (by omega)]) rfl
   ·rw[if_pos (by omega)]at hc;refine Sz2 h9 e ?_;refine Qm n (by omega) ⟨by omega,hc,?_⟩;exact Tz0
  ·obtain rfl:n=0:=by omega
   refine Sz0 ?_;exact Qc (by rw[gq,<-hc];rfl) rfl
 ·have gq:ia o a b=bh a b:=by unfold ia;rw[if_neg (fun h=>ho h.1)]
  refine Sz0 ?_;refine Q5 (by repeat (first|exact Qx|exact Qq|exact Qr|exact Qt|exact Qu|apply Qp|apply Qw|apply Q3|apply Q8|apply Q9|apply Qn)) [(6,6),(9,11),(30,45)] [] (fun n J hp=>n<=max a.length b.length/\cZ a b n=bh a b/\J 9= .int .i64 ((n:Int)-1)/\hp=au) (max a.length b.length) ?_ ?_
  ·refine⟨by omega,rfl,?_⟩;exact Tz0
  rintro n J _ ⟨hn,hc,h9,rfl⟩;refine Sz1 h9 ?_;refine Qb (fun hg=>?_) (fun hg=>?_)
  ·obtain _|n:=n
   ·omega
   have e:((n+1:Nat):Int)-1=n:=by omega
   rw[cZ]at hc;refine Sz2 h9 e ?_;refine Qa hP (wH (by omega)) rfl rfl rfl ?_;refine Sz2 h9 e ?_;refine Qa hP (wH (by omega)) rfl rfl rfl ?_;refine Sz2 h9 e ?_;refine Qb (fun h4=>?_) (fun h4=>?_)
   ·rw[if_neg h4]at hc;refine Sz2 h9 e ?_;refine Qb (fun h5=>?_) (fun h5=>?_)
    ·refine Sz2 h9 e ?_;exact Qc (by rw[gq,<-hc,dQ,if_pos h5]) rfl
    ·refine Sz2 h9 e ?_;exact Qc (by rw[gq,<-hc,dQ,if_neg h5,if_pos (by omega)]) rfl
   ·rw[if_pos (by omega)]at hc;refine Sz2 h9 e ?_;refine Qm n (by omega) ⟨by omega,hc,?_⟩;exact Tz0
  ·obtain rfl:n=0:=by omega
   refine Sz0 ?_;exact Qc (by rw[gq,<-hc];rfl) rfl
theorem AR(x:Int):Qd Tryz.prog 125 [.int .i64 x] (· = .int .i64 (gA x)):=by
 refine Qf Qk Tryz.func125 rfl RO (by simp[zJ]) fun C hP=>?_;simp only[zJ,Zo,Zg,Zm,Zc,Zf,Zl,Zh,Zs,Zi,Zb,Zk,Zn,Zu,Zq,Zr,Zz];refine Sz0 ?_;refine Qb (fun h=>?_) (fun h=>?_)
 ·refine Sz0 ?_;exact Qc (by rw[gA,if_pos h]) rfl
 refine Sz0 ?_;refine Qb (fun h2=>?_) (fun h2=>?_)
 ·refine Sz0 ?_;exact Qc (by rw[gA,if_neg h,if_pos h2]) rfl
 ·refine Sz0 ?_;exact Qc (by rw[gA,if_neg h,if_neg h2]) rfl
theorem Yt{a:List Int}{v:Int}(hl:a.length<2^42):Qd Tryz.prog 126 [PV.mono a,.int .i64 v] (· = .int .i64 (if v<0 then 0 else eN a v.toNat)):=by
 refine Qf Qk Tryz.func126 rfl RM (by simp[zH]) fun C hP=>?_;simp only[zH,Zo,Zg,Zm,Zc,Zf,Zl,Zh,Zs,Zi,Zb,Zk,Zn,Zu,Zq,Zr,Zz];refine Sz0 ?_;refine Q6 (fun h1=>?_) (fun h1=>?_)
 ·refine Sz0 ?_;exact Qc (by rw[if_pos h1]) rfl
 ·obtain⟨n,rfl⟩:∃n:Nat,v=n:=⟨v.toNat,by omega⟩
  rw[if_neg h1];refine Sz0 ?_;refine Qb (fun h2=>?_) (fun h2=>?_)
  ·refine Sz0 ?_;exact Qc (by rw[gZ (by omega)]) rfl
  ·have hn:n<a.length:=by omega
   refine Sz0 ?_;exact Qc (by rw[iI hn]) rfl
theorem kI{a:List Int}{i:Nat}(hl:a.length<2^42):Qd Tryz.prog 126 [PV.mono a,.int .i64 i] (· = .int .i64 (eN a i)):=by
 have:=Yt (v:=i) hl
 rwa[if_neg (by omega),KbU]at this
theorem vM{a:List Int}(hl:a.length<=1048576)(hb:∀x∈a,0<=x/\x<=1099511627776):Qd Tryz.prog 124 [PV.mono a] (· = .int .i64 (hZ a)):=by
 refine Qf Qk Tryz.func124 rfl RL (by simp[zG]) fun C hP=>?_;simp only[zG,Zo,Zg,Zm,Zc,Zf,Zl,Zh,Zs,Zi,Zb,Zk,Zn,Zu,Zq,Zr,Zz];refine Sz0 ?_;refine Q5 (by repeat (first|exact Qx|exact Qq|exact Qr|exact Qt|exact Qu|apply Qp|apply Qw|apply Q3|apply Q8|apply Q9|apply Qn|apply Q7)) [(3,16)] [] (fun k J hp=>∃(i:Nat)(s:Int),k=a.length-i/\i<=a.length/\0<=s/\s<=1099511627776*i/\s+(a.drop i).sum=hZ a/\J 4= .int .i64 (i:Nat)/\J 3= .int .i64 s/\hp=au) a.length ?_ ?_
 ·refine⟨0,0,rfl,by omega,by omega,by omega,by simp[hZ],?_⟩;refine Sz0 ?_;simp
 rintro _ J _ ⟨i,s,rfl,hi,qH,dT,mi,h4,h3,rfl⟩;refine Sz2 h4 h3 ?_;refine Qb (fun hg=>?_) (fun hg=>?_)
 ·have aA:i<a.length:=by omega
  have hx:=hb _ (Kao aA);rw[Kar aA,Kcu]at mi;generalize cL:a[i]=x at *
  refine Sz3 h4 h3 cL ?_;refine Qm (a.length-(i+1)) (by omega) ⟨i+1,s+x,rfl,by omega,by omega,by push_cast;omega,by omega,?_⟩;exact Tz0
 ·rw[Kak (by omega),List.sum_nil,Int.add_zero]at mi;refine Sz1 h3 ?_;exact Qc (by rw[mi]) rfl
theorem Yu{k:Nat}{a b:List Int}(ha:MB k a)(hb:MB k b)(hk:k<=1099511627776):Qd Tryz.prog 110 [PV.mono a,PV.mono b] (· =PV.mono (gG (· + ·) a b)):=by
 have h1:=ha.len;have h2:=hb.len;have hz:=lv (· + ·) a b;refine Qf Qk Tryz.func110 rfl RN (by simp[zI]) fun C hP=>?_;simp only[zI,Zo,Zg,Zm,Zc,Zf,Zl,Zh,Zs,Zi,Zb,Zk,Zn,Zu,Zq,Zr,Zz];refine Sz0 ?_;refine mC 5 900 1 3 (by omega) Tz0 ?_;refine Q5 (by repeat (first|exact Qx|exact Qq|exact Qr|exact Qt|exact Qu|apply Qp|apply Qw|apply Q3|apply Q8|apply Q9|apply Qn|apply Q7)) [(5,28)] [27,28,900] (fun m J hp=>∃(i:Nat)(out:List Int),m=max a.length b.length-i/\i<=max a.length b.length/\out=(gG (· + ·) a b).take i/\J 5= .ms 900 out.length/\J 6= .int .i64 i/\hp 900=some ⟨1,3,lT out,false⟩) (max a.length b.length) ?_ ?_
 ·refine⟨0,[],rfl,by omega,by simp,?_⟩;refine Sz0 ?_;simp
 rintro _ J h ⟨i,out,rfl,hi,iZ,h5,h6,hh⟩;have dZ:out.length=i:=by rw[iZ,Kau,hz];omega
 refine Sz2 h5 h6 ?_;refine Q6 (fun hg=>?_) (fun hg=>?_)
 ·have ak:i<max a.length b.length:=by omega
  have cy:=Bu (g:=(· + ·)) ak;have ea:=ha.eN i;have eb:=hb.eN i;refine Sz2 h5 h6 ?_;refine Qa hP (kI (a:=a) (i:=i) (by omega)) rfl rfl rfl ?_;refine Sz2 h5 h6 ?_;refine Qa hP (kI (a:=b) (i:=i) (by omega)) rfl rfl rfl ?_;refine Sz2 h5 h6 ?_;rw[dm (f:=fun(x:Int)=>.int .i64 x) (y:=eN a i+eN b i) (xs:=out) (ty':=3) (fz:=false) (Tz1 hh) bA (by omega) rfl (by omega) (by omega)];refine Sz2 h5 h6 ?_;refine Qm (max a.length b.length-(i+1)) (by omega) ⟨i+1,out++[eN a i+eN b i],rfl,by omega,by rw[cy,iZ],?_⟩;refine Sz0 ?_;simp
 refine Sz2 h5 h6 ?_;refine Qb (fun gm=>?_) (fun gm=>?_)
 ·have ak:i<max a.length b.length:=by omega
  have cy:=Bu (g:=(· + ·)) ak;have ea:=ha.eN i;have eb:=hb.eN i;refine Sz2 h5 h6 ?_;refine Qa hP (kI (a:=a) (i:=i) (by omega)) rfl rfl rfl ?_;refine Sz2 h5 h6 ?_;refine Qa hP (kI (a:=b) (i:=i) (by omega)) rfl rfl rfl ?_;refine Sz2 h5 h6 ?_;rw[dm (f:=fun(x:Int)=>.int .i64 x) (y:=eN a i+eN b i) (xs:=out) (ty':=3) (fz:=false) (Tz1 hh) bA (by omega) rfl (by omega) (by omega)];refine Sz2 h5 h6 ?_;refine Qm (max a.length b.length-(i+1)) (by omega) ⟨i+1,out++[eN a i+eN b i],rfl,by omega,by rw[cy,iZ],?_⟩;refine Sz0 ?_;simp
 obtain rfl:i=max a.length b.length:=by omega
 rw[Kai (by omega)]at iZ;subst iZ;refine ux h5 hh ?_;exact Qc (by rw[Kai (by simp)]) rfl
theorem BU(x y:Int):gA (x-y)=dQ x y:=by unfold gA dQ;(repeat' split)<;>omega
theorem Yv{k:Nat}{a b:List Int}{o:Int}(ha:MB k a)(hb:MB k b)(hk:k<=1099511627776):Qd Tryz.prog 75 [PV.mono a,PV.mono b,.int .i64 o] (· = .int .i64 (ia o a b)):=by
 have h1:=ha.len;have h2:=hb.len;have eB:∀x∈a,0<=x/\x<=1099511627776:=fun x hx=>by have:=ha.lo x hx;have:=ha.hi x hx;omega
 have ft:∀x∈b,0<=x/\x<=1099511627776:=fun x hx=>by have:=hb.lo x hx;have:=hb.hi x hx;omega
 have da:=Ju ha;have db:=Ju hb;refine Qf Qk Tryz.func75 rfl Un (by simp[Dw]) fun C hP=>?_;simp only[Dw,Zo,Zg,Zm,Zc,Zf,Zl,Zh,Zs,Zi,Zb,Zk,Zn,Zu,Zq,Zr,Zz];refine Sz0 ?_;refine ep (fun ho=>?_) (fun ho=>?_)
 ·refine Sz0 ?_;refine Qa hP (vM (by omega) eB) rfl rfl rfl ?_;refine Sz0 ?_;refine Qa hP (vM (by omega) ft) rfl rfl rfl ?_;refine Sz0 ?_;refine Qb (fun hd=>?_) (fun hd=>?_)
  ·have gq:ia o a b=dQ (hZ a) (hZ b):=by unfold ia;rw[if_pos ⟨ho,hd⟩]
   refine Sz0 ?_;refine Qa hP (vM (by omega) eB) rfl rfl rfl ?_;refine Sz0 ?_;refine Qa hP (vM (by omega) ft) rfl rfl rfl ?_;refine Sz0 ?_;refine Qa hP (AR _) rfl rfl rfl ?_;refine Sz0 ?_;exact Qc (by rw[gq,BU]) rfl
  have gq:ia o a b=bh a b:=by unfold ia;rw[if_neg (fun h=>hd h.2)]
  refine Sz0 ?_;refine Q5 (by repeat (first|exact Qx|exact Qq|exact Qr|exact Qt|exact Qu|apply Qp|apply Qw|apply Q3|apply Q8|apply Q9|apply Qn|apply Q7)) [(6,7),(29,47)] [] (fun n J hp=>n<=max a.length b.length/\cZ a b n=bh a b/\J 7= .int .i64 ((n:Int)-1)/\hp=au) (max a.length b.length) ?_ ?_
  ·refine⟨by omega,rfl,?_⟩;exact Tz0
  rintro n J _ ⟨hn,hc,h7,rfl⟩;refine Sz1 h7 ?_;refine Qb (fun hg=>?_) (fun hg=>?_)
  ·obtain _|n:=n
   ·omega
   have e:((n+1:Nat):Int)-1=n:=by omega
   have ea:=ha.eN n;have eb:=hb.eN n;rw[cZ]at hc;refine Sz2 h7 e ?_;refine Qa hP (kI (by omega)) rfl rfl rfl ?_;refine Sz2 h7 e ?_;refine Qa hP (kI (by omega)) rfl rfl rfl ?_;refine Sz2 h7 e ?_;refine Qb (fun h4=>?_) (fun h4=>?_)
   ·rw[if_neg h4]at hc;refine Sz2 h7 e ?_;refine Qa hP (kI (by omega)) rfl rfl rfl ?_;refine Sz2 h7 e ?_;refine Qa hP (kI (by omega)) rfl rfl rfl ?_;refine Sz2 h7 e ?_;refine Qa hP (AR _) rfl rfl rfl ?_;refine Sz2 h7 e ?_;exact Qc (by rw[gq,<-hc,BU]) rfl
   ·rw[if_pos (by omega)]at hc;refine Sz2 h7 e ?_;refine Qm n (by omega) ⟨by omega,hc,?_⟩;exact Tz0
  ·obtain rfl:n=0:=by omega
   refine Sz0 ?_;exact Qc (by rw[gq,<-hc];rfl) rfl
 ·have gq:ia o a b=bh a b:=by unfold ia;rw[if_neg (fun h=>ho h.1)]
  refine Sz0 ?_;refine Q5 (by repeat (first|exact Qx|exact Qq|exact Qr|exact Qt|exact Qu|apply Qp|apply Qw|apply Q3|apply Q8|apply Q9|apply Qn|apply Q7)) [(6,7),(29,47)] [] (fun n J hp=>n<=max a.length b.length/\cZ a b n=bh a b/\J 7= .int .i64 ((n:Int)-1)/\hp=au) (max a.length b.length) ?_ ?_
  ·refine⟨by omega,rfl,?_⟩;exact Tz0
  rintro n J _ ⟨hn,hc,h7,rfl⟩;refine Sz1 h7 ?_;refine Qb (fun hg=>?_) (fun hg=>?_)
  ·obtain _|n:=n
   ·omega
   have e:((n+1:Nat):Int)-1=n:=by omega
   have ea:=ha.eN n;have eb:=hb.eN n;rw[cZ]at hc;refine Sz2 h7 e ?_;refine Qa hP (kI (by omega)) rfl rfl rfl ?_;refine Sz2 h7 e ?_;refine Qa hP (kI (by omega)) rfl rfl rfl ?_;refine Sz2 h7 e ?_;refine Qb (fun h4=>?_) (fun h4=>?_)
   ·rw[if_neg h4]at hc;refine Sz2 h7 e ?_;refine Qa hP (kI (by omega)) rfl rfl rfl ?_;refine Sz2 h7 e ?_;refine Qa hP (kI (by omega)) rfl rfl rfl ?_;refine Sz2 h7 e ?_;refine Qa hP (AR _) rfl rfl rfl ?_;refine Sz2 h7 e ?_;exact Qc (by rw[gq,<-hc,BU]) rfl
   ·rw[if_pos (by omega)]at hc;refine Sz2 h7 e ?_;refine Qm n (by omega) ⟨by omega,hc,?_⟩;exact Tz0
  ·obtain rfl:n=0:=by omega
   refine Sz0 ?_;exact Qc (by rw[gq,<-hc];rfl) rfl
theorem PD{a b:Rat}{k:Nat}(ha:rs a<=k)(hb:rs b<=k)(hk:k<2^34):Qd Tryz.prog 41 [PV.rat a,PV.rat b] (· =PV.rat (a+b)):=by
 have:=GS (jo ha) (jo hb) hk
 rwa[js,js]at this
theorem IK{a b:Rat}{k:Nat}(ha:rs a<=k)(hb:rs b<=k)(hk:k<2^34):Qd Tryz.prog 39 [PV.rat a,PV.rat b] (· =PV.rat (a*b)):=by
 have:=Yo (jo ha) (jo hb) hk
 rwa[js,js]at this
theorem PE{a b:Rat}{k:Nat}(ha:rs a<=k)(hb:rs b<=k)(hk:k<2^34):Qd Tryz.prog 42 [PV.rat a,PV.rat b] (· = .int .i64 (pY a b)):=by
 have:=Yp (jo ha) (jo hb) hk
 rwa[js,js]at this
theorem BC{a:Rat}(ha:rs a<2^36):Qd Tryz.prog 109 [PV.rat a] (· = .int .i64 (ox a)):=by
 have:=AQ (jo (Kae (rs a))) ha
 rwa[js]at this
theorem xt{k:Nat}{a b:List Int}(ha:MB k a)(hb:MB k b)(hk:k<=1099511627776):Qd Tryz.prog 75 [PV.mono a,PV.mono b,.int .i64 0] (· = .int .i64 (bh a b)):=by
 have:=Yv (o:=0) ha hb hk
 rwa[Fp]at this
theorem Yw{p q:List Tm}{K E:Nat}(hp:PB K E p)(hq:PB K E q)(hK:K<=2^33)(hE:E<=2^38)(ff:p.length<=2^36)(lf:q.length<=2^36):
  Qd Tryz.prog 32 [PV.aC p,PV.aC q] (· = .int .i64 (ib p q)):=by
 refine Qf Qk Tryz.func32 rfl UO (by simp[CX]) fun C hP=>?_;simp only[CX,Zo,Zg,Zm,Zc,Zf,Zl,Zh,Zs,Zi,Zb,Zk,Zn,Zu,Zq,Zr,Zz];refine Sz0 ?_;refine Q5 (by repeat (first|exact Qx|exact Qq|exact Qr|exact Qt|exact Qu|apply Qp|apply Qw|apply Q3|apply Q8|apply Q9|apply Qn|apply Q7)) [(4,47)] [] (fun n J hp=>∃i,n=p.length-i/\i<=p.length/\i<=q.length/\ib (p.drop i) (q.drop i)=ib p q/\J 5= .int .i64 (i:Nat)) p.length ?_ ?_
 ·refine⟨0,rfl,by omega,by omega,rfl,?_⟩;refine Sz0 ?_;rfl
 rintro _ J h ⟨i,rfl,hi,kq,jF,h5⟩;refine Sz1 h5 ?_;refine ep (fun hg=>?_) (fun hg=>?_)
 ·have aA:i<p.length:=by omega
  refine Sz1 h5 ?_;refine Qb (fun hk=>?_) (fun hk=>?_)
  ·have du:i<q.length:=by omega
   have dD:=hp.get aA;have mj:=hq.get du;have c1:=dD.c;have c2:=mj.c;rw[M9 aA du]at jF;generalize hx:p[i]=x at *
   generalize hy:q[i]=y at *
   refine Sz3 h5 hx hy ?_;refine Qa hP (xt dD.m mj.m (by omega)) rfl rfl rfl ?_;refine Sz3 h5 hx hy ?_;refine Qb (fun hc=>?_) (fun hc=>?_)
   ·refine Sz0 ?_;exact Qc (by rw[<-jF,if_pos (by rw[lQ,if_pos hc];exact hc),lQ,if_pos hc]) rfl
   ·refine Sz3 h5 hx hy ?_;refine Qa hP (PE (a:=x.1) (b:=y.1) (k:=2^33) (by omega) (by omega) (by omega)) rfl rfl rfl ?_;refine Sz3 h5 hx hy ?_;refine Qb (fun fq=>?_) (fun fq=>?_)
    ·refine Sz0 ?_;exact Qc (by rw[<-jF,if_pos (by rw[lQ,if_neg hc];exact fq),lQ,if_neg hc]) rfl
    ·rw[if_neg (by rw[lQ,if_neg hc];exact fq)]at jF;refine Sz1 h5 ?_;refine Qm (p.length-(i+1)) (by omega) ⟨i+1,rfl,by omega,by omega,jF,?_⟩;exact Tz0
  refine Sz0 ?_;refine Qb (fun hk=>?_) (fun hk=>?_)
  ·refine Sz0 ?_;exact Qc (by rw[<-jF,Kak (show p.length<=i by omega),wW,if_neg (by rw[KaX];omega)]) rfl
  ·refine Sz0 ?_;refine Qb (fun oY=>?_) (fun oY=>?_)
   ·refine Sz0 ?_;refine Qc ?_ rfl;rw[<-jF,Kar (show i<p.length by omega),Kak (show q.length<=i by omega),ib]
   ·refine Sz0 ?_;exact Qc (by rw[<-jF,Kak (show p.length<=i by omega),wW,if_pos (by rw[KaX];omega)]) rfl
 ·have aA:i=p.length:=by omega
  refine Sz0 ?_;refine Qb (fun hk=>?_) (fun hk=>?_)
  ·refine Sz0 ?_;exact Qc (by rw[<-jF,Kak (show p.length<=i by omega),wW,if_neg (by rw[KaX];omega)]) rfl
  ·refine Sz0 ?_;refine Qb (fun oY=>?_) (fun oY=>?_)
   ·refine Sz0 ?_;refine Qc ?_ rfl;rw[<-jF,Kar (show i<p.length by omega),Kak (show q.length<=i by omega),ib]
   ·refine Sz0 ?_;exact Qc (by rw[<-jF,Kak (show p.length<=i by omega),wW,if_pos (by rw[KaX];omega)]) rfl
theorem Xw{p q:List Tm}{K E:Nat}(hp:PB K E p)(hq:PB K E q)(hK:K<=2^33)(hE:E<=2^38)(ff:p.length<=2^36)(lf:q.length<=2^36):Qd Tryz.prog 13 [PV.aC p,PV.aC q] (· = .bool (decide (p=q))):=by refine Qf Qk Tryz.func13 rfl UQ (by simp[CK]) fun C hP=>?_;simp only[CK,Zo,Zg,Zm,Zc,Zf,Zl,Zh,Zs,Zi,Zb,Zk,Zn,Zu,Zq,Zr,Zz];refine Sz0 ?_;refine Qa hP (Yw hp hq hK hE ff lf) rfl rfl rfl ?_;refine Sz0 ?_;exact Qc (congrArg PV.bool (decide_eq_decide.2 (Jt hp.last hq.last))) rfl
theorem Ba{p q:List Tm}{K E:Nat}(hp:PB K E p)(hq:PB K E q)(hK:K<=2^32)(hE:E<=2^38)(ff:p.length<=2^36)(lf:q.length<=2^36):
  Qd Tryz.prog 50 [PV.aC p,PV.aC q] (· =PV.aC (Q2 p q)):=by
 refine Qf Qk Tryz.func50 rfl UN (by simp[Dc]) fun C hP=>?_;simp only[Dc,Zo,Zg,Zm,Zc,Zf,Zl,Zh,Zs,Zi,Zb,Zk,Zn,Zu,Zq,Zr,Zz];refine Sz0 ?_;refine mC 5 900 4 104 (by omega) Tz0 ?_;refine Q5 (by repeat (first|exact Qx|exact Qq|exact Qr|exact Qt|exact Qu|apply Qp|apply Qw|apply Q3|apply Q8|apply Q9|apply Qn|apply Q7)) [(5,90)] [9,61,62,75,76,87,88,900] (fun n J hp=>∃i k out,n=(p.length-i)+(q.length-k)/\i<=p.length/\k<=q.length/\out.length<=i+k/\out++Q2 (p.drop i) (q.drop k)=Q2 p q/\
  J 5= .ms 900 out.length/\J 6= .int .i64 (i:Nat)/\J 7= .int .i64 (k:Nat)/\hp 900=some ⟨4,104,out.map PV.term,false⟩) (p.length+q.length) ?_ ?_
 ·refine⟨0,0,[],by omega,by omega,by omega,by simp,rfl,?_⟩;refine Sz0 ?_;simp
 rintro _ J h ⟨i,k,out,rfl,hi,hk,dZ,cS,h5,h6,h7,hh⟩;refine Sz3 h5 h6 h7 ?_;refine Q6 (fun hg=>?_) (fun hg=>?_)
 ·have aA:i<p.length:=by omega
  refine Sz3 h5 h6 h7 ?_;refine Qb (fun h=>by omega) (fun _=>?_);refine Sz3 h5 h6 h7 ?_;refine Qb (fun gm=>?_) (fun gm=>?_)
  ·have du:k<q.length:=by omega
   have dD:=hp.get aA;have mj:=hq.get du;rw[H5 aA du]at cS;have c1:=dD.c;have c2:=mj.c;generalize hx:p[i]=x at *
   generalize hy:q[k]=y at *
   refine Sz5 h5 h6 h7 hx hy ?_;refine Qa hP (xt dD.m mj.m (by omega)) rfl rfl rfl ?_;refine Sz5 h5 h6 h7 hx hy ?_;refine Qb (fun hc=>?_) (fun hc=>?_)
   ·rw[if_pos hc]at cS;refine Sz4 h5 h6 h7 hx ?_;rw[dm (f:=PV.term) (y:=x) (xs:=out) (ty':=104) (fz:=false) (Tz1 hh) bA (by omega) rfl (by omega) (by omega)];refine Sz4 h5 h6 h7 hx ?_;refine Qm ((p.length-(i+1))+(q.length-k)) (by omega) ⟨i+1,k,out++[x],rfl,by omega,hk,by simp;omega,by simpa using cS,?_⟩;refine Sz3 h5 h6 h7 ?_;simp
   rw[if_neg hc]at cS;refine Sz5 h5 h6 h7 hx hy ?_;refine Qb (fun fq=>?_) (fun fq=>?_)
   ·rw[if_pos fq]at cS;refine Sz4 h5 h6 h7 hy ?_;rw[dm (f:=PV.term) (y:=y) (xs:=out) (ty':=104) (fz:=false) (Tz1 hh) bA (by omega) rfl (by omega) (by omega)];refine Sz4 h5 h6 h7 hy ?_;refine Qm ((p.length-i)+(q.length-(k+1))) (by omega) ⟨i,k+1,out++[y],rfl,by omega,by omega,by simp;omega,by simpa using cS,?_⟩;refine Sz3 h5 h6 h7 ?_;simp
   rw[if_neg fq]at cS;have KK:=xx x.1 y.1;refine Sz5 h5 h6 h7 hx hy ?_;refine iE ?_ ?_
   all_goals
    refine Sz5 h5 h6 h7 hx hy ?_;refine Qa hP (PD (a:=x.1) (b:=y.1) (k:=2^32) (by omega) (by omega) (by omega)) rfl rfl rfl ?_;refine Sz5 h5 h6 h7 hx hy ?_;refine Qa hP (BC (a:=x.1+y.1) (by omega)) rfl rfl rfl ?_;refine Sz5 h5 h6 h7 hx hy ?_;refine Qb (fun hz=>?_) (fun hz=>?_)
    ·rw[if_neg (fun h=>hz (iC.2 h))]at cS;refine Sz5 h5 h6 h7 hx hy ?_;rw[dm (f:=PV.term) (y:=(x.1+y.1,x.2)) (xs:=out) (ty':=104) (fz:=false) (Tz1 hh) bA (by omega) rfl (by omega) (by omega)];refine Sz5 h5 h6 h7 hx hy ?_;refine Qm ((p.length-(i+1))+(q.length-(k+1))) (by omega) ⟨i+1,k+1,out++[(x.1+y.1,x.2)],rfl,by omega,by omega,by simp;omega,by simpa using cS,?_⟩;refine Sz3 h5 h6 h7 ?_;simp
    ·rw[if_pos (iC.1 (Decidable.not_not.1 hz))]at cS;refine Sz5 h5 h6 h7 hx hy ?_;refine Qm ((p.length-(i+1))+(q.length-(k+1))) (by omega) ⟨i+1,k+1,out,rfl,by omega,by omega,by omega,cS,?_⟩;exact Tz4 h5 h6 h7 hh
  ·rw[Kak (show q.length<=k by omega),jm,Kar aA]at cS;have cS:out++p[i]::Q2 (p.drop (i+1)) (q.drop k)=Q2 p q:=by rw[Kak (show q.length<=k by omega),jm];exact cS
   generalize hx:p[i]=x at *
   refine Sz4 h5 h6 h7 hx ?_;rw[dm (f:=PV.term) (y:=x) (xs:=out) (ty':=104) (fz:=false) (Tz1 hh) bA (by omega) rfl (by omega) (by omega)];refine Sz4 h5 h6 h7 hx ?_;refine Qm ((p.length-(i+1))+(q.length-k)) (by omega) ⟨i+1,k,out++[x],rfl,by omega,hk,by simp;omega,by simpa using cS,?_⟩;refine Sz3 h5 h6 h7 ?_;simp
 ·have aA:i=p.length:=by omega
  refine Sz3 h5 h6 h7 ?_;refine Qb (fun gm=>?_) (fun gm=>?_)
  ·have du:k<q.length:=by omega
   rw[Kak (show p.length<=i by omega),pF,Kar du]at cS;have cS:out++q[k]::Q2 (p.drop i) (q.drop (k+1))=Q2 p q:=by rw[Kak (show p.length<=i by omega),pF];exact cS
   generalize hy:q[k]=y at *
   refine Sz4 h5 h6 h7 hy ?_;refine Qb (fun _=>?_) (fun h=>by omega);refine Sz4 h5 h6 h7 hy ?_;rw[dm (f:=PV.term) (y:=y) (xs:=out) (ty':=104) (fz:=false) (Tz1 hh) bA (by omega) rfl (by omega) (by omega)];refine Sz4 h5 h6 h7 hy ?_;refine Qm ((p.length-i)+(q.length-(k+1))) (by omega) ⟨i,k+1,out++[y],rfl,by omega,by omega,by simp;omega,by simpa using cS,?_⟩;refine Sz3 h5 h6 h7 ?_;simp
  ·rw[Kak (show p.length<=i by omega),pF,Kak (show q.length<=k by omega),Kan]at cS;refine YW h5 h6 h7 hh ?_;exact Qc (by rw[Kai (by simp),cS]) rfl
def Ax:aw:=⟨97,[.t 8],Zr (Zo (.mv 8 (.c .aa)) .nil)<|Zr (Zm 15 0<|
 Zn 16 15<|
 Zm 17 1<|
 Zn 18 17<|
 Zb 19 .add 16 18<|
 Zo (.mk 20 4 80 104 (.agg [.bool false,.aa,.aa,.aa]) (.c (Zz 0)) (.t 19))<|
 Zm 9 20 .nil)<|Zr (Zc 10 0<|
 Zc 11 0 .nil)<| .seq (.block 0<| .loop<| .seq (Zr (Zm 21 10<|
 Zm 22 0<|
 Zn 23 22<|
 Zb 24 .lss 21 23<|
 Zm 25 24<|
 Zg 25 true (.mv 26 (.t 11))<|
 Zg 25 true (.mv 27 (.t 1))<|
 Zg 25 true (.len 28 (.t 27))<|
 Zg 25 true (.bin 29 .lss false (.t 26) (.t 28))<|
 Zo (.pick 30 (.t 25) (.t 29) (.c (.bool false))) .nil)<| .cond (.t 30) .skip (.exit 0))<| .block 1<|Zr (Zm 31 2<|
 Zm 32 0<|
 Zm 33 10<|
 Zi 34 4 32 33<|
 Zh 35 4 34<|
 Zm 36 1<|
 Zm 37 11<|
 Zi 38 4 36 37<|
 Zh 39 4 38<|
 Zo (.call (some 40) false (.t 31) [.t 35,.t 39])<|
 Zm 12 40 .nil)<| .block 2<|Zr (Zm 64 12<|
 Zk 65 .gtr 64 0<|
 Zm 63 65 .nil)<| .cond (.t 63) (Zr (Zm 66 9<|
 Zm 67 0<|
 Zm 68 10<|
 Zi 69 4 67 68<|
 Zh 70 4 69<|
 Zo (.bs 71 4 104 [.t 70])<|
 Zo (.app 72 4 80 104 (.t 66) (.t 71))<|
 Zm 9 72 .nil)<| .rg (Zm 73 10<|
 Zk 74 .add 73 1<|
 Zm 10 74 .nil)) (Zr (Zm 76 12<|
 Zk 77 .lss 76 0<|
 Zm 75 77 .nil)<| .cond (.t 75) (Zr (Zm 78 9<|
 Zm 79 1<|
 Zm 80 11<|
 Zi 81 4 79 80<|
 Zh 82 4 81<|
 Zo (.bs 83 4 104 [.t 82])<|
 Zo (.app 84 4 80 104 (.t 78) (.t 83))<|
 Zm 9 84 .nil)<| .rg (Zm 85 11<|
 Zk 86 .add 85 1<|
 Zm 11 86 .nil)) (.seq (Zr (Zm 42 3<|
 Zm 43 0<|
 Zm 44 10<|
 Zi 45 4 43 44<|
 Zh 46 4 45<|
 Zm 47 1<|
 Zm 48 11<|
 Zi 49 4 47 48<|
 Zh 50 4 49<|
 .br (Zo (.call (some 51) true (.t 42) [.t 46,.t 50])<|
 Zm 41 51<|
 Zo (.ext 52 (.t 41) 0)<|
 Zo (.ext 53 (.t 41) 1)<|
 Zo (.alloc 13 4 104 (.agg [.bool false,.aa,.aa,.aa]))<|
 Zs 4 13 52<|
 Zm 14 53 .nil) (Zo (.alloc 13 4 104 (.agg [.bool false,.aa,.aa,.aa]))<|
 Zo (.call (some 51) true (.t 42) [.t 46,.t 50])<|
 Zm 41 51<|
 Zo (.ext 52 (.t 41) 0)<|
 Zo (.ext 53 (.t 41) 1)<|
 Zs 4 13 52<|
 Zm 14 53 .nil))<|Zr (Zm 54 14 .nil)<| .cond (.t 54) (.rg (Zm 55 9<|
 Zh 56 4 13<|
 Zo (.bs 57 4 104 [.t 56])<|
 Zo (.app 58 4 80 104 (.t 55) (.t 57))<|
 Zm 9 58 .nil)) .skip)<|Zr (Zm 59 10<|
 Zk 60 .add 59 1<|
 Zm 10 60 .nil)<| .rg (Zm 61 11<|
 Zk 62 .add 61 1<|
 Zm 11 62 .nil))))<|Zr (Zm 87 9<|
 Zm 88 0<|
 Zm 89 10<|
 Zo (.sl 90 4 (.t 88) (some (.t 89)) none none)<|
 Zo (.app 91 4 80 104 (.t 87) (.t 90))<|
 Zm 9 91 .nil)<|Zr (Zm 92 9<|
 Zm 93 1<|
 Zm 94 11<|
 Zo (.sl 95 4 (.t 93) (some (.t 94)) none none)<|
 Zo (.app 96 4 80 104 (.t 92) (.t 95))<|
 Zm 8 96 .nil) .ret⟩
theorem SQ:Qe Tryz.prog Tryz.f156=some Ax:=by kernel_rfl
def Ay:aw:=⟨10,[.t 4],Zr (Zo (.box 2 4 104 (.t 0))<|
 Zo (.box 3 4 104 (.t 1))<|
 Zc 4 0 .nil)<|Zr (Zf 5 3 2<|
 Zl 6 1 5<|
 Zf 7 3 3<|
 Zl 8 1 7<|
 Zq 9 false 172 [.t 6,.t 8,.c (Zz 0)]<|
 Zm 4 9 .nil) .ret⟩
theorem SR:Qe Tryz.prog Tryz.f157=some Ay:=by kernel_rfl
def z6:aw:=⟨19,[.cell 4 4 true,.t 5],Zr (Zo (.box 2 4 104 (.t 0))<|
 Zo (.box 3 4 104 (.t 1))<|
 Zo (.alloc 4 4 104 (.agg [.bool false,.aa,.aa,.aa]))<|
 Zo (.mv 5 (.c (.bool false))) .nil)<|Zr (Zf 7 0 2<|
 Zh 8 3 7<|
 Zf 9 0 3<|
 Zh 10 3 9<|
 Zq 11 false 173 [.t 8,.t 10]<|
 Zo (.alloc 6 3 32 (.agg [.bool false,.aa,.aa]))<|
 Zs 3 6 11 .nil)<|Zr (Zh 12 3 6<|
 Zf 13 3 2<|
 Zl 14 1 13<|
 Zo (.cc 15 [.bool false,.aa,.aa,.aa] [(0,3,.t 12),(3,1,.t 14)])<|
 Zh 16 3 6<|
 Zq 17 true 154 [.t 16]<|
 Zk 18 .neq 17 0<|
 Zs 4 4 15<|
 Zm 5 18 .nil) .ret⟩
theorem SS:Qe Tryz.prog Tryz.f158=some z6:=by kernel_rfl
def uq:aw:=⟨25,[.t 2],Zr (Zo (.mv 2 (.c .aa)) .nil)<| .seq (Zr (Zm 4 0<|
 Zn 5 4 .nil)<| .block 0<|Zr (Zk 7 .eql 5 0<|
 Zm 6 7 .nil)<| .cond (.t 6) (Zr (Zo (.mv 2 (.c .aa)) .nil) .ret) (Zr (Zk 9 .eql 5 1<|
 Zm 8 9 .nil)<| .cond (.t 8) (Zr (Zm 10 0<|
 Zo (.idx 11 1 (.t 10) (.c (Zz 0)))<|
 Zl 12 1 11<|
 Zm 2 12 .nil) .ret) .skip))<|Zr (Zm 13 0<|
 Zn 14 13<|
 Zk 15 .quo 14 2<|
 Zm 3 15 .nil)<|Zr (Zm 16 0<|
 Zm 17 3<|
 Zo (.sl 18 1 (.t 16) none (some (.t 17)) none)<|
 Zm 20 0<|
 Zm 21 3<|
 Zo (.sl 22 1 (.t 20) (some (.t 21)) none none)<|
 Zq 19 false 153 [.t 18]<|
 Zq 23 false 153 [.t 22]<|
 Zq 24 false 120 [.t 19,.t 23]<|
 Zm 2 24 .nil) .ret⟩
theorem JC:Qe Tryz.prog Tryz.f153=some uq:=by kernel_rfl
def z7:aw:=⟨6,[.t 2],Zr (Zo (.mv 2 (.c .aa)) .nil)<|Zr (Zm 3 0<|
 Zq 4 false 65 [.c (Zz (-1))]<|
 Zq 5 false 117 [.t 3,.t 4]<|
 Zm 2 5 .nil) .ret⟩
theorem SU:Qe Tryz.prog Tryz.f122=some z7:=by kernel_rfl
def z8:aw:=⟨8,[.t 4],Zr (Zo (.mv 4 (.c .aa)) .nil)<|Zr (Zm 5 0<|
 Zm 6 1<|
 Zq 7 false 156 [.t 5,.t 6,.c (.fn 157 [] []),.c (.fn 158 [] [])]<|
 Zm 4 7 .nil) .ret⟩
theorem SV:Qe Tryz.prog Tryz.f120=some z8:=by kernel_rfl
def Dt:aw:=⟨9,[.t 4],Zr (Zo (.mv 4 (.c .aa)) .nil)<|Zr (Zm 5 0<|
 Zm 6 1<|
 Zq 7 false 122 [.t 6]<|
 Zq 8 false 120 [.t 5,.t 7]<|
 Zm 4 8 .nil) .ret⟩
theorem Vm:Qe Tryz.prog Tryz.f68=some Dt:=by kernel_rfl
def z9:aw:=⟨38,[.t 4],Zr (Zo (.box 3 4 104 (.t 1))<|
 Zo (.mv 4 (.c .aa)) .nil)<|Zr (Zm 9 0<|
 Zn 10 9<|
 Zo (.mk 11 4 80 104 (.agg [.bool false,.aa,.aa,.aa]) (.c (Zz 0)) (.t 10))<|
 Zm 5 11 .nil)<| .seq (Zr (Zm 12 0<|
 Zn 13 12<|
 Zc 14 0 .nil)<| .block 0<| .loop<|Zr (Zb 15 .lss 14 13 .nil)<| .seq (.cond (.t 15) .skip (.exit 0))<| .seq (.block 1<|Zr (Zi 16 4 12 14<|
 Zh 17 4 16<|
 Zo (.alloc 7 4 104 (.agg [.bool false,.aa,.aa,.aa]))<|
 Zs 4 7 17 .nil)<|Zr (Zf 18 0 7<|
 Zh 19 3 18<|
 Zf 20 0 3<|
 Zh 21 3 20<|
 Zq 22 false 168 [.t 19,.t 21]<|
 Zo (.alloc 8 3 32 (.agg [.bool false,.aa,.aa]))<|
 Zs 3 8 22 .nil)<|Zr (Zh 23 3 8<|
 Zq 24 false 154 [.t 23]<|
 Zk 25 .neq 24 0 .nil)<| .cond (.t 25) (.rg (Zm 26 5<|
 Zh 27 3 8<|
 Zf 28 3 7<|
 Zl 29 1 28<|
 Zf 30 3 3<|
 Zl 31 1 30<|
 Zq 32 true 169 [.t 29,.t 31]<|
 Zo (.cc 33 [.bool false,.aa,.aa,.aa] [(0,3,.t 27),(3,1,.t 32)])<|
 Zo (.bs 34 4 104 [.t 33])<|
 Zo (.app 35 4 80 104 (.t 26) (.t 34))<|
 Zm 5 35 .nil)) .skip)<| .rg (Zk 36 .add 14 1<|
 Zm 14 36 .nil))<|Zr (Zm 37 5<|
 Zm 4 37 .nil) .ret⟩
theorem Sj:Qe Tryz.prog Tryz.f152=some z9:=by kernel_rfl
def z':aw:=⟨33,[.t 4],Zr (Zo (.mv 4 (.c .aa)) .nil)<| .seq (Zr (Zm 8 0<|
 Zn 9 8<|
 Zm 10 1<|
 Zn 11 10<|
 Zb 12 .gtr 9 11 .nil)<| .cond (.t 12) (.rg (Zm 13 1<|
 Zm 14 0<|
 Zm 0 13<|
 Zm 1 14 .nil)) .skip)<|Zr (Zm 15 0<|
 Zn 16 15<|
 Zo (.mk 17 1 24 51 .aa (.c (Zz 0)) (.t 16))<|
 Zm 5 17 .nil)<| .seq (Zr (Zm 18 0<|
 Zn 19 18<|
 Zc 20 0 .nil)<| .block 0<| .loop<|Zr (Zb 21 .lss 20 19 .nil)<| .seq (.cond (.t 21) .skip (.exit 0))<| .seq (.block 1<|Zr (Zi 22 4 18 20<|
 Zh 23 4 22<|
 Zo (.alloc 7 4 104 (.agg [.bool false,.aa,.aa,.aa]))<|
 Zs 4 7 23 .nil)<| .rg (Zm 24 5<|
 Zm 25 1<|
 Zh 26 4 7<|
 Zq 27 false 152 [.t 25,.t 26]<|
 Zo (.bs 28 1 51 [.t 27])<|
 Zo (.app 29 1 24 51 (.t 24) (.t 28))<|
 Zm 5 29 .nil))<| .rg (Zk 30 .add 20 1<|
 Zm 20 30 .nil))<|Zr (Zm 31 5<|
 Zq 32 false 153 [.t 31]<|
 Zm 4 32 .nil) .ret⟩
theorem Sk:Qe Tryz.prog Tryz.f115=some z':=by kernel_rfl
def Aa:aw:=⟨12,[.t 4],Zr (Zo (.box 3 3 32 (.t 1))<|
 Zo (.mv 4 (.c .aa)) .nil)<| .seq (Zr (Zh 5 3 3<|
 Zq 6 false 154 [.t 5]<|
 Zk 7 .eql 6 0 .nil)<| .cond (.t 7) (Zr (Zo (.mv 4 (.c .aa)) .nil) .ret) .skip)<|Zr (Zm 8 0<|
 Zh 9 3 3<|
 Zo (.cc 10 [.bool false,.aa,.aa,.aa] [(0,3,.t 9)])<|
 Zq 11 false 152 [.t 8,.t 10]<|
 Zm 4 11 .nil) .ret⟩
theorem Sl:Qe Tryz.prog Tryz.f117=some Aa:=by kernel_rfl
theorem WS{a b:Rat}{k:Nat}(ha:rs a<=k)(hb:rs b<=k)(hk:k<2^36):Qd Tryz.prog 173 [PV.rat a,PV.rat b] (· =PV.rat (a+b)):=by
 have:=NM (jo ha) (jo hb) hk
 rwa[js,js]at this
theorem WU{a b:Rat}{k:Nat}(ha:rs a<=k)(hb:rs b<=k)(hk:k<2^36):Qd Tryz.prog 168 [PV.rat a,PV.rat b] (· =PV.rat (a*b)):=by
 have:=NU (jo ha) (jo hb) hk
 rwa[js,js]at this
theorem Cu{a:Rat}(ha:rs a<2^36):Qd Tryz.prog 154 [PV.rat a] (· = .int .i64 (ox a)):=by
 have:=Mm (jo (Kae (rs a))) ha
 rwa[js]at this
theorem Mq{s t:Tm}{E:Nat}(hs:MB E s.2)(ht:MB E t.2)(hE:E<=2^38):Qd Tryz.prog 157 [PV.term s,PV.term t] (· = .int .i64 (bh s.2 t.2)):=by refine Qf Qk Tryz.func157 rfl SR (by simp[Ay]) fun C hP=>?_;simp only[Ay,Zo,Zg,Zm,Zc,Zf,Zl,Zh,Zs,Zi,Zb,Zk,Zn,Zu,Zq,Zr,Zz];refine Sz0 ?_;refine Qa hP (Mp (o:=0) hs ht (by omega)) rfl rfl rfl ?_;refine Sz0 ?_;exact Qc (by rw[Fp]) rfl
theorem XL{s t:Tm}{k:Nat}(hs:rs s.1<=k)(ht:rs t.1<=k)(hk:k<2^34):Qd Tryz.prog 158 [PV.term s,PV.term t] (· = .aJ [PV.term (s.1+t.1,s.2),.bool (decide (¬s.1+t.1=0))]):=by have hr:=xx s.1 t.1;refine Qf Qk Tryz.func158 rfl SS (by simp[z6]) fun C hP=>?_;simp only[z6,Zo,Zg,Zm,Zc,Zf,Zl,Zh,Zs,Zi,Zb,Zk,Zn,Zu,Zq,Zr,Zz];refine Sz0 ?_;refine Qa hP (WS (a:=s.1) (b:=t.1) hs ht (by omega)) rfl rfl rfl ?_;refine Sz0 ?_;refine Qa hP (Cu (a:=s.1+t.1) (by omega)) rfl rfl rfl ?_;refine Sz0 ?_;refine uj ?_;refine Sz0 ?_;exact lP rfl rfl rfl (cf _) (od (congrArg PV.bool (decide_eq_decide.2 (not_congr iC))))
theorem XM{p q:List Tm}{K E:Nat}(hp:PB K E p)(hq:PB K E q)(hK:K<=2^33)(hE:E<=2^38)(ff:p.length<=2^36)(lf:q.length<=2^36):
  Qd Tryz.prog 156 [PV.aC p,PV.aC q,.fn 157 [] [],.fn 158 [] []] (· =PV.aC (Q2 p q)):=by
 refine Qf Qk Tryz.func156 rfl SQ (by simp[Ax]) fun C hP=>?_;simp only[Ax,Zo,Zg,Zm,Zc,Zf,Zl,Zh,Zs,Zi,Zb,Zk,Zn,Zu,Zq,Zr,Zz];refine Sz0 ?_;refine Q5 (by repeat (first|exact Qx|exact Qq|exact Qr|exact Qt|exact Qu|apply Qp|apply Qw|apply Q3|apply Q8|apply Q9|apply Qn)) [(9,14),(21,86)] [13,20,57,58,71,72,83,84] (fun n J hp=>∃i k out,n=(p.length-i)+(q.length-k)/\i<=p.length/\k<=q.length/\out.length<=i+k/\out++Q2 (p.drop i) (q.drop k)=Q2 p q/\
  J 9= .ms 20 out.length/\J 10= .int .i64 (i:Nat)/\J 11= .int .i64 (k:Nat)/\hp 20=some ⟨4,104,out.map PV.term,false⟩) (p.length+q.length) ?_ ?_
 ·refine⟨0,0,[],by omega,by omega,by omega,by simp,rfl,?_⟩;refine Sz0 ?_;simp
 rintro _ J h ⟨i,k,out,rfl,hi,hk,dZ,cS,h9,bx,cx,hh⟩;refine Sz3 h9 bx cx ?_;refine ep (fun hg=>?_) (fun hg=>?_)
 ·have aA:i<p.length:=by omega
  refine Sz3 h9 bx cx ?_;refine Qb (fun gm=>?_) (fun gm=>?_)
  ·have du:k<q.length:=by omega
   have dD:=hp.get aA;have mj:=hq.get du;rw[H5 aA du]at cS;have c1:=dD.c;have c2:=mj.c;generalize hx:p[i]=x at *
   generalize hy:q[k]=y at *
   refine Sz5 h9 bx cx hx hy ?_;refine Qa hP (Mq (s:=x) (t:=y) dD.m mj.m hE) rfl rfl rfl ?_;refine Sz5 h9 bx cx hx hy ?_;refine Qb (fun hc=>?_) (fun hc=>?_)
   ·rw[if_pos hc]at cS;refine Sz5 h9 bx cx hx hy ?_;rw[dm (f:=PV.term) (y:=x) (xs:=out) (ty':=104) (fz:=false) (Tz1 hh) bA (by omega) rfl (by omega) (by omega)];refine Sz5 h9 bx cx hx hy ?_;refine Qm ((p.length-(i+1))+(q.length-k)) (by omega) ⟨i+1,k,out++[x],rfl,by omega,hk,by simp;omega,by simpa using cS,?_⟩;refine Sz3 h9 bx cx ?_;simp
   rw[if_neg hc]at cS;refine Sz5 h9 bx cx hx hy ?_;refine Qb (fun fq=>?_) (fun fq=>?_)
   ·rw[if_pos fq]at cS;refine Sz5 h9 bx cx hx hy ?_;rw[dm (f:=PV.term) (y:=y) (xs:=out) (ty':=104) (fz:=false) (Tz1 hh) bA (by omega) rfl (by omega) (by omega)];refine Sz5 h9 bx cx hx hy ?_;refine Qm ((p.length-i)+(q.length-(k+1))) (by omega) ⟨i,k+1,out++[y],rfl,hi,by omega,by simp;omega,by simpa using cS,?_⟩;refine Sz3 h9 bx cx ?_;simp
   rw[if_neg fq]at cS;refine Sz5 h9 bx cx hx hy ?_;refine iE ?_ ?_
   all_goals
    refine Sz5 h9 bx cx hx hy ?_;refine Qa hP (XL (s:=x) (t:=y) (k:=2^33) (by omega) (by omega) (by omega)) rfl rfl rfl ?_;refine Sz5 h9 bx cx hx hy ?_;refine Qb (fun hz=>?_) (fun hz=>?_)
    ·rw[if_neg hz]at cS;refine Sz5 h9 bx cx hx hy ?_;rw[dm (f:=PV.term) (y:=(x.1+y.1,x.2)) (xs:=out) (ty':=104) (fz:=false) (Tz1 hh) bA (by omega) rfl (by omega) (by omega)];refine Sz5 h9 bx cx hx hy ?_;refine Qm ((p.length-(i+1))+(q.length-(k+1))) (by omega) ⟨i+1,k+1,out++[(x.1+y.1,x.2)],rfl,by omega,by omega,by simp;omega,by simpa using cS,?_⟩;refine Sz3 h9 bx cx ?_;simp
    ·rw[if_pos (Decidable.not_not.1 hz)]at cS;refine Sz5 h9 bx cx hx hy ?_;refine Qm ((p.length-(i+1))+(q.length-(k+1))) (by omega) ⟨i+1,k+1,out,rfl,by omega,by omega,by omega,cS,?_⟩;exact Tz4 h9 bx cx hh
  ·have cM:(out++p.drop i++q.drop k).take (out.length+(p.drop i).length+(q.drop k).length)=Q2 p q:=by rw[Kai (by simp;omega),<-cS,Kak (by omega:q.length<=k),jm,Kan]
   refine Sz3 h9 bx cx ?_;rw[jq (f:=PV.term) (xs:=out) (ys:=p.drop i) (Tz1 hh) rfl (by omega) (by simp;omega) (by simp;omega)];refine Sz3 h9 bx cx ?_;rw[jq (f:=PV.term) (xs:=out++p.drop i) (ys:=q.drop k) Tz0 (by simp) (by omega) (by simp;omega) (by simp;omega)];refine xL h9 bx cx ?_;exact Qc (by rw[<-List.map_take,cM]) rfl
 ·have cM:(out++p.drop i++q.drop k).take (out.length+(p.drop i).length+(q.drop k).length)=Q2 p q:=by rw[Kai (by simp;omega),<-cS,Kak (by omega:p.length<=i),pF,Kan]
  refine Sz3 h9 bx cx ?_;rw[jq (f:=PV.term) (xs:=out) (ys:=p.drop i) (Tz1 hh) rfl (by omega) (by simp;omega) (by simp;omega)];refine Sz3 h9 bx cx ?_;rw[jq (f:=PV.term) (xs:=out++p.drop i) (ys:=q.drop k) Tz0 (by simp) (by omega) (by simp;omega) (by simp;omega)];refine xL h9 bx cx ?_;exact Qc (by rw[<-List.map_take,cM]) rfl
theorem Bh{p q:List Tm}{K E:Nat}(hp:PB K E p)(hq:PB K E q)(hK:K<=2^33)(hE:E<=2^38)(ff:p.length<=2^36)(lf:q.length<=2^36):
  Qd Tryz.prog 120 [PV.aC p,PV.aC q] (· =PV.aC (Q2 p q)):=by
 refine Qf Qk Tryz.func120 rfl SV (by simp[z8]) fun C hP=>?_;simp only[z8,Zo,Zg,Zm,Zc,Zf,Zl,Zh,Zs,Zi,Zb,Zk,Zn,Zu,Zq,Zr,Zz];refine Sz0 ?_;refine Qa hP (XM hp hq hK hE ff lf) rfl rfl rfl ?_;refine Sz0 ?_;exact Qc rfl rfl
theorem Ha{K E:Nat}(hE:E<=2^38):∀(n:Nat)(l:List (List Tm)),l.length<=n->(∀p∈l,PB K E p)->l.length*K<=2^33->l.length<=2^36->nB l<=2^36->Qd Tryz.prog 153 [PV.qU l] (· =PV.aC (dp l)):=by
 intro n;induction n with
 |zero=>intro l hl _ _ _ _;have:l=[]:=Kas.1 (by omega);subst this;refine Qf Qk Tryz.func153 rfl JC (by simp[uq]) fun C hP=>?_;simp only[uq,Zo,Zg,Zm,Zc,Zf,Zl,Zh,Zs,Zi,Zb,Zk,Zn,Zu,Zq,Zr,Zz];simp+decide (disch:=first|omega|rfl|(simp+decide only[go_sem,Kbf,Kbo]<;>rfl)|fail) only[go_sem,Kbf,Kbo];exact lE (Bv (by rw[dp])) rfl
 | succ n ih=>
  intro l hl hb hK sC cK;refine Qf Qk Tryz.func153 rfl JC (by simp[uq]) fun C hP=>?_;simp only[uq,Zo,Zg,Zm,Zc,Zf,Zl,Zh,Zs,Zi,Zb,Zk,Zn,Zu,Zq,Zr,Zz];refine Sz0 ?_;refine Qb (fun h0=>?_) (fun h0=>?_)
  ·have:l=[]:=Kas.1 (by omega);subst this;refine Sz0 ?_;exact lE (Bv (by rw[dp])) rfl
  refine Sz0 ?_;refine Qb (fun h1=>?_) (fun h1=>?_)
  ·obtain⟨p,rfl⟩:∃p,l=[p]:=Kcd.1 (by omega);simp+decide (disch:=first|omega|rfl|(simp+decide only[go_sem,Ka3,Kbf]<;>rfl)|fail) only[go_sem,Ka3,Kbf];exact Qc (by rw[dp];rfl) rfl
  have h2:2<=l.length:=by omega
  have hs:=Ho l (l.length/2);have e:(2:Int)=((2:Nat):Int):=rfl;have hq:∀d fr hp K,bF .quo false (.int .i64 (l.length:Int)) (.int .i64 2) d fr hp K=K (ae fr d (.int .i64 ((l.length/2:Nat):Int))) hp:=fun d fr hp K=>by rw[e,Cj (by omega) (by omega)]
  have b1:=Bl (K:=K) (E:=E) _ (l.take (l.length/2)) (Kae _) (fun p hp=>hb p (Ka2 hp));have b2:=Bl (K:=K) (E:=E) _ (l.drop (l.length/2)) (Kae _) (fun p hp=>hb p (Kby hp));have l1:(l.take (l.length/2)).length*K<=l.length*K:=Kal _ (by rw[Kau];omega);have l2:(l.drop (l.length/2)).length*K<=l.length*K:=Kal _ (by rw[KaX];omega);refine Sz1 hq ?_;refine Qa hP (ih (l.take (l.length/2)) (by rw[Kau];omega) (fun p hp=>hb p (Ka2 hp)) (by omega) (by rw[Kau];omega) (by omega)) rfl rfl rfl ?_;refine Sz1 hq ?_;refine Qa hP (ih (l.drop (l.length/2)) (by rw[KaX];omega) (fun p hp=>hb p (Kby hp)) (by omega) (by rw[KaX];omega) (by omega)) rfl rfl rfl ?_;refine Sz1 hq ?_;refine Qa hP (Bh (b1.1.mono (K':=l.length*K) l1 (Kae _)) (b2.1.mono l2 (Kae _)) hK hE (by omega) (by omega)) rfl rfl rfl ?_;refine Sz0 ?_;exact Qc (by rw[tt h2]) rfl
theorem Bb{p:List Tm}{t:Tm}{i:Nat}(h:i<p.length):aZ (p.take (i+1)) t=aZ (p.take i) t++(if p[i].1*t.1=0 then []else [(p[i].1*t.1,cH p[i].2 t.2)]):=by rw[KaD h,aZ,List.filterMap_append,aZ];congr 1;simp only[List.filterMap_cons,List.filterMap_nil];split<;>split<;>simp_all
theorem AS{p:List Tm}{t:Tm}{K E:Nat}(hp:PB K E p)(ht:TB K E t)(hK:K<=2^33)(hE:E<=2^38)(ff:p.length<=2^36):
  Qd Tryz.prog 152 [PV.aC p,PV.term t] (· =PV.aC (aZ p t)):=by
 refine Qf Qk Tryz.func152 rfl Sj (by simp[z9]) fun C hP=>?_;simp only[z9,Zo,Zg,Zm,Zc,Zf,Zl,Zh,Zs,Zi,Zb,Zk,Zn,Zu,Zq,Zr,Zz];refine Sz0 ?_;refine Q5 (by repeat (first|exact Qx|exact Qq|exact Qr|exact Qt|exact Qu|apply Qp|apply Qw|apply Q3|apply Q8|apply Q9|apply Qn)) [(5,5),(7,8),(14,36)] [7,8,11,34,35] (fun n J hp=>∃i,n=p.length-i/\i<=p.length/\J 5= .ms 11 (aZ (p.take i) t).length/\J 14= .int .i64 (i:Nat)/\hp 3=some ⟨4,104,[PV.term t],false⟩/\hp 11=some ⟨4,104,(aZ (p.take i) t).map PV.term,false⟩) p.length ?_ ?_
 ·refine⟨0,rfl,by omega,?_⟩;refine Sz0 ?_;simp[aZ]
 rintro _ J h ⟨i,rfl,hi,h5,gj,bj,yn⟩;refine Sz2 h5 gj ?_;refine Qb (fun hg=>?_) (fun hg=>?_)
 ·have aA:i<p.length:=by omega
  have dD:=hp.get aA;have cy:=Bb (t:=t) aA;have hlen:=pj (p.take i) t;rw[Kau]at hlen;have c1:=dD.c;have c2:=ht.c;have hrm:=Fz p[i].1 t.1;generalize hx:p[i]=x at *
  refine Sz4 h5 gj bj hx ?_;refine Qa hP (WU (a:=x.1) (b:=t.1) (k:=2^33) (by omega) (by omega) (by omega)) rfl rfl rfl ?_;refine Sz4 h5 gj bj hx ?_;refine Qa hP (Cu (a:=x.1*t.1) (by omega)) rfl rfl rfl ?_;refine Sz4 h5 gj bj hx ?_;refine Qb (fun hz=>?_) (fun hz=>?_)
  ·rw[if_neg (fun h=>hz (iC.2 h))]at cy;refine Sz4 h5 gj bj hx ?_;refine Qa hP (Mo dD.m ht.m (by omega)) rfl rfl rfl ?_;refine Sz4 h5 gj bj hx ?_;rw[dm (f:=PV.term) (y:=(x.1*t.1,cH x.2 t.2)) (xs:=aZ (p.take i) t) (ty':=104) (fz:=false) (Tz1 yn) bA (by omega) rfl (by omega) (by omega)];rw[<-cy];refine Sz4 h5 gj bj hx ?_;refine Qm (p.length-(i+1)) (by omega) ⟨i+1,rfl,by omega,?_⟩;rw[cy];simp+decide (disch:=first|omega|rfl|(simp+decide only[go_sem,h5,gj,bj,KaG]<;>rfl)|fail) only[go_sem,h5,gj,bj,KaG]
  ·rw[if_pos (iC.1 (Decidable.not_not.1 hz)),Kan]at cy;refine Sz4 h5 gj bj hx ?_;refine Qm (p.length-(i+1)) (by omega) ⟨i+1,rfl,by omega,?_⟩;rw[cy];exact Tz4 h5 gj bj yn
 ·obtain rfl:i=p.length:=by omega
  rw[Kbn]at h5 yn;refine ux h5 yn ?_;exact Qc (by simp[Kai]) rfl
theorem Mr{p q:List Tm}{K E:Nat}(hp:PB K E p)(hq:PB K E q)(hE:E<=2^37)(ff:p.length<=2^30)(lf:q.length<=2^30)(Ek:p.length*q.length<=2^36)(hK:min p.length q.length*(K+K)<=2^33)(oR:K<=2^33):
  Qd Tryz.prog 115 [PV.aC p,PV.aC q] (· =PV.aC (bU p q)):=by
 have main:∀(p q:List Tm),PB K E p->PB K E q->p.length<=2^30->q.length<=2^30->p.length*q.length<=2^36->p.length*(K+K)<=2^33->p.length<=q.length->True:=fun _ _ _ _ _ _ _ _ _=>trivial;refine Qf Qk Tryz.func115 rfl Sk (by simp[z']) fun C hP=>?_;simp only[z',Zo,Zg,Zm,Zc,Zf,Zl,Zh,Zs,Zi,Zb,Zk,Zn,Zu,Zq,Zr,Zz];refine Sz0 ?_;refine Qb (fun hg=>?_) (fun hg=>?_)
 ·have cM:mI q p=bU p q:=by rw[bU,if_pos (by omega)]
  have ZN:q.length*(K+K)<=2^33:=by rw[Kcr (by omega)]at hK;exact hK
  have adl:q.length*p.length<=2^36:=by rw[KaP];exact Ek
  refine Sz0 ?_;refine Q5 (by repeat (first|exact Qx|exact Qq|exact Qr|exact Qt|exact Qu|apply Qp|apply Qw|apply Q3|apply Q8|apply Q9|apply Qn)) [(5,5),(7,7),(20,30)] [7,17,28,29] (fun n J hp=>∃i,n=q.length-i/\i<=q.length/\J 5= .ms 17 i/\J 20= .int .i64 (i:Nat)/\hp 17=some ⟨1,51,((q.take i).map (aZ p)).map PV.aC,false⟩) q.length ?_ ?_
  ·refine⟨0,rfl,by omega,?_⟩;refine Sz0 ?_;simp
  rintro _ J h ⟨i,rfl,hi,h5,lV,hh⟩;refine Sz2 h5 lV ?_;refine Qb (fun gm=>?_) (fun gm=>?_)
  ·have aA:i<q.length:=by omega
   have dD:=hq.get aA;have cy:(q.take (i+1)).map (aZ p)=(q.take i).map (aZ p)++[aZ p q[i]]:=by rw[KaD aA,List.map_append];rfl
   generalize hx:q[i]=x at *
   refine Sz3 h5 lV hx ?_;refine Qa hP (AS (t:=x) hp dD oR (by omega) (by omega)) rfl rfl rfl ?_;refine Sz3 h5 lV hx ?_;rw[dm (f:=PV.aC) (y:=aZ p x) (xs:=(q.take i).map (aZ p)) (ty':=51) (fz:=false) (Tz1 hh) bA (by omega) (by simp;omega) (by omega) (by omega)];rw[<-cy];refine Sz3 h5 lV hx ?_;refine Qm (q.length-(i+1)) (by omega) ⟨i+1,rfl,by omega,?_⟩;exact Tz2 h5 lV
  ·obtain rfl:i=q.length:=by omega
   rw[Kbn]at hh;have cK:=AB q p;refine Sz2 h5 hh ?_;refine gX hP (Ha (K:=K+K) (E:=E+E) (by omega) _ (q.map (aZ p)) (Kae _) (fun x hx=>by obtain⟨t,ht,rfl⟩:=KaM.1 hx;exact rk hp (hq t ht)) (by rw[Ka1];omega) (by rw[Ka1];omega) (by omega)) (by simp+decide (disch:=try exact E1 hh) only[go_sem,hh,eG,Kaw,KaF,Kay,KaI,Kan];simp[Kai]) rfl ?_;refine Sz0 ?_;exact Qc (congrArg PV.aC cM) rfl
 ·have cM:mI p q=bU p q:=by rw[bU,if_neg (by omega)]
  have ZN:p.length*(K+K)<=2^33:=by rw[KbH (by omega)]at hK;exact hK
  refine Sz0 ?_;refine Q5 (by repeat (first|exact Qx|exact Qq|exact Qr|exact Qt|exact Qu|apply Qp|apply Qw|apply Q3|apply Q8|apply Q9|apply Qn)) [(5,5),(7,7),(20,30)] [7,17,28,29] (fun n J hp=>∃i,n=p.length-i/\i<=p.length/\J 5= .ms 17 i/\J 20= .int .i64 (i:Nat)/\hp 17=some ⟨1,51,((p.take i).map (aZ q)).map PV.aC,false⟩) p.length ?_ ?_
  ·refine⟨0,rfl,by omega,?_⟩;refine Sz0 ?_;simp
  rintro _ J h ⟨i,rfl,hi,h5,lV,hh⟩;refine Sz2 h5 lV ?_;refine Qb (fun gm=>?_) (fun gm=>?_)
  ·have aA:i<p.length:=by omega
   have dD:=hp.get aA;have cy:(p.take (i+1)).map (aZ q)=(p.take i).map (aZ q)++[aZ q p[i]]:=by rw[KaD aA,List.map_append];rfl
   generalize hx:p[i]=x at *
   refine Sz3 h5 lV hx ?_;refine Qa hP (AS (t:=x) hq dD oR (by omega) (by omega)) rfl rfl rfl ?_;refine Sz3 h5 lV hx ?_;rw[dm (f:=PV.aC) (y:=aZ q x) (xs:=(p.take i).map (aZ q)) (ty':=51) (fz:=false) (Tz1 hh) bA (by omega) (by simp;omega) (by omega) (by omega)];rw[<-cy];refine Sz3 h5 lV hx ?_;refine Qm (p.length-(i+1)) (by omega) ⟨i+1,rfl,by omega,?_⟩;exact Tz2 h5 lV
  ·obtain rfl:i=p.length:=by omega
   rw[Kbn]at hh;have cK:=AB p q;refine Sz2 h5 hh ?_;refine gX hP (Ha (K:=K+K) (E:=E+E) (by omega) _ (p.map (aZ q)) (Kae _) (fun x hx=>by obtain⟨t,ht,rfl⟩:=KaM.1 hx;exact rk hq (hp t ht)) (by rw[Ka1];omega) (by rw[Ka1];omega) (by omega)) (by simp+decide (disch:=try exact E1 hh) only[go_sem,hh,eG,Kaw,KaF,Kay,KaI,Kan];simp[Kai]) rfl ?_;refine Sz0 ?_;exact Qc (congrArg PV.aC cM) rfl
theorem NW{k l:Nat}{a b:List Int}(ha:MB k a)(hb:MB l b)(h1:a.getLast? ≠some 0)(h2:b.getLast? ≠some 0):gG (· + ·) a b=cH a b:=by
 rw[cH,O8];rw[Ka6,lv];intro h;obtain⟨hl,hv⟩:=Kac.1 h;rw[<-iI hl,Jh (by simp)]at hv;rw[lv]at hl;have p1:=(ha.eN (max a.length b.length-1)).1;have p2:=(hb.eN (max a.length b.length-1)).1;by_cases hc:b.length<=a.length
 ·apply h1;have e:max a.length b.length-1=a.length-1:=by omega
  rw[e]at hv p1 p2;rw[Ka6,Kaf (by omega),<-iI (by omega)];congr 1;omega
 ·apply h2;have e:max a.length b.length-1=b.length-1:=by omega
  rw[e]at hv p1 p2;rw[Ka6,Kaf (by omega),<-iI (by omega)];congr 1;omega
theorem Xx{p:List Tm}{t:Tm}{K E:Nat}(hp:PB K E p)(ht:TB K E t)(ku:NZ p)(ht0:t.1≠0)(hK:K<=2^33)(hE:E<=2^38)(ff:p.length<=2^36):
  Qd Tryz.prog 51 [PV.aC p,PV.term t] (· =PV.aC (aZ p t)):=by
 refine Qf Qk Tryz.func51 rfl Um (by simp[Dd]) fun C hP=>?_;simp only[Dd,Zo,Zg,Zm,Zc,Zf,Zl,Zh,Zs,Zi,Zb,Zk,Zn,Zu,Zq,Zr,Zz];refine Sz0 ?_;refine mC 5 900 4 104 (by omega) Tz0 ?_;refine Q5 (by repeat (first|exact Qx|exact Qq|exact Qr|exact Qt|exact Qu|apply Qp|apply Qw|apply Q3|apply Q8|apply Q9|apply Qn|apply Q7)) [(5,32)] [31,32,900] (fun n J hp=>∃i,n=p.length-i/\i<=p.length/\J 5= .ms 900 (aZ (p.take i) t).length/\J 6= .int .i64 (i:Nat)/\hp 3=some ⟨4,104,[PV.term t],false⟩/\hp 900=some ⟨4,104,(aZ (p.take i) t).map PV.term,false⟩) p.length ?_ ?_
 ·refine⟨0,rfl,by omega,?_⟩;refine Sz0 ?_;simp[aZ]
 rintro _ J h ⟨i,rfl,hi,h5,h6,bj,hh⟩;refine Sz2 h5 h6 ?_;refine Qb (fun hg=>?_) (fun hg=>?_)
 ·have aA:i<p.length:=by omega
  have dD:=hp.get aA;have cy:=Bb (t:=t) aA;have hlen:=pj (p.take i) t;rw[Kau]at hlen;have c1:=dD.c;have c2:=ht.c;have gp:=ku _ (Kao aA);generalize hx:p[i]=x at *
  have hzz:=NW dD.m ht.m dD.l ht.l;rw[if_neg (fun h=>by rcases Rat.mul_eq_zero.1 h with h|h<;>contradiction)]at cy;refine Sz4 h5 h6 bj hx ?_;refine Qa hP (IK (a:=x.1) (b:=t.1) (k:=2^33) (by omega) (by omega) (by omega)) rfl rfl rfl ?_;refine Sz4 h5 h6 bj hx ?_;refine Qa hP (Yu dD.m ht.m (by omega)) rfl rfl rfl ?_;rw[hzz];refine Sz4 h5 h6 bj hx ?_;rw[dm (f:=PV.term) (y:=(x.1*t.1,cH x.2 t.2)) (xs:=aZ (p.take i) t) (ty':=104) (fz:=false) (Tz1 hh) bA (by omega) rfl (by omega) (by omega)];rw[<-cy];refine Sz4 h5 h6 bj hx ?_;refine Qm (p.length-(i+1)) (by omega) ⟨i+1,rfl,by omega,?_⟩;rw[cy];simp+decide (disch:=first|omega|rfl|(simp+decide only[go_sem,h5,h6,bj,KaG]<;>rfl)|fail) only[go_sem,h5,h6,bj,KaG]
 ·obtain rfl:i=p.length:=by omega
  rw[Kbn]at h5 hh;refine ux h5 hh ?_;exact Qc (by simp[Kai]) rfl
theorem Ms{p q:List Tm}{i:Nat}(h:i<q.length):kP p (q.take (i+1))=Q2 (kP p (q.take i)) (aZ p q[i]):=by rw[KaD h,kP,List.foldl_append,kP];rfl
theorem GU{K E:Nat}{p:List Tm}(hp:PB K E p):∀(q out:List Tm)(L:Nat),PB K E q->PB L (E+E) out->PB (q.length*(K+K)+L) (E+E) (q.foldl (fun out t=>Q2 out (aZ p t)) out)/\(q.foldl (fun out t=>Q2 out (aZ p t)) out).length<=q.length*p.length+out.length
 | [],out,L,_,ho=>⟨by simpa using ho,by simp⟩
 |t::q,out,L,hq,ho=>by obtain⟨h1,h2⟩:=GU hp q (Q2 out (aZ p t)) (L+(K+K)) (PB.cons.1 hq).2 (B1 _ _ ho (rk hp (PB.cons.1 hq).1));have h3:=AK out (aZ p t);have h4:=pj p t;refine⟨h1.mono (by rw[KaW,Kax];omega) (Kae _),KaY h2 ?_⟩;rw[KaW,Kax];omega
theorem Py{K E:Nat}{p q:List Tm}(hp:PB K E p)(hq:PB K E q):PB (q.length*(K+K)) (E+E) (kP p q)/\(kP p q).length<=q.length*p.length:=by have:=GU hp q [] 0 hq (PB.nil _ _);simpa[kP]using this
theorem Yx{p q:List Tm}{K E:Nat}(hp:PB K E p)(hq:PB K E q)(hnp:NZ p)(u9:NZ q)(hE:E<=2^37)(ff:p.length<=2^30)(lf:q.length<=2^30)(Ek:q.length*p.length<=2^36)(hK:q.length*(K+K)+(K+K)<=2^32):
  Qd Tryz.prog 26 [PV.aC p,PV.aC q] (· =PV.aC (kP p q)):=by
 refine Qf Qk Tryz.func26 rfl UR (by simp[CT]) fun C hP=>?_;simp only[CT,Zo,Zg,Zm,Zc,Zf,Zl,Zh,Zs,Zi,Zb,Zk,Zn,Zu,Zq,Zr,Zz];refine Sz0 ?_;refine tR 5 4 Tz0 ?_;refine Q5 (by repeat (first|exact Qx|exact Qq|exact Qr|exact Qt|exact Qu|apply Qp|apply Qw|apply Q3|apply Q8|apply Q9|apply Qn|apply Q7)) [(5,20)] [] (fun n J hp=>∃i,n=q.length-i/\i<=q.length/\J 5=PV.aC (kP p (q.take i))/\J 6= .int .i64 (i:Nat)) q.length ?_ ?_
 ·refine⟨0,rfl,by omega,?_⟩;refine Sz0 ?_;simp[kP]
 rintro _ J h ⟨i,rfl,hi,h5,h6⟩;refine Sz2 h5 h6 ?_;refine Qb (fun hg=>?_) (fun hg=>?_)
 ·have aA:i<q.length:=by omega
  have mj:=hq.get aA;have cy:=Ms (p:=p) aA;have gp:=u9 _ (Kao aA);obtain⟨aX,cl⟩:=Py hp (hq.take i);have ss:=rk hp mj;have ak:=pj p q[i];generalize hx:q[i]=x at *
  have e1:(q.take i).length=i:=by rw[Kau];omega
  rw[e1]at aX cl;have e2:i*(K+K)<=q.length*(K+K):=Kal _ hi;have e3:i*p.length<=q.length*p.length:=Kal _ hi;refine Sz3 h5 h6 hx ?_;refine Qa hP (Xx (t:=x) hp mj hnp gp (by omega) (by omega) (by omega)) rfl rfl rfl ?_;refine Sz3 h5 h6 hx ?_;refine Qa hP (Ba (K:=q.length*(K+K)+(K+K)) (E:=E+E) (aX.mono (by omega) (by omega)) (ss.mono (by omega) (by omega)) hK (by omega) (by omega) (by omega)) rfl rfl rfl ?_;refine Sz3 h5 h6 hx ?_;refine Qm (q.length-(i+1)) (by omega) ⟨i+1,rfl,by omega,?_⟩;rw[cy];exact Tz0
 ·obtain rfl:i=q.length:=by omega
  rw[Kbn]at h5;refine Sz1 h5 ?_;exact Qc rfl rfl
theorem Xy{p:List Tm}{a:Rat}{K E:Nat}(hp:PB K E p)(ku:NZ p)(ha:rs a+1<=K)(hK:K<=2^33)(hE:E<=2^38)(ff:p.length<=2^36):
  Qd Tryz.prog 74 [PV.aC p,PV.rat a] (· =PV.aC (er p a)):=by
 refine Qf Qk Tryz.func74 rfl Uj (by simp[Dv]) fun C hP=>?_;simp only[Dv,Zo,Zg,Zm,Zc,Zf,Zl,Zh,Zs,Zi,Zb,Zk,Zn,Zu,Zq,Zr,Zz];refine Sz0 ?_;refine mC 5 900 4 104 (by omega) Tz0 ?_;refine Q5 (by repeat (first|exact Qx|exact Qq|exact Qr|exact Qt|exact Qu|apply Qp|apply Qw|apply Q3|apply Q8|apply Q9|apply Qn|apply Q7)) [(5,33)] [32,33,900] (fun n J hp=>∃i,n=p.length-i/\i<=p.length/\J 5= .ms 900 (aZ (p.take i) (a,[])).length/\J 6= .int .i64 (i:Nat)/\hp 3=some ⟨3,32,[PV.rat a],false⟩/\hp 900=some ⟨4,104,(aZ (p.take i) (a,[])).map PV.term,false⟩) p.length ?_ ?_
 ·refine⟨0,rfl,by omega,?_⟩;refine Sz0 ?_;simp[aZ]
 rintro _ J h ⟨i,rfl,hi,h5,h6,bj,hh⟩;refine Sz2 h5 h6 ?_;refine ep (fun hg=>?_) (fun hg=>?_)
 ·have aA:i<p.length:=by omega
  have dD:=hp.get aA;have cy:=Bb (t:=(a,[])) aA;have hlen:=pj (p.take i) (a,[]);rw[Kau]at hlen;have c1:=dD.c;have gp:=ku _ (Kao aA);generalize hx:p[i]=x at *
  refine Sz4 h5 h6 bj hx ?_;refine Qa hP (BC (a:=a) (by omega)) rfl rfl rfl ?_;refine Sz4 h5 h6 bj hx ?_;refine Qb (fun hz=>?_) (fun hz=>?_)
  ·rw[if_neg (fun h=>by rcases Rat.mul_eq_zero.1 h with h|h;exact gp h;exact hz (iC.2 h)),IQ dD.l]at cy;refine Sz4 h5 h6 bj hx ?_;refine Qa hP (IK (a:=x.1) (b:=a) (k:=2^33) (by omega) (by omega) (by omega)) rfl rfl rfl ?_;refine Sz4 h5 h6 bj hx ?_;rw[dm (f:=PV.term) (y:=(x.1*a,x.2)) (xs:=aZ (p.take i) (a,[])) (ty':=104) (fz:=false) (Tz1 hh) bA (by omega) rfl (by omega) (by omega)];rw[<-cy];refine Sz4 h5 h6 bj hx ?_;refine Qm (p.length-(i+1)) (by omega) ⟨i+1,rfl,by omega,?_⟩;rw[cy];simp+decide (disch:=first|omega|rfl|(simp+decide only[go_sem,h5,h6,bj,KaG]<;>rfl)|fail) only[go_sem,h5,h6,bj,KaG]
  ·have yh:=iC.1 (Decidable.not_not.1 hz);have e0:∀l:List Tm,aZ l (a,[])=[]:=fun l=>by rw[yh];simp[aZ]
   refine xL h5 hh bj ?_;refine Qc ?_ rfl;rw[e0,er,if_pos yh];rfl
 ·obtain rfl:i=p.length:=by omega
  rw[Kbn]at h5 hh;refine xL h5 hh bj ?_;refine Qc ?_ rfl;rw[Kai (by simp),er];split
  ·rename_i yh;rw[yh];simp[aZ]
  ·rfl
theorem Yy{p:List Tm}{K E:Nat}(hp:PB K E p)(ku:NZ p)(oR:2<=K)(hK:K<=2^33)(hE:E<=2^38)(ff:p.length<=2^36):Qd Tryz.prog 123 [PV.aC p] (· =PV.aC (gH p)):=by have h1:=xD;refine Qf Qk Tryz.func123 rfl RK (by simp[zF]) fun C hP=>?_;simp only[zF,Zo,Zg,Zm,Zc,Zf,Zl,Zh,Zs,Zi,Zb,Zk,Zn,Zu,Zq,Zr,Zz];refine Sz0 ?_;refine Qa hP (G' (x:= -1) (by omega) (by omega)) rfl rfl rfl ?_;refine Sz0 ?_;refine Qa hP (Xy (a:=((-1:Int):Rat)) hp ku (by have:((-1:Int):Rat)= -1:=rfl;rw[this];omega) hK hE ff) rfl rfl rfl ?_;refine Sz0 ?_;exact Qc rfl rfl
theorem YA{p q:List Tm}{K E:Nat}(hp:PB K E p)(hq:PB K E q)(ku:NZ q)(oR:2<=K)(hK:K<=2^31)(hE:E<=2^38)(ff:p.length<=2^36)(lf:q.length<=2^36):Qd Tryz.prog 71 [PV.aC p,PV.aC q] (· =PV.aC (b6 p q)):=by have hl:=AE q (-1);refine Qf Qk Tryz.func71 rfl Uk (by simp[Du]) fun C hP=>?_;simp only[Du,Zo,Zg,Zm,Zc,Zf,Zl,Zh,Zs,Zi,Zb,Zk,Zn,Zu,Zq,Zr,Zz];refine Sz0 ?_;refine Qa hP (Yy hq ku oR (by omega) hE lf) rfl rfl rfl ?_;refine Sz0 ?_;refine Qa hP (Ba (hp.mono (K':=K+2) (by omega) (Kae _)) (Js hq) (by omega) hE ff (by show(er q (-1)).length<=_;omega)) rfl rfl rfl ?_;refine Sz0 ?_;exact Qc rfl rfl
theorem Gw{p:List Tm}{a:Rat}{K E:Nat}(hp:PB K E p)(ha:rs a+1<=K)(hK:K<=2^33)(hE:E<=2^38)(ff:p.length<=2^36):Qd Tryz.prog 117 [PV.aC p,PV.rat a] (· =PV.aC (er p a)):=by
 refine Qf Qk Tryz.func117 rfl Sl (by simp[Aa]) fun C hP=>?_;simp only[Aa,Zo,Zg,Zm,Zc,Zf,Zl,Zh,Zs,Zi,Zb,Zk,Zn,Zu,Zq,Zr,Zz];refine Sz0 ?_;refine Qa hP (Cu (a:=a) (by omega)) rfl rfl rfl ?_;refine Sz0 ?_;refine Qb (fun h0=>?_) (fun h0=>?_)
 ·refine Sz0 ?_;exact lE (Bv (by rw[er,if_pos (iC.1 h0)])) rfl
 ·refine Sz0 ?_;refine Qa hP ((AS (t:=(a,[])) hp (TB.num ha) hK hE ff).le (args':=[PV.aC p,.agg [.bool (decide (a.num<0)),PV.num a.num.natAbs,PV.num a.den,.aa]]) ⟨cf _,⟨rfl,tG _,tG _,trivial,trivial⟩,trivial⟩) rfl rfl rfl ?_;refine Sz0 ?_;exact Qc (by rw[er,if_neg (fun h=>h0 (iC.2 h))]) rfl
theorem Mt{p:List Tm}{K E:Nat}(hp:PB K E p)(oR:2<=K)(hK:K<=2^33)(hE:E<=2^38)(ff:p.length<=2^36):Qd Tryz.prog 122 [PV.aC p] (· =PV.aC (gH p)):=by have h1:=xD;refine Qf Qk Tryz.func122 rfl SU (by simp[z7]) fun C hP=>?_;simp only[z7,Zo,Zg,Zm,Zc,Zf,Zl,Zh,Zs,Zi,Zb,Zk,Zn,Zu,Zq,Zr,Zz];refine Sz0 ?_;refine Qa hP (Ib (x:= -1) (by omega) (by omega)) rfl rfl rfl ?_;refine Sz0 ?_;refine Qa hP (Gw (a:=((-1:Int):Rat)) hp (by have:((-1:Int):Rat)= -1:=rfl;rw[this];omega) hK hE ff) rfl rfl rfl ?_;refine Sz0 ?_;exact Qc rfl rfl
theorem Mu{p q:List Tm}{K E:Nat}(hp:PB K E p)(hq:PB K E q)(oR:2<=K)(hK:K<=2^32)(hE:E<=2^38)(ff:p.length<=2^36)(lf:q.length<=2^36):Qd Tryz.prog 68 [PV.aC p,PV.aC q] (· =PV.aC (b6 p q)):=by have hl:=AE q (-1);refine Qf Qk Tryz.func68 rfl Vm (by simp[Dt]) fun C hP=>?_;simp only[Dt,Zo,Zg,Zm,Zc,Zf,Zl,Zh,Zs,Zi,Zb,Zk,Zn,Zu,Zq,Zr,Zz];refine Sz0 ?_;refine Qa hP (Mt hq oR (by omega) hE lf) rfl rfl rfl ?_;refine Sz0 ?_;refine Qa hP (Bh (hp.mono (K':=K+2) (by omega) (Kae _)) (Js hq) (by omega) hE ff (by show(er q (-1)).length<=_;omega)) rfl rfl rfl ?_;refine Sz0 ?_;exact Qc rfl rfl
def CU:aw:=⟨19,[.t 2],Zr (Zo (.mv 2 (.c .aa)) .nil)<| .seq (Zr (Zm 4 0<|
 Zk 5 .lss 4 0<|
 Zm 6 5<|
 Zg 6 false (.mv 7 (.t 0))<|
 Zg 6 false (.bin 8 .geq false (.t 7) (.c (Zz 64)))<|
 Zo (.pick 9 (.t 6) (.c (.bool true)) (.t 8)) .nil)<| .cond (.t 9) (Zr (Zo (.mv 2 (.c .aa)) .nil) .ret) .skip)<|Zr (Zm 10 0<|
 Zk 11 .add 10 1<|
 Zo (.mk 12 1 8 3 (Zz 0) (.t 11) (.t 11))<|
 Zm 3 12 .nil)<|Zr (Zm 13 3<|
 Zm 14 0<|
 Zi 15 1 13 14<|
 Zo (.st 1 (.t 15) (.c (Zz 1))) .nil)<|Zr (Zq 16 false 38 [.c (Zz 1)]<|
 Zm 17 3<|
 Zq 18 false 52 [.c .aa,.t 16,.t 17]<|
 Zm 2 18 .nil) .ret⟩
theorem Vn:Qe Tryz.prog Tryz.f27=some CU:=by kernel_rfl
end Go.Proofs.YtonjiljafkiikaaGreat
namespace Go.FW
open Go
variable {C : Ctx} {ρ : Nat -> Option Nat} {fr aq : Fr} {hp : HP} {w : World} {K R : Qg}
theorem Mv {P : Program} {f : FuncId} {fn : Func} {sf : aw} {args : List PV} {Rr : PV -> Prop} (hm : P.follows .mixedOrders = true) (hf : P.funcs[f]? = some fn) (kt : (fn.name != "runtime.NumGoroutine") = true) (hc : Qe P fn = some sf.strip) (hn : args.length <= sf.n /\ sf.n <= 1000000)
  (hv:∀C:Ctx,C.P=P->C.N=sf.n->vc C (nC (eg sf.rs Rr)) [.c sf.body] (fO args) au):Qd P f args Rr:=by
 simp only[Qe,Kab,Kaa]at hc;obtain⟨c,hb,sb,gk,rs,ct,vd⟩:=hc;obtain⟨n,EU,body⟩:=sf;simp only[aw.strip,aw.mk.injEq]at vd;obtain⟨rfl,rfl,rfl⟩:=vd;refine⟨by simp[kQ,hf,hb];simpa using kt,fun w X aQ hX dL ed=>?_⟩
 let C:Ctx:=Ctx.plain P fn.ntmps w X hX hn.2
 refine calls_of_wp hf hb ?_;have mW:(aQ++Array.replicate (fn.ntmps-aQ.size) undef).size=fn.ntmps:=by simp at hn ⊢;omega
 have kx:c8 C (fO args) au (aQ++Array.replicate (fn.ntmps-aQ.size) undef) w:=by
  refine⟨fun _=>none,mW,Ext.refl _ _,(fun _ _ h=>by cases h),by simp[au],by simp[au],fun i=>?_⟩;unfold fO;cases hi:args[i]? with
  |none=>trivial
  | some p=>
   simp only[Kbm];have fe:i<aQ.size:=by rw[dL];exact(Kac.1 hi).1
   have hr:=ed i p hi;have e:(aQ++Array.replicate (fn.ntmps-aQ.size) undef).getD i undef=aQ.getD i undef:=by rw[gD,if_pos fe]
   rw[e];refine Qh.iy (hr.mono (fun _ _ _=>rfl) (fun b _ hn hx=>?_) (Kae _));rcases hx with hx|⟨_,_,h1,_⟩
   ·exact hn hx
   ·simp[au]at h1
 have fin:∀(fr:Fr)(hp:HP)(a:Act)(w':World),a.defers=[]->c8 C fr hp a.tmps w'->nC (eg rs Rr) fr hp->
   a.defers=[]/\∃v,(results fn a.tmps).run P w'= .ok v w'/\∃v' r,Ending.returned v= .returned v'/\Ext bO w w'/\dn w' X r v'/\Rr r:=by
  rintro fr hp a w' hd qH ⟨kV,eJ,hw,hr⟩;obtain⟨ρ,hs⟩:=hw C _ _ qH;obtain⟨v,r,h1,h2,h3⟩:=HR (C:=C) rfl ct hs hr;exact⟨hd,v,h1,v,r,rfl,Ctx.ER hs.ext,h2,h3⟩
 exact AI (C:=C) (R:=nC (eg rs Rr)) hm c body [] _ (fO args) au _ w gk ⟨fun fr hp a w' hd hs hv=>(by rw[oq]at hv;exact fin fr hp a w' hd hs hv),fun id cX he=>(by simp[FW.bE]at he),fin⟩ rfl kx (hv C rfl rfl)
theorem BD {P : Program} {f : FuncId} {fn : Func} {sf : aw} {args : List PV} {Rr : PV -> Prop} (hm : P.follows .mixedOrders = true) (hf : P.funcs[f]? = some fn) (kt : (fn.name != "runtime.NumGoroutine") = true) (hc : Qe P fn = some sf.strip) (hn : args.length <= sf.n /\ sf.n <= 1000000)
  (hv:∀C:Ctx,C.P=P->vc C (nC (eg sf.rs Rr)) [.c sf.body] (fO args) au):Qd P f args Rr:=
 Mv hm hf kt hc hn fun C h _=>hv C h
theorem Sm{ty w i d:Nat}{fz:Bool}{f:Nat->Rat}(h:i<w):fU (some ⟨3,ty,jA PV.rat f w,fz⟩) 3 true i 0 d fr hp K=K (ae fr d (PV.rat (f i))) hp:=by rw[lJ (by rw[AO];exact h) (by omega) (by simp),BR];rfl
theorem Vo:(pS (.aJ [])=True)/\(∀(k:IntKind)(n:Int),pS (.int k n)=True)/\(∀b:Bool,pS (.bool b)=True)/\(∀(e:Nat)(xs:List PV),pS (.sl e xs)=True)/\(∀cs:List PV,pS (.agg cs)=True)/\(∀cs:List PV,pS (.aJ cs)=True):=by refine⟨?_,?_,?_,?_,?_,?_⟩<;>intros<;>simp[pS,PV.refs,PV.aI,cd,cw]
attribute [go_sem] Vo Sm
end Go.FW
namespace Go.FW
open Go
variable {C : Ctx} {ρ : Nat -> Option Nat} {fr aq : Fr} {hp : HP} {w : World} {K R : Qg}
def sO(p:PV)(γ n:Nat)(ag:Bool)(i o d:Nat)(fr:Fr)(hp:HP)(K:Qg):Prop:=match p with
 |.az aO e _ xs=>aO=γ/\∃h:i<xs.length,o+n<=e/\(ag=false->n=1)/\K (ae fr d (m3 ag n o (xs[i]'h))) hp
 |_=>False
theorem Vp{γ n i o d:Nat}{ag:Bool}:gQ n ag (.np γ i o) d fr hp K=sO (fr γ) γ n ag i o d fr hp K:=by simp only[gQ,sO];cases fr γ<;>rfl
def sU(p:PV)(h:Option HB)(v:Option (List PV))(γ n i o:Nat)(fr:Fr)(hp:HP)(K:Qg):Prop:=match p with
 |.az aO e ty xs=>aO=γ/\(∃hb,h=some hb/\hb.fz=false)/\∃h:i<xs.length,o+n<=e/\match v with
   |some cs=>cs.length=n/\K (ae (fm γ fr) γ (.az γ e ty (xs.set i (dX (lR (xs[i]'h).aL o cs))))) hp
   |none=>False
 |_=>False
theorem Vq{γ n i o:Nat}{v:PV}:jN n (.np γ i o) v fr hp K=sU (fr γ) (hp γ) (cT v) γ n i o fr hp K:=by simp only[jN,sU];cases fr γ<;>rfl
theorem WV{γ e ty n o d:Nat}{ag:Bool}{x:PV}(h1:o+n<=e)(h2:ag=true∨n=1):sO (.az γ e ty [x]) γ n ag 0 o d fr hp K=K (ae fr d (m3 ag n o x)) hp:=by have:(ag=false->n=1):=fun h=>h2.resolve_left (by simp[h]);simp[sO,h1];exact fun _=>this
theorem WW{γ e ty n o e0 EW:Nat}{x:PV}{EX cs:List PV}(h1:o+n<=e)(h2:cs.length=n):sU (.az γ e ty [x]) (some ⟨e0,EW,EX,false⟩) (some cs) γ n 0 o fr hp K=K (ae (fm γ fr) γ (.az γ e ty [dX (lR x.aL o cs)])) hp:=by simp[sU,h1,h2]
theorem WX{γ ty B n w r d:Nat}{π:Nat->Nat}(h:r<n):sO (.az γ 1 ty (fY (eQ B n w π))) γ 1 false r 0 d fr hp K=K (ae fr d (.ms (B+π r) w)) hp:=by
 have hl:r<(fY (eQ B n w π)).length:=by simpa[fY,eQ]using h
 simp only[sO,hl,exists_true_left,true_and,Kae,Ka0,implies_true];simp[m3,fY,eQ,PV.aL,PV.cells]
theorem WY{γ ty B n w r m e0 EW:Nat}{π:Nat->Nat}{EX:List PV}(h:r<n):sU (.az γ 1 ty (fY (eQ B n w π))) (some ⟨e0,EW,EX,false⟩) (some [.ms (B+m) w]) γ 1 r 0 fr hp K=K (ae (fm γ fr) γ (.az γ 1 ty (fY (eQ B n w fun x=>if x=r then m else π x)))) hp:=by
 have hl:r<(fY (eQ B n w π)).length:=by simpa[fY,eQ]using h
 have e:(eQ B n w π).set r (B+m,w)=eQ B n w fun x=>if x=r then m else π x:=by
  refine List.ext_getElem (by simp[eQ]) fun j h1 h2=>?_;rw[List.getElem_set,IZ,IZ];split
  ·rename_i e;subst e;simp
  ·rename_i e;rw[if_neg fun e2=>e e2.symm]
 rw[<-e];simp only[sU,hl,exists_true_left,true_and,Kae,Ka0,Kaq,exists_eq_left',KaW,Kbo];simp[dX,lR,fY,PV.aL,PV.cells,List.map_set]
theorem ack:
  (∀(γ o n:Nat),cT (.aB γ o n)=some [.aB γ o n])/\
  (∀(k:IntKind)(n:Int),cT (.int k n)=some [.int k n])/\
  (∀(b:Bool),cT (.bool b)=some [.bool b])/\
  (cT .aa=some [.aa])/\
  (∀(e:Nat)(xs:List PV),cT (.sl e xs)=some [.sl e xs])/\
  (∀(cs:List PV),cT (.pt cs)=some [.pt cs])/\
  (∀(cs:List PV),cT (.agg cs)=some cs):=by
 refine⟨?_,?_,?_,?_,?_,?_,?_⟩<;>intros<;>rfl
theorem Vs{β o n:Nat}(h:1000000<=β):cT (.ao β o n)=some [.ao β o n]:=by simp[cT,bg,h]
theorem Sn{cs:List PV}:cT (.aE cs)=if cs.all PV.eK then some cs else none:=rfl
theorem WZ:(∀(k:IntKind)(n:Int),(PV.int k n).eK=true)/\(∀b:Bool,(PV.bool b).eK=true)/\(PV.aa.eK=true)/\(∀(e:Nat)(xs:List PV),(PV.sl e xs).eK=true)/\(∀(β o n:Nat),(PV.ao β o n).eK=true)/\(∀(β o n:Nat),(PV.aB β o n).eK=true)/\(∀cs:List PV,(PV.pt cs).eK=true)/\(PV.undef.eK=false):=by refine⟨?_,?_,?_,?_,?_,?_,?_,?_⟩<;>intros<;>rfl
theorem W2:(∀(k:IntKind)(n:Int),(PV.int k n).kD=false)/\(∀b:Bool,(PV.bool b).kD=false)/\(PV.aa.kD=false)/\(∀(e:Nat)(xs:List PV),(PV.sl e xs).kD=false)/\(∀(β o n:Nat),(PV.ao β o n).kD=true)/\(∀(β o n:Nat),(PV.aB β o n).kD=true)/\(∀cs:List PV,(PV.pt cs).kD=false)/\(PV.undef.kD=true):=by refine⟨?_,?_,?_,?_,?_,?_,?_,?_⟩<;>intros<;>rfl
theorem NX{cs:List PV}(h:cs.any PV.kD=true):jY cs= .aE cs:=by simp[jY,h]
theorem NY{cs:List PV}(h:cs.any PV.kD=false):jY cs= .agg cs:=by simp[jY,h]
theorem Vt{a b:PV}{cs:List PV}:dX (a::b::cs)=jY (a::b::cs):=rfl
theorem Vu{a:PV}:dX [a]=a:=rfl
theorem Wm{n o:Nat}{x:PV}:m3 true n o x=jY ((x.aL.drop o).take n):=rfl
theorem Wn{n o:Nat}{x:PV}:m3 false n o x=(x.aL.drop o).headD .undef:=rfl
theorem So{l cs:List PV}{o:Nat}:lR l o cs=l.take o++cs++l.drop (o+cs.length):=rfl
theorem Mw{cs:List PV}:(PV.aE cs).aL=cs:=rfl
theorem Mx{cs:List PV}:(PV.agg cs).aL=cs:=rfl
theorem Wo{z:List PV}{ps:List (Nat×Nat×PV)}{d:Nat}(h:ps.any (fun p=>p.2.2.kC)=true):iM z ps d fr hp K=(oh z.length ps/\K (ae fr d (.aE (eZ z (ps.map fun p=>(p.1,(cT p.2.2).getD []))))) hp):=by simp only[iM,if_pos h]
theorem YB{len:Nat}:oh len []=True:=by simp[oh]
theorem XN{len o n:Nat}{v:PV}{ps:List (Nat×Nat×PV)}:oh len ((o,n,v)::ps)=((∃cs,cT v=some cs/\cs.length=n/\o+n<=len)/\oh len ps):=by simp[oh]
theorem Vv:(∀(γ o n:Nat),(PV.aB γ o n).kC=true)/\(∀(cs:List PV),(PV.aE cs).kC=true)/\(∀(β o n:Nat),(PV.ao β o n).kC=decide (2000000<=β))/\(∀(cs:List PV),(PV.agg cs).kC=false)/\(∀(k:IntKind)(n:Int),(PV.int k n).kC=false)/\(∀b:Bool,(PV.bool b).kC=false)/\(PV.aa.kC=false)/\(∀(e:Nat)(xs:List PV),(PV.sl e xs).kC=false):=by refine⟨?_,?_,?_,?_,?_,?_,?_,?_⟩<;>intros<;>rfl
theorem Sp:(∀(β:Nat)(k:IntKind)(n:Int),eY β (.int k n)= .int k n)/\(∀(β:Nat)(b:Bool),eY β (.bool b)= .bool b)/\(∀β:Nat,eY β .aa= .aa)/\(∀(β e:Nat)(xs:List PV),eY β (.sl e xs)= .sl e xs)/\(∀(β γ o n:Nat),eY β (.ao γ o n)=if γ=β then .undef else .ao γ o n)/\(∀(β γ o n:Nat),eY β (.aB γ o n)=if γ=β then .undef else .aB γ o n):=by refine⟨?_,?_,?_,?_,?_,?_⟩<;>intros<;>rfl
theorem Sq{β γ e ty:Nat}{x:PV}(h:γ≠β):cn β (.az γ e ty [x])= .az γ e ty [dX (x.aL.map (eY β))]:=by simp[cn,h]
theorem Sr{β γ ty B n w:Nat}{π:Nat->Nat}(h:γ≠β)(h2:β<B):cn β (.az γ 1 ty (fY (eQ B n w π)))= .az γ 1 ty (fY (eQ B n w π)):=by
 simp only[cn,if_neg h];congr 1;conv=>rhs;rw[<-List.map_id (fY (eQ B n w π))]
 refine KaT fun x hx=>?_;obtain⟨y,hy,rfl⟩:=KaM.1 hx;obtain⟨r,hr,rfl⟩:=KaM.1 hy;simp only[PV.aL,PV.cells,Ka3,Kbf,eY,dX];rw[if_neg (by omega)];rfl
theorem abZ{β δ γ ty B n w:Nat}{π:Nat->Nat}(ah:β<1000000)(hB:2000000<=B)(af:2000000<=γ):cd (kE β δ) (.az γ 1 ty (fY (eQ B n w π)))= .az γ 1 ty (fY (eQ B n w π)):=by
 have e1:kE β δ γ=γ:=by unfold kE;rw[if_neg (by omega)]
 simp only[cd,e1];congr 1;conv=>rhs;rw[<-List.map_id (fY (eQ B n w π))]
 refine KaT fun x hx=>?_;obtain⟨y,hy,rfl⟩:=KaM.1 hx;obtain⟨r,hr,rfl⟩:=KaM.1 hy;refine RH (.inr ⟨_,_,rfl⟩) fun bd n' h=>?_;cases h;unfold kE;rw[if_neg (by omega)]
theorem Wp{δ γ ty B n w:Nat}{π:Nat->Nat}(h:γ≠δ)(jJ:δ<B):cE δ (.az γ 1 ty (fY (eQ B n w π)))= .az γ 1 ty (fY (eQ B n w π)):=by
 simp only[cE,if_neg h];congr 1;conv=>rhs;rw[<-List.map_id (fY (eQ B n w π))]
 refine KaT fun x hx=>?_;obtain⟨y,hy,rfl⟩:=KaM.1 hx;obtain⟨r,hr,rfl⟩:=KaM.1 hy;simp only[PV.aL,PV.cells,Ka3,Kbf,dq,dX];rw[if_neg (by omega)];rfl
theorem N0{β:Nat}{cs:List PV}:bf β (.aE cs)= .aE cs:=rfl
theorem Pz{γ:Nat}{cs:List PV}:cE γ (.aE cs)= .aE (cs.map (dq γ)):=rfl
theorem NB{β:Nat}{cs:List PV}:cn β (.aE cs)= .aE (cs.map (eY β)):=rfl
theorem Wq:(∀(γ:Nat)(k:IntKind)(n:Int),dq γ (.int k n)= .int k n)/\(∀(γ:Nat)(b:Bool),dq γ (.bool b)= .bool b)/\(∀γ:Nat,dq γ .aa= .aa)/\(∀(γ e:Nat)(xs:List PV),dq γ (.sl e xs)= .sl e xs)/\(∀(γ β o n:Nat),dq γ (.ao β o n)=if β=γ then .aB γ o n else .ao β o n)/\(∀(γ β o n:Nat),dq γ (.aB β o n)= .aB β o n):=by refine⟨?_,?_,?_,?_,?_,?_⟩<;>intros<;>rfl
theorem Vw{γ i o off d:Nat}:mN off (.np γ i o) d fr hp K=K (ae fr d (.np γ i (o+off))) hp:=rfl
theorem NC{γ aO e ty:Nat}{xs:List PV}:fy γ (.az aO e ty xs)=if aO=γ then .undef else .az aO e ty xs:=rfl
theorem ND{γ:Nat}{cs:List PV}:fy γ (.aE cs)= .aE cs:=rfl
attribute [go_sem] Vw NC ND false_and List.all_cons List.all_nil N0 Pz NB Wq exists_eq_left' Vp Vq WV WW WX WY ack Vs Sn WZ W2 NX NY Vt Vu Wm Wn So Mw Mx Wo YB XN Vv Sp Sq Sr abZ Wp
theorem Ss{γ e ty:Nat}{cs cs':List PV}(δ e' ty':Nat)(oV:fr γ= .az γ e ty [.aE cs])(h1:hp δ=none)(h2:2000000<=δ)(h3:0<e')(hl:cs'.length=cs.length)(hc:∀p∈cs.zip cs',p.2=p.1∨(p.1= .aa/\p.2= .ao δ 0 0)):
  Wk fr hp (ae fr γ (.az γ e ty [.aE cs'])) (Qi hp δ ⟨e',ty',[],false⟩):=by
 have h:=IU (fr:=fr) (hp:=hp) (γ:=γ) (e:=e) (ty:=ty) (xs:=[.aE cs]) (xs':=[.aE cs']) (fun x=>if x=δ then some (e',ty')else none) oV (fun x y h=>?_) rfl (fun i x x' k1 k2=>?_)
 ·refine cast (congrArg (Wk fr hp (ae fr γ (.az γ e ty [.aE cs']))) (funext fun x=>?_)) h;unfold Qi;by_cases hx:x=δ
  ·subst hx;simp
  ·simp[hx]
 ·split at h
  ·rename_i hx;subst hx;cases h;exact⟨h1,h2,h3⟩
  ·cases h
 ·cases i with
  |succ i=>cases k1
  | zero=>
   cases k1;cases k2;refine⟨hl,fun j y y' q1 q2=>?_⟩;have hz:(y,y')∈cs.zip cs':=by refine Kag (i:=j) ?_;rw[List.getElem?_zip_eq_some];exact⟨q1,q2⟩
   rcases hc _ hz with h|⟨h,h'⟩
   ·exact .inl h
   ·exact .inr ⟨h,δ,(e',ty'),by simp,h'⟩
theorem My{l:List Nat}{x:Nat}(hl:∀y∈l,2000000<=y)(hx:x<2000000):bq hp l x=hp x:=by
 have:x ∉ l:=fun h=>by have:=hl x h;omega
 unfold bq;cases hp x<;>simp[this]
theorem Vx{sk:List It}{r:RT}(s k:Nat){p D:PV}(h0:fr s=p)(ho:Lm fr k p/\zw fr hp k p=D/\∀x∈vK fr k p,2000000<=x)(hv:∀l,(∀x∈l,2000000<=x)->vc C R (.o r::sk) (ae fr s D) (bq hp l)):vc C R (.o (.wk r)::sk) fr hp:=by subst h0;obtain⟨h1,h2,h3⟩:=ho;refine cq (UC s k h1) ?_;rw[h2];exact hv _ h3
theorem NF{γ:Nat}{F:Fr}:fm γ (qa F)=qa F:=by have:=HF (γ:=γ) (B:=[]) (F:=F);simpa only[dA,jS]using this
theorem NG{β:Nat}{F:Fr}(h:2000000<=β):dO β (qa F)=qa F:=by have:=HE (B:=[]) (F:=F) h;simpa only[dA,jS]using this
attribute [go_sem] NF NG
theorem Wr:(∀(k:IntKind)(n:Int),(PV.int k n).aI=[])/\(∀b:Bool,(PV.bool b).aI=[])/\(PV.aa.aI=[])/\(PV.undef.aI=[])/\(∀(e:Nat)(xs:List PV),(PV.sl e xs).aI=[])/\(∀cs:List PV,(PV.agg cs).aI=[])/\(∀cs:List PV,(PV.aJ cs).aI=[])/\(∀cs:List PV,(PV.pt cs).aI=[])/\
  (∀(β o n:Nat),(PV.ao β o n).aI=[])/\(∀(β o n:Nat),(PV.mp β o n).aI=[])/\(∀(β o n:Nat),(PV.aB β o n).aI=[β])/\(∀(β o n:Nat),(PV.np β o n).aI=[β]):=by
 refine⟨?_,?_,?_,?_,?_,?_,?_,?_,?_,?_,?_,?_⟩<;>intros<;>rfl
attribute [go_sem] Wr
theorem PA{d w i:Nat}{k:IntKind}{f:Nat->Rat}(h:i<w):cG 3 (.sl 3 (jA PV.rat f w)) (.int k (i:Nat)) d fr hp K=K (ae fr d (.pt (PV.rat (f i)).cells)) hp:=by unfold jA;rw[pI (by omega) (by simp;omega)];simp
theorem PC{α:Type}{p:α->PV}{f:Nat->α}{w d e:Nat}:kS (.sl e (jA p f w)) d fr hp K=K (ae fr d (.int .i64 (w:Nat))) hp:=by simp[kS,jA]
attribute [go_sem] PA PC
theorem Tf{i c:Nat}(h:c<1600000):(1600000+i=c)=False:=by simp;omega
attribute [go_sem] Tf
end Go.FW
namespace Go.FW
open Go
variable {C C' : Ctx} {ρ ρ' : Nat -> Option Nat} {fr aq : Fr} {hp hp' : HP} {w : World} {K R : Qg}
theorem PO{γ e ty:Nat}{cs cs':List PV}(δ e' ty':Nat)(oV:fr γ= .az γ e ty [.agg cs])(h1:hp δ=none)(h2:2000000<=δ)(h3:0<e')(hl:cs'.length=cs.length)(hc:∀p∈cs.zip cs',p.2=p.1∨(p.1= .aa/\p.2= .ao δ 0 0)):
  Wk fr hp (ae fr γ (.az γ e ty [.aE cs'])) (Qi hp δ ⟨e',ty',[],false⟩):=by
 have h:=IU (fr:=fr) (hp:=hp) (γ:=γ) (e:=e) (ty:=ty) (xs:=[.agg cs]) (xs':=[.aE cs']) (fun x=>if x=δ then some (e',ty')else none) oV (fun x y h=>?_) rfl (fun i x x' k1 k2=>?_)
 ·refine cast (congrArg (Wk fr hp (ae fr γ (.az γ e ty [.aE cs']))) (funext fun x=>?_)) h;unfold Qi;by_cases hx:x=δ
  ·subst hx;simp
  ·simp[hx]
 ·split at h
  ·rename_i hx;subst hx;cases h;exact⟨h1,h2,h3⟩
  ·cases h
 ·cases i with
  |succ i=>cases k1
  | zero=>
   cases k1;cases k2;refine⟨hl,fun j y y' q1 q2=>?_⟩;have hz:(y,y')∈cs.zip cs':=by refine Kag (i:=j) ?_;rw[List.getElem?_zip_eq_some];exact⟨q1,q2⟩
   rcases hc _ hz with h|⟨h,h'⟩
   ·exact .inl h
   ·exact .inr ⟨h,δ,(e',ty'),by simp,h'⟩
end Go.FW
namespace Go.FW
open Go
abbrev LF:=Rat×(Nat->Rat)
variable {C : Ctx} {fr : Fr} {hp : HP} {w : World} {K R : Qg}
abbrev PV.n1(w:Nat)(f:Nat->Rat):PV:=.sl 3 (jA PV.rat f w)
theorem Tg{ty w n i d:Nat}{fz:Bool}{M:MF}(h:i<n):fU (some ⟨1,ty,jA (PV.n1 w) M n,fz⟩) 1 false i 0 d fr hp K=K (ae fr d (PV.n1 w (M i))) hp:=by rw[lJ (by rw[AO];exact h) (by omega) (by simp),BR];rfl
theorem PR{d w n i:Nat}{k:IntKind}{M:MF}(h:i<n):cG 1 (.sl 1 (jA (PV.n1 w) M n)) (.int k (i:Nat)) d fr hp K=K (ae fr d (.pt [PV.n1 w (M i)])) hp:=by
 have hl:i<(jA (PV.n1 w) M n).length:=by rw[AO];exact h
 simp only[cG];simp[hl,BR];rfl
attribute [go_sem] Tg PR
theorem PS{ty i d:Nat}{fz:Bool}{α:Type}{p:α->PV}{L:List α}(h:i<L.length):fU (some ⟨1,ty,L.map p,fz⟩) 1 false i 0 d fr hp K=K (ae fr d (dk false 1 0 (p (L[i]'h)))) hp:=by rw[lJ (by rw[Ka1];exact h) (by omega) (by simp),KbO]
theorem PT{ty i d:Nat}{fz:Bool}{L:List LF}(h:i<L.length):fU (some ⟨3,ty,L.map (fun f=>PV.rat f.1),fz⟩) 3 true i 0 d fr hp K=K (ae fr d (PV.rat (L[i]'h).1)) hp:=by rw[lJ (by rw[Ka1];exact h) (by omega) (by simp),KbO];rfl
theorem PU{ty i d w:Nat}{fz:Bool}{L:List LF}(h:i<L.length):fU (some ⟨1,ty,L.map (fun f=>PV.n1 w f.2),fz⟩) 1 false i 0 d fr hp K=K (ae fr d (PV.n1 w (L[i]'h).2)) hp:=by rw[PS h];rfl
attribute [go_sem] PT PU
def nm1(x:Nat):Bool:=decide (x=2000000)
theorem Vy:nm1 2000000=true:=decide_eq_true rfl
attribute [go_sem] Vy
theorem VA{p:PV}{ps:List PV}{d:Nat}{fr:Fr}{hp:HP}{K:Qg}:iL (.cW (p::ps)) 0 d fr hp K=K (ae fr d p) hp:=rfl
theorem VB{p q:PV}{ps:List PV}{d:Nat}{fr:Fr}{hp:HP}{K:Qg}:iL (.cW (p::q::ps)) 1 d fr hp K=K (ae fr d q) hp:=rfl
attribute [go_sem] VA VB
end Go.FW
namespace Go.FW
open Go
variable {C : Ctx} {fr : Fr} {hp : HP} {w : World} {K R : Qg}
theorem ru{γ e ty:Nat}{cs:List PV}(h:fr γ= .az γ e ty [.aE cs]):Wk fr hp (ae fr γ (.az γ e ty [.aE (cs.map fun _=>.undef)])) hp:=by
 rintro C tmps w ⟨ρ,hs⟩;refine⟨ρ,hs.sz,hs.ext,hs.dE,hs.own,hs.inj,fun i=>?_⟩;unfold ae;split
 ·rename_i hi;subst hi;have aW:=hs.ch i;rw[h]at aW;obtain⟨h0,he,b,hb,cur,cap,h1,h2,h3,h4,h5,h6,h7,h8,h9,bx,cx⟩:=aW;refine⟨h0,he,b,hb,cur,cap,h1,h2,h3,h4,h5,h6,h7,h8,h9,fun k x hx=>?_,fun k x hx j y hy=>?_⟩
  ·match k,hx with
   |0,hx=>simp at hx;subst hx;have:=bx 0 _ rfl;simpa[PV.aL]using this
   |k+1,hx=>simp at hx
  ·match k,hx with
   |0,hx=>simp at hx;subst hx;simp only[PV.aL,Kap,Kaa]at hy;obtain⟨_,_,rfl⟩:=hy;trivial
   |k+1,hx=>simp at hx
 ·exact hs.ch i
def gR(x:Nat):Bool:=decide (x=2000000)||decide (x=2000001)
theorem rG{x:Nat}:gR x=true↔x=2000000∨x=2000001:=by simp[gR]
abbrev aa7(A B:HB):HP:=Qi (Qi au 2000000 A) 2000001 B
abbrev vL(n m:Nat):PV:=.aE [.ms 2000000 n,.ms 2000001 m]
theorem VC{P:Program}(hP:C.P=P){g:FuncId}{args:List PV}{d n m:Nat}{A B A' B':HB}{q:PV}(h:rF P g args (fun _=>.undef) (aa7 A B) fun r _ H=>r= .cj [.ms 2000000 n,.ms 2000001 m] q/\H 2000000=some A'/\H 2000001=some B')
  (hA:hp 2000000=some A) (hB:hp 2000001=some B) (fA:A.fz=false) (fB:B.fz=false)
  (aR:∀x∈args,∀γ e ty xs,x≠ .az γ e ty xs) (ks:∀γ∈args.flatMap (fun x=>x.refs++x.aI),gR γ=true) (cK:args.length<=1000000)
  (hK:K (ae (e9 gR fr) d (.cj [.ms 2000000 n,.ms 2000001 m] q)) (Qi (Qi hp 2000000 A') 2000001 B')):ez C false (.fn g [] []) args (some d) fr hp K:=by
 refine UH hP h gR gR [] (fun x hx=>?_) (fun x=>?_) rfl cK aR ks (fun s _=>.inl rfl) (fun x hx=>⟨.inr hx,?_⟩) (fun h=>by cases h) (fun r F H eT=>?_)
 ·rcases rG.1 hx with rfl|rfl
  ·exact⟨A,hA,fA,by omega⟩
  ·exact⟨B,hB,fB,by omega⟩
 ·by_cases e1:x=2000001
  ·subst e1;simp[gR,Qi,hB]
  ·by_cases e0:x=2000000
   ·subst e0;simp[gR,Qi,hA]
   ·simp[gR,Qi,e0,e1,au]
 ·rcases rG.1 hx with rfl|rfl<;>omega
 ·obtain⟨rfl,h1,h2⟩:=eT;refine⟨fun x hx=>?_,(fun γ e ty xs h=>by cases h),fun β ah=>?_,(fun s hs=>by cases hs),?_⟩
  ·rcases rG.1 hx with rfl|rfl
   ·rw[h1];simp
   ·rw[h2];simp
  ·simp[PV.refs,PV.aI,PV.cA]at ah;exact rG.2 ah
  ·have e1:sh [] F (ew (e9 gR fr) (some d) (.cj [.ms 2000000 n,.ms 2000001 m] q))=ae (e9 gR fr) d (.cj [.ms 2000000 n,.ms 2000001 m] q):=by funext s;simp[sh,ew]
   have e2:oN gR gR H hp=Qi (Qi hp 2000000 A') 2000001 B':=by
    funext x;unfold oN Qi;by_cases e1:x=2000001
    ·subst e1;simp[gR,h2]
    ·by_cases e0:x=2000000
     ·subst e0;simp[gR,h1]
     ·simp[gR,e0,e1]
   rw[e1,e2];exact hK
theorem VD{cs:List PV}{q:PV}{d:Nat}:iL (.cj cs q) 0 d fr hp K=K (ae fr d (.aE cs)) hp:=rfl
theorem US{cs:List PV}{q:PV}{d:Nat}:iL (.cj cs q) 1 d fr hp K=K (ae fr d q) hp:=rfl
theorem Ws{n ty d:Nat}{cs:List PV}(h:cs.length=n)(h0:0<n)(hU:cs.all PV.eK=true)(nQ:cs.all (fun x=> !(x.cA.contains (4000000+d)))=true):
  dG n ty (.aE cs) d fr hp K=K (ae (ae (dO (4000000+d) fr) (4000000+d) (.az (4000000+d) n ty [.aE cs])) d (.np (4000000+d) 0 0)) (Qi hp (4000000+d) ⟨n,ty,[],false⟩):=by
 show oz n ty cs d fr hp K=_;unfold oz cm;simp only[eq_iff_iff,and_iff_right_iff_imp];exact fun _=>⟨h,h0,hU,nQ⟩
theorem acg{σ:Nat->Nat}{γ e ty:Nat}{cs:List PV}:cd σ (.az γ e ty [.aE cs])= .az (σ γ) e ty [dX (cs.map (cw σ))]:=rfl
theorem Wt{γ aO e ty:Nat}{cs:List PV}(h:aO≠γ):cE γ (.az aO e ty [.aE cs])= .az aO e ty [dX (cs.map (dq γ))]:=by simp[cE,h,PV.aL]
theorem Wu{γ e ty:Nat}{cs:List PV}{nm:Nat->Bool}:kR nm (.az γ e ty [.aE cs])=if(γ::cs.flatMap PV.cA).any nm then .undef else .az γ e ty [.aE cs]:=by simp[kR,PV.refs,PV.aI,PV.aL]
attribute [go_sem] VD US Ws acg Wt Wu
end Go.FW
