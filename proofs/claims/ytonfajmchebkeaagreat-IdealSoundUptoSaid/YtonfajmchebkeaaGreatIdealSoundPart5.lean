/- Part 5 of the proof of IdealSound: CS3, CS2, CS, S1, S2, S3, S4, S5, S6, S7, S8, S9, CM, R3, R4, M1, M2, T1, T1b, T1c, T1d, U1, CP, P1, P2, U2, P3, P4, U3, CL, U4, U5, CU. Own lemmas; no conditions. -/
import Derived.Test.YtonfajmchebkeaaGreatIdealSoundPart4
set_option linter.unusedSimpArgs false
set_option linter.unnecessarySimpa false
set_option linter.unusedVariables false
namespace Go.Proofs.YtonfajmchebkeaaGreat
open Go Go.FW
set_option maxRecDepth 100000
def c75:SFn:=⟨92,[.t 4],Zr (Zo (.mv 4 (.c .nilS)) .nil)<|Zr (Zo (.mv 5 (.c .nilS)) .nil)<|Zr (Zc 6 0<|
 Zc 7 0 .nil)<| .seq (.block 0<| .loop<| .seq (Zr (Zm 10 6<|
 Zm 11 0<|
 Zn 12 11<|
 Zb 13 .lss 10 12<|
 Zm 14 13<|
 Zg 14 false (.mv 15 (.t 7))<|
 Zg 14 false (.mv 16 (.t 1))<|
 Zg 14 false (.len 17 (.t 16))<|
 Zg 14 false (.bin 18 .lss false (.t 15) (.t 17))<|
 Zo (.pick 19 (.t 14) (.c (.bool true)) (.t 18)) .nil)<| .cond (.t 19) .skip (.exit 0))<| .block 1<|Zr (Zc 8 1 .nil)<| .seq (Zr (Zm 20 6<|
 Zm 21 0<|
 Zn 22 21<|
 Zb 23 .eql 20 22 .nil)<| .cond (.t 23) (.rg (Zc 8 (-1) .nil)) (Zr (Zm 24 7<|
 Zm 25 1<|
 Zn 26 25<|
 Zb 27 .lss 24 26 .nil)<| .cond (.t 27) (.rg (Zm 28 0<|
 Zm 29 6<|
 Zi 30 4 28 29<|
 Zf 31 3 30<|
 Zl 32 1 31<|
 Zm 33 1<|
 Zm 34 7<|
 Zi 35 4 33 34<|
 Zf 36 3 35<|
 Zl 37 1 36<|
 Zq 38 false 91 [.t 32,.t 37,.c (Zz 0)]<|
 Zm 8 38 .nil)) .skip))<| .block 2<|Zr (Zm 68 8<|
 Zk 69 .gtr 68 0<|
 Zm 67 69 .nil)<| .cond (.t 67) (Zr (Zm 70 5<|
 Zm 71 0<|
 Zm 72 6<|
 Zi 73 4 71 72<|
 Zh 74 4 73<|
 Zo (.bs 75 4 127 [.t 74])<|
 Zo (.app 76 4 80 127 (.t 70) (.t 75))<|
 Zm 5 76 .nil)<| .rg (Zm 77 6<|
 Zk 78 .add 77 1<|
 Zm 6 78 .nil)) (Zr (Zm 80 8<|
 Zk 81 .lss 80 0<|
 Zm 79 81 .nil)<| .cond (.t 79) (Zr (Zm 82 5<|
 Zm 83 1<|
 Zm 84 7<|
 Zi 85 4 83 84<|
 Zh 86 4 85<|
 Zo (.bs 87 4 127 [.t 86])<|
 Zo (.app 88 4 80 127 (.t 82) (.t 87))<|
 Zm 5 88 .nil)<| .rg (Zm 89 7<|
 Zk 90 .add 89 1<|
 Zm 7 90 .nil)) (.seq (Zr (Zm 39 0<|
 Zm 40 6<|
 Zi 41 4 39 40<|
 Zf 42 0 41<|
 Zh 43 3 42<|
 Zm 44 1<|
 Zm 45 7<|
 Zi 46 4 44 45<|
 Zf 47 0 46<|
 Zh 48 3 47<|
 .br (Zq 49 true 71 [.t 43,.t 48]<|
 Zo (.alloc 9 3 32 (.agg [.bool false,.nilS,.nilS]))<|
 Zs 3 9 49 .nil) (Zo (.alloc 9 3 32 (.agg [.bool false,.nilS,.nilS]))<|
 Zq 49 true 71 [.t 43,.t 48]<|
 Zs 3 9 49 .nil))<|Zr (Zh 50 3 9<|
 Zq 51 false 85 [.t 50]<|
 Zk 52 .neq 51 0 .nil)<| .cond (.t 52) (.rg (Zm 53 5<|
 Zh 54 3 9<|
 Zm 55 0<|
 Zm 56 6<|
 Zi 57 4 55 56<|
 Zf 58 3 57<|
 Zl 59 1 58<|
 Zo (.bld 60 [.bool false,.nilS,.nilS,.nilS] [(0,3,.t 54),(3,1,.t 59)])<|
 Zo (.bs 61 4 127 [.t 60])<|
 Zo (.app 62 4 80 127 (.t 53) (.t 61))<|
 Zm 5 62 .nil)) .skip)<|Zr (Zm 63 6<|
 Zk 64 .add 63 1<|
 Zm 6 64 .nil)<| .rg (Zm 65 7<|
 Zk 66 .add 65 1<|
 Zm 7 66 .nil))))<|Zr (Zm 91 5<|
 Zm 4 91 .nil) .ret⟩
theorem Qant:Qd Tryz.prog Tryz.f75=some c75:=by kernel_rfl
def c63:SFn:=⟨58,[.t 4],Zr (Zc 4 0 .nil)<| .seq (Zr (Zc 5 0 .nil)<| .block 0<| .loop<| .seq (Zr (Zm 8 5<|
 Zm 9 0<|
 Zn 10 9<|
 Zb 11 .lss 8 10<|
 Zm 12 11<|
 Zg 12 true (.mv 13 (.t 5))<|
 Zg 12 true (.mv 14 (.t 1))<|
 Zg 12 true (.len 15 (.t 14))<|
 Zg 12 true (.bin 16 .lss false (.t 13) (.t 15))<|
 Zo (.pick 17 (.t 12) (.t 16) (.c (.bool false))) .nil)<| .cond (.t 17) .skip (.exit 0))<| .seq (.block 1<| .seq (Zr (Zm 20 0<|
 Zm 21 5<|
 Zi 22 4 20 21<|
 Zf 23 3 22<|
 Zl 24 1 23<|
 Zm 25 1<|
 Zm 26 5<|
 Zi 27 4 25 26<|
 Zf 28 3 27<|
 Zl 29 1 28<|
 Zq 30 false 91 [.t 24,.t 29,.c (Zz 0)]<|
 Zm 6 30 .nil)<|Zr (Zm 31 6<|
 Zk 32 .neq 31 0 .nil)<| .cond (.t 32) (Zr (Zm 33 6<|
 Zm 4 33 .nil) .ret) .skip)<|Zr (Zm 34 0<|
 Zm 35 5<|
 Zi 36 4 34 35<|
 Zf 37 0 36<|
 Zh 38 3 37<|
 Zm 39 1<|
 Zm 40 5<|
 Zi 41 4 39 40<|
 Zf 42 0 41<|
 Zh 43 3 42<|
 Zq 44 false 72 [.t 38,.t 43]<|
 Zm 7 44 .nil)<|Zr (Zm 45 7<|
 Zk 46 .neq 45 0 .nil)<| .cond (.t 46) (Zr (Zm 47 7<|
 Zm 4 47 .nil) .ret) .skip)<| .rg (Zm 18 5<|
 Zk 19 .add 18 1<|
 Zm 5 19 .nil))<| .seq (Zr (Zm 48 0<|
 Zn 49 48<|
 Zm 50 1<|
 Zn 51 50<|
 Zb 52 .lss 49 51 .nil)<| .cond (.t 52) (Zr (Zc 4 (-1) .nil) .ret) .skip)<| .seq (Zr (Zm 53 0<|
 Zn 54 53<|
 Zm 55 1<|
 Zn 56 55<|
 Zb 57 .gtr 54 56 .nil)<| .cond (.t 57) (Zr (Zc 4 1 .nil) .ret) .skip)<|Zr (Zc 4 0 .nil) .ret⟩
theorem Qanu:Qd Tryz.prog Tryz.f63=some c63:=by kernel_rfl
def c107:SFn:=⟨5,[.t 2],Zr (Zo (.box 1 3 32 (.t 0))<|
 Zo (.mv 2 (.c .nilS)) .nil)<|Zr (Zh 3 3 1<|
 Zq 4 false 104 [.c .nilS,.t 3,.c .nilS]<|
 Zm 2 4 .nil) .ret⟩
theorem Qajo:Qd Tryz.prog Tryz.f107=some c107:=by kernel_rfl
def c20:SFn:=⟨9,[.t 4],Zr (Zo (.mv 4 (.c (.bool false))) .nil)<|Zr (Zm 5 0<|
 Zm 6 1<|
 Zq 7 false 63 [.t 5,.t 6]<|
 Zk 8 .eql 7 0<|
 Zm 4 8 .nil) .ret⟩
theorem Qanv:Qd Tryz.prog Tryz.f20=some c20:=by kernel_rfl
def c26:SFn:=⟨68,[.cell 4 3 true,.t 5],Zr (Zo (.alloc 4 3 32 (.agg [.bool false,.nilS,.nilS]))<|
 Zc 5 0 .nil)<|Zr (Zq 11 false 37 [.c (Zz 0)]<|
 Zo (.alloc 6 3 32 (.agg [.bool false,.nilS,.nilS]))<|
 Zs 3 6 11 .nil)<| .seq (Zr (Zc 7 0 .nil)<| .block 0<| .loop<| .seq (Zr (Zm 12 7<|
 Zm 13 0<|
 Zn 14 13<|
 Zb 15 .lss 12 14 .nil)<| .cond (.t 15) .skip (.exit 0))<| .seq (.block 1<|Zr (Zm 18 0<|
 Zm 19 7<|
 Zi 20 4 18 19<|
 Zf 21 3 20<|
 Zl 22 1 21<|
 Zn 23 22<|
 Zm 24 1<|
 Zn 25 24<|
 Zb 26 .gtr 23 25 .nil)<| .cond (.t 26) (Zr (Zo (.bld 27 [.bool false,.nilS,.nilS] [])<|
 Zs 3 4 27<|
 Zc 5 2 .nil) .ret) .skip)<| .rg (Zm 16 7<|
 Zk 17 .add 16 1<|
 Zm 7 17 .nil))<| .seq (Zr (Zc 8 0 .nil)<| .block 2<| .loop<| .seq (Zr (Zm 28 8<|
 Zm 29 0<|
 Zn 30 29<|
 Zb 31 .lss 28 30 .nil)<| .cond (.t 31) .skip (.exit 2))<| .seq (.block 3<|Zr (Zm 34 0<|
 Zm 35 8<|
 Zi 36 4 34 35<|
 Zf 37 0 36<|
 Zh 38 3 37<|
 Zo (.alloc 9 3 32 (.agg [.bool false,.nilS,.nilS]))<|
 Zs 3 9 38 .nil)<| .seq (Zr (Zc 10 0 .nil)<| .block 4<| .loop<| .seq (Zr (Zm 39 10<|
 Zm 40 0<|
 Zm 41 8<|
 Zi 42 4 40 41<|
 Zf 43 3 42<|
 Zl 44 1 43<|
 Zn 45 44<|
 Zb 46 .lss 39 45 .nil)<| .cond (.t 46) .skip (.exit 4))<| .seq (.block 5<| .rg (Zh 49 3 9<|
 Zm 50 1<|
 Zm 51 10<|
 Zi 52 3 50 51<|
 Zh 53 3 52<|
 Zm 54 0<|
 Zm 55 8<|
 Zi 56 4 54 55<|
 Zf 57 3 56<|
 Zl 58 1 57<|
 Zm 59 10<|
 Zi 60 1 58 59<|
 Zl 61 1 60<|
 Zq 62 true 70 [.t 53,.t 61]<|
 Zq 63 true 69 [.t 49,.t 62]<|
 Zs 3 9 63 .nil))<| .rg (Zm 47 10<|
 Zk 48 .add 47 1<|
 Zm 10 48 .nil))<| .rg (Zh 64 3 6<|
 Zh 65 3 9<|
 Zq 66 false 71 [.t 64,.t 65]<|
 Zs 3 6 66 .nil))<| .rg (Zm 32 8<|
 Zk 33 .add 32 1<|
 Zm 8 33 .nil))<|Zr (Zh 67 3 6<|
 Zs 3 4 67<|
 Zc 5 0 .nil) .ret⟩
theorem Qanw:Qd Tryz.prog Tryz.f26=some c26:=by kernel_rfl
def c41:SFn:=⟨22,[.t 4],Zr (Zo (.mv 4 (.c .nilS)) .nil)<|Zr (Zo (.mv 5 (.c .nilS)) .nil)<| .seq (Zr (Zc 6 0 .nil)<| .block 0<| .loop<| .seq (Zr (Zm 7 6<|
 Zm 8 1<|
 Zn 9 8<|
 Zb 10 .lss 7 9 .nil)<| .cond (.t 10) .skip (.exit 0))<| .seq (.block 1<| .rg (Zm 13 5<|
 Zm 14 0<|
 Zm 15 1<|
 Zm 16 6<|
 Zi 17 4 15 16<|
 Zh 18 4 17<|
 Zq 19 false 86 [.t 14,.t 18]<|
 Zq 20 false 75 [.t 13,.t 19]<|
 Zm 5 20 .nil))<| .rg (Zm 11 6<|
 Zk 12 .add 11 1<|
 Zm 6 12 .nil))<|Zr (Zm 21 5<|
 Zm 4 21 .nil) .ret⟩
theorem Qanx:Qd Tryz.prog Tryz.f41=some c41:=by kernel_rfl
def c189:SFn:=⟨6,[.t 2],Zr (Zo (.mv 2 (.c .nilS)) .nil)<|Zr (Zm 3 0<|
 Zq 4 false 37 [.c (Zz (-1))]<|
 Zq 5 false 125 [.t 3,.t 4]<|
 Zm 2 5 .nil) .ret⟩
theorem Qajp:Qd Tryz.prog Tryz.f189=some c189:=by kernel_rfl
def c227:SFn:=⟨34,[.t 2],Zr (Zo (.mv 2 (.c .nilS)) .nil)<|Zr (Zo (.mv 3 (.c .nilS)) .nil)<| .seq (Zr (Zc 4 0 .nil)<| .block 0<| .loop<| .seq (Zr (Zm 6 4<|
 Zm 7 0<|
 Zn 8 7<|
 Zb 9 .lss 6 8 .nil)<| .cond (.t 9) .skip (.exit 0))<| .seq (.block 1<|Zr (Zm 12 0<|
 Zm 13 4<|
 Zi 14 4 12 13<|
 Zf 15 3 14<|
 Zl 16 1 15<|
 Zq 17 false 246 [.t 16]<|
 Zm 5 17 .nil)<|Zr (Zm 18 0<|
 Zm 19 4<|
 Zi 20 4 18 19<|
 Zf 21 3 20<|
 Zl 22 1 21<|
 Zm 23 5<|
 Zq 24 false 247 [.t 22,.t 23] .nil)<| .cond (.t 24) (.rg (Zm 25 3<|
 Zm 26 0<|
 Zm 27 4<|
 Zi 28 4 26 27<|
 Zf 29 0 28<|
 Zh 30 3 29<|
 Zm 31 5<|
 Zq 32 false 104 [.t 25,.t 30,.t 31]<|
 Zm 3 32 .nil)) .skip)<| .rg (Zm 10 4<|
 Zk 11 .add 10 1<|
 Zm 4 11 .nil))<|Zr (Zm 33 3<|
 Zm 2 33 .nil) .ret⟩
theorem Qajq:Qd Tryz.prog Tryz.f227=some c227:=by kernel_rfl
def c44:SFn:=⟨52,[.t 2],Zr (Zo (.mv 2 (.c (.bool false))) .nil)<| .seq (Zr (Zc 3 0 .nil)<| .block 0<| .loop<| .seq (Zr (Zm 4 3<|
 Zm 5 0<|
 Zn 6 5<|
 Zb 7 .lss 4 6 .nil)<| .cond (.t 7) .skip (.exit 0))<| .seq (.block 1<| .seq (Zr (Zm 10 0<|
 Zm 11 3<|
 Zi 12 4 10 11<|
 Zf 13 0 12<|
 Zh 14 3 13<|
 Zq 15 false 56 [.t 14]<|
 Zu 16 15<|
 Zm 17 16<|
 Zg 17 false (.mv 18 (.t 0))<|
 Zg 17 false (.mv 19 (.t 3))<|
 Zg 17 false (.idx 20 4 (.t 18) (.t 19))<|
 Zg 17 false (.fld 21 0 (.t 20))<|
 Zg 17 false (.ld 22 3 true (.t 21))<|
 Zg 17 false (.call (some 23) false (.c (.fn 85 [] [])) [.t 22])<|
 Zg 17 false (.bin 24 .eql false (.t 23) (.c (Zz 0)))<|
 Zo (.pick 25 (.t 17) (.c (.bool true)) (.t 24))<|
 Zm 26 25<|
 Zg 26 false (.mv 27 (.t 0))<|
 Zg 26 false (.mv 28 (.t 3))<|
 Zg 26 false (.idx 29 4 (.t 27) (.t 28))<|
 Zg 26 false (.fld 30 3 (.t 29))<|
 Zg 26 false (.ld 31 1 false (.t 30))<|
 Zg 26 false (.call (some 32) false (.c (.fn 90 [] [])) [.t 31])<|
 Zg 26 false (.un 33 .not (.t 32))<|
 Zo (.pick 34 (.t 26) (.c (.bool true)) (.t 33)) .nil)<| .cond (.t 34) (Zr (Zo (.mv 2 (.c (.bool false))) .nil) .ret) .skip)<|Zr (Zm 35 3<|
 Zk 36 .gtr 35 0<|
 Zm 37 36<|
 Zg 37 true (.mv 38 (.t 0))<|
 Zg 37 true (.mv 39 (.t 3))<|
 Zg 37 true (.bin 40 .sub false (.t 39) (.c (Zz 1)))<|
 Zg 37 true (.idx 41 4 (.t 38) (.t 40))<|
 Zg 37 true (.fld 42 3 (.t 41))<|
 Zg 37 true (.ld 43 1 false (.t 42))<|
 Zg 37 true (.mv 44 (.t 0))<|
 Zg 37 true (.mv 45 (.t 3))<|
 Zg 37 true (.idx 46 4 (.t 44) (.t 45))<|
 Zg 37 true (.fld 47 3 (.t 46))<|
 Zg 37 true (.ld 48 1 false (.t 47))<|
 Zg 37 true (.call (some 49) false (.c (.fn 91 [] [])) [.t 43,.t 48,.c (Zz 0)])<|
 Zg 37 true (.bin 50 .leq false (.t 49) (.c (Zz 0)))<|
 Zo (.pick 51 (.t 37) (.t 50) (.c (.bool false))) .nil)<| .cond (.t 51) (Zr (Zo (.mv 2 (.c (.bool false))) .nil) .ret) .skip)<| .rg (Zm 8 3<|
 Zk 9 .add 8 1<|
 Zm 3 9 .nil))<|Zr (Zo (.mv 2 (.c (.bool true))) .nil) .ret⟩
theorem Qany:Qd Tryz.prog Tryz.f44=some c44:=by kernel_rfl
def c125:SFn:=⟨35,[.t 4],Zr (Zo (.box 3 3 32 (.t 1))<|
 Zo (.mv 4 (.c .nilS)) .nil)<|Zr (Zo (.mv 5 (.c .nilS)) .nil)<| .seq (Zr (Zc 6 0 .nil)<| .block 0<| .loop<| .seq (Zr (Zm 7 6<|
 Zm 8 0<|
 Zn 9 8<|
 Zb 10 .lss 7 9<|
 Zm 11 10<|
 Zg 11 true (.ld 12 3 true (.t 3))<|
 Zg 11 true (.call (some 13) false (.c (.fn 85 [] [])) [.t 12])<|
 Zg 11 true (.bin 14 .neq false (.t 13) (.c (Zz 0)))<|
 Zo (.pick 15 (.t 11) (.t 14) (.c (.bool false))) .nil)<| .cond (.t 15) .skip (.exit 0))<| .seq (.block 1<| .rg (Zm 18 5<|
 Zm 19 0<|
 Zm 20 6<|
 Zi 21 4 19 20<|
 Zf 22 0 21<|
 Zh 23 3 22<|
 Zh 24 3 3<|
 Zm 26 0<|
 Zm 27 6<|
 Zi 28 4 26 27<|
 Zf 29 3 28<|
 Zl 30 1 29<|
 Zq 25 true 69 [.t 23,.t 24]<|
 Zo (.bld 31 [.bool false,.nilS,.nilS,.nilS] [(0,3,.t 25),(3,1,.t 30)])<|
 Zo (.bs 32 4 127 [.t 31])<|
 Zo (.app 33 4 80 127 (.t 18) (.t 32))<|
 Zm 5 33 .nil))<| .rg (Zm 16 6<|
 Zk 17 .add 16 1<|
 Zm 6 17 .nil))<|Zr (Zm 34 5<|
 Zm 4 34 .nil) .ret⟩
theorem Qajr:Qd Tryz.prog Tryz.f125=some c125:=by kernel_rfl
def c122:SFn:=⟨9,[.t 4],Zr (Zo (.mv 4 (.c .nilS)) .nil)<|Zr (Zm 5 0<|
 Zm 6 1<|
 Zq 7 false 189 [.t 6]<|
 Zq 8 false 75 [.t 5,.t 7]<|
 Zm 4 8 .nil) .ret⟩
theorem Qajs:Qd Tryz.prog Tryz.f122=some c122:=by kernel_rfl
def c104:SFn:=⟨88,[.t 6],Zr (Zo (.box 4 3 32 (.t 1))<|
 Zo (.mv 6 (.c .nilS)) .nil)<|Zr (Zm 10 0<|
 Zn 11 10<|
 Zm 7 11 .nil)<| .seq (.block 0<| .loop<| .seq (Zr (Zm 12 7<|
 Zk 13 .gtr 12 0<|
 Zm 14 13<|
 Zg 14 true (.mv 15 (.t 0))<|
 Zg 14 true (.mv 16 (.t 7))<|
 Zg 14 true (.bin 17 .sub false (.t 16) (.c (Zz 1)))<|
 Zg 14 true (.idx 18 4 (.t 15) (.t 17))<|
 Zg 14 true (.fld 19 3 (.t 18))<|
 Zg 14 true (.ld 20 1 false (.t 19))<|
 Zg 14 true (.mv 21 (.t 2))<|
 Zg 14 true (.call (some 22) false (.c (.fn 91 [] [])) [.t 20,.t 21,.c (Zz 0)])<|
 Zg 14 true (.bin 23 .lss false (.t 22) (.c (Zz 0)))<|
 Zo (.pick 24 (.t 14) (.t 23) (.c (.bool false))) .nil)<| .cond (.t 24) .skip (.exit 0))<| .block 1<| .rg (Zm 25 7<|
 Zk 26 .sub 25 1<|
 Zm 7 26 .nil))<|Zr (Zo (.mv 8 (.c .nilS)) .nil)<| .seq (Zr (Zm 27 7<|
 Zk 28 .gtr 27 0<|
 Zm 29 28<|
 Zg 29 true (.mv 30 (.t 0))<|
 Zg 29 true (.mv 31 (.t 7))<|
 Zg 29 true (.bin 32 .sub false (.t 31) (.c (Zz 1)))<|
 Zg 29 true (.idx 33 4 (.t 30) (.t 32))<|
 Zg 29 true (.fld 34 3 (.t 33))<|
 Zg 29 true (.ld 35 1 false (.t 34))<|
 Zg 29 true (.mv 36 (.t 2))<|
 Zg 29 true (.call (some 37) false (.c (.fn 91 [] [])) [.t 35,.t 36,.c (Zz 0)])<|
 Zg 29 true (.bin 38 .eql false (.t 37) (.c (Zz 0)))<|
 Zo (.pick 39 (.t 29) (.t 38) (.c (.bool false))) .nil)<| .cond (.t 39) (Zr (Zm 40 8<|
 Zm 41 0<|
 Zm 42 7<|
 Zk 43 .sub 42 1<|
 Zo (.sl 44 4 (.t 41) none (some (.t 43)) none)<|
 Zo (.app 45 4 80 127 (.t 40) (.t 44))<|
 Zm 8 45 .nil)<| .seq (Zr (Zm 46 0<|
 Zm 47 7<|
 Zk 48 .sub 47 1<|
 Zi 49 4 46 48<|
 Zf 50 0 49<|
 Zh 51 3 50<|
 Zh 52 3 4<|
 .br (Zq 53 true 71 [.t 51,.t 52]<|
 Zo (.alloc 9 3 32 (.agg [.bool false,.nilS,.nilS]))<|
 Zs 3 9 53 .nil) (Zo (.alloc 9 3 32 (.agg [.bool false,.nilS,.nilS]))<|
 Zq 53 true 71 [.t 51,.t 52]<|
 Zs 3 9 53 .nil))<|Zr (Zh 54 3 9<|
 Zq 55 false 85 [.t 54]<|
 Zk 56 .neq 55 0 .nil)<| .cond (.t 56) (.rg (Zm 57 8<|
 Zh 58 3 9<|
 Zm 59 2<|
 Zo (.bld 60 [.bool false,.nilS,.nilS,.nilS] [(0,3,.t 58),(3,1,.t 59)])<|
 Zo (.bs 61 4 127 [.t 60])<|
 Zo (.app 62 4 80 127 (.t 57) (.t 61))<|
 Zm 8 62 .nil)) .skip)<|Zr (Zm 63 8<|
 Zm 64 0<|
 Zm 65 7<|
 Zo (.sl 66 4 (.t 64) (some (.t 65)) none none)<|
 Zo (.app 67 4 80 127 (.t 63) (.t 66))<|
 Zm 6 67 .nil) .ret) .skip)<|Zr (Zm 68 8<|
 Zm 69 0<|
 Zm 70 7<|
 Zo (.sl 71 4 (.t 69) none (some (.t 70)) none)<|
 Zo (.app 72 4 80 127 (.t 68) (.t 71))<|
 Zm 8 72 .nil)<| .seq (Zr (Zh 73 3 4<|
 Zq 74 false 85 [.t 73]<|
 Zk 75 .neq 74 0 .nil)<| .cond (.t 75) (.rg (Zm 76 8<|
 Zh 77 3 4<|
 Zq 78 false 148 [.t 77]<|
 Zm 79 2<|
 Zo (.bld 80 [.bool false,.nilS,.nilS,.nilS] [(0,3,.t 78),(3,1,.t 79)])<|
 Zo (.bs 81 4 127 [.t 80])<|
 Zo (.app 82 4 80 127 (.t 76) (.t 81))<|
 Zm 8 82 .nil)) .skip)<|Zr (Zm 83 8<|
 Zm 84 0<|
 Zm 85 7<|
 Zo (.sl 86 4 (.t 84) (some (.t 85)) none none)<|
 Zo (.app 87 4 80 127 (.t 83) (.t 86))<|
 Zm 6 87 .nil) .ret⟩
theorem Qajt:Qd Tryz.prog Tryz.f104=some c104:=by kernel_rfl
def c70:SFn:=⟨22,[.cell 4 3 true],Zr (Zo (.box 2 3 32 (.t 0))<|
 Zo (.alloc 4 3 32 (.agg [.bool false,.nilS,.nilS])) .nil)<| .seq (Zr (Zm 6 1<|
 Zk 7 .eql 6 0 .nil)<| .cond (.t 7) (Zr (Zq 8 false 37 [.c (Zz 1)]<|
 Zs 3 4 8 .nil) .ret) .skip)<|Zr (Zh 9 3 2<|
 Zh 10 3 2<|
 Zq 11 false 69 [.t 9,.t 10]<|
 Zm 12 1<|
 Zk 13 .quo 12 2<|
 Zq 14 false 70 [.t 11,.t 13]<|
 Zo (.alloc 5 3 32 (.agg [.bool false,.nilS,.nilS]))<|
 Zs 3 5 14 .nil)<| .seq (Zr (Zm 15 1<|
 Zk 16 .rem 15 2<|
 Zk 17 .eql 16 1 .nil)<| .cond (.t 17) (.rg (Zh 18 3 5<|
 Zh 19 3 2<|
 Zq 20 false 69 [.t 18,.t 19]<|
 Zs 3 5 20 .nil)) .skip)<|Zr (Zh 21 3 5<|
 Zs 3 4 21 .nil) .ret⟩
theorem Qanz:Qd Tryz.prog Tryz.f70=some c70:=by kernel_rfl
def c86:SFn:=⟨34,[.t 4],Zr (Zo (.box 3 4 127 (.t 1))<|
 Zo (.mv 4 (.c .nilS)) .nil)<|Zr (Zo (.mv 5 (.c .nilS)) .nil)<| .seq (Zr (Zc 6 0 .nil)<| .block 0<| .loop<| .seq (Zr (Zm 7 6<|
 Zm 8 0<|
 Zn 9 8<|
 Zb 10 .lss 7 9 .nil)<| .cond (.t 10) .skip (.exit 0))<| .seq (.block 1<| .rg (Zm 13 5<|
 Zm 14 0<|
 Zm 15 6<|
 Zi 16 4 14 15<|
 Zf 17 0 16<|
 Zh 18 3 17<|
 Zf 19 0 3<|
 Zh 20 3 19<|
 Zm 22 0<|
 Zm 23 6<|
 Zi 24 4 22 23<|
 Zf 25 3 24<|
 Zl 26 1 25<|
 Zf 27 3 3<|
 Zl 28 1 27<|
 Zq 21 true 69 [.t 18,.t 20]<|
 Zq 29 true 163 [.t 26,.t 28]<|
 Zo (.bld 30 [.bool false,.nilS,.nilS,.nilS] [(0,3,.t 21),(3,1,.t 29)])<|
 Zo (.bs 31 4 127 [.t 30])<|
 Zo (.app 32 4 80 127 (.t 13) (.t 31))<|
 Zm 5 32 .nil))<| .rg (Zm 11 6<|
 Zk 12 .add 11 1<|
 Zm 6 12 .nil))<|Zr (Zm 33 5<|
 Zm 4 33 .nil) .ret⟩
theorem Qan0:Qd Tryz.prog Tryz.f86=some c86:=by kernel_rfl
def c247:SFn:=⟨20,[.t 4],Zr (Zo (.mv 4 (.c (.bool false))) .nil)<| .seq (Zr (Zc 5 0 .nil)<| .block 0<| .loop<| .seq (Zr (Zm 6 5<|
 Zm 7 0<|
 Zn 8 7<|
 Zb 9 .lss 6 8 .nil)<| .cond (.t 9) .skip (.exit 0))<| .seq (.block 1<|Zr (Zm 12 0<|
 Zm 13 5<|
 Zi 14 1 12 13<|
 Zl 15 1 14<|
 Zm 16 1<|
 Zm 17 5<|
 Zq 18 true 171 [.t 16,.t 17]<|
 Zb 19 .neq 15 18 .nil)<| .cond (.t 19) (Zr (Zo (.mv 4 (.c (.bool false))) .nil) .ret) .skip)<| .rg (Zm 10 5<|
 Zk 11 .add 10 1<|
 Zm 5 11 .nil))<|Zr (Zo (.mv 4 (.c (.bool true))) .nil) .ret⟩
theorem Qaju:Qd Tryz.prog Tryz.f247=some c247:=by kernel_rfl
end Go.Proofs.YtonfajmchebkeaaGreat
namespace Go.Proofs.YtonfajmchebkeaaGreat
open Go Go.FW
set_option maxRecDepth 100000
def c90:SFn:=⟨39,[.t 2],Zr (Zo (.mv 2 (.c (.bool false))) .nil)<| .seq (Zr (Zm 4 0<|
 Zn 5 4<|
 Zk 6 .gtr 5 64<|
 Zm 7 6<|
 Zg 7 false (.mv 8 (.t 0))<|
 Zg 7 false (.len 9 (.t 8))<|
 Zg 7 false (.bin 10 .gtr false (.t 9) (.c (Zz 0)))<|
 Zg 7 false (.mv 11 (.t 10))<|
 Zg 11 true (.mv 12 (.t 0))<|
 Zg 11 true (.mv 13 (.t 0))<|
 Zg 11 true (.len 14 (.t 13))<|
 Zg 11 true (.bin 15 .sub false (.t 14) (.c (Zz 1)))<|
 Zg 11 true (.idx 16 1 (.t 12) (.t 15))<|
 Zg 11 true (.ld 17 1 false (.t 16))<|
 Zg 11 true (.bin 18 .eql false (.t 17) (.c (Zz 0)))<|
 Zg 7 false (.pick 19 (.t 11) (.t 18) (.c (.bool false)))<|
 Zo (.pick 20 (.t 7) (.c (.bool true)) (.t 19)) .nil)<| .cond (.t 20) (Zr (Zo (.mv 2 (.c (.bool false))) .nil) .ret) .skip)<| .seq (Zr (Zc 3 0 .nil)<| .block 0<| .loop<| .seq (Zr (Zm 21 3<|
 Zm 22 0<|
 Zn 23 22<|
 Zb 24 .lss 21 23 .nil)<| .cond (.t 24) .skip (.exit 0))<| .seq (.block 1<|Zr (Zm 27 0<|
 Zm 28 3<|
 Zi 29 1 27 28<|
 Zl 30 1 29<|
 Zk 31 .lss 30 0<|
 Zm 32 31<|
 Zg 32 false (.mv 33 (.t 0))<|
 Zg 32 false (.mv 34 (.t 3))<|
 Zg 32 false (.idx 35 1 (.t 33) (.t 34))<|
 Zg 32 false (.ld 36 1 false (.t 35))<|
 Zg 32 false (.bin 37 .gtr false (.t 36) (.c (Zz 1048576)))<|
 Zo (.pick 38 (.t 32) (.c (.bool true)) (.t 37)) .nil)<| .cond (.t 38) (Zr (Zo (.mv 2 (.c (.bool false))) .nil) .ret) .skip)<| .rg (Zm 25 3<|
 Zk 26 .add 25 1<|
 Zm 3 26 .nil))<|Zr (Zo (.mv 2 (.c (.bool true))) .nil) .ret⟩
theorem Qan1:Qd Tryz.prog Tryz.f90=some c90:=by kernel_rfl
def c244:SFn:=⟨24,[.t 2],Zr (Zo (.mv 2 (.c .nilS)) .nil)<|Zr (Zm 5 0<|
 Zn 6 5<|
 Zm 3 6 .nil)<| .seq (.block 0<| .loop<| .seq (Zr (Zm 7 3<|
 Zk 8 .gtr 7 0<|
 Zm 9 8<|
 Zg 9 true (.mv 10 (.t 0))<|
 Zg 9 true (.mv 11 (.t 3))<|
 Zg 9 true (.bin 12 .sub false (.t 11) (.c (Zz 1)))<|
 Zg 9 true (.idx 13 1 (.t 10) (.t 12))<|
 Zg 9 true (.ld 14 1 false (.t 13))<|
 Zg 9 true (.bin 15 .eql false (.t 14) (.c (Zz 0)))<|
 Zo (.pick 16 (.t 9) (.t 15) (.c (.bool false))) .nil)<| .cond (.t 16) .skip (.exit 0))<| .block 1<| .rg (Zm 17 3<|
 Zk 18 .sub 17 1<|
 Zm 3 18 .nil))<|Zr (Zo (.mv 4 (.c .nilS)) .nil)<|Zr (Zm 19 4<|
 Zm 20 0<|
 Zm 21 3<|
 Zo (.sl 22 1 (.t 20) none (some (.t 21)) none)<|
 Zo (.app 23 1 8 3 (.t 19) (.t 22))<|
 Zm 2 23 .nil) .ret⟩
theorem Qajv:Qd Tryz.prog Tryz.f244=some c244:=by kernel_rfl
def c246:SFn:=⟨9,[.t 2],Zr (Zo (.mv 2 (.c .nilS)) .nil)<| .seq (Zr (Zm 4 0<|
 Zq 5 false 244 [.t 4]<|
 Zm 3 5 .nil)<|Zr (Zm 6 3<|
 Zq 7 false 90 [.t 6] .nil)<| .cond (.t 7) (Zr (Zm 8 3<|
 Zm 2 8 .nil) .ret) .skip)<|Zr (Zo (.mv 2 (.c .nilS)) .nil) .ret⟩
theorem Qajw:Qd Tryz.prog Tryz.f246=some c246:=by kernel_rfl
def c169:SFn:=⟨18,[.t 2],Zr (Zc 2 0 .nil)<|Zr (Zc 3 0 .nil)<| .seq (Zr (Zc 4 0 .nil)<| .block 0<| .loop<| .seq (Zr (Zm 5 4<|
 Zm 6 0<|
 Zn 7 6<|
 Zb 8 .lss 5 7 .nil)<| .cond (.t 8) .skip (.exit 0))<| .seq (.block 1<| .rg (Zm 11 3<|
 Zm 12 0<|
 Zm 13 4<|
 Zi 14 1 12 13<|
 Zl 15 1 14<|
 Zb 16 .add 11 15<|
 Zm 3 16 .nil))<| .rg (Zm 9 4<|
 Zk 10 .add 9 1<|
 Zm 4 10 .nil))<|Zr (Zm 17 3<|
 Zm 2 17 .nil) .ret⟩
theorem Qajx:Qd Tryz.prog Tryz.f169=some c169:=by kernel_rfl
def c171:SFn:=⟨17,[.t 4],Zr (Zc 4 0 .nil)<| .seq (Zr (Zm 5 1<|
 Zk 6 .lss 5 0<|
 Zm 7 6<|
 Zg 7 false (.mv 8 (.t 1))<|
 Zg 7 false (.mv 9 (.t 0))<|
 Zg 7 false (.len 10 (.t 9))<|
 Zg 7 false (.bin 11 .geq false (.t 8) (.t 10))<|
 Zo (.pick 12 (.t 7) (.c (.bool true)) (.t 11)) .nil)<| .cond (.t 12) (Zr (Zc 4 0 .nil) .ret) .skip)<|Zr (Zm 13 0<|
 Zm 14 1<|
 Zi 15 1 13 14<|
 Zl 16 1 15<|
 Zm 4 16 .nil) .ret⟩
theorem Qajy:Qd Tryz.prog Tryz.f171=some c171:=by kernel_rfl
def c163:SFn:=⟨30,[.t 4],Zr (Zo (.mv 4 (.c .nilS)) .nil)<|Zr (Zo (.mv 5 (.c .nilS)) .nil)<| .seq (Zr (Zc 6 0 .nil)<| .block 0<| .loop<| .seq (Zr (Zm 7 6<|
 Zm 8 0<|
 Zn 9 8<|
 Zb 10 .lss 7 9<|
 Zm 11 10<|
 Zg 11 false (.mv 12 (.t 6))<|
 Zg 11 false (.mv 13 (.t 1))<|
 Zg 11 false (.len 14 (.t 13))<|
 Zg 11 false (.bin 15 .lss false (.t 12) (.t 14))<|
 Zo (.pick 16 (.t 11) (.c (.bool true)) (.t 15)) .nil)<| .cond (.t 16) .skip (.exit 0))<| .seq (.block 1<| .rg (Zm 19 5<|
 Zm 20 0<|
 Zm 21 6<|
 Zq 22 false 171 [.t 20,.t 21]<|
 Zm 23 1<|
 Zm 24 6<|
 Zq 25 false 171 [.t 23,.t 24]<|
 Zb 26 .add 22 25<|
 Zo (.bs 27 1 3 [.t 26])<|
 Zo (.app 28 1 8 3 (.t 19) (.t 27))<|
 Zm 5 28 .nil))<| .rg (Zm 17 6<|
 Zk 18 .add 17 1<|
 Zm 6 18 .nil))<|Zr (Zm 29 5<|
 Zm 4 29 .nil) .ret⟩
theorem Qajz:Qd Tryz.prog Tryz.f163=some c163:=by kernel_rfl
def c91:SFn:=⟨48,[.t 6],Zr (Zc 6 0 .nil)<| .seq (Zr (Zm 8 2<|
 Zk 9 .eql 8 1<|
 Zm 10 9<|
 Zg 10 true (.mv 11 (.t 0))<|
 Zg 10 true (.call (some 12) false (.c (.fn 169 [] [])) [.t 11])<|
 Zg 10 true (.mv 13 (.t 1))<|
 Zg 10 true (.call (some 14) false (.c (.fn 169 [] [])) [.t 13])<|
 Zg 10 true (.bin 15 .neq false (.t 12) (.t 14))<|
 Zo (.pick 16 (.t 10) (.t 15) (.c (.bool false))) .nil)<| .cond (.t 16) (Zr (Zm 17 0<|
 Zq 18 false 169 [.t 17]<|
 Zm 19 1<|
 Zq 20 false 169 [.t 19]<|
 Zb 21 .sub 18 20<|
 Zq 22 false 170 [.t 21]<|
 Zm 6 22 .nil) .ret) .skip)<| .seq (Zr (Zm 23 0<|
 Zn 24 23<|
 Zm 25 1<|
 Zn 26 25<|
 Zo (.mx 27 (.t 24) (.t 26))<|
 Zk 28 .sub 27 1<|
 Zm 7 28 .nil)<| .block 0<| .loop<| .seq (Zr (Zm 29 7<|
 Zk 30 .geq 29 0 .nil)<| .cond (.t 30) .skip (.exit 0))<| .seq (.block 1<|Zr (Zm 33 0<|
 Zm 34 7<|
 Zq 35 false 171 [.t 33,.t 34]<|
 Zm 36 1<|
 Zm 37 7<|
 Zq 38 false 171 [.t 36,.t 37]<|
 Zb 39 .neq 35 38 .nil)<| .cond (.t 39) (Zr (Zm 40 0<|
 Zm 41 7<|
 Zq 42 false 171 [.t 40,.t 41]<|
 Zm 43 1<|
 Zm 44 7<|
 Zq 45 false 171 [.t 43,.t 44]<|
 Zb 46 .sub 42 45<|
 Zq 47 false 170 [.t 46]<|
 Zm 6 47 .nil) .ret) .skip)<| .rg (Zm 31 7<|
 Zk 32 .sub 31 1<|
 Zm 7 32 .nil))<|Zr (Zc 6 0 .nil) .ret⟩
theorem Qan2:Qd Tryz.prog Tryz.f91=some c91:=by kernel_rfl
def c170:SFn:=⟨7,[.t 2],Zr (Zc 2 0 .nil)<| .seq (Zr (Zm 3 0<|
 Zk 4 .lss 3 0 .nil)<| .cond (.t 4) (Zr (Zc 2 (-1) .nil) .ret) .skip)<| .seq (Zr (Zm 5 0<|
 Zk 6 .gtr 5 0 .nil)<| .cond (.t 6) (Zr (Zc 2 1 .nil) .ret) .skip)<|Zr (Zc 2 0 .nil) .ret⟩
theorem Qaj0:Qd Tryz.prog Tryz.f170=some c170:=by kernel_rfl
end Go.Proofs.YtonfajmchebkeaaGreat
namespace Go.Proofs.YtonfajmchebkeaaGreat
open Go Go.FW
set_option maxRecDepth 100000
def c157:SFn:=⟨24,[.t 2],Zr (Zo (.mv 2 (.c .nilS)) .nil)<|Zr (Zm 5 0<|
 Zn 6 5<|
 Zm 3 6 .nil)<| .seq (.block 0<| .loop<| .seq (Zr (Zm 7 3<|
 Zk 8 .gtr 7 0<|
 Zm 9 8<|
 Zg 9 true (.mv 10 (.t 0))<|
 Zg 9 true (.mv 11 (.t 3))<|
 Zg 9 true (.bin 12 .sub false (.t 11) (.c (Zz 1)))<|
 Zg 9 true (.idx 13 1 (.t 10) (.t 12))<|
 Zg 9 true (.ld 14 1 false (.t 13))<|
 Zg 9 true (.bin 15 .eql false (.t 14) (.c (.int .u16 0)))<|
 Zo (.pick 16 (.t 9) (.t 15) (.c (.bool false))) .nil)<| .cond (.t 16) .skip (.exit 0))<| .block 1<| .rg (Zm 17 3<|
 Zk 18 .sub 17 1<|
 Zm 3 18 .nil))<|Zr (Zo (.mv 4 (.c .nilS)) .nil)<|Zr (Zm 19 4<|
 Zm 20 0<|
 Zm 21 3<|
 Zo (.sl 22 1 (.t 20) none (some (.t 21)) none)<|
 Zo (.app 23 1 2 191 (.t 19) (.t 22))<|
 Zm 2 23 .nil) .ret⟩
theorem Qaj1:Qd Tryz.prog Tryz.f157=some c157:=by kernel_rfl
def c84:SFn:=⟨15,[.t 2],Zr (Zo (.mv 2 (.c .nilS)) .nil)<|Zr (Zo (.mv 3 (.c .nilS)) .nil)<| .seq (.block 0<| .loop<| .seq (Zr (Zm 4 0<|
 Zo (.bin 5 .gtr false (.t 4) (.c (.int .u64 0))) .nil)<| .cond (.t 5) .skip (.exit 0))<| .block 1<|Zr (Zm 6 3<|
 Zm 7 0<|
 Zo (.bin 8 .rem false (.t 7) (.c (.int .u64 65536)))<|
 Zo (.conv 9 .u16 (.t 8))<|
 Zo (.bs 10 1 191 [.t 9])<|
 Zo (.app 11 1 2 191 (.t 6) (.t 10))<|
 Zm 3 11 .nil)<| .rg (Zm 12 0<|
 Zo (.bin 13 .quo false (.t 12) (.c (.int .u64 65536)))<|
 Zm 0 13 .nil))<|Zr (Zm 14 3<|
 Zm 2 14 .nil) .ret⟩
theorem Qan3:Qd Tryz.prog Tryz.f84=some c84:=by kernel_rfl
def c214:SFn:=⟨21,[.t 2],Zr (Zo (.mv 2 (.c (.int .u64 0))) .nil)<|Zr (Zo (.mv 3 (.c (.int .u64 0))) .nil)<| .seq (Zr (Zm 5 0<|
 Zn 6 5<|
 Zk 7 .sub 6 1<|
 Zm 4 7 .nil)<| .block 0<| .loop<| .seq (Zr (Zm 8 4<|
 Zk 9 .geq 8 0 .nil)<| .cond (.t 9) .skip (.exit 0))<| .seq (.block 1<| .rg (Zm 12 3<|
 Zo (.bin 13 .mul false (.t 12) (.c (.int .u64 65536)))<|
 Zm 14 0<|
 Zm 15 4<|
 Zi 16 1 14 15<|
 Zl 17 1 16<|
 Zo (.conv 18 .u64 (.t 17))<|
 Zb 19 .add 13 18<|
 Zm 3 19 .nil))<| .rg (Zm 10 4<|
 Zk 11 .sub 10 1<|
 Zm 4 11 .nil))<|Zr (Zm 20 3<|
 Zm 2 20 .nil) .ret⟩
theorem Qaj2:Qd Tryz.prog Tryz.f214=some c214:=by kernel_rfl
def c199:SFn:=⟨14,[.t 4],Zr (Zc 4 0 .nil)<| .seq (Zr (Zm 5 1<|
 Zm 6 0<|
 Zn 7 6<|
 Zb 8 .lss 5 7 .nil)<| .cond (.t 8) (Zr (Zm 9 0<|
 Zm 10 1<|
 Zi 11 1 9 10<|
 Zl 12 1 11<|
 Zo (.conv 13 .i64 (.t 12))<|
 Zm 4 13 .nil) .ret) .skip)<|Zr (Zc 4 0 .nil) .ret⟩
theorem Qaj3:Qd Tryz.prog Tryz.f199=some c199:=by kernel_rfl
def c201:SFn:=⟨30,[.t 4],Zr (Zc 4 0 .nil)<| .seq (Zr (Zm 6 0<|
 Zn 7 6<|
 Zm 8 1<|
 Zn 9 8<|
 Zo (.mx 10 (.t 7) (.t 9))<|
 Zk 11 .sub 10 1<|
 Zm 5 11 .nil)<| .block 0<| .loop<| .seq (Zr (Zm 12 5<|
 Zk 13 .geq 12 0 .nil)<| .cond (.t 13) .skip (.exit 0))<| .seq (.block 1<| .seq (Zr (Zm 16 0<|
 Zm 17 5<|
 Zq 18 false 199 [.t 16,.t 17]<|
 Zm 19 1<|
 Zm 20 5<|
 Zq 21 false 199 [.t 19,.t 20]<|
 Zb 22 .lss 18 21 .nil)<| .cond (.t 22) (Zr (Zc 4 (-1) .nil) .ret) .skip)<|Zr (Zm 23 0<|
 Zm 24 5<|
 Zq 25 false 199 [.t 23,.t 24]<|
 Zm 26 1<|
 Zm 27 5<|
 Zq 28 false 199 [.t 26,.t 27]<|
 Zb 29 .gtr 25 28 .nil)<| .cond (.t 29) (Zr (Zc 4 1 .nil) .ret) .skip)<| .rg (Zm 14 5<|
 Zk 15 .sub 14 1<|
 Zm 5 15 .nil))<|Zr (Zc 4 0 .nil) .ret⟩
theorem Qaj4:Qd Tryz.prog Tryz.f201=some c201:=by kernel_rfl
def c161:SFn:=⟨44,[.t 4],Zr (Zo (.mv 4 (.c .nilS)) .nil)<|Zr (Zo (.mv 5 (.c .nilS)) .nil)<|Zr (Zc 6 0 .nil)<| .seq (Zr (Zc 7 0 .nil)<| .block 0<| .loop<| .seq (Zr (Zm 9 7<|
 Zm 10 0<|
 Zn 11 10<|
 Zb 12 .lss 9 11<|
 Zm 13 12<|
 Zg 13 false (.mv 14 (.t 7))<|
 Zg 13 false (.mv 15 (.t 1))<|
 Zg 13 false (.len 16 (.t 15))<|
 Zg 13 false (.bin 17 .lss false (.t 14) (.t 16))<|
 Zo (.pick 18 (.t 13) (.c (.bool true)) (.t 17))<|
 Zm 19 18<|
 Zg 19 false (.mv 20 (.t 6))<|
 Zg 19 false (.bin 21 .gtr false (.t 20) (.c (Zz 0)))<|
 Zo (.pick 22 (.t 19) (.c (.bool true)) (.t 21)) .nil)<| .cond (.t 22) .skip (.exit 0))<| .seq (.block 1<|Zr (Zm 25 0<|
 Zm 26 7<|
 Zq 27 false 199 [.t 25,.t 26]<|
 Zm 28 1<|
 Zm 29 7<|
 Zq 30 false 199 [.t 28,.t 29]<|
 Zb 31 .add 27 30<|
 Zm 32 6<|
 Zb 33 .add 31 32<|
 Zm 8 33 .nil)<|Zr (Zm 34 5<|
 Zm 35 8<|
 Zk 36 .rem 35 65536<|
 Zo (.conv 37 .u16 (.t 36))<|
 Zo (.bs 38 1 191 [.t 37])<|
 Zo (.app 39 1 2 191 (.t 34) (.t 38))<|
 Zm 5 39 .nil)<| .rg (Zm 40 8<|
 Zk 41 .quo 40 65536<|
 Zm 6 41 .nil))<| .rg (Zm 23 7<|
 Zk 24 .add 23 1<|
 Zm 7 24 .nil))<|Zr (Zm 42 5<|
 Zq 43 false 157 [.t 42]<|
 Zm 4 43 .nil) .ret⟩
theorem Qaj5:Qd Tryz.prog Tryz.f161=some c161:=by kernel_rfl
def c200:SFn:=⟨40,[.t 4,.t 5],Zr (Zo (.mv 4 (.c .nilS))<|
 Zc 5 0 .nil)<| .seq (Zr (Zm 10 0<|
 Zm 11 1<|
 Zq 12 false 201 [.t 10,.t 11]<|
 Zk 13 .lss 12 0 .nil)<| .cond (.t 13) (Zr (Zo (.mv 4 (.c .nilS))<|
 Zc 5 2 .nil) .ret) .skip)<|Zr (Zo (.mv 6 (.c .nilS)) .nil)<|Zr (Zc 7 0 .nil)<| .seq (Zr (Zc 8 0 .nil)<| .block 0<| .loop<| .seq (Zr (Zm 14 8<|
 Zm 15 0<|
 Zn 16 15<|
 Zb 17 .lss 14 16 .nil)<| .cond (.t 17) .skip (.exit 0))<| .seq (.block 1<|Zr (Zm 20 0<|
 Zm 21 8<|
 Zq 22 false 199 [.t 20,.t 21]<|
 Zm 23 1<|
 Zm 24 8<|
 Zq 25 false 199 [.t 23,.t 24]<|
 Zb 26 .sub 22 25<|
 Zm 27 7<|
 Zb 28 .sub 26 27<|
 Zm 9 28 .nil)<|Zr (Zc 7 0 .nil)<| .seq (Zr (Zm 29 9<|
 Zk 30 .lss 29 0 .nil)<| .cond (.t 30) (Zr (Zm 31 9<|
 Zk 32 .add 31 65536<|
 Zm 9 32 .nil)<| .rg (Zc 7 1 .nil)) .skip)<| .rg (Zm 33 6<|
 Zm 34 9<|
 Zo (.conv 35 .u16 (.t 34))<|
 Zo (.bs 36 1 191 [.t 35])<|
 Zo (.app 37 1 2 191 (.t 33) (.t 36))<|
 Zm 6 37 .nil))<| .rg (Zm 18 8<|
 Zk 19 .add 18 1<|
 Zm 8 19 .nil))<|Zr (Zm 38 6<|
 Zq 39 false 157 [.t 38]<|
 Zm 4 39<|
 Zc 5 0 .nil) .ret⟩
theorem Qaj6:Qd Tryz.prog Tryz.f200=some c200:=by kernel_rfl
def c147:SFn:=⟨65,[.t 4],Zr (Zo (.mv 4 (.c .nilS)) .nil)<|Zr (Zm 10 0<|
 Zn 11 10<|
 Zm 12 1<|
 Zn 13 12<|
 Zb 14 .add 11 13<|
 Zk 15 .add 14 1<|
 Zo (.mk 16 1 2 191 (.int .u16 0) (.t 15) (.t 15))<|
 Zm 5 16 .nil)<| .seq (Zr (Zc 6 0 .nil)<| .block 0<| .loop<| .seq (Zr (Zm 17 6<|
 Zm 18 0<|
 Zn 19 18<|
 Zb 20 .lss 17 19 .nil)<| .cond (.t 20) .skip (.exit 0))<| .seq (.block 1<|Zr (Zo (.mv 7 (.c (.int .u64 0))) .nil)<|Zr (Zc 8 0 .nil)<| .block 2<| .loop<| .seq (Zr (Zm 23 8<|
 Zm 24 1<|
 Zn 25 24<|
 Zb 26 .lss 23 25<|
 Zm 27 26<|
 Zg 27 false (.mv 28 (.t 7))<|
 Zg 27 false (.bin 29 .gtr false (.t 28) (.c (.int .u64 0)))<|
 Zo (.pick 30 (.t 27) (.c (.bool true)) (.t 29)) .nil)<| .cond (.t 30) .skip (.exit 2))<| .seq (.block 3<|Zr (Zm 33 5<|
 Zm 34 6<|
 Zm 35 8<|
 Zb 36 .add 34 35<|
 Zi 37 1 33 36<|
 Zl 38 1 37<|
 Zo (.conv 39 .u64 (.t 38))<|
 Zm 40 0<|
 Zm 41 6<|
 Zi 42 1 40 41<|
 Zl 43 1 42<|
 Zo (.conv 44 .u64 (.t 43))<|
 Zm 45 1<|
 Zm 46 8<|
 Zm 51 7<|
 Zq 47 true 199 [.t 45,.t 46]<|
 Zo (.conv 48 .u64 (.t 47))<|
 Zb 49 .mul 44 48<|
 Zb 50 .add 39 49<|
 Zb 52 .add 50 51<|
 Zm 9 52 .nil)<|Zr (Zm 53 5<|
 Zm 54 6<|
 Zm 55 8<|
 Zb 56 .add 54 55<|
 Zm 57 9<|
 Zo (.bin 58 .rem false (.t 57) (.c (.int .u64 65536)))<|
 Zo (.conv 59 .u16 (.t 58))<|
 Zi 60 1 53 56<|
 Zs 1 60 59 .nil)<| .rg (Zm 61 9<|
 Zo (.bin 62 .quo false (.t 61) (.c (.int .u64 65536)))<|
 Zm 7 62 .nil))<| .rg (Zm 31 8<|
 Zk 32 .add 31 1<|
 Zm 8 32 .nil))<| .rg (Zm 21 6<|
 Zk 22 .add 21 1<|
 Zm 6 22 .nil))<|Zr (Zm 63 5<|
 Zq 64 false 157 [.t 63]<|
 Zm 4 64 .nil) .ret⟩
theorem Qaj7:Qd Tryz.prog Tryz.f147=some c147:=by kernel_rfl
def c215:SFn:=⟨27,[.t 4],Zr (Zo (.mv 4 (.c (.int .u64 0))) .nil)<|Zr (Zo (.mv 5 (.c (.int .u64 0)))<|
 Zo (.mv 6 (.c (.int .u64 65535))) .nil)<| .seq (.block 0<| .loop<| .seq (Zr (Zm 8 5<|
 Zm 9 6<|
 Zb 10 .lss 8 9 .nil)<| .cond (.t 10) .skip (.exit 0))<| .block 1<|Zr (Zm 11 5<|
 Zm 12 6<|
 Zb 13 .add 11 12<|
 Zo (.bin 14 .add false (.t 13) (.c (.int .u64 1)))<|
 Zo (.bin 15 .quo false (.t 14) (.c (.int .u64 2)))<|
 Zm 7 15 .nil)<|Zr (Zm 16 1<|
 Zm 17 7<|
 Zq 18 false 84 [.t 17]<|
 Zq 19 false 147 [.t 16,.t 18]<|
 Zm 20 0<|
 Zq 21 false 201 [.t 19,.t 20]<|
 Zk 22 .leq 21 0 .nil)<| .cond (.t 22) (.rg (Zm 23 7<|
 Zm 5 23 .nil)) (.rg (Zm 24 7<|
 Zo (.bin 25 .sub false (.t 24) (.c (.int .u64 1)))<|
 Zm 6 25 .nil)))<|Zr (Zm 26 5<|
 Zm 4 26 .nil) .ret⟩
theorem Qaj8:Qd Tryz.prog Tryz.f215=some c215:=by kernel_rfl
def c158:SFn:=⟨73,[.t 4,.t 5,.t 6],Zr (Zo (.mv 4 (.c .nilS))<|
 Zo (.mv 5 (.c .nilS))<|
 Zc 6 0 .nil)<|Zr (Zm 11 0<|
 Zq 12 false 157 [.t 11]<|
 Zm 13 1<|
 Zq 14 false 157 [.t 13]<|
 Zm 0 12<|
 Zm 1 14 .nil)<| .seq (Zr (Zm 15 1<|
 Zn 16 15<|
 Zk 17 .eql 16 0 .nil)<| .cond (.t 17) (Zr (Zo (.mv 4 (.c .nilS))<|
 Zo (.mv 5 (.c .nilS))<|
 Zc 6 3 .nil) .ret) .skip)<| .seq (Zr (Zm 18 0<|
 Zn 19 18<|
 Zk 20 .leq 19 4<|
 Zm 21 20<|
 Zg 21 true (.mv 22 (.t 1))<|
 Zg 21 true (.len 23 (.t 22))<|
 Zg 21 true (.bin 24 .leq false (.t 23) (.c (Zz 4)))<|
 Zo (.pick 25 (.t 21) (.t 24) (.c (.bool false))) .nil)<| .cond (.t 25) (Zr (Zm 26 0<|
 Zq 27 false 214 [.t 26]<|
 Zm 28 1<|
 Zq 29 false 214 [.t 28]<|
 Zb 30 .quo 27 29<|
 Zq 31 false 84 [.t 30]<|
 Zm 32 0<|
 Zq 33 false 214 [.t 32]<|
 Zm 34 1<|
 Zq 35 false 214 [.t 34]<|
 Zb 36 .rem 33 35<|
 Zq 37 false 84 [.t 36]<|
 Zm 4 31<|
 Zm 5 37<|
 Zc 6 0 .nil) .ret) .skip)<|Zr (Zo (.mv 7 (.c .nilS))<|
 Zo (.mv 8 (.c .nilS)) .nil)<| .seq (Zr (Zm 38 0<|
 Zn 39 38<|
 Zk 40 .sub 39 1<|
 Zm 9 40 .nil)<| .block 0<| .loop<| .seq (Zr (Zm 41 9<|
 Zk 42 .geq 41 0 .nil)<| .cond (.t 42) .skip (.exit 0))<| .seq (.block 1<|Zr (Zm 45 0<|
 Zm 46 9<|
 Zi 47 1 45 46<|
 Zl 48 1 47<|
 Zo (.bs 49 1 191 [.t 48])<|
 Zm 50 8<|
 Zo (.app 51 1 2 191 (.t 49) (.t 50))<|
 Zq 52 false 157 [.t 51]<|
 Zm 8 52 .nil)<|Zr (Zm 53 8<|
 Zm 54 1<|
 Zq 55 false 215 [.t 53,.t 54]<|
 Zm 10 55 .nil)<|Zr (Zm 56 10<|
 Zo (.conv 57 .u16 (.t 56))<|
 Zo (.bs 58 1 191 [.t 57])<|
 Zm 59 7<|
 Zo (.app 60 1 2 191 (.t 58) (.t 59))<|
 Zm 7 60 .nil)<| .rg (Zm 62 8<|
 Zm 63 1<|
 Zm 64 10<|
 Zq 65 false 84 [.t 64]<|
 Zq 66 false 147 [.t 63,.t 65]<|
 Zq 67 false 200 [.t 62,.t 66]<|
 Zm 61 67<|
 Zo (.ext 68 (.t 61) 0)<|
 Zo (.ext 69 (.t 61) 1)<|
 Zm 8 68 .nil))<| .rg (Zm 43 9<|
 Zk 44 .sub 43 1<|
 Zm 9 44 .nil))<|Zr (Zm 70 7<|
 Zq 71 false 157 [.t 70]<|
 Zm 72 8<|
 Zm 4 71<|
 Zm 5 72<|
 Zc 6 0 .nil) .ret⟩
theorem Qaj9:Qd Tryz.prog Tryz.f158=some c158:=by kernel_rfl
def c103:SFn:=⟨25,[.t 4],Zr (Zo (.mv 4 (.c .nilS)) .nil)<|Zr (Zm 8 0<|
 Zq 9 false 157 [.t 8]<|
 Zm 10 1<|
 Zq 11 false 157 [.t 10]<|
 Zm 0 9<|
 Zm 1 11 .nil)<| .seq (.block 0<| .loop<| .seq (Zr (Zm 12 1<|
 Zn 13 12<|
 Zk 14 .gtr 13 0 .nil)<| .cond (.t 14) .skip (.exit 0))<| .block 1<|Zr (Zm 16 0<|
 Zm 17 1<|
 Zq 18 false 158 [.t 16,.t 17]<|
 Zm 15 18<|
 Zo (.ext 19 (.t 15) 0)<|
 Zo (.ext 20 (.t 15) 1)<|
 Zo (.ext 21 (.t 15) 2)<|
 Zm 5 19<|
 Zm 6 20<|
 Zm 7 21 .nil)<| .rg (Zm 22 1<|
 Zm 23 6<|
 Zm 0 22<|
 Zm 1 23 .nil))<|Zr (Zm 24 0<|
 Zm 4 24 .nil) .ret⟩
theorem Qaka:Qd Tryz.prog Tryz.f103=some c103:=by kernel_rfl
def c101:SFn:=⟨15,[.t 2],Zr (Zo (.mv 2 (.c (.bool false))) .nil)<|Zr (Zm 3 0<|
 Zn 4 3<|
 Zk 5 .eql 4 0<|
 Zm 6 5<|
 Zg 6 false (.mv 7 (.t 0))<|
 Zg 6 false (.mv 8 (.t 0))<|
 Zg 6 false (.len 9 (.t 8))<|
 Zg 6 false (.bin 10 .sub false (.t 9) (.c (Zz 1)))<|
 Zg 6 false (.idx 11 1 (.t 7) (.t 10))<|
 Zg 6 false (.ld 12 1 false (.t 11))<|
 Zg 6 false (.bin 13 .neq false (.t 12) (.c (.int .u16 0)))<|
 Zo (.pick 14 (.t 6) (.c (.bool true)) (.t 13))<|
 Zm 2 14 .nil) .ret⟩
theorem Qakb:Qd Tryz.prog Tryz.f101=some c101:=by kernel_rfl
def c102:SFn:=⟨26,[.t 4],Zr (Zo (.mv 4 (.c (.bool false))) .nil)<| .seq (Zr (Zm 6 0<|
 Zn 7 6<|
 Zm 8 1<|
 Zn 9 8<|
 Zb 10 .neq 7 9 .nil)<| .cond (.t 10) (Zr (Zo (.mv 4 (.c (.bool false))) .nil) .ret) .skip)<| .seq (Zr (Zc 5 0 .nil)<| .block 0<| .loop<| .seq (Zr (Zm 11 5<|
 Zm 12 0<|
 Zn 13 12<|
 Zb 14 .lss 11 13 .nil)<| .cond (.t 14) .skip (.exit 0))<| .seq (.block 1<|Zr (Zm 17 0<|
 Zm 18 5<|
 Zi 19 1 17 18<|
 Zl 20 1 19<|
 Zm 21 1<|
 Zm 22 5<|
 Zi 23 1 21 22<|
 Zl 24 1 23<|
 Zb 25 .neq 20 24 .nil)<| .cond (.t 25) (Zr (Zo (.mv 4 (.c (.bool false))) .nil) .ret) .skip)<| .rg (Zm 15 5<|
 Zk 16 .add 15 1<|
 Zm 5 16 .nil))<|Zr (Zo (.mv 4 (.c (.bool true))) .nil) .ret⟩
theorem Qakc:Qd Tryz.prog Tryz.f102=some c102:=by kernel_rfl
def c100:SFn:=⟨17,[.t 2],Zr (Zo (.box 1 2 30 (.t 0))<|
 Zo (.mv 2 (.c (.bool false))) .nil)<|Zr (Zf 3 1 1<|
 Zl 4 1 3<|
 Zq 5 false 101 [.t 4]<|
 Zm 6 5<|
 Zg 6 true (.fld 7 0 (.t 1))<|
 Zg 6 true (.ld 8 1 false (.t 7))<|
 Zg 6 true (.mv 9 (.t 8))<|
 Zg 9 true (.fld 10 1 (.t 1))<|
 Zg 9 true (.ld 11 1 false (.t 10))<|
 Zg 9 true (.len 12 (.t 11))<|
 Zg 9 true (.bin 13 .eql false (.t 12) (.c (Zz 0)))<|
 Zg 6 true (.pick 14 (.t 9) (.t 13) (.c (.bool false)))<|
 Zg 6 true (.un 15 .not (.t 14))<|
 Zo (.pick 16 (.t 6) (.t 15) (.c (.bool false)))<|
 Zm 2 16 .nil) .ret⟩
theorem Qakd:Qd Tryz.prog Tryz.f100=some c100:=by kernel_rfl
def c160:SFn:=⟨15,[.cell 4 2 true],Zr (Zo (.alloc 4 2 30 (.agg [.bool false,.nilS])) .nil)<|Zr (Zm 5 1<|
 Zq 6 false 157 [.t 5]<|
 Zm 1 6 .nil)<|Zr (Zm 7 0<|
 Zm 8 7<|
 Zg 8 true (.mv 9 (.t 1))<|
 Zg 8 true (.len 10 (.t 9))<|
 Zg 8 true (.bin 11 .gtr false (.t 10) (.c (Zz 0)))<|
 Zo (.pick 12 (.t 8) (.t 11) (.c (.bool false)))<|
 Zm 13 1<|
 Zo (.bld 14 [.bool false,.nilS] [(0,1,.t 12),(1,1,.t 13)])<|
 Zs 2 4 14 .nil) .ret⟩
theorem Qake:Qd Tryz.prog Tryz.f160=some c160:=by kernel_rfl
def c159:SFn:=⟨8,[.cell 2 2 true],Zr (Zo (.box 1 2 30 (.t 0))<|
 Zo (.alloc 2 2 30 (.agg [.bool false,.nilS])) .nil)<|Zr (Zf 3 0 1<|
 Zl 4 1 3<|
 Zf 5 1 1<|
 Zl 6 1 5<|
 Zq 7 false 160 [.t 4,.t 6]<|
 Zs 2 2 7 .nil) .ret⟩
theorem Qakf:Qd Tryz.prog Tryz.f159=some c159:=by kernel_rfl
def c83:SFn:=⟨17,[.cell 2 2 true],Zr (Zo (.alloc 2 2 30 (.agg [.bool false,.nilS])) .nil)<| .seq (Zr (Zm 3 0<|
 Zk 4 .lss 3 0 .nil)<| .cond (.t 4) (Zr (Zm 5 0<|
 Zk 6 .add 5 1<|
 Zo (.un 7 .neg (.t 6))<|
 Zo (.conv 8 .u64 (.t 7))<|
 Zq 9 false 84 [.t 8]<|
 Zq 10 false 84 [.c (.int .u64 1)]<|
 Zq 11 false 161 [.t 9,.t 10]<|
 Zq 12 false 160 [.c (.bool true),.t 11]<|
 Zs 2 2 12 .nil) .ret) .skip)<|Zr (Zm 13 0<|
 Zo (.conv 14 .u64 (.t 13))<|
 Zq 15 false 84 [.t 14]<|
 Zq 16 false 160 [.c (.bool false),.t 15]<|
 Zs 2 2 16 .nil) .ret⟩
theorem Qan4:Qd Tryz.prog Tryz.f83=some c83:=by kernel_rfl
def c162:SFn:=⟨11,[.t 2],Zr (Zo (.box 1 2 30 (.t 0))<|
 Zc 2 0 .nil)<|Zr (Zh 3 2 1<|
 Zq 4 false 159 [.t 3]<|
 Zs 2 1 4 .nil)<| .seq (Zr (Zf 5 1 1<|
 Zl 6 1 5<|
 Zn 7 6<|
 Zk 8 .eql 7 0 .nil)<| .cond (.t 8) (Zr (Zc 2 0 .nil) .ret) .skip)<| .seq (Zr (Zf 9 0 1<|
 Zl 10 1 9 .nil)<| .cond (.t 10) (Zr (Zc 2 (-1) .nil) .ret) .skip)<|Zr (Zc 2 1 .nil) .ret⟩
theorem Qakg:Qd Tryz.prog Tryz.f162=some c162:=by kernel_rfl
def c151:SFn:=⟨38,[.t 4],Zr (Zo (.box 2 2 30 (.t 0))<|
 Zo (.box 3 2 30 (.t 1))<|
 Zc 4 0 .nil)<|Zr (Zh 5 2 2<|
 Zh 7 2 3<|
 Zq 6 true 159 [.t 5]<|
 Zq 8 true 159 [.t 7]<|
 Zs 2 2 6<|
 Zs 2 3 8 .nil)<| .seq (.block 0<|Zr (Zf 10 0 2<|
 Zl 11 1 10<|
 Zm 12 11<|
 Zg 12 true (.fld 13 0 (.t 3))<|
 Zg 12 true (.ld 14 1 false (.t 13))<|
 Zg 12 true (.un 15 .not (.t 14))<|
 Zo (.pick 16 (.t 12) (.t 15) (.c (.bool false)))<|
 Zm 9 16 .nil)<| .cond (.t 9) (Zr (Zc 4 (-1) .nil) .ret) (Zr (Zf 18 0 3<|
 Zl 19 1 18<|
 Zm 20 19<|
 Zg 20 true (.fld 21 0 (.t 2))<|
 Zg 20 true (.ld 22 1 false (.t 21))<|
 Zg 20 true (.un 23 .not (.t 22))<|
 Zo (.pick 24 (.t 20) (.t 23) (.c (.bool false)))<|
 Zm 17 24 .nil)<| .cond (.t 17) (Zr (Zc 4 1 .nil) .ret) (Zr (Zf 26 0 2<|
 Zl 27 1 26<|
 Zm 25 27 .nil)<| .cond (.t 25) (Zr (Zf 28 1 3<|
 Zl 29 1 28<|
 Zf 30 1 2<|
 Zl 31 1 30<|
 Zq 32 false 201 [.t 29,.t 31]<|
 Zm 4 32 .nil) .ret) .skip)))<|Zr (Zf 33 1 2<|
 Zl 34 1 33<|
 Zf 35 1 3<|
 Zl 36 1 35<|
 Zq 37 false 201 [.t 34,.t 36]<|
 Zm 4 37 .nil) .ret⟩
theorem Qakh:Qd Tryz.prog Tryz.f151=some c151:=by kernel_rfl
def c235:SFn:=⟨9,[.cell 2 2 true],Zr (Zo (.box 1 2 30 (.t 0))<|
 Zo (.alloc 2 2 30 (.agg [.bool false,.nilS])) .nil)<|Zr (Zf 3 0 1<|
 Zl 4 1 3<|
 Zu 5 4<|
 Zf 6 1 1<|
 Zl 7 1 6<|
 Zq 8 false 160 [.t 5,.t 7]<|
 Zs 2 2 8 .nil) .ret⟩
theorem Qaki:Qd Tryz.prog Tryz.f235=some c235:=by kernel_rfl
def c149:SFn:=⟨48,[.cell 4 2 true],Zr (Zo (.box 2 2 30 (.t 0))<|
 Zo (.box 3 2 30 (.t 1))<|
 Zo (.alloc 4 2 30 (.agg [.bool false,.nilS])) .nil)<| .seq (Zr (Zf 9 0 2<|
 Zl 10 1 9<|
 Zf 11 0 3<|
 Zl 12 1 11<|
 Zo (.bin 13 .eql true (.t 10) (.t 12)) .nil)<| .cond (.t 13) (Zr (Zf 14 0 2<|
 Zl 15 1 14<|
 Zf 16 1 2<|
 Zl 17 1 16<|
 Zf 18 1 3<|
 Zl 19 1 18<|
 Zq 20 true 161 [.t 17,.t 19]<|
 Zq 21 true 160 [.t 15,.t 20]<|
 Zs 2 4 21 .nil) .ret) .skip)<| .seq (Zr (Zf 23 1 2<|
 Zl 24 1 23<|
 Zf 25 1 3<|
 Zl 26 1 25<|
 Zq 27 false 200 [.t 24,.t 26]<|
 Zm 22 27<|
 Zo (.ext 28 (.t 22) 0)<|
 Zo (.ext 29 (.t 22) 1)<|
 Zm 5 28<|
 Zm 6 29 .nil)<|Zr (Zm 30 6<|
 Zk 31 .eql 30 0 .nil)<| .cond (.t 31) (Zr (Zf 32 0 2<|
 Zl 33 1 32<|
 Zm 34 5<|
 Zq 35 false 160 [.t 33,.t 34]<|
 Zs 2 4 35 .nil) .ret) .skip)<|Zr (Zf 37 1 3<|
 Zl 38 1 37<|
 Zf 39 1 2<|
 Zl 40 1 39<|
 Zq 41 false 200 [.t 38,.t 40]<|
 Zm 36 41<|
 Zo (.ext 42 (.t 36) 0)<|
 Zo (.ext 43 (.t 36) 1)<|
 Zm 7 42<|
 Zm 8 43 .nil)<|Zr (Zf 44 0 3<|
 Zl 45 1 44<|
 Zm 46 7<|
 Zq 47 false 160 [.t 45,.t 46]<|
 Zs 2 4 47 .nil) .ret⟩
theorem Qakj:Qd Tryz.prog Tryz.f149=some c149:=by kernel_rfl
def c146:SFn:=⟨16,[.cell 4 2 true],Zr (Zo (.box 2 2 30 (.t 0))<|
 Zo (.box 3 2 30 (.t 1))<|
 Zo (.alloc 4 2 30 (.agg [.bool false,.nilS])) .nil)<|Zr (Zf 5 0 2<|
 Zl 6 1 5<|
 Zf 7 0 3<|
 Zl 8 1 7<|
 Zo (.bin 9 .neq true (.t 6) (.t 8))<|
 Zf 10 1 2<|
 Zl 11 1 10<|
 Zf 12 1 3<|
 Zl 13 1 12<|
 Zq 14 true 147 [.t 11,.t 13]<|
 Zq 15 true 160 [.t 9,.t 14]<|
 Zs 2 4 15 .nil) .ret⟩
theorem Qakk:Qd Tryz.prog Tryz.f146=some c146:=by kernel_rfl
def c56:SFn:=⟨27,[.t 2],Zr (Zo (.box 1 3 32 (.t 0))<|
 Zo (.mv 2 (.c (.bool false))) .nil)<|Zr (Zf 3 0 1<|
 Zh 4 2 3<|
 Zq 5 false 100 [.t 4]<|
 Zm 6 5<|
 Zg 6 true (.fld 7 2 (.t 1))<|
 Zg 6 true (.ld 8 1 false (.t 7))<|
 Zg 6 true (.call (some 9) false (.c (.fn 101 [] [])) [.t 8])<|
 Zo (.pick 10 (.t 6) (.t 9) (.c (.bool false)))<|
 Zm 11 10<|
 Zg 11 true (.fld 12 0 (.t 1))<|
 Zg 11 true (.fld 13 1 (.t 12))<|
 Zg 11 true (.ld 14 1 false (.t 13))<|
 Zg 11 true (.fld 15 2 (.t 1))<|
 Zg 11 true (.ld 16 1 false (.t 15))<|
 Zg 11 true (.call (some 17) false (.c (.fn 103 [] [])) [.t 14,.t 16])<|
 Zg 11 true (.call (some 18) false (.c (.fn 84 [] [])) [.c (.int .u64 1)])<|
 Zg 11 true (.call (some 19) false (.c (.fn 102 [] [])) [.t 17,.t 18])<|
 Zo (.pick 20 (.t 11) (.t 19) (.c (.bool false)))<|
 Zm 21 20<|
 Zg 21 true (.fld 22 2 (.t 1))<|
 Zg 21 true (.ld 23 1 false (.t 22))<|
 Zg 21 true (.len 24 (.t 23))<|
 Zg 21 true (.bin 25 .gtr false (.t 24) (.c (Zz 0)))<|
 Zo (.pick 26 (.t 21) (.t 25) (.c (.bool false)))<|
 Zm 2 26 .nil) .ret⟩
theorem Qan5:Qd Tryz.prog Tryz.f56=some c56:=by kernel_rfl
def c82:SFn:=⟨44,[.cell 4 3 true],Zr (Zo (.box 2 2 30 (.t 0))<|
 Zo (.alloc 4 3 32 (.agg [.bool false,.nilS,.nilS])) .nil)<| .seq (Zr (Zm 12 1<|
 Zq 13 false 157 [.t 12]<|
 Zn 14 13<|
 Zk 15 .eql 14 0 .nil)<| .cond (.t 15) (Zr (Zq 16 false 84 [.c (.int .u64 1)]<|
 Zo (.bld 17 [.bool false,.nilS,.nilS] [(2,1,.t 16)])<|
 Zs 3 4 17 .nil) .ret) .skip)<|Zr (Zf 18 1 2<|
 Zl 19 1 18<|
 Zm 20 1<|
 Zq 21 false 103 [.t 19,.t 20]<|
 Zm 5 21 .nil)<|Zr (Zf 23 1 2<|
 Zl 24 1 23<|
 Zm 25 5<|
 Zq 26 false 158 [.t 24,.t 25]<|
 Zm 22 26<|
 Zo (.ext 27 (.t 22) 0)<|
 Zo (.ext 28 (.t 22) 1)<|
 Zo (.ext 29 (.t 22) 2)<|
 Zm 6 27<|
 Zm 7 28<|
 Zm 8 29 .nil)<|Zr (Zm 31 1<|
 Zm 32 5<|
 Zq 33 false 158 [.t 31,.t 32]<|
 Zm 30 33<|
 Zo (.ext 34 (.t 30) 0)<|
 Zo (.ext 35 (.t 30) 1)<|
 Zo (.ext 36 (.t 30) 2)<|
 Zm 9 34<|
 Zm 10 35<|
 Zm 11 36 .nil)<|Zr (Zf 37 0 2<|
 Zl 38 1 37<|
 Zm 39 6<|
 Zo (.bld 40 [.bool false,.nilS] [(0,1,.t 38),(1,1,.t 39)])<|
 Zq 41 false 159 [.t 40]<|
 Zm 42 9<|
 Zo (.bld 43 [.bool false,.nilS,.nilS] [(0,2,.t 41),(2,1,.t 42)])<|
 Zs 3 4 43 .nil) .ret⟩
theorem Qan6:Qd Tryz.prog Tryz.f82=some c82:=by kernel_rfl
def c148:SFn:=⟨8,[.cell 2 3 true],Zr (Zo (.box 1 3 32 (.t 0))<|
 Zo (.alloc 2 3 32 (.agg [.bool false,.nilS,.nilS])) .nil)<|Zr (Zf 3 0 1<|
 Zh 4 2 3<|
 Zf 5 2 1<|
 Zl 6 1 5<|
 Zq 7 false 82 [.t 4,.t 6]<|
 Zs 3 2 7 .nil) .ret⟩
theorem Qakl:Qd Tryz.prog Tryz.f148=some c148:=by kernel_rfl
def c245:SFn:=⟨18,[.cell 4 3 true,.t 5],Zr (Zo (.box 2 2 30 (.t 0))<|
 Zo (.box 3 2 30 (.t 1))<|
 Zo (.alloc 4 3 32 (.agg [.bool false,.nilS,.nilS]))<|
 Zc 5 0 .nil)<| .seq (Zr (Zh 6 2 3<|
 Zq 7 false 162 [.t 6]<|
 Zk 8 .eql 7 0 .nil)<| .cond (.t 8) (Zr (Zo (.bld 9 [.bool false,.nilS,.nilS] [])<|
 Zs 3 4 9<|
 Zc 5 3 .nil) .ret) .skip)<| .seq (Zr (Zf 10 0 3<|
 Zl 11 1 10 .nil)<| .cond (.t 11) (.rg (Zh 12 2 2<|
 Zq 13 false 235 [.t 12]<|
 Zs 2 2 13 .nil)) .skip)<|Zr (Zh 14 2 2<|
 Zf 15 1 3<|
 Zl 16 1 15<|
 Zq 17 false 82 [.t 14,.t 16]<|
 Zs 3 4 17<|
 Zc 5 0 .nil) .ret⟩
theorem Qakm:Qd Tryz.prog Tryz.f245=some c245:=by kernel_rfl
def c37:SFn:=⟨7,[.cell 2 3 true],Zr (Zo (.alloc 2 3 32 (.agg [.bool false,.nilS,.nilS])) .nil)<|Zr (Zm 3 0<|
 Zq 4 false 83 [.t 3]<|
 Zq 5 false 84 [.c (.int .u64 1)]<|
 Zq 6 false 82 [.t 4,.t 5]<|
 Zs 3 2 6 .nil) .ret⟩
theorem Qan7:Qd Tryz.prog Tryz.f37=some c37:=by kernel_rfl
def c150:SFn:=⟨5,[.cell 2 2 true],Zr (Zo (.alloc 2 2 30 (.agg [.bool false,.nilS])) .nil)<|Zr (Zm 3 0<|
 Zo (.bld 4 [.bool false,.nilS] [(1,1,.t 3)])<|
 Zs 2 2 4 .nil) .ret⟩
theorem Qakn:Qd Tryz.prog Tryz.f150=some c150:=by kernel_rfl
def c85:SFn:=⟨7,[.t 2],Zr (Zo (.box 1 3 32 (.t 0))<|
 Zc 2 0 .nil)<|Zr (Zh 3 3 1<|
 Zq 4 false 148 [.t 3]<|
 Zo (.fldv 5 0 2 true (.t 4))<|
 Zq 6 false 162 [.t 5]<|
 Zm 2 6 .nil) .ret⟩
theorem Qan8:Qd Tryz.prog Tryz.f85=some c85:=by kernel_rfl
def c72:SFn:=⟨22,[.t 4],Zr (Zo (.box 2 3 32 (.t 0))<|
 Zo (.box 3 3 32 (.t 1))<|
 Zc 4 0 .nil)<|Zr (Zh 5 3 2<|
 Zh 7 3 3<|
 Zq 6 true 148 [.t 5]<|
 Zq 8 true 148 [.t 7]<|
 Zs 3 2 6<|
 Zs 3 3 8 .nil)<|Zr (Zf 9 0 2<|
 Zh 10 2 9<|
 Zf 11 2 3<|
 Zl 12 1 11<|
 Zf 15 0 3<|
 Zh 16 2 15<|
 Zf 17 2 2<|
 Zl 18 1 17<|
 Zq 13 true 150 [.t 12]<|
 Zq 14 true 146 [.t 10,.t 13]<|
 Zq 19 true 150 [.t 18]<|
 Zq 20 true 146 [.t 16,.t 19]<|
 Zq 21 true 151 [.t 14,.t 20]<|
 Zm 4 21 .nil) .ret⟩
theorem Qan9:Qd Tryz.prog Tryz.f72=some c72:=by kernel_rfl
def c71:SFn:=⟨28,[.cell 4 3 true],Zr (Zo (.box 2 3 32 (.t 0))<|
 Zo (.box 3 3 32 (.t 1))<|
 Zo (.alloc 4 3 32 (.agg [.bool false,.nilS,.nilS])) .nil)<|Zr (Zh 5 3 2<|
 Zh 7 3 3<|
 Zq 6 true 148 [.t 5]<|
 Zq 8 true 148 [.t 7]<|
 Zs 3 2 6<|
 Zs 3 3 8 .nil)<|Zr (Zf 9 0 2<|
 Zh 10 2 9<|
 Zf 11 2 3<|
 Zl 12 1 11<|
 Zf 15 0 3<|
 Zh 16 2 15<|
 Zf 17 2 2<|
 Zl 18 1 17<|
 Zf 22 2 2<|
 Zl 23 1 22<|
 Zf 24 2 3<|
 Zl 25 1 24<|
 Zq 13 true 150 [.t 12]<|
 Zq 14 true 146 [.t 10,.t 13]<|
 Zq 19 true 150 [.t 18]<|
 Zq 20 true 146 [.t 16,.t 19]<|
 Zq 21 true 149 [.t 14,.t 20]<|
 Zq 26 true 147 [.t 23,.t 25]<|
 Zq 27 true 82 [.t 21,.t 26]<|
 Zs 3 4 27 .nil) .ret⟩
theorem Qaoa:Qd Tryz.prog Tryz.f71=some c71:=by kernel_rfl
def c69:SFn:=⟨16,[.cell 4 3 true],Zr (Zo (.box 2 3 32 (.t 0))<|
 Zo (.box 3 3 32 (.t 1))<|
 Zo (.alloc 4 3 32 (.agg [.bool false,.nilS,.nilS])) .nil)<|Zr (Zf 5 0 2<|
 Zh 6 2 5<|
 Zf 7 0 3<|
 Zh 8 2 7<|
 Zf 10 2 2<|
 Zl 11 1 10<|
 Zf 12 2 3<|
 Zl 13 1 12<|
 Zq 9 true 146 [.t 6,.t 8]<|
 Zq 14 true 147 [.t 11,.t 13]<|
 Zq 15 true 82 [.t 9,.t 14]<|
 Zs 3 4 15 .nil) .ret⟩
theorem Qaob:Qd Tryz.prog Tryz.f69=some c69:=by kernel_rfl
def c226:SFn:=⟨25,[.cell 4 3 true,.t 5],Zr (Zo (.box 2 3 32 (.t 0))<|
 Zo (.box 3 3 32 (.t 1))<|
 Zo (.alloc 4 3 32 (.agg [.bool false,.nilS,.nilS]))<|
 Zc 5 0 .nil)<|Zr (Zh 6 3 2<|
 Zh 8 3 3<|
 Zq 7 true 148 [.t 6]<|
 Zq 9 true 148 [.t 8]<|
 Zs 3 2 7<|
 Zs 3 3 9 .nil)<|Zr (Zf 10 0 2<|
 Zh 11 2 10<|
 Zf 12 2 3<|
 Zl 13 1 12<|
 Zf 16 0 3<|
 Zh 17 2 16<|
 Zf 18 2 2<|
 Zl 19 1 18<|
 Zq 14 true 150 [.t 13]<|
 Zq 15 true 146 [.t 11,.t 14]<|
 Zq 20 true 150 [.t 19]<|
 Zq 21 true 146 [.t 17,.t 20]<|
 Zq 22 true 245 [.t 15,.t 21]<|
 Zo (.ext 23 (.t 22) 0)<|
 Zo (.ext 24 (.t 22) 1)<|
 Zs 3 4 23<|
 Zm 5 24 .nil) .ret⟩
theorem Qako:Qd Tryz.prog Tryz.f226=some c226:=by kernel_rfl
end Go.Proofs.YtonfajmchebkeaaGreat
namespace Go.Proofs.YtonfajmchebkeaaGreat
open Go Go.FW
set_option linter.unusedSimpArgs false
set_option linter.unusedVariables false
set_option maxRecDepth 100000
theorem Qbz{l:List Nat}(hv:Qk l)(hl:l.length<2^42):Qe Tryz.prog 157 [PV.nat l] (· =PV.num (val l)):=by
 have hcut:=Qnj hv
 refine Qf Qj Tryz.func157 rfl Qaj1 (by simp[c157]) fun C hP=> ?_;simp only[c157,Zo,Zg,Zm,Zc,Zf,Zl,Zh,Zs,Zi,Zb,Zk,Zn,Zu,Zq,Zr,Zz]
 simp+decide (disch:=first|exact D0|fail) only[go_sem,↓reduceIte]
 refine Qx (by repeat (first|exact Qt|exact Qm|exact Qn|exact Qo|exact Qp|apply Ql|apply Qr|apply Qy|apply Q3|apply Q4|apply Qi|apply Qw)) [(3,3),(7,18)] [] (fun m J hp=>m<=l.length/\cut l m=dig (val l)/\J 3= .int .i64 m/\hp=hp0) l.length ?_ ?_
 ·refine⟨Nat.le_refl _,hcut,?_⟩
  simp+decide (disch:=first|exact D0|fail) only[go_sem,↓reduceIte]
 rintro n J _ ⟨hn,hc,h3,rfl⟩
 simp+decide (disch:=first|exact D1 h3|fail) only[go_sem,↓reduceIte,h3]
 refine Q8 (fun hg=> ?_) (fun hg=> ?_)
 ·obtain _|n:=n
  ·omega
  have e:((n+1:Nat):Int)-1=n:=by omega
  simp only[cut]at hc
  simp+decide (disch:=first|exact D2 h3 e|fail) only[go_sem,↓reduceIte,h3,e]
  refine Qb (fun hz=> ?_) (fun hz=> ?_)
  ·rw[if_pos (by grind)]at hc
   simp+decide (disch:=first|exact D2 h3 e|fail) only[go_sem,↓reduceIte,h3,e]
   refine Qg n (by omega) ⟨by omega,hc,?_⟩
   simp+decide (disch:=first|exact D0|fail) only[go_sem,↓reduceIte]
  ·rw[if_neg (by grind)]at hc
   have hlt:(l.take (n+1)).length<2^42:=by rw[List.length_take];omega
   simp+decide (disch:=first|exact E2 h3 e|fail) only[go_sem,↓reduceIte,h3,e,Q7,List.contains_cons,List.contains_nil,List.flatMap_cons,List.flatMap_nil,List.append_nil]
   exact Qc (by rw[List.take_of_length_le (by simp),hc]) rfl
 ·obtain rfl:n=0:=by omega
  simp+decide (disch:=first|omega|rfl|(simp+decide only[go_sem,↓reduceIte,h3,List.take_zero,List.map_nil,List.length_nil]<;>rfl)|fail) only[go_sem,↓reduceIte,h3,List.take_zero,List.map_nil,List.length_nil]
  rw[Qkq (ys:=[]) rfl (by omega) (by simp) (by simp)]
  simp+decide (disch:=first|exact E0|fail) only[go_sem,↓reduceIte,Q7,List.contains_cons,List.contains_nil,List.flatMap_cons,List.flatMap_nil,List.append_nil]
  exact Qc (by show _=PV.nat (dig (val l));rw[<-hc];rfl) rfl
theorem Qdc{n:Nat}(hn:n<18446744073709551616):Qe Tryz.prog 84 [.int .u64 n] (· =PV.num n):=by
 have hlen:=Qfz hn
 unfold nl at hlen
 refine Qf Qj Tryz.func84 rfl Qan3 (by simp[c84]) fun C hP=> ?_;simp only[c84,Zo,Zg,Zm,Zc,Zf,Zl,Zh,Zs,Zi,Zb,Zk,Zn,Zu,Zq,Zr,Zz]
 simp+decide (disch:=first|exact D0|fail) only[go_sem,↓reduceIte]
 refine Qf7 3 900 1 191 (by omega) T0 ?_
 refine Qx (by repeat (first|exact Qt|exact Qm|exact Qn|exact Qo|exact Qp|apply Ql|apply Qr|apply Qy|apply Q3|apply Q4|apply Qi|apply Qw)) [(0,0),(3,13)] [10,11,900] (fun m J hp=>∃done:List Nat,dig n=done++dig m/\m<=n/\J 0= .int .u64 m/\J 3= .ms 900 done.length/\hp 900=some ⟨1,191,Qa4 done,false⟩) n ?_ ?_
 ·refine⟨[],rfl,Nat.le_refl _,?_⟩
  simp+decide (disch:=first|exact D0|fail) only[go_sem,↓reduceIte]
 rintro m J hp ⟨done,hd,hm,h0,h3,hh⟩
 rw[hd,List.length_append]at hlen
 simp+decide (disch:=first|exact D2 h0 h3|fail) only[go_sem,↓reduceIte,h0,h3]
 refine Qb (fun hz=> ?_) (fun hz=> ?_)
 ·have hne:m≠0:=by omega
  have hd2:dig n=(done++[m%65536])++dig (m/65536):=by rw[hd,Qh0 hne];simp
  simp+decide (disch:=first|omega|rfl|(simp+decide only[go_sem,↓reduceIte,h0,h3,Nat.mod_mod]<;>rfl)|fail) only[go_sem,↓reduceIte,h0,h3,Nat.mod_mod]
  rw[Qal (f:=fun(x:Nat)=> .int .u16 x) (y:=m%65536) (xs:=done) (ty':=191) (fz:=false) (T1 hh) Tr0 (by omega) rfl (by omega) (by omega)]
  simp+decide (disch:=first|exact D2 h0 h3|fail) only[go_sem,↓reduceIte,h0,h3]
  refine Qg (m/65536) (by omega) ⟨done++[m%65536],hd2,by omega,?_⟩
  simp+decide (disch:=first|exact D2 h0 h3|fail) only[go_sem,↓reduceIte,h0,h3]
  simp
 ·obtain rfl:m=0:=by omega
  rw[Qa5,List.append_nil]at hd
  simp+decide (disch:=first|exact E2 h3 hh|fail) only[go_sem,↓reduceIte,h3,hh,Q7,List.contains_cons,List.contains_nil,List.flatMap_cons,List.flatMap_nil,List.append_nil]
  exact Qc (by show _=PV.nat (dig n);rw[hd,List.take_of_length_le (by simp)]) rfl
theorem Qbr{a:List Nat}{i:Nat}(ha:Qk a)(hl:a.length<2^43):Qe Tryz.prog 199 [PV.nat a,.int .i64 i] (· = .int .i64 (dg a i:Nat)):=by
 refine Qf Qj Tryz.func199 rfl Qaj3 (by simp[c199]) fun C hP=> ?_;simp only[c199,Zo,Zg,Zm,Zc,Zf,Zl,Zh,Zs,Zi,Zb,Zk,Zn,Zu,Zq,Zr,Zz]
 simp+decide (disch:=first|exact D0|fail) only[go_sem,↓reduceIte]
 refine Qb (fun hi=> ?_) (fun hi=> ?_)
 ·have hi':i<a.length:=by omega
  have hai:=Qao ha hi'
  have hg:dg a i=a[i]:=Qbo hi'
  simp+decide (disch:=first|exact D0|fail) only[go_sem,↓reduceIte]
  exact Qc (by rw[hg]) rfl
 ·simp+decide (disch:=first|exact D0|fail) only[go_sem,↓reduceIte]
  exact Qc (by rw[dg,Qbp (by omega)];rfl) rfl
theorem Qhe{a:List Nat}(ha:Qk a)(hl:a.length<=4):Qe Tryz.prog 214 [PV.nat a] (· = .int .u64 (val a:Nat)):=by
 have hlt:∀k,val (a.drop k)<18446744073709551616:=fun k=>by
  have h1:=Qf3 (Qig ha k)
  have:65536^(a.drop k).length<=65536^4:=Nat.pow_le_pow_right (by omega) (by rw[List.length_drop];omega)
  omega
 refine Qf Qj Tryz.func214 rfl Qaj2 (by simp[c214]) fun C hP=> ?_;simp only[c214,Zo,Zg,Zm,Zc,Zf,Zl,Zh,Zs,Zi,Zb,Zk,Zn,Zu,Zq,Zr,Zz]
 simp+decide (disch:=first|exact D0|fail) only[go_sem,↓reduceIte]
 refine Qx (by repeat (first|exact Qt|exact Qm|exact Qn|exact Qo|exact Qp|apply Ql|apply Qr|apply Qy|apply Q3|apply Q4|apply Qi|apply Qw)) [(3,4),(8,19)] [] (fun k J hp=>k<=a.length/\J 3= .int .u64 (val (a.drop k):Nat)/\J 4= .int .i64 ((k:Int)-1)) a.length ?_ ?_
 ·refine⟨Nat.le_refl _,?_⟩
  simp+decide (disch:=first|exact D0|fail) only[go_sem,↓reduceIte]
  simp[val]
 rintro k J h ⟨hk,h3,h4⟩
 simp+decide (disch:=first|exact D2 h3 h4|fail) only[go_sem,↓reduceIte,h3,h4]
 refine Qb (fun hg=> ?_) (fun hg=> ?_)
 ·obtain _|n:=k
  ·omega
  have hn:n<a.length:=by omega
  have han:=Qao ha hn
  have e:((n+1:Nat):Int)-1=n:=by omega
  have hv:=Qc2 hn
  have h1:=hlt n
  generalize hxx:a[n]=x at *
  have e2:val (a.drop (n+1))*65536+x=val (a.drop n):=by omega
  simp+decide (disch:=first|exact D5 h3 h4 e hxx e2|fail) only[go_sem,↓reduceIte,h3,h4,e,hxx,e2]
  refine Qg n (by omega) ⟨by omega,?_⟩
  simp+decide (disch:=first|exact D0|fail) only[go_sem,↓reduceIte]
 ·obtain rfl:k=0:=by omega
  simp+decide (disch:=first|omega|rfl|(simp+decide only[go_sem,↓reduceIte,h3,List.drop_zero]<;>rfl)|fail) only[go_sem,↓reduceIte,h3,List.drop_zero]
  exact Qc rfl rfl
theorem Qjo{a b:List Nat}(ha:Qk a)(hb:Qk b)(hla:a.length<2^42)(hlb:b.length<2^42):Qe Tryz.prog 201 [PV.nat a,PV.nat b] (· = .int .i64 (Qd4 (val a) (val b))):=by
 refine Qf Qj Tryz.func201 rfl Qaj4 (by simp[c201]) fun C hP=> ?_;simp only[c201,Zo,Zg,Zm,Zc,Zf,Zl,Zh,Zs,Zi,Zb,Zk,Zn,Zu,Zq,Zr,Zz]
 simp+decide (disch:=first|omega|rfl|(simp+decide only[go_sem,↓reduceIte,Qwj]<;>rfl)|fail) only[go_sem,↓reduceIte,Qwj]
 refine Qx (by repeat (first|exact Qt|exact Qm|exact Qn|exact Qo|exact Qp|apply Ql|apply Qr|apply Qy|apply Q3|apply Q4|apply Qi|apply Qw)) [(4,5),(12,29)] [] (fun k J hp=>k<=max a.length b.length/\val (a.drop k)=val (b.drop k)/\J 5= .int .i64 ((k:Int)-1)) (max a.length b.length) ?_ ?_
 ·refine⟨Nat.le_refl _,?_,?_⟩
  ·rw[List.drop_of_length_le (by omega),List.drop_of_length_le (by omega)]
  ·simp+decide (disch:=first|exact D0|fail) only[go_sem,↓reduceIte]
 rintro k J h ⟨hk,hv,h5⟩
 simp+decide (disch:=first|exact D1 h5|fail) only[go_sem,↓reduceIte,h5]
 refine Qb (fun hg=> ?_) (fun hg=> ?_)
 ·obtain _|n:=k
  ·omega
  have e:((n+1:Nat):Int)-1=n:=by omega
  have e1:=Qh1 a n
  have e2:=Qh1 b n
  have d1:=Qov ha n
  have d2:=Qov hb n
  simp+decide (disch:=first|exact D2 h5 e|fail) only[go_sem,↓reduceIte,h5,e]
  refine Qa hP (Qbr ha (by omega)) rfl rfl rfl ?_
  simp+decide (disch:=first|exact D2 h5 e|fail) only[go_sem,↓reduceIte,h5,e]
  refine Qa hP (Qbr hb (by omega)) rfl rfl rfl ?_
  simp+decide (disch:=first|exact D2 h5 e|fail) only[go_sem,↓reduceIte,h5,e]
  refine Qb (fun hc=> ?_) (fun hc=> ?_)
  ·have hlt:=Qsk (a:=a) (b:=b) ha (i:=n) (by omega)
   simp+decide (disch:=first|exact D0|fail) only[go_sem,↓reduceIte]
   exact Qc (by rw[Qv9 hlt]) rfl
  simp+decide (disch:=first|exact D2 h5 e|fail) only[go_sem,↓reduceIte,h5,e]
  refine Qa hP (Qbr ha (by omega)) rfl rfl rfl ?_
  simp+decide (disch:=first|exact D2 h5 e|fail) only[go_sem,↓reduceIte,h5,e]
  refine Qa hP (Qbr hb (by omega)) rfl rfl rfl ?_
  simp+decide (disch:=first|exact D2 h5 e|fail) only[go_sem,↓reduceIte,h5,e]
  refine Qb (fun hc2=> ?_) (fun hc2=> ?_)
  ·have hlt:=Qsk (a:=b) (b:=a) hb (i:=n) (by omega)
   simp+decide (disch:=first|exact D0|fail) only[go_sem,↓reduceIte]
   exact Qc (by rw[Qwa hlt]) rfl
  ·simp+decide (disch:=first|exact D2 h5 e|fail) only[go_sem,↓reduceIte,h5,e]
   refine Qg n (by omega) ⟨by omega,by omega,?_⟩
   simp+decide (disch:=first|exact D0|fail) only[go_sem,↓reduceIte]
 ·obtain rfl:k=0:=by omega
  simp+decide (disch:=first|exact D0|fail) only[go_sem,↓reduceIte]
  exact Qc (by rw[Q3u (by simpa using hv)]) rfl
end Go.Proofs.YtonfajmchebkeaaGreat
namespace Go.Proofs.YtonfajmchebkeaaGreat
open Go Go.FW
set_option linter.unusedSimpArgs false
set_option linter.unusedVariables false
set_option maxRecDepth 100000
theorem Qpr{a:List Nat}(ha:Qk a)(hl:a.length<2^43):Qe Tryz.prog 101 [PV.nat a] (· = .bool (decide (a.getLast? ≠some 0))):=by
 refine Qf Qj Tryz.func101 rfl Qakb (by simp[c101]) fun C hP=> ?_;simp only[c101,Zo,Zg,Zm,Zc,Zf,Zl,Zh,Zs,Zi,Zb,Zk,Zn,Zu,Zq,Zr,Zz]
 simp+decide (disch:=first|exact D0|fail) only[go_sem,↓reduceIte]
 refine Qaa (fun h0=> ?_) (fun h0=> ?_)
 ·have:a=[]:=List.length_eq_zero_iff.1 (by omega)
  subst this
  simp+decide (disch:=first|exact D0|fail) only[go_sem,↓reduceIte]
  exact Qc (by simp) rfl
 ·obtain⟨k,hk⟩:∃k,a.length=k+1:=⟨a.length-1,by omega⟩
  have hlast:=Q0s hk
  have e:((k+1:Nat):Int)-1=k:=by omega
  generalize hy:a[k]'(by omega)=y at *
  simp+decide (disch:=first|exact D3 hk e hy|fail) only[go_sem,↓reduceIte,hk,e,hy]
  refine Qc (congrArg PV.bool ?_) rfl
  rw[hlast]
  exact decide_eq_decide.2 ⟨fun h h'=>h (by injection h' with h';rw[h'];rfl),fun h h'=>h (by rw[show y=0 by omega])⟩
theorem Q1j{a b:List Nat}(hla:a.length<2^43)(hlb:b.length<2^43):Qe Tryz.prog 102 [PV.nat a,PV.nat b] (· = .bool (decide (a=b))):=by
 refine Qf Qj Tryz.func102 rfl Qakc (by simp[c102]) fun C hP=> ?_;simp only[c102,Zo,Zg,Zm,Zc,Zf,Zl,Zh,Zs,Zi,Zb,Zk,Zn,Zu,Zq,Zr,Zz]
 simp+decide (disch:=first|exact D0|fail) only[go_sem,↓reduceIte]
 refine Qb (fun h0=> ?_) (fun h0=> ?_)
 ·simp+decide (disch:=first|exact D0|fail) only[go_sem,↓reduceIte]
  exact Qc (congrArg PV.bool (by rw[decide_eq_false];rintro rfl;exact h0 rfl)) rfl
 have hlen:a.length=b.length:=by omega
 simp+decide (disch:=first|exact D0|fail) only[go_sem,↓reduceIte]
 refine Qx (by repeat (first|exact Qt|exact Qm|exact Qn|exact Qo|exact Qp|apply Ql|apply Qr|apply Qy|apply Q3|apply Q4|apply Qi|apply Qw)) [(4,5),(11,25)] [] (fun n J hp=>∃i,n=a.length-i/\i<=a.length/\a.take i=b.take i/\J 5= .int .i64 (i:Nat)) a.length ?_ ?_
 ·refine⟨0,rfl,by omega,by simp,?_⟩
  simp+decide (disch:=first|exact D0|fail) only[go_sem,↓reduceIte]
  rfl
 rintro _ J h ⟨i,rfl,hi,he,h5⟩
 simp+decide (disch:=first|exact D1 h5|fail) only[go_sem,↓reduceIte,h5]
 refine Qb (fun hg=> ?_) (fun hg=> ?_)
 ·have hi':i<a.length:=by omega
  have hib:i<b.length:=by omega
  have ta:=List.take_succ_eq_append_getElem hi'
  have tb:=List.take_succ_eq_append_getElem hib
  have hne:a=b->a[i]=b[i]:=fun h=>by subst h;rfl
  generalize hx:a[i]=x at *
  generalize hy:b[i]=y at *
  simp+decide (disch:=first|exact D3 h5 hx hy|fail) only[go_sem,↓reduceIte,h5,hx,hy]
  refine Qb (fun hc=> ?_) (fun hc=> ?_)
  ·simp+decide (disch:=first|exact D0|fail) only[go_sem,↓reduceIte]
   exact Qc (congrArg PV.bool (by rw[decide_eq_false];intro h;exact hc (by rw[hne h]))) rfl
  ·simp+decide (disch:=first|exact D1 h5|fail) only[go_sem,↓reduceIte,h5]
   refine Qg (a.length-(i+1)) (by omega) ⟨i+1,rfl,by omega,by rw[ta,tb,he,show x=y by omega],?_⟩
   simp+decide (disch:=first|exact D0|fail) only[go_sem,↓reduceIte]
 ·obtain rfl:i=a.length:=by omega
  rw[List.take_length,hlen,List.take_length]at he
  simp+decide (disch:=first|exact D0|fail) only[go_sem,↓reduceIte]
  exact Qc (congrArg PV.bool (by rw[he];simp)) rfl
theorem Qso{a b:List Nat}(ha:Qk a)(hb:Qk b)(hla:a.length<2^40)(hlb:b.length<2^40):Qe Tryz.prog 161 [PV.nat a,PV.nat b] (· =PV.num (val a+val b)):=by
 refine Qf Qj Tryz.func161 rfl Qaj5 (by simp[c161]) fun C hP=> ?_;simp only[c161,Zo,Zg,Zm,Zc,Zf,Zl,Zh,Zs,Zi,Zb,Zk,Zn,Zu,Zq,Zr,Zz]
 simp+decide (disch:=first|exact D0|fail) only[go_sem,↓reduceIte]
 refine Qf7 5 900 1 191 (by omega) T0 ?_
 refine Qx (by repeat (first|exact Qt|exact Qm|exact Qn|exact Qo|exact Qp|apply Ql|apply Qr|apply Qy|apply Q3|apply Q4|apply Qi|apply Qw)) [(5,41)] [38,39,900] (fun m J hp=>∃(i c:Nat)(out:List Nat),m=2*(max a.length b.length-i)+c/\c<=1/\i<=max a.length b.length+1/\(i<=max a.length b.length∨c=0)/\out.length=i/\Qk out/\val out+65536^i*(c+val (a.drop i)+val (b.drop i))=val a+val b/\J 5= .ms 900 out.length/\J 6= .int .i64 c/\J 7= .int .i64 i/\hp 900=some ⟨1,191,Qa4 out,false⟩) (2*max a.length b.length) ?_ ?_
 ·refine⟨0,0,[],rfl,by omega,by omega,by omega,rfl,Qc3,by simp[val],?_⟩
  simp+decide (disch:=first|exact D0|fail) only[go_sem,↓reduceIte]
  simp
 rintro _ J h ⟨i,c,out,rfl,hc,hi,hi2,hol,hout,hv,h5,h6,h7,hh⟩
 have e1:=Qh1 a i
 have e2:=Qh1 b i
 have d1:=Qov ha i
 have d2:=Qov hb i
 simp+decide (disch:=first|exact D3 h5 h6 h7|fail) only[go_sem,↓reduceIte,h5,h6,h7]
 refine Qaa (fun hg=> ?_) (fun hg=> ?_)
 ·have hlt:i<max a.length b.length:=by omega
  have hs1:(dg a i+dg b i+c)/65536<=1:=by omega
  have hstep:val (out++[(dg a i+dg b i+c)%65536])+65536^(i+1)*((dg a i+dg b i+c)/65536+val (a.drop (i+1))+val (b.drop (i+1)))=val a+val b:=by
   rw[Qox,hol,Nat.pow_succ,<-hv,e1,e2]
   have:=Nat.div_add_mod (dg a i+dg b i+c) 65536
   generalize 65536^i=P at *
   generalize(dg a i+dg b i+c)/65536=q at *
   generalize(dg a i+dg b i+c)%65536=r at *
   have e:c+(dg a i+65536*val (a.drop (i+1)))+(dg b i+65536*val (b.drop (i+1)))=r+65536*(q+val (a.drop (i+1))+val (b.drop (i+1))):=by omega
   rw[e,Nat.mul_add P,Nat.mul_assoc];omega
  simp+decide (disch:=first|exact D3 h5 h6 h7|fail) only[go_sem,↓reduceIte,h5,h6,h7]
  refine Qa hP (Qbr ha (by omega)) rfl rfl rfl ?_
  simp+decide (disch:=first|exact D3 h5 h6 h7|fail) only[go_sem,↓reduceIte,h5,h6,h7]
  refine Qa hP (Qbr hb (by omega)) rfl rfl rfl ?_
  simp+decide (disch:=first|omega|rfl|(simp+decide only[go_sem,↓reduceIte,h5,h6,h7,Nat.mod_mod]<;>rfl)|fail) only[go_sem,↓reduceIte,h5,h6,h7,Nat.mod_mod]
  rw[Qal (f:=fun(x:Nat)=> .int .u16 x) (y:=(dg a i+dg b i+c)%65536) (xs:=out) (ty':=191) (fz:=false) (T1 hh) Tr0 (by omega) rfl (by omega) (by omega)]
  simp+decide (disch:=first|exact D3 h5 h6 h7|fail) only[go_sem,↓reduceIte,h5,h6,h7]
  refine Qg (2*(max a.length b.length-(i+1))+(dg a i+dg b i+c)/65536) ?_ ⟨i+1,(dg a i+dg b i+c)/65536,out++[(dg a i+dg b i+c)%65536],rfl,hs1,by omega,?_,by simp[hol],?_,hstep,?_⟩
  ·by_cases hlt:i<max a.length b.length
   ·omega
   ·have z1:dg a i=0:=by rw[dg,Qbp (by omega)]
    have z2:dg b i=0:=by rw[dg,Qbp (by omega)]
    rw[z1,z2];omega
  ·by_cases hlt:i<max a.length b.length
   ·omega
   ·have z1:dg a i=0:=by rw[dg,Qbp (by omega)]
    have z2:dg b i=0:=by rw[dg,Qbp (by omega)]
    rw[z1,z2];omega
  ·rw[Qby];exact⟨hout,by intro z hz;simp at hz;omega⟩
  ·simp+decide (disch:=first|exact D0|fail) only[go_sem,↓reduceIte]
   simp
 simp+decide (disch:=first|exact D3 h5 h6 h7|fail) only[go_sem,↓reduceIte,h5,h6,h7]
 refine Qaa (fun hg2=> ?_) (fun hg2=> ?_)
 ·have hlt:i<max a.length b.length:=by omega
  have hs1:(dg a i+dg b i+c)/65536<=1:=by omega
  have hstep:val (out++[(dg a i+dg b i+c)%65536])+65536^(i+1)*((dg a i+dg b i+c)/65536+val (a.drop (i+1))+val (b.drop (i+1)))=val a+val b:=by
   rw[Qox,hol,Nat.pow_succ,<-hv,e1,e2]
   have:=Nat.div_add_mod (dg a i+dg b i+c) 65536
   generalize 65536^i=P at *
   generalize(dg a i+dg b i+c)/65536=q at *
   generalize(dg a i+dg b i+c)%65536=r at *
   have e:c+(dg a i+65536*val (a.drop (i+1)))+(dg b i+65536*val (b.drop (i+1)))=r+65536*(q+val (a.drop (i+1))+val (b.drop (i+1))):=by omega
   rw[e,Nat.mul_add P,Nat.mul_assoc];omega
  simp+decide (disch:=first|exact D3 h5 h6 h7|fail) only[go_sem,↓reduceIte,h5,h6,h7]
  refine Qa hP (Qbr ha (by omega)) rfl rfl rfl ?_
  simp+decide (disch:=first|exact D3 h5 h6 h7|fail) only[go_sem,↓reduceIte,h5,h6,h7]
  refine Qa hP (Qbr hb (by omega)) rfl rfl rfl ?_
  simp+decide (disch:=first|omega|rfl|(simp+decide only[go_sem,↓reduceIte,h5,h6,h7,Nat.mod_mod]<;>rfl)|fail) only[go_sem,↓reduceIte,h5,h6,h7,Nat.mod_mod]
  rw[Qal (f:=fun(x:Nat)=> .int .u16 x) (y:=(dg a i+dg b i+c)%65536) (xs:=out) (ty':=191) (fz:=false) (T1 hh) Tr0 (by omega) rfl (by omega) (by omega)]
  simp+decide (disch:=first|exact D3 h5 h6 h7|fail) only[go_sem,↓reduceIte,h5,h6,h7]
  refine Qg (2*(max a.length b.length-(i+1))+(dg a i+dg b i+c)/65536) ?_ ⟨i+1,(dg a i+dg b i+c)/65536,out++[(dg a i+dg b i+c)%65536],rfl,hs1,by omega,?_,by simp[hol],?_,hstep,?_⟩
  ·by_cases hlt:i<max a.length b.length
   ·omega
   ·have z1:dg a i=0:=by rw[dg,Qbp (by omega)]
    have z2:dg b i=0:=by rw[dg,Qbp (by omega)]
    rw[z1,z2];omega
  ·by_cases hlt:i<max a.length b.length
   ·omega
   ·have z1:dg a i=0:=by rw[dg,Qbp (by omega)]
    have z2:dg b i=0:=by rw[dg,Qbp (by omega)]
    rw[z1,z2];omega
  ·rw[Qby];exact⟨hout,by intro z hz;simp at hz;omega⟩
  ·simp+decide (disch:=first|exact D0|fail) only[go_sem,↓reduceIte]
   simp
 simp+decide (disch:=first|exact D3 h5 h6 h7|fail) only[go_sem,↓reduceIte,h5,h6,h7]
 refine Qb (fun hg3=> ?_) (fun hg3=> ?_)
 ·have hib:i<=max a.length b.length:=by omega
  have hs1:(dg a i+dg b i+c)/65536<=1:=by omega
  have hstep:val (out++[(dg a i+dg b i+c)%65536])+65536^(i+1)*((dg a i+dg b i+c)/65536+val (a.drop (i+1))+val (b.drop (i+1)))=val a+val b:=by
   rw[Qox,hol,Nat.pow_succ,<-hv,e1,e2]
   have:=Nat.div_add_mod (dg a i+dg b i+c) 65536
   generalize 65536^i=P at *
   generalize(dg a i+dg b i+c)/65536=q at *
   generalize(dg a i+dg b i+c)%65536=r at *
   have e:c+(dg a i+65536*val (a.drop (i+1)))+(dg b i+65536*val (b.drop (i+1)))=r+65536*(q+val (a.drop (i+1))+val (b.drop (i+1))):=by omega
   rw[e,Nat.mul_add P,Nat.mul_assoc];omega
  simp+decide (disch:=first|exact D3 h5 h6 h7|fail) only[go_sem,↓reduceIte,h5,h6,h7]
  refine Qa hP (Qbr ha (by omega)) rfl rfl rfl ?_
  simp+decide (disch:=first|exact D3 h5 h6 h7|fail) only[go_sem,↓reduceIte,h5,h6,h7]
  refine Qa hP (Qbr hb (by omega)) rfl rfl rfl ?_
  simp+decide (disch:=first|omega|rfl|(simp+decide only[go_sem,↓reduceIte,h5,h6,h7,Nat.mod_mod]<;>rfl)|fail) only[go_sem,↓reduceIte,h5,h6,h7,Nat.mod_mod]
  rw[Qal (f:=fun(x:Nat)=> .int .u16 x) (y:=(dg a i+dg b i+c)%65536) (xs:=out) (ty':=191) (fz:=false) (T1 hh) Tr0 (by omega) rfl (by omega) (by omega)]
  simp+decide (disch:=first|exact D3 h5 h6 h7|fail) only[go_sem,↓reduceIte,h5,h6,h7]
  refine Qg (2*(max a.length b.length-(i+1))+(dg a i+dg b i+c)/65536) ?_ ⟨i+1,(dg a i+dg b i+c)/65536,out++[(dg a i+dg b i+c)%65536],rfl,hs1,by omega,?_,by simp[hol],?_,hstep,?_⟩
  ·by_cases hlt:i<max a.length b.length
   ·omega
   ·have z1:dg a i=0:=by rw[dg,Qbp (by omega)]
    have z2:dg b i=0:=by rw[dg,Qbp (by omega)]
    rw[z1,z2];omega
  ·by_cases hlt:i<max a.length b.length
   ·omega
   ·have z1:dg a i=0:=by rw[dg,Qbp (by omega)]
    have z2:dg b i=0:=by rw[dg,Qbp (by omega)]
    rw[z1,z2];omega
  ·rw[Qby];exact⟨hout,by intro z hz;simp at hz;omega⟩
  ·simp+decide (disch:=first|exact D0|fail) only[go_sem,↓reduceIte]
   simp
 ·obtain rfl:c=0:=by omega
  rw[List.drop_of_length_le (by omega),List.drop_of_length_le (by omega)]at hv
  simp only[val,Nat.add_zero,Nat.mul_zero]at hv
  simp+decide (disch:=first|exact D2 h5 hh|fail) only[go_sem,↓reduceIte,h5,hh]
  refine Qgl hP (Qbz hout (by omega)) (by simp+decide (disch:=first|exact E1 hh|fail) only[go_sem,↓reduceIte,hh,Q7,List.contains_cons,List.contains_nil,List.flatMap_cons,List.flatMap_nil,List.append_nil];simp[List.take_of_length_le]) rfl fun hp'=> ?_
  simp+decide (disch:=first|exact D0|fail) only[go_sem,↓reduceIte]
  exact Qc (by rw[hv]) rfl
end Go.Proofs.YtonfajmchebkeaaGreat
namespace Go.Proofs.YtonfajmchebkeaaGreat
open Go Go.FW
set_option linter.unusedSimpArgs false
set_option linter.unusedVariables false
set_option maxRecDepth 100000
theorem Qm7{a b:List Nat}(ha:Qk a)(hb:Qk b)(hla:a.length<2^40)(hlb:b.length<2^40):Qe Tryz.prog 200 [PV.nat a,PV.nat b] (· =if val a<val b then .tup [PV.num 0,.int .i64 2]else .tup [PV.num (val a-val b),.int .i64 0]):=by
 refine Qf Qj Tryz.func200 rfl Qaj6 (by simp[c200]) fun C hP=> ?_;simp only[c200,Zo,Zg,Zm,Zc,Zf,Zl,Zh,Zs,Zi,Zb,Zk,Zn,Zu,Zq,Zr,Zz]
 simp+decide (disch:=first|exact D0|fail) only[go_sem,↓reduceIte]
 refine Qa hP (Qjo ha hb (by omega) (by omega)) rfl rfl rfl ?_
 simp+decide (disch:=first|exact D0|fail) only[go_sem,↓reduceIte]
 refine Qb (fun hc=> ?_) (fun hc=> ?_)
 ·rw[if_pos (Qon.1 hc)]
  simp+decide (disch:=first|exact D0|fail) only[go_sem,↓reduceIte]
  exact Qbh rfl rfl rfl Qi3 (Qv _)
 have hge:¬val a<val b:=fun h=>hc (Qon.2 h)
 rw[if_neg hge]
 simp+decide (disch:=first|exact D0|fail) only[go_sem,↓reduceIte]
 refine Qf7 6 900 1 191 (by omega) T0 ?_
 refine Qx (by repeat (first|exact Qt|exact Qm|exact Qn|exact Qo|exact Qp|apply Ql|apply Qr|apply Qy|apply Q3|apply Q4|apply Qi|apply Qw)) [(6,9),(14,37)] [36,37,900] (fun m J hp=>∃(i c:Nat)(out:List Nat),m=a.length-i/\c<=1/\i<=a.length/\out.length=i/\Qk out/\val (a.take i)+65536^i*c=val out+val (b.take i)/\J 6= .ms 900 out.length/\J 7= .int .i64 c/\J 8= .int .i64 i/\hp 900=some ⟨1,191,Qa4 out,false⟩) a.length ?_ ?_
 ·refine⟨0,0,[],rfl,by omega,by omega,rfl,Qc3,by simp[val],?_⟩
  simp+decide (disch:=first|exact D0|fail) only[go_sem,↓reduceIte]
  simp
 rintro _ J h ⟨i,c,out,rfl,hc1,hi,hol,hout,hv,h6,h7,h8,hh⟩
 simp+decide (disch:=first|exact D3 h6 h7 h8|fail) only[go_sem,↓reduceIte,h6,h7,h8]
 refine Qb (fun hg=> ?_) (fun hg=> ?_)
 ·have hi':i<a.length:=by omega
  have e1:=Qnq a i
  have e2:=Qnq b i
  have d1:=Qov ha i
  have d2:=Qov hb i
  simp+decide (disch:=first|exact D3 h6 h7 h8|fail) only[go_sem,↓reduceIte,h6,h7,h8]
  refine Qa hP (Qbr ha (by omega)) rfl rfl rfl ?_
  simp+decide (disch:=first|exact D3 h6 h7 h8|fail) only[go_sem,↓reduceIte,h6,h7,h8]
  refine Qa hP (Qbr hb (by omega)) rfl rfl rfl ?_
  simp+decide (disch:=first|exact D3 h6 h7 h8|fail) only[go_sem,↓reduceIte,h6,h7,h8]
  have step:∀(d c':Nat),d<65536->c'<=1->dg a i+65536*c'=d+dg b i+c->val (a.take (i+1))+65536^(i+1)*c'=val (out++[d])+val (b.take (i+1)):=fun d c' _ _ h3=>by
   rw[Qox,hol,e1,e2,Nat.pow_succ]
   generalize 65536^i=P at *
   have:P*(dg a i+65536*c')=P*(d+dg b i+c):=by rw[h3]
   rw[Nat.mul_add,<-Nat.mul_assoc,Nat.mul_add,Nat.mul_add]at this
   omega
  refine Qb (fun hd=> ?_) (fun hd=> ?_)
  ·obtain⟨d,hd1⟩:∃d:Nat,(dg a i:Int)-(dg b i:Int)-(c:Int)+65536=d:=⟨((dg a i:Int)-(dg b i:Int)-(c:Int)+65536).toNat,by omega⟩
   have hst:=step d 1 (by omega) (by omega) (by omega)
   simp+decide (disch:=first|exact D4 h6 h7 h8 hd1|fail) only[go_sem,↓reduceIte,h6,h7,h8,hd1]
   rw[Qal (f:=fun(x:Nat)=> .int .u16 x) (y:=d) (xs:=out) (ty':=191) (fz:=false) (T1 hh) (by simp+decide (disch:=first|omega|rfl|(simp+decide only[go_sem,↓reduceIte,Nat.mod_eq_of_lt (by omega:d<65536)]<;>rfl)|fail) only[go_sem,↓reduceIte,Nat.mod_eq_of_lt (by omega:d<65536)]) (by omega) rfl (by omega) (by omega)]
   simp+decide (disch:=first|exact D3 h6 h7 h8|fail) only[go_sem,↓reduceIte,h6,h7,h8]
   refine Qg (a.length-(i+1)) (by omega) ⟨i+1,1,out++[d],rfl,by omega,by omega,by simp[hol],?_,hst,?_⟩
   ·rw[Qby];exact⟨hout,by intro z hz;simp at hz;omega⟩
   ·simp+decide (disch:=first|exact D0|fail) only[go_sem,↓reduceIte]
    simp
  ·obtain⟨d,hd1⟩:∃d:Nat,(dg a i:Int)-(dg b i:Int)-(c:Int)=d:=⟨((dg a i:Int)-(dg b i:Int)-(c:Int)).toNat,by omega⟩
   have hst:=step d 0 (by omega) (by omega) (by omega)
   simp+decide (disch:=first|exact D4 h6 h7 h8 hd1|fail) only[go_sem,↓reduceIte,h6,h7,h8,hd1]
   rw[Qal (f:=fun(x:Nat)=> .int .u16 x) (y:=d) (xs:=out) (ty':=191) (fz:=false) (T1 hh) (by simp+decide (disch:=first|omega|rfl|(simp+decide only[go_sem,↓reduceIte,Nat.mod_eq_of_lt (by omega:d<65536)]<;>rfl)|fail) only[go_sem,↓reduceIte,Nat.mod_eq_of_lt (by omega:d<65536)]) (by omega) rfl (by omega) (by omega)]
   simp+decide (disch:=first|exact D3 h6 h7 h8|fail) only[go_sem,↓reduceIte,h6,h7,h8]
   refine Qg (a.length-(i+1)) (by omega) ⟨i+1,0,out++[d],rfl,by omega,by omega,by simp[hol],?_,hst,?_⟩
   ·rw[Qby];exact⟨hout,by intro z hz;simp at hz;omega⟩
   ·simp+decide (disch:=first|exact D0|fail) only[go_sem,↓reduceIte]
    simp
 ·obtain rfl:i=a.length:=by omega
  have hbz:val (b.drop a.length)=0:=Qjk (by have:=Qf3 ha;omega)
  have hbs:=Qow b a.length
  rw[hbz,Nat.mul_zero,Nat.add_zero]at hbs
  rw[List.take_length,<-hbs]at hv
  have hvo:=Qf3 hout
  rw[hol]at hvo
  have hc0:c=0:=by
   match c,hc1 with
   |0,_=>rfl
   |1,_=>exfalso;have:=Qf3 ha;omega
  subst hc0
  simp+decide (disch:=first|exact D2 h6 hh|fail) only[go_sem,↓reduceIte,h6,hh]
  refine Qgl hP (Qbz hout (by omega)) (by simp+decide (disch:=first|exact E1 hh|fail) only[go_sem,↓reduceIte,hh,Q7,List.contains_cons,List.contains_nil,List.flatMap_cons,List.flatMap_nil,List.append_nil];simp[List.take_of_length_le]) rfl fun hp'=> ?_
  simp+decide (disch:=first|exact D0|fail) only[go_sem,↓reduceIte]
  exact Qbh rfl rfl rfl (Qgm (congrArg PV.num (by omega))) (Qv _)
theorem Qm8{a b:List Nat}(ha:Qk a)(hb:Qk b)(hla:a.length<2^40)(hlb:b.length<2^40):Qe Tryz.prog 147 [PV.nat a,PV.nat b] (· =PV.num (val a*val b)):=by
 refine Qf Qj Tryz.func147 rfl Qaj7 (by simp[c147]) fun C hP=> ?_;simp only[c147,Zo,Zg,Zm,Zc,Zf,Zl,Zh,Zs,Zi,Zb,Zk,Zn,Zu,Zq,Zr,Zz]
 simp+decide (disch:=first|exact D0|fail) only[go_sem,↓reduceIte]
 refine Qx (by repeat (first|exact Qt|exact Qm|exact Qn|exact Qo|exact Qp|apply Ql|apply Qr|apply Qy|apply Q3|apply Q4|apply Qi|apply Qw)) [(6,9),(17,62)] [] (fun m J hp=>∃(i:Nat)(L:List Nat),m=a.length-i/\i<=a.length/\L.length=a.length+b.length+1/\Qk L/\val L=val (a.take i)*val b/\J 6= .int .i64 i/\hp=Qz hp0 16 ⟨1,191,Qa4 L,false⟩) a.length ?_ ?_
 ·refine⟨0,List.replicate (a.length+b.length+1) 0,rfl,by omega,by simp,?_,by simp[val,Qxj],?_⟩
  ·intro z hz;rw[List.eq_of_mem_replicate hz];omega
  ·simp+decide (disch:=first|exact D0|fail) only[go_sem,↓reduceIte]
   simp
 rintro _ J _ ⟨i,L,rfl,hi,hLl,hL,hv,h6,rfl⟩
 simp+decide (disch:=first|exact D1 h6|fail) only[go_sem,↓reduceIte,h6]
 refine Qb (fun hg=> ?_) (fun hg=> ?_)
 ·have hi':i<a.length:=by omega
  have hai:=Qao ha hi'
  have hts:=Qf4 hi'
  have hz0:dg L (i+b.length)=0:=by
   apply Q5u
   apply Qjk
   rw[hv,Nat.pow_add]
   have h1:=Qea ha i (by omega)
   have h2:=Qf3 hb
   exact Nat.mul_lt_mul'' h1 h2
  generalize hxx:a[i]=ai at *
  simp+decide (disch:=first|exact D2 h6 hxx|fail) only[go_sem,↓reduceIte,h6,hxx]
  refine Qx (by repeat (first|exact Qt|exact Qm|exact Qn|exact Qo|exact Qp|apply Ql|apply Qr|apply Qy|apply Q3|apply Q4|apply Qi|apply Qw)) [(7,9),(23,62)] [] (fun m J hp=>∃(k c:Nat)(M:List Nat),m=b.length+1-k/\k<=b.length+1/\(k<=b.length∨c=0)/\c<65536/\M.length=L.length/\Qk M/\val M+65536^(i+k)*(c+ai*val (b.drop k))=val L+65536^i*(ai*val b)/\(∀j,i+k<=j->dg M j=dg L j)/\J 7= .int .u64 c/\J 8= .int .i64 k/\hp=Qz hp0 16 ⟨1,191,Qa4 M,false⟩) (b.length+1) ?_ ?_
  ·refine⟨0,0,L,rfl,by omega,by omega,by omega,rfl,hL,by simp,fun _ _=>rfl,?_⟩
   simp+decide (disch:=first|exact D1 h6|fail) only[go_sem,↓reduceIte,h6]
   simp
  rintro _ J2 _ ⟨k,c,M,rfl,hk,hk2,hc,hMl,hM,hw,hsame,h7,h8,rfl⟩
  have e2:=Qh1 b k
  have d2:=Qov hb k
  simp+decide (disch:=first|exact D3 h6 h7 h8|fail) only[go_sem,↓reduceIte,h6,h7,h8]
  refine Qaa (fun hkb=> ?_) (fun hkb=> ?_)
  ·have hkb':k<=b.length:=by omega
   have hj:i+k<M.length:=by omega
   have hx:=Qao hM hj
   have hset:=fun v=>Q35 (v:=v) hj
   have hmx:=Qft hai d2
   have hdx:dg M (i+k)=M[i+k]:=Qbo hj
   generalize hxm:M[i+k]=x at *
   have hdm:=Nat.div_add_mod (x+ai*dg b k+c) 65536
   have hnew:=Qxv (T:=val L+65536^i*(ai*val b)) (hset ((x+ai*dg b k+c)%65536)) (by rw[<-e2];exact hw) hdm
   have hr:=Nat.mod_lt (x+ai*dg b k+c) (show 0<65536 by omega)
   have hq:(x+ai*dg b k+c)/65536<65536:=by omega
   have hq0:¬k<b.length->(x+ai*dg b k+c)/65536=0:=fun h=>by
    have z1:dg b k=0:=by rw[dg,Qbp (by omega)]
    have z2:x=0:=by rw[<-hdx,hsame _ (Nat.le_refl _),show i+k=i+b.length by omega,hz0]
    rw[z1,z2];omega
   have hlims:Qk (M.set (i+k) ((x+ai*dg b k+c)%65536)):=fun z hz=>by
    rcases List.mem_or_eq_of_mem_set hz with h|h
    ·exact hM z h
    ·omega
   have e5:IntKind.u64.wrap ((ai*dg b k:Nat):Int)=((ai*dg b k:Nat):Int):=Qfy (by omega) (by omega)
   simp+decide (disch:=first|exact D5 h6 h7 h8 hxx hxm|fail) only[go_sem,↓reduceIte,h6,h7,h8,hxx,hxm]
   refine Qa hP (Qbr hb (by omega)) rfl rfl rfl ?_
   simp+decide (disch:=first|omega|rfl|(simp+decide only[go_sem,↓reduceIte,h6,h7,h8,hxx,hxm,e5,Nat.mod_mod]<;>rfl)|fail) only[go_sem,↓reduceIte,h6,h7,h8,hxx,hxm,e5,Nat.mod_mod]
   refine Qg (b.length+1-(k+1)) (by omega) ⟨k+1,(x+ai*dg b k+c)/65536,M.set (i+k) ((x+ai*dg b k+c)%65536),rfl,by omega,?_,hq,by rw[List.length_set];exact hMl,hlims,?_,?_,?_⟩
   ·by_cases h:k<b.length
    ·omega
    ·exact .inr (hq0 h)
   ·rw[<-Nat.add_assoc,Nat.pow_succ];exact hnew
   ·intro j hj2
    rw[Qxw (by omega)];exact hsame j (by omega)
   ·simp+decide (disch:=first|exact D3 h6 h7 h8|fail) only[go_sem,↓reduceIte,h6,h7,h8]
  simp+decide (disch:=first|exact D3 h6 h7 h8|fail) only[go_sem,↓reduceIte,h6,h7,h8]
  refine Qb (fun hc0=> ?_) (fun hc0=> ?_)
  ·have hkb':k<=b.length:=by omega
   have hj:i+k<M.length:=by omega
   have hx:=Qao hM hj
   have hset:=fun v=>Q35 (v:=v) hj
   have hmx:=Qft hai d2
   have hdx:dg M (i+k)=M[i+k]:=Qbo hj
   generalize hxm:M[i+k]=x at *
   have hdm:=Nat.div_add_mod (x+ai*dg b k+c) 65536
   have hnew:=Qxv (T:=val L+65536^i*(ai*val b)) (hset ((x+ai*dg b k+c)%65536)) (by rw[<-e2];exact hw) hdm
   have hr:=Nat.mod_lt (x+ai*dg b k+c) (show 0<65536 by omega)
   have hq:(x+ai*dg b k+c)/65536<65536:=by omega
   have hq0:¬k<b.length->(x+ai*dg b k+c)/65536=0:=fun h=>by
    have z1:dg b k=0:=by rw[dg,Qbp (by omega)]
    have z2:x=0:=by rw[<-hdx,hsame _ (Nat.le_refl _),show i+k=i+b.length by omega,hz0]
    rw[z1,z2];omega
   have hlims:Qk (M.set (i+k) ((x+ai*dg b k+c)%65536)):=fun z hz=>by
    rcases List.mem_or_eq_of_mem_set hz with h|h
    ·exact hM z h
    ·omega
   have e5:IntKind.u64.wrap ((ai*dg b k:Nat):Int)=((ai*dg b k:Nat):Int):=Qfy (by omega) (by omega)
   simp+decide (disch:=first|exact D5 h6 h7 h8 hxx hxm|fail) only[go_sem,↓reduceIte,h6,h7,h8,hxx,hxm]
   refine Qa hP (Qbr hb (by omega)) rfl rfl rfl ?_
   simp+decide (disch:=first|omega|rfl|(simp+decide only[go_sem,↓reduceIte,h6,h7,h8,hxx,hxm,e5,Nat.mod_mod]<;>rfl)|fail) only[go_sem,↓reduceIte,h6,h7,h8,hxx,hxm,e5,Nat.mod_mod]
   refine Qg (b.length+1-(k+1)) (by omega) ⟨k+1,(x+ai*dg b k+c)/65536,M.set (i+k) ((x+ai*dg b k+c)%65536),rfl,by omega,?_,hq,by rw[List.length_set];exact hMl,hlims,?_,?_,?_⟩
   ·by_cases h:k<b.length
    ·omega
    ·exact .inr (hq0 h)
   ·rw[<-Nat.add_assoc,Nat.pow_succ];exact hnew
   ·intro j hj2
    rw[Qxw (by omega)];exact hsame j (by omega)
   ·simp+decide (disch:=first|exact D3 h6 h7 h8|fail) only[go_sem,↓reduceIte,h6,h7,h8]
  ·obtain rfl:c=0:=by omega
   rw[List.drop_of_length_le (by omega)]at hw
   simp only[val,Nat.mul_zero,Nat.add_zero]at hw
   simp+decide (disch:=first|exact D3 h6 h7 h8|fail) only[go_sem,↓reduceIte,h6,h7,h8]
   simp (disch:=decide) only[Qbw,Qf8]
   refine Qg (a.length-(i+1)) (by omega) ⟨i+1,M,rfl,by omega,by omega,hM,?_,?_⟩
   ·rw[hw,hv,hts,Nat.add_mul,Nat.mul_assoc]
   ·simp+decide (disch:=first|exact D0|fail) only[go_sem,↓reduceIte]
 ·obtain rfl:i=a.length:=by omega
  rw[List.take_length]at hv
  simp+decide (disch:=first|exact D0|fail) only[go_sem,↓reduceIte]
  refine Qgl hP (Qbz hL (by omega)) (by simp+decide (disch:=first|exact E0|fail) only[go_sem,↓reduceIte,Q7,List.contains_cons,List.contains_nil,List.flatMap_cons,List.flatMap_nil,List.append_nil];simp[List.take_of_length_le,hLl]) rfl fun hp'=> ?_
  simp+decide (disch:=first|exact D0|fail) only[go_sem,↓reduceIte]
  exact Qc (by rw[hv]) rfl
end Go.Proofs.YtonfajmchebkeaaGreat
namespace Go.Proofs.YtonfajmchebkeaaGreat
open Go Go.FW
set_option linter.unusedSimpArgs false
set_option linter.unusedVariables false
set_option maxRecDepth 100000
theorem Qkv{x y:Nat}(hx:nl x<2^40)(hy:nl y<2^40):Qe Tryz.prog 147 [PV.num x,PV.num y] (· =PV.num (x*y)):=by
 have:=Qm8 (Qq x) (Qq y) hx hy
 rwa[Q9,Q9]at this
theorem Q6d{x y:Nat}(hx:nl x<2^42)(hy:nl y<2^42):Qe Tryz.prog 201 [PV.num x,PV.num y] (· = .int .i64 (Qd4 x y)):=by
 have:=Qjo (Qq x) (Qq y) hx hy
 rwa[Q9,Q9]at this
theorem Qvb{x y:Nat}(hx:nl x<2^40)(hy:nl y<2^40)(h:y<=x):Qe Tryz.prog 200 [PV.num x,PV.num y] (· = .tup [PV.num (x-y),.int .i64 0]):=by
 have:=Qm7 (Qq x) (Qq y) hx hy
 rwa[Q9,Q9,if_neg (by omega)]at this
theorem Q4c{x y:Nat}:Qd4 x y<=0↔x<=y:=by unfold Qd4;split<;>(try split)<;>omega
theorem Qps{x y:Nat}(hx:nl x<2^38)(hy:nl y<2^38)(hy0:0<y):Qe Tryz.prog 215 [PV.num x,PV.num y] (· = .int .u64 (min 65535 (x/y):Nat)):=by
 have hq2:∀(n d:Nat) fr hp K,n<18446744073709551616->Qaz .quo false (.int .u64 (n:Int)) (.int .u64 2) d fr hp K=K (upd fr d (.int .u64 ((n/2:Nat):Int))) hp:=fun n d fr hp K h=>by
  rw[show(2:Int)=((2:Nat):Int)from rfl,Qk3 (by omega) h]
 refine Qf Qj Tryz.func215 rfl Qaj8 (by simp[c215]) fun C hP=> ?_;simp only[c215,Zo,Zg,Zm,Zc,Zf,Zl,Zh,Zs,Zi,Zb,Zk,Zn,Zu,Zq,Zr,Zz]
 simp+decide (disch:=first|exact D0|fail) only[go_sem,↓reduceIte]
 refine Qx (by repeat (first|exact Qt|exact Qm|exact Qn|exact Qo|exact Qp|apply Ql|apply Qr|apply Qy|apply Q3|apply Q4|apply Qi|apply Qw)) [(5,25)] [] (fun m J hp=>∃lo hi:Nat,m=hi-lo/\lo<=hi/\hi<=65535/\y*lo<=x/\(hi=65535∨x<y*(hi+1))/\J 5= .int .u64 lo/\J 6= .int .u64 hi) 65535 ?_ ?_
 ·refine⟨0,65535,rfl,by omega,by omega,by omega,.inl rfl,?_⟩
  simp+decide (disch:=first|exact D0|fail) only[go_sem,↓reduceIte]
  simp
 rintro _ J h ⟨lo,hi,rfl,h1,h2,h3,h4,h5,h6⟩
 simp+decide (disch:=first|exact D2 h5 h6|fail) only[go_sem,↓reduceIte,h5,h6]
 refine Qb (fun hg=> ?_) (fun hg=> ?_)
 ·have hsz:nl ((lo+hi+1)/2)<=4:=Qfz (by omega)
  have hm:=Qb6 y ((lo+hi+1)/2)
  generalize hmid:(lo+hi+1)/2=mid at *
  simp+decide (disch:=first|exact D4 h5 h6 hq2 hmid|fail) only[go_sem,↓reduceIte,h5,h6,hq2,hmid]
  refine Qa hP (Qdc (n:=mid) (by omega)) rfl rfl rfl ?_
  simp+decide (disch:=first|exact D2 h5 h6|fail) only[go_sem,↓reduceIte,h5,h6]
  refine Qa hP (Qkv (x:=y) (y:=mid) (by omega) (by omega)) rfl rfl rfl ?_
  simp+decide (disch:=first|exact D2 h5 h6|fail) only[go_sem,↓reduceIte,h5,h6]
  refine Qa hP (Q6d (x:=y*mid) (y:=x) (by omega) (by omega)) rfl rfl rfl ?_
  simp+decide (disch:=first|exact D2 h5 h6|fail) only[go_sem,↓reduceIte,h5,h6]
  refine Qb (fun hc=> ?_) (fun hc=> ?_)
  ·rw[Q4c]at hc
   simp+decide (disch:=first|exact D2 h5 h6|fail) only[go_sem,↓reduceIte,h5,h6]
   refine Qg (hi-mid) (by omega) ⟨mid,hi,rfl,by omega,h2,hc,h4,?_⟩
   simp+decide (disch:=first|exact D1 h6|fail) only[go_sem,↓reduceIte,h6]
  ·rw[Q4c]at hc
   obtain⟨n,rfl⟩:∃n,mid=n+1:=⟨mid-1,by omega⟩
   have e:((n+1:Nat):Int)-1=n:=by omega
   simp+decide (disch:=first|exact D3 h5 h6 e|fail) only[go_sem,↓reduceIte,h5,h6,e]
   refine Qg (n-lo) (by omega) ⟨lo,n,rfl,by omega,by omega,h3,.inr (by omega),?_⟩
   simp+decide (disch:=first|exact D1 h5|fail) only[go_sem,↓reduceIte,h5]
 ·obtain rfl:lo=hi:=by omega
  simp+decide (disch:=first|exact D1 h5|fail) only[go_sem,↓reduceIte,h5]
  refine Qc ?_ rfl
  have hle:lo<=x/y:=(Nat.le_div_iff_mul_le hy0).2 (by rw[Nat.mul_comm];exact h3)
  rcases h4 with rfl|h4
  ·rw[Nat.min_eq_left hle]
  ·have:x/y<lo+1:=(Nat.div_lt_iff_lt_mul hy0).2 (by rw[Nat.mul_comm];exact h4)
   congr 2;omega
theorem Qnu{a b:List Nat}(ha:Qk a)(hb:Qk b)(hla:a.length<2^36)(hlb:b.length<2^36):Qe Tryz.prog 158 [PV.nat a,PV.nat b]
  (· =if val b=0 then .tup [PV.num 0,PV.num 0,.int .i64 3]else .tup [PV.num (val a/val b),PV.num (val a%val b),.int .i64 0]):=by
 have hda:=Qar ha
 have hdb:=Qar hb
 refine Qf Qj Tryz.func158 rfl Qaj9 (by simp[c158]) fun C hP=> ?_;simp only[c158,Zo,Zg,Zm,Zc,Zf,Zl,Zh,Zs,Zi,Zb,Zk,Zn,Zu,Zq,Zr,Zz]
 simp+decide (disch:=first|exact D0|fail) only[go_sem,↓reduceIte]
 refine Qa hP (Qbz ha (by omega)) rfl rfl rfl ?_
 simp+decide (disch:=first|exact D0|fail) only[go_sem,↓reduceIte]
 refine Qa hP (Qbz hb (by omega)) rfl rfl rfl ?_
 simp+decide (disch:=first|exact D0|fail) only[go_sem,↓reduceIte]
 generalize val a=x at *
 generalize val b=y at *
 unfold nl at hda hdb
 refine Qb (fun hz=> ?_) (fun hz=> ?_)
 ·have hy0:y=0:=Qb4.1 (Qc9 (by omega))
  simp+decide (disch:=first|exact D0|fail) only[go_sem,↓reduceIte]
  rw[if_pos hy0]
  exact Qqb rfl rfl rfl rfl Qi3 Qi3 (Qv _)
 have hy0:y≠0:=fun h=>by rw[h,Qa5]at hz;simp at hz
 rw[if_neg hy0]
 have hyp:0<y:=Nat.pos_of_ne_zero hy0
 have hxl:=Qq x
 have hyl:=Qq y
 have hxv:=Q9 x
 have hyv:=Q9 y
 simp+decide (disch:=first|exact D0|fail) only[go_sem,↓reduceIte]
 refine Q8 (fun h1=> ?_) (fun h1=> ?_)
 ·simp+decide (disch:=first|exact D0|fail) only[go_sem,↓reduceIte]
  refine Qb (fun h2=> ?_) (fun h2=> ?_)
  ·have hx64:=Qmd.1 (show nl x<=4 by unfold nl;omega)
   have hy64:=Qmd.1 (show nl y<=4 by unfold nl;omega)
   have hq:=Nat.div_le_self x y
   have hr:=Nat.mod_lt x hyp
   simp+decide (disch:=first|exact D0|fail) only[go_sem,↓reduceIte]
   refine Qa hP (Qhe hxl (by omega)) rfl rfl rfl ?_
   simp+decide (disch:=first|exact D1 hxv|fail) only[go_sem,↓reduceIte,hxv]
   refine Qa hP (Qhe hyl (by omega)) rfl rfl rfl ?_
   simp+decide (disch:=first|omega|rfl|(simp+decide only[go_sem,↓reduceIte,hxv,hyv,Qk3]<;>rfl)|fail) only[go_sem,↓reduceIte,hxv,hyv,Qk3]
   refine Qa hP (Qdc (n:=x/y) (by omega)) rfl rfl rfl ?_
   simp+decide (disch:=first|exact D0|fail) only[go_sem,↓reduceIte]
   refine Qa hP (Qhe hxl (by omega)) rfl rfl rfl ?_
   simp+decide (disch:=first|exact D1 hxv|fail) only[go_sem,↓reduceIte,hxv]
   refine Qa hP (Qhe hyl (by omega)) rfl rfl rfl ?_
   simp+decide (disch:=first|omega|rfl|(simp+decide only[go_sem,↓reduceIte,hxv,hyv,Qdp]<;>rfl)|fail) only[go_sem,↓reduceIte,hxv,hyv,Qdp]
   refine Qa hP (Qdc (n:=x%y) (by omega)) rfl rfl rfl ?_
   simp+decide (disch:=first|exact D0|fail) only[go_sem,↓reduceIte]
   exact Qqb rfl rfl rfl rfl (Qv _) (Qv _) (Qv _)
  ·have hsep:=trivial
   simp+decide (disch:=first|exact D0|fail) only[go_sem,↓reduceIte]
   refine Qh2 7 1 T0 ?_
   refine Qh2 8 1 T0 ?_
   refine Q0v (by repeat (first|exact Qt|exact Qm|exact Qn|exact Qo|exact Qp|apply Ql|apply Qr|apply Qy|apply Q3|apply Q4|apply Qi|apply Qw)) [(7,10),(41,69)] [49,51,58,60] (fun k J hp=>∃qs,k<=(dig x).length/\qs.length=(dig x).length-k/\Qk qs/\val qs=val ((dig x).drop k)/y/\J 7= .sl 1 (Qa4 qs)/\J 8=PV.num (val ((dig x).drop k)%y)/\J 9= .int .i64 ((k:Int)-1)) (dig x).length ?_ ?_
   ·refine⟨[],Nat.le_refl _,by simp,Qc3,by simp[val],?_⟩
    simp+decide (disch:=first|exact D0|fail) only[go_sem,↓reduceIte]
    simp[val,Qa5]
   rintro k J h ⟨qs,hk,hql,hqs,hqv,h7,h8,h9⟩
   simp+decide (disch:=first|exact D3 h7 h8 h9|fail) only[go_sem,↓reduceIte,h7,h8,h9]
   have hr:=Nat.mod_lt (val ((dig x).drop k)) hyp
   refine Qb (fun hg=> ?_) (fun hg=> ?_)
   ·obtain _|n:=k
    ·omega
    have hn:n<(dig x).length:=by omega
    have han:=Qao hxl hn
    have e:((n+1:Nat):Int)-1=n:=by omega
    have hst:=Quw (x:=(dig x)[n]) hyp hqv
    rw[<-Qc2 hn]at hst
    generalize hV:val ((dig x).drop (n+1))%y=r at *
    generalize hxx:(dig x)[n]=xi at *
    have hrl:(dig r).length<=(dig y).length:=Qbn (Nat.le_of_lt hr)
    have hlim:Qk ([xi]++dig r):=by rw[Qby];exact⟨by intro z hz;simp at hz;omega,Qq r⟩
    have hvl:val ([xi]++dig r)=r*65536+xi:=by rw[Qcg,Q9];simp[val];omega
    have hlt:(r*65536+xi)/y<65536:=by
     rw[Nat.div_lt_iff_lt_mul hyp]
     have:(r+1)*65536<=y*65536:=Nat.mul_le_mul_right _ hr
     omega
    have hnR:nl (r*65536+xi)<=(dig y).length+1:=by
     have:=Qar hlim
     rw[hvl,List.length_append]at this
     simp at this;omega
    have hdm:=Nat.div_add_mod (r*65536+xi) y
    have hnm:nl (y*((r*65536+xi)/y))<=(dig y).length+1:=Nat.le_trans (Qbn (by omega)) hnR
    have hn4:nl ((r*65536+xi)/y)<=4:=Qfz (by omega)
    have hsub:r*65536+xi-y*((r*65536+xi)/y)=(r*65536+xi)%y:=by omega
    simp+decide (disch:=first|exact D5 h7 h8 h9 e hxx|fail) only[go_sem,↓reduceIte,h7,h8,h9,e,hxx]
    rw[Qdf (f:=fun(x:Nat)=> .int .u16 x) (xs:=[xi]) (ys:=dig r) (n:=1) Tr0 rfl (by omega) (by omega) (by omega)]
    simp+decide (disch:=first|exact D5 h7 h8 h9 e hxx|fail) only[go_sem,↓reduceIte,h7,h8,h9,e,hxx]
    refine Qb3 hP (Qbz (l:=[xi]++dig r) hlim (by simp;omega)) (by simp+decide (disch:=first|exact E0|fail) only[go_sem,↓reduceIte,Q7,List.contains_cons,List.contains_nil,List.flatMap_cons,List.flatMap_nil,List.append_nil];simp[Nat.add_comm 1,List.take_of_length_le]) rfl ?_
    rw[hvl]
    simp+decide (disch:=first|exact D5 h7 h8 h9 e hxx|fail) only[go_sem,↓reduceIte,h7,h8,h9,e,hxx]
    refine Qa hP (Qps (x:=r*65536+xi) (y:=y) (by omega) (by unfold nl;omega) hyp) rfl rfl rfl ?_
    rw[Nat.min_eq_right (by omega:(r*65536+xi)/y<=65535)]
    generalize hD:(r*65536+xi)/y=D at *
    simp+decide (disch:=first|omega|rfl|(simp+decide only[go_sem,↓reduceIte,h7,h8,h9,e,hxx,Nat.mod_eq_of_lt hlt]<;>rfl)|fail) only[go_sem,↓reduceIte,h7,h8,h9,e,hxx,Nat.mod_eq_of_lt hlt]
    rw[Qdf (f:=fun(x:Nat)=> .int .u16 x) (xs:=[D]) (ys:=qs) (n:=1) Tr0 rfl (by omega) (by omega) (by omega)]
    simp+decide (disch:=first|exact D5 h7 h8 h9 e hxx|fail) only[go_sem,↓reduceIte,h7,h8,h9,e,hxx]
    refine Qa hP (Qdc (n:=D) (by omega)) rfl rfl rfl ?_
    simp+decide (disch:=first|exact D4 h7 h8 h9 e|fail) only[go_sem,↓reduceIte,h7,h8,h9,e]
    refine Qa hP (Qkv (x:=y) (y:=D) (by unfold nl;omega) (by omega)) rfl rfl rfl ?_
    simp+decide (disch:=first|exact D4 h7 h8 h9 e|fail) only[go_sem,↓reduceIte,h7,h8,h9,e]
    refine Qa hP (Qvb (x:=r*65536+xi) (y:=y*D) (by omega) (by omega) (by omega)) rfl rfl rfl ?_
    rw[hsub]
    simp+decide (disch:=first|exact D4 h7 h8 h9 e|fail) only[go_sem,↓reduceIte,h7,h8,h9,e]
    refine Quv 7 n rfl ?_ (by omega) ⟨D::qs,by omega,by simp;omega,?_,?_,?_⟩
    ·simp+decide (disch:=first|exact E0|fail) only[go_sem,↓reduceIte,Q7,List.contains_cons,List.contains_nil,List.flatMap_cons,List.flatMap_nil,List.append_nil]
    ·rw[Qa1];exact⟨hlt,hqs⟩
    ·rw[val,hst.1]
    ·simp+decide (disch:=first|exact E1 hst.2|fail) only[go_sem,↓reduceIte,Q7,List.contains_cons,List.contains_nil,List.flatMap_cons,List.flatMap_nil,List.append_nil,hst.2]
     simp[Nat.add_comm 1,List.take_of_length_le]
   ·obtain rfl:k=0:=by omega
    rw[List.drop_zero,hxv]at hqv h8
    simp+decide (disch:=first|exact D2 h7 h8|fail) only[go_sem,↓reduceIte,h7,h8]
    refine Qa hP (Qbz hqs (by omega)) rfl rfl rfl ?_
    simp+decide (disch:=first|exact D2 h7 h8|fail) only[go_sem,↓reduceIte,h7,h8]
    exact Qqb rfl rfl rfl rfl (Qgm (by rw[hqv])) (Qv _) (Qv _)
 ·have hsep:=trivial
  simp+decide (disch:=first|exact D0|fail) only[go_sem,↓reduceIte]
  refine Qh2 7 1 T0 ?_
  refine Qh2 8 1 T0 ?_
  refine Q0v (by repeat (first|exact Qt|exact Qm|exact Qn|exact Qo|exact Qp|apply Ql|apply Qr|apply Qy|apply Q3|apply Q4|apply Qi|apply Qw)) [(7,10),(41,69)] [49,51,58,60] (fun k J hp=>∃qs,k<=(dig x).length/\qs.length=(dig x).length-k/\Qk qs/\val qs=val ((dig x).drop k)/y/\J 7= .sl 1 (Qa4 qs)/\J 8=PV.num (val ((dig x).drop k)%y)/\J 9= .int .i64 ((k:Int)-1)) (dig x).length ?_ ?_
  ·refine⟨[],Nat.le_refl _,by simp,Qc3,by simp[val],?_⟩
   simp+decide (disch:=first|exact D0|fail) only[go_sem,↓reduceIte]
   simp[val,Qa5]
  rintro k J h ⟨qs,hk,hql,hqs,hqv,h7,h8,h9⟩
  simp+decide (disch:=first|exact D3 h7 h8 h9|fail) only[go_sem,↓reduceIte,h7,h8,h9]
  have hr:=Nat.mod_lt (val ((dig x).drop k)) hyp
  refine Qb (fun hg=> ?_) (fun hg=> ?_)
  ·obtain _|n:=k
   ·omega
   have hn:n<(dig x).length:=by omega
   have han:=Qao hxl hn
   have e:((n+1:Nat):Int)-1=n:=by omega
   have hst:=Quw (x:=(dig x)[n]) hyp hqv
   rw[<-Qc2 hn]at hst
   generalize hV:val ((dig x).drop (n+1))%y=r at *
   generalize hxx:(dig x)[n]=xi at *
   have hrl:(dig r).length<=(dig y).length:=Qbn (Nat.le_of_lt hr)
   have hlim:Qk ([xi]++dig r):=by rw[Qby];exact⟨by intro z hz;simp at hz;omega,Qq r⟩
   have hvl:val ([xi]++dig r)=r*65536+xi:=by rw[Qcg,Q9];simp[val];omega
   have hlt:(r*65536+xi)/y<65536:=by
    rw[Nat.div_lt_iff_lt_mul hyp]
    have:(r+1)*65536<=y*65536:=Nat.mul_le_mul_right _ hr
    omega
   have hnR:nl (r*65536+xi)<=(dig y).length+1:=by
    have:=Qar hlim
    rw[hvl,List.length_append]at this
    simp at this;omega
   have hdm:=Nat.div_add_mod (r*65536+xi) y
   have hnm:nl (y*((r*65536+xi)/y))<=(dig y).length+1:=Nat.le_trans (Qbn (by omega)) hnR
   have hn4:nl ((r*65536+xi)/y)<=4:=Qfz (by omega)
   have hsub:r*65536+xi-y*((r*65536+xi)/y)=(r*65536+xi)%y:=by omega
   simp+decide (disch:=first|exact D5 h7 h8 h9 e hxx|fail) only[go_sem,↓reduceIte,h7,h8,h9,e,hxx]
   rw[Qdf (f:=fun(x:Nat)=> .int .u16 x) (xs:=[xi]) (ys:=dig r) (n:=1) Tr0 rfl (by omega) (by omega) (by omega)]
   simp+decide (disch:=first|exact D5 h7 h8 h9 e hxx|fail) only[go_sem,↓reduceIte,h7,h8,h9,e,hxx]
   refine Qb3 hP (Qbz (l:=[xi]++dig r) hlim (by simp;omega)) (by simp+decide (disch:=first|exact E0|fail) only[go_sem,↓reduceIte,Q7,List.contains_cons,List.contains_nil,List.flatMap_cons,List.flatMap_nil,List.append_nil];simp[Nat.add_comm 1,List.take_of_length_le]) rfl ?_
   rw[hvl]
   simp+decide (disch:=first|exact D5 h7 h8 h9 e hxx|fail) only[go_sem,↓reduceIte,h7,h8,h9,e,hxx]
   refine Qa hP (Qps (x:=r*65536+xi) (y:=y) (by omega) (by unfold nl;omega) hyp) rfl rfl rfl ?_
   rw[Nat.min_eq_right (by omega:(r*65536+xi)/y<=65535)]
   generalize hD:(r*65536+xi)/y=D at *
   simp+decide (disch:=first|omega|rfl|(simp+decide only[go_sem,↓reduceIte,h7,h8,h9,e,hxx,Nat.mod_eq_of_lt hlt]<;>rfl)|fail) only[go_sem,↓reduceIte,h7,h8,h9,e,hxx,Nat.mod_eq_of_lt hlt]
   rw[Qdf (f:=fun(x:Nat)=> .int .u16 x) (xs:=[D]) (ys:=qs) (n:=1) Tr0 rfl (by omega) (by omega) (by omega)]
   simp+decide (disch:=first|exact D5 h7 h8 h9 e hxx|fail) only[go_sem,↓reduceIte,h7,h8,h9,e,hxx]
   refine Qa hP (Qdc (n:=D) (by omega)) rfl rfl rfl ?_
   simp+decide (disch:=first|exact D4 h7 h8 h9 e|fail) only[go_sem,↓reduceIte,h7,h8,h9,e]
   refine Qa hP (Qkv (x:=y) (y:=D) (by unfold nl;omega) (by omega)) rfl rfl rfl ?_
   simp+decide (disch:=first|exact D4 h7 h8 h9 e|fail) only[go_sem,↓reduceIte,h7,h8,h9,e]
   refine Qa hP (Qvb (x:=r*65536+xi) (y:=y*D) (by omega) (by omega) (by omega)) rfl rfl rfl ?_
   rw[hsub]
   simp+decide (disch:=first|exact D4 h7 h8 h9 e|fail) only[go_sem,↓reduceIte,h7,h8,h9,e]
   refine Quv 7 n rfl ?_ (by omega) ⟨D::qs,by omega,by simp;omega,?_,?_,?_⟩
   ·simp+decide (disch:=first|exact E0|fail) only[go_sem,↓reduceIte,Q7,List.contains_cons,List.contains_nil,List.flatMap_cons,List.flatMap_nil,List.append_nil]
   ·rw[Qa1];exact⟨hlt,hqs⟩
   ·rw[val,hst.1]
   ·simp+decide (disch:=first|exact E1 hst.2|fail) only[go_sem,↓reduceIte,Q7,List.contains_cons,List.contains_nil,List.flatMap_cons,List.flatMap_nil,List.append_nil,hst.2]
    simp[Nat.add_comm 1,List.take_of_length_le]
  ·obtain rfl:k=0:=by omega
   rw[List.drop_zero,hxv]at hqv h8
   simp+decide (disch:=first|exact D2 h7 h8|fail) only[go_sem,↓reduceIte,h7,h8]
   refine Qa hP (Qbz hqs (by omega)) rfl rfl rfl ?_
   simp+decide (disch:=first|exact D2 h7 h8|fail) only[go_sem,↓reduceIte,h7,h8]
   exact Qqb rfl rfl rfl rfl (Qgm (by rw[hqv])) (Qv _) (Qv _)
end Go.Proofs.YtonfajmchebkeaaGreat
namespace Go.Proofs.YtonfajmchebkeaaGreat
open Go Go.FW
set_option linter.unusedSimpArgs false
set_option linter.unusedVariables false
set_option maxRecDepth 100000
theorem Qyy{x y:Nat}(hx:nl x<2^36)(hy:nl y<2^36)(h0:y≠0):Qe Tryz.prog 158 [PV.num x,PV.num y] (· = .tup [PV.num (x/y),PV.num (x%y),.int .i64 0]):=by
 have:=Qnu (Qq x) (Qq y) hx hy
 rwa[Q9,Q9,if_neg h0]at this
theorem Qsp{a b:List Nat}(ha:Qk a)(hb:Qk b)(hla:a.length<2^36)(hlb:b.length<2^36):Qe Tryz.prog 103 [PV.nat a,PV.nat b] (· =PV.num (Nat.gcd (val a) (val b))):=by
 have hda:=Qar ha
 have hdb:=Qar hb
 refine Qf Qj Tryz.func103 rfl Qaka (by simp[c103]) fun C hP=> ?_;simp only[c103,Zo,Zg,Zm,Zc,Zf,Zl,Zh,Zs,Zi,Zb,Zk,Zn,Zu,Zq,Zr,Zz]
 simp+decide (disch:=first|exact D0|fail) only[go_sem,↓reduceIte]
 refine Qa hP (Qbz ha (by omega)) rfl rfl rfl ?_
 simp+decide (disch:=first|exact D0|fail) only[go_sem,↓reduceIte]
 refine Qa hP (Qbz hb (by omega)) rfl rfl rfl ?_
 simp+decide (disch:=first|exact D0|fail) only[go_sem,↓reduceIte]
 refine Qx (by repeat (first|exact Qt|exact Qm|exact Qn|exact Qo|exact Qp|apply Ql|apply Qr|apply Qy|apply Q3|apply Q4|apply Qi|apply Qw)) [(0,1),(5,7),(12,23)] [] (fun m J hp=>∃x y,m=y/\Nat.gcd x y=Nat.gcd (val a) (val b)/\nl x<2^36/\nl y<2^36/\J 0=PV.num x/\J 1=PV.num y/\hp=hp0) (val b) ?_ ?_
 ·refine⟨val a,val b,rfl,rfl,by omega,by omega,?_⟩
  simp+decide (disch:=first|exact D0|fail) only[go_sem,↓reduceIte]
 rintro y J _ ⟨x,_,rfl,hg,hx,hy,h0,h1,rfl⟩
 generalize Nat.gcd (val a) (val b)=g at *
 simp+decide (disch:=first|exact D2 h0 h1|fail) only[go_sem,↓reduceIte,h0,h1]
 refine Qb (fun hc=> ?_) (fun hc=> ?_)
 ·have hy0:y≠0:=fun h=>by rw[h,Qa5]at hc;simp at hc
  have hmod:=Qbn (Nat.le_of_lt (Nat.mod_lt x (Nat.pos_of_ne_zero hy0)))
  simp+decide (disch:=first|exact D2 h0 h1|fail) only[go_sem,↓reduceIte,h0,h1]
  refine Qa hP (Qyy (x:=x) (y:=y) hx hy hy0) rfl rfl rfl ?_
  simp+decide (disch:=first|exact D2 h0 h1|fail) only[go_sem,↓reduceIte,h0,h1]
  refine Qg (x%y) (Nat.mod_lt _ (Nat.pos_of_ne_zero hy0)) ⟨y,x%y,rfl,?_,hy,by omega,?_⟩
  ·rw[<-hg,Nat.gcd_comm x y,Nat.gcd_rec y x,Nat.gcd_comm]
  ·simp+decide (disch:=first|exact D0|fail) only[go_sem,↓reduceIte]
 ·have hy0:y=0:=Qb4.1 (Qc9 (by omega))
  subst hy0
  simp+decide (disch:=first|exact D1 h0|fail) only[go_sem,↓reduceIte,h0]
  exact Qc (by rw[<-hg,Nat.gcd_zero_right]) rfl
end Go.Proofs.YtonfajmchebkeaaGreat
namespace Go.Proofs.YtonfajmchebkeaaGreat
open Go Go.FW
set_option linter.unusedSimpArgs false
set_option linter.unusedVariables false
set_option maxRecDepth 100000
theorem Qe8{n:Bool}{a:List Nat}(ha:Qk a)(hla:a.length<2^42):Qe Tryz.prog 160 [.bool n,PV.nat a] (· =PV.zz (zv n a)):=by
 refine Qf Qj Tryz.func160 rfl Qake (by simp[c160]) fun C hP=> ?_;simp only[c160,Zo,Zg,Zm,Zc,Zf,Zl,Zh,Zs,Zi,Zb,Zk,Zn,Zu,Zq,Zr,Zz]
 simp+decide (disch:=first|exact D0|fail) only[go_sem,↓reduceIte]
 refine Qa hP (Qbz ha hla) rfl rfl rfl ?_
 simp+decide (disch:=first|exact D0|fail) only[go_sem,↓reduceIte]
 refine Qg0 (fun hn=> ?_) (fun hn=> ?_)
 all_goals
  simp+decide (disch:=first|exact D0|fail) only[go_sem,↓reduceIte]
  refine Qa2 ?_
  simp+decide (disch:=first|exact D0|fail) only[go_sem,↓reduceIte]
  exact Qc (by have:=Qwh n (val a);rw[hn]at this;subst hn;simpa[zv]using this) rfl
theorem Qis{n:Bool}{a:List Nat}(ha:Qk a)(hla:a.length<2^42):Qe Tryz.prog 159 [PV.zi n a] (· =PV.zz (zv n a)):=by
 refine Qf Qj Tryz.func159 rfl Qakf (by simp[c159]) fun C hP=> ?_;simp only[c159,Zo,Zg,Zm,Zc,Zf,Zl,Zh,Zs,Zi,Zb,Zk,Zn,Zu,Zq,Zr,Zz]
 simp+decide (disch:=first|exact D0|fail) only[go_sem,↓reduceIte]
 refine Qa hP (Qe8 ha hla) rfl rfl rfl ?_
 simp+decide (disch:=first|exact D0|fail) only[go_sem,↓reduceIte]
 refine Qa2 ?_
 simp+decide (disch:=first|exact D0|fail) only[go_sem,↓reduceIte]
 exact Qc rfl rfl
theorem Qsq{n m:Bool}{a b:List Nat}(ha:Qk a)(hb:Qk b)(hla:a.length<2^40)(hlb:b.length<2^40):Qe Tryz.prog 146 [PV.zi n a,PV.zi m b] (· =PV.zz (zv n a*zv m b)):=by
 have hr:nl (val a*val b)<2^42:=by have:=Qb6 (val a) (val b);have:=Qar ha;have:=Qar hb;omega
 refine Qf Qj Tryz.func146 rfl Qakk (by simp[c146]) fun C hP=> ?_;simp only[c146,Zo,Zg,Zm,Zc,Zf,Zl,Zh,Zs,Zi,Zb,Zk,Zn,Zu,Zq,Zr,Zz]
 simp+decide (disch:=first|exact D0|fail) only[go_sem,↓reduceIte]
 refine Qa hP (Qm8 ha hb hla hlb) rfl rfl rfl ?_
 simp+decide (disch:=first|exact D0|fail) only[go_sem,↓reduceIte]
 refine Qa hP (Qe8 (n:= !(n==m)) (Qq (val a*val b)) hr) rfl rfl rfl ?_
 simp+decide (disch:=first|exact D0|fail) only[go_sem,↓reduceIte]
 refine Qa2 ?_
 simp+decide (disch:=first|exact D0|fail) only[go_sem,↓reduceIte]
 exact Qc (congrArg PV.zz (by rw[Qim];unfold zv;cases n<;>cases m<;>simp[Int.neg_mul,Int.mul_neg])) rfl
theorem Q6e{x:Int}(h1: -9223372036854775808<=x)(h2:x<=9223372036854775807):Qe Tryz.prog 83 [.int .i64 x] (· =PV.zz x):=by
 refine Qf Qj Tryz.func83 rfl Qan4 (by simp[c83]) fun C hP=> ?_;simp only[c83,Zo,Zg,Zm,Zc,Zf,Zl,Zh,Zs,Zi,Zb,Zk,Zn,Zu,Zq,Zr,Zz]
 simp+decide (disch:=first|exact D0|fail) only[go_sem,↓reduceIte]
 refine Qb (fun hc=> ?_) (fun hc=> ?_)
 ·obtain⟨y,hy⟩:∃y:Nat,x= -((y:Int)+1):=⟨(-(x+1)).toNat,by omega⟩
  have e1:IntKind.i64.wrap (x+1)= -(y:Int):=by rw[Qgk (by omega) (by omega)];omega
  have e2:IntKind.i64.wrap (0- -(y:Int))=(y:Int):=by rw[Qgk (by omega) (by omega)];omega
  have e3:IntKind.u64.wrap (y:Int)=(y:Int):=Qfy (by omega) (by omega)
  have hl1:nl y<=4:=Qfz (by omega)
  have hl2:nl (y+1)<=4:=Qfz (by omega)
  simp+decide (disch:=first|exact D3 e1 e2 e3|fail) only[go_sem,↓reduceIte,e1,e2,e3]
  refine Qa hP (Qdc (n:=y) (by omega)) rfl rfl rfl ?_
  simp+decide (disch:=first|exact D0|fail) only[go_sem,↓reduceIte]
  refine Qa hP (Qdc (n:=1) (by omega)) rfl rfl rfl ?_
  simp+decide (disch:=first|exact D0|fail) only[go_sem,↓reduceIte]
  refine Qa hP (Qso (Qq y) (Qq 1) (show nl y<_ by omega) (show nl 1<_ by rw[Qe4];omega)) rfl rfl rfl ?_
  simp+decide (disch:=first|exact D0|fail) only[go_sem,↓reduceIte]
  refine Qa hP (Qe8 (n:=true) (Qq (val (dig y)+val (dig 1))) (show nl _<_ by rw[Q9,Q9];omega)) rfl rfl rfl ?_
  simp+decide (disch:=first|exact D0|fail) only[go_sem,↓reduceIte]
  refine Qa2 ?_
  simp+decide (disch:=first|exact D0|fail) only[go_sem,↓reduceIte]
  exact Qc (congrArg PV.zz (by rw[Qim,Q9,Q9];simp;omega)) rfl
 ·obtain⟨y,rfl⟩:∃y:Nat,x=y:=⟨x.toNat,by omega⟩
  have hl1:nl y<=4:=Qfz (by omega)
  simp+decide (disch:=first|exact D0|fail) only[go_sem,↓reduceIte]
  refine Qa hP (Qdc (by omega)) rfl rfl rfl ?_
  simp+decide (disch:=first|exact D0|fail) only[go_sem,↓reduceIte]
  refine Qa hP (Qe8 (n:=false) (Qq y) (show nl _<_ by omega)) rfl rfl rfl ?_
  simp+decide (disch:=first|exact D0|fail) only[go_sem,↓reduceIte]
  refine Qa2 ?_
  simp+decide (disch:=first|exact D0|fail) only[go_sem,↓reduceIte]
  exact Qc (congrArg PV.zz (by rw[Qim];simp)) rfl
theorem Q1k{n:Bool}{a:List Nat}(ha:Qk a)(hla:a.length<2^42):Qe Tryz.prog 162 [PV.zi n a] (· = .int .i64 (sgn (zv n a))):=by
 refine Qf Qj Tryz.func162 rfl Qakg (by simp[c162]) fun C hP=> ?_;simp only[c162,Zo,Zg,Zm,Zc,Zf,Zl,Zh,Zs,Zi,Zb,Zk,Zn,Zu,Zq,Zr,Zz]
 simp+decide (disch:=first|exact D0|fail) only[go_sem,↓reduceIte]
 refine Qa hP (Qis ha hla) rfl rfl rfl ?_
 generalize zv n a=z
 simp+decide (disch:=first|exact D0|fail) only[go_sem,↓reduceIte]
 refine Qb (fun hz=> ?_) (fun hz=> ?_)
 ·have:z=0:=by have:=Qb4.1 (Qc9 (n:=z.natAbs) (by omega));omega
  subst this
  simp+decide (disch:=first|exact D0|fail) only[go_sem,↓reduceIte]
  exact Qc rfl rfl
 ·have h0:z≠0:=fun h=>by subst h;exact hz (by simp[Qa5])
  simp+decide (disch:=first|exact D0|fail) only[go_sem,↓reduceIte]
  refine Qjx (fun hn=> ?_) (fun hn=> ?_)
  ·have hn:z<0:=by simpa using hn
   simp+decide (disch:=first|exact D0|fail) only[go_sem,↓reduceIte]
   exact Qc (by rw[sgn,if_pos hn]) rfl
  ·have hn:¬z<0:=by simpa using hn
   simp+decide (disch:=first|exact D0|fail) only[go_sem,↓reduceIte]
   exact Qc (by rw[sgn,if_neg hn,if_pos (by omega)]) rfl
theorem Qyz{n:Bool}{a:List Nat}(ha:Qk a)(hla:a.length<2^42):Qe Tryz.prog 100 [PV.zi n a] (· = .bool (Qop n a)):=by
 refine Qf Qj Tryz.func100 rfl Qakd (by simp[c100]) fun C hP=> ?_;simp only[c100,Zo,Zg,Zm,Zc,Zf,Zl,Zh,Zs,Zi,Zb,Zk,Zn,Zu,Zq,Zr,Zz]
 simp+decide (disch:=first|exact D0|fail) only[go_sem,↓reduceIte]
 refine Qa hP (Qpr ha (by omega)) rfl rfl rfl ?_
 simp+decide (disch:=first|exact D0|fail) only[go_sem,↓reduceIte]
 refine Qg0 (fun hv=> ?_) (fun hv=> ?_)
 ·simp+decide (disch:=first|exact D0|fail) only[go_sem,↓reduceIte]
  refine Qg0 (fun hn=> ?_) (fun hn=> ?_)
  ·simp+decide (disch:=first|exact D0|fail) only[go_sem,↓reduceIte]
   exact Qc (congrArg PV.bool (by unfold Qop;subst hn;cases a<;>simp_all<;>omega)) rfl
  ·simp+decide (disch:=first|exact D0|fail) only[go_sem,↓reduceIte]
   exact Qc (congrArg PV.bool (by unfold Qop;subst hn;cases a<;>simp_all)) rfl
 ·simp+decide (disch:=first|exact D0|fail) only[go_sem,↓reduceIte]
  exact Qc (congrArg PV.bool (by unfold Qop;cases a<;>simp_all)) rfl
theorem Q22{n m:Bool}{a b:List Nat}(ha:Qk a)(hb:Qk b)(hla:a.length<2^41)(hlb:b.length<2^41):Qe Tryz.prog 151 [PV.zi n a,PV.zi m b] (· = .int .i64 (Qb1 (zv n a) (zv m b))):=by
 have hx:nl (zv n a).natAbs<2^41:=by rw[Qbe];have:=Qar ha;omega
 have hy:nl (zv m b).natAbs<2^41:=by rw[Qbe];have:=Qar hb;omega
 refine Qf Qj Tryz.func151 rfl Qakh (by simp[c151]) fun C hP=> ?_;simp only[c151,Zo,Zg,Zm,Zc,Zf,Zl,Zh,Zs,Zi,Zb,Zk,Zn,Zu,Zq,Zr,Zz]
 simp+decide (disch:=first|exact D0|fail) only[go_sem,↓reduceIte]
 refine Qa hP (Qis ha (by omega)) rfl rfl rfl ?_
 simp+decide (disch:=first|exact D0|fail) only[go_sem,↓reduceIte]
 refine Qa hP (Qis hb (by omega)) rfl rfl rfl ?_
 generalize zv n a=x at *
 generalize zv m b=y at *
 have lx:(dig x.natAbs).length<2^41:=hx
 have ly:(dig y.natAbs).length<2^41:=hy
 by_cases hx0:x<0<;>by_cases hy0:y<0
 ·simp+decide (disch:=first|exact D2 hx0 hy0|fail) only[go_sem,↓reduceIte,hx0,hy0]
  refine Qa hP (Qjo (Qq y.natAbs) (Qq x.natAbs) (by omega) (by omega)) rfl rfl rfl ?_
  simp+decide (disch:=first|exact D0|fail) only[go_sem,↓reduceIte]
  exact Qc (congrArg (PV.int .i64) (by rw[Q9,Q9];unfold Qd4 Qb1;split<;>split<;>(try split)<;>(try split)<;>omega)) rfl
 ·simp+decide (disch:=first|exact D2 hx0 hy0|fail) only[go_sem,↓reduceIte,hx0,hy0]
  exact Qc (congrArg (PV.int .i64) (by unfold Qb1;rw[if_pos (by omega)])) rfl
 ·simp+decide (disch:=first|exact D2 hx0 hy0|fail) only[go_sem,↓reduceIte,hx0,hy0]
  exact Qc (congrArg (PV.int .i64) (by unfold Qb1;rw[if_neg (by omega),if_pos (by omega)])) rfl
 ·simp+decide (disch:=first|exact D2 hx0 hy0|fail) only[go_sem,↓reduceIte,hx0,hy0]
  refine Qa hP (Qjo (Qq x.natAbs) (Qq y.natAbs) (by omega) (by omega)) rfl rfl rfl ?_
  simp+decide (disch:=first|exact D0|fail) only[go_sem,↓reduceIte]
  exact Qc (congrArg (PV.int .i64) (by rw[Q9,Q9];unfold Qd4 Qb1;split<;>split<;>(try split)<;>(try split)<;>omega)) rfl
theorem Q23{n m:Bool}{a b:List Nat}(ha:Qk a)(hb:Qk b)(hla:a.length<2^40)(hlb:b.length<2^40):Qe Tryz.prog 149 [PV.zi n a,PV.zi m b] (· =PV.zz (zv n a+zv m b)):=by
 have hda:=Qar ha
 have hdb:=Qar hb
 refine Qf Qj Tryz.func149 rfl Qakj (by simp[c149]) fun C hP=> ?_;simp only[c149,Zo,Zg,Zm,Zc,Zf,Zl,Zh,Zs,Zi,Zb,Zk,Zn,Zu,Zq,Zr,Zz]
 simp+decide (disch:=first|exact D0|fail) only[go_sem,↓reduceIte]
 refine Qjx (fun hnm=> ?_) (fun hnm=> ?_)
 ·have hnm:n=m:=by simpa using hnm
  subst hnm
  have hr:=Qnk (val a) (val b)
  simp+decide (disch:=first|exact D0|fail) only[go_sem,↓reduceIte]
  refine Qa hP (Qso ha hb hla hlb) rfl rfl rfl ?_
  simp+decide (disch:=first|exact D0|fail) only[go_sem,↓reduceIte]
  refine Qa hP (Qe8 (n:=n) (Qq (val a+val b)) (show nl _<_ by omega)) rfl rfl rfl ?_
  simp+decide (disch:=first|exact D0|fail) only[go_sem,↓reduceIte]
  refine Qa2 ?_
  simp+decide (disch:=first|exact D0|fail) only[go_sem,↓reduceIte]
  exact Qc (congrArg PV.zz (by rw[Qim];unfold zv;split<;>simp<;>omega)) rfl
 have hnm:n= !m:=by cases n<;>cases m<;>simp_all
 subst hnm
 simp+decide (disch:=first|exact D0|fail) only[go_sem,↓reduceIte]
 refine Qa hP (Qm7 ha hb hla hlb) rfl rfl rfl ?_
 by_cases hc:val a<val b
 ·rw[if_pos hc]
  have hr:=Qbn (Nat.sub_le (val b) (val a))
  simp+decide (disch:=first|exact D0|fail) only[go_sem,↓reduceIte]
  refine Qa hP (Qm7 hb ha hlb hla) rfl rfl rfl ?_
  rw[if_neg (by omega)]
  simp+decide (disch:=first|exact D0|fail) only[go_sem,↓reduceIte]
  refine Qa hP (Qe8 (n:=m) (Qq (val b-val a)) (show nl _<_ by omega)) rfl rfl rfl ?_
  simp+decide (disch:=first|exact D0|fail) only[go_sem,↓reduceIte]
  refine Qa2 ?_
  simp+decide (disch:=first|exact D0|fail) only[go_sem,↓reduceIte]
  exact Qc (congrArg PV.zz (by rw[Qim];unfold zv;cases m<;>simp<;>omega)) rfl
 ·rw[if_neg hc]
  have hr:=Qbn (Nat.sub_le (val a) (val b))
  simp+decide (disch:=first|exact D0|fail) only[go_sem,↓reduceIte]
  refine Qa hP (Qe8 (n:= !m) (Qq (val a-val b)) (show nl _<_ by omega)) rfl rfl rfl ?_
  simp+decide (disch:=first|exact D0|fail) only[go_sem,↓reduceIte]
  refine Qa2 ?_
  simp+decide (disch:=first|exact D0|fail) only[go_sem,↓reduceIte]
  exact Qc (congrArg PV.zz (by rw[Qim];unfold zv;cases m<;>simp<;>omega)) rfl
end Go.Proofs.YtonfajmchebkeaaGreat
namespace Go.Proofs.YtonfajmchebkeaaGreat
open Go Go.FW
set_option linter.unusedSimpArgs false
set_option linter.unusedVariables false
set_option maxRecDepth 100000
theorem Qqn{a:List Nat}{g:Nat}(ha:Qk a)(hx:a.length<2^36)(hy:nl g<2^36)(h0:g≠0):Qe Tryz.prog 158 [PV.nat a,PV.num g] (· = .tup [PV.num (val a/g),PV.num (val a%g),.int .i64 0]):=by
 have:=Qnu ha (Qq g) hx hy
 rwa[Q9,if_neg h0]at this
theorem Qaoc(n:Bool)(a:List Nat)(D:Nat):zv n (dig (val a/Nat.gcd (val a) D))=zv n a/(Nat.gcd (zv n a).natAbs D:Int):=by
 rw[Qbe,Qim]
 unfold zv
 cases n
 ·simp
 ·have hd:((Nat.gcd (val a) D:Nat):Int)∣(val a:Int):=Int.natCast_dvd_natCast.2 (Nat.gcd_dvd_left _ _)
  simp only[if_true]
  rw[Int.neg_ediv_of_dvd hd,Int.natCast_ediv]
theorem Qqo{n:Bool}{a d:List Nat}(ha:Qk a)(hd:Qk d)(hla:a.length<2^36)(hld:d.length<2^36):Qe Tryz.prog 82 [PV.zi n a,PV.nat d] (· =PV.rat (rv n a d)):=by
 have hna:=Qar ha
 have hnd:=Qar hd
 refine Qf Qj Tryz.func82 rfl Qan6 (by simp[c82]) fun C hP=> ?_;simp only[c82,Zo,Zg,Zm,Zc,Zf,Zl,Zh,Zs,Zi,Zb,Zk,Zn,Zu,Zq,Zr,Zz]
 simp+decide (disch:=first|exact D0|fail) only[go_sem,↓reduceIte]
 refine Qa hP (Qbz hd (by omega)) rfl rfl rfl ?_
 simp+decide (disch:=first|exact D0|fail) only[go_sem,↓reduceIte]
 refine Qb (fun hz=> ?_) (fun hz=> ?_)
 ·have h0:val d=0:=Qb4.1 (Qc9 (n:=val d) (by omega))
  simp+decide (disch:=first|exact D0|fail) only[go_sem,↓reduceIte]
  refine Qa hP (Qdc (n:=1) (by omega)) rfl rfl rfl ?_
  simp+decide (disch:=first|exact D0|fail) only[go_sem,↓reduceIte]
  refine Qa2 ?_
  simp+decide (disch:=first|exact D0|fail) only[go_sem,↓reduceIte]
  exact(by unfold rv;rw[Qsf (.inl h0),Qg3];exact Qef Q30 rfl)
 ·have h0:val d≠0:=fun h=>by rw[h,Qa5]at hz;exact hz rfl
  have hg0:Nat.gcd (val a) (val d)≠0:=fun h=>h0 (Nat.gcd_eq_zero_iff.1 h).2
  have hg:=Qbn (Nat.gcd_le_right (val a) (Nat.pos_of_ne_zero h0))
  have hq:=Q8v (val a) (Nat.gcd (val a) (val d))
  simp+decide (disch:=first|exact D0|fail) only[go_sem,↓reduceIte]
  refine Qa hP (Qsp ha hd hla hld) rfl rfl rfl ?_
  simp+decide (disch:=first|exact D0|fail) only[go_sem,↓reduceIte]
  refine Qa hP (Qqn ha hla (by omega) hg0) rfl rfl rfl ?_
  simp+decide (disch:=first|exact D0|fail) only[go_sem,↓reduceIte]
  refine Qa hP (Qqn hd hld (by omega) hg0) rfl rfl rfl ?_
  simp+decide (disch:=first|exact D0|fail) only[go_sem,↓reduceIte]
  refine Qa hP (Qis (n:=n) (Qq (val a/Nat.gcd (val a) (val d))) (show nl _<_ by omega)) rfl rfl rfl ?_
  rw[Qaoc]
  have hm:=Qj3 (z:=zv n a) h0
  simp+decide (disch:=first|exact D0|fail) only[go_sem,↓reduceIte]
  refine Qa2 ?_
  simp+decide (disch:=first|exact D0|fail) only[go_sem,↓reduceIte]
  exact Qc (by unfold rv;rw[PV.rat,hm.1,hm.2,Qbe]) rfl
theorem Qdd{n:Bool}{a d:List Nat}{k:Nat}(hp:Raw k n a d)(hk:k<2^36):Qe Tryz.prog 148 [PV.rr n a d] (· =PV.rat (rv n a d)):=by
 obtain⟨ha,hd,sa,sd,k1⟩:=hp
 refine Qf Qj Tryz.func148 rfl Qakl (by simp[c148]) fun C hP=> ?_;simp only[c148,Zo,Zg,Zm,Zc,Zf,Zl,Zh,Zs,Zi,Zb,Zk,Zn,Zu,Zq,Zr,Zz]
 simp+decide (disch:=first|exact D0|fail) only[go_sem,↓reduceIte]
 refine Qa hP (Qqo (n:=n) ha hd (by omega) (by omega)) rfl rfl rfl ?_
 simp+decide (disch:=first|exact D0|fail) only[go_sem,↓reduceIte]
 refine Qa2 ?_
 simp+decide (disch:=first|exact D0|fail) only[go_sem,↓reduceIte]
 exact Qc rfl rfl
theorem Qit{z:Int}{D:Nat}(hz:nl z.natAbs<2^36)(hD:nl D<2^36):Qe Tryz.prog 82 [PV.zz z,PV.num D] (· =PV.rat (mkRat z D)):=by
 have:=Qqo (n:=decide (z<0)) (Qq z.natAbs) (Qq D) hz hD
 rwa[rv,Qf0,Q9]at this
theorem Qcn{x:Int}(h1: -9223372036854775808<=x)(h2:x<=9223372036854775807):Qe Tryz.prog 37 [.int .i64 x] (· =PV.rat (x:Rat)):=by
 have hl1:nl x.natAbs<=4:=Qfz (by omega)
 refine Qf Qj Tryz.func37 rfl Qan7 (by simp[c37]) fun C hP=> ?_;simp only[c37,Zo,Zg,Zm,Zc,Zf,Zl,Zh,Zs,Zi,Zb,Zk,Zn,Zu,Zq,Zr,Zz]
 simp+decide (disch:=first|exact D0|fail) only[go_sem,↓reduceIte]
 refine Qa hP (Q6e h1 h2) rfl rfl rfl ?_
 simp+decide (disch:=first|exact D0|fail) only[go_sem,↓reduceIte]
 refine Qa hP (Qdc (n:=1) (by omega)) rfl rfl rfl ?_
 simp+decide (disch:=first|exact D0|fail) only[go_sem,↓reduceIte]
 refine Qa hP (Qit (z:=x) (D:=1) (by omega) (by rw[Qe4];omega)) rfl rfl rfl ?_
 simp+decide (disch:=first|exact D0|fail) only[go_sem,↓reduceIte]
 refine Qa2 ?_
 simp+decide (disch:=first|exact D0|fail) only[go_sem,↓reduceIte]
 exact Qc (congrArg PV.rat (Rat.mkRat_one x)) rfl
theorem Qe2(d:List Nat):Qe Tryz.prog 150 [PV.nat d] (· =PV.zi false d):=by
 refine Qf Qj Tryz.func150 rfl Qakn (by simp[c150]) fun C hP=> ?_;simp only[c150,Zo,Zg,Zm,Zc,Zf,Zl,Zh,Zs,Zi,Zb,Zk,Zn,Zu,Zq,Zr,Zz]
 simp+decide (disch:=first|exact D0|fail) only[go_sem,↓reduceIte]
 refine Qa2 ?_
 simp+decide (disch:=first|exact D0|fail) only[go_sem,↓reduceIte]
 exact Qc rfl rfl
theorem Qvc{x:Int}(hx:nl x.natAbs<2^42):Qe Tryz.prog 162 [PV.zz x] (· = .int .i64 (sgn x)):=by
 have:=Q1k (n:=decide (x<0)) (Qq x.natAbs) hx
 rwa[Qf0]at this
theorem Qiu{n:Bool}{a d:List Nat}{k:Nat}(hp:Raw k n a d)(hk:k<2^36):Qe Tryz.prog 85 [PV.rr n a d] (· = .int .i64 (Qd5 (rv n a d))):=by
 have hs:=hp.rs
 unfold FW.rs at hs
 refine Qf Qj Tryz.func85 rfl Qan8 (by simp[c85]) fun C hP=> ?_;simp only[c85,Zo,Zg,Zm,Zc,Zf,Zl,Zh,Zs,Zi,Zb,Zk,Zn,Zu,Zq,Zr,Zz]
 simp+decide (disch:=first|exact D0|fail) only[go_sem,↓reduceIte]
 refine Qa hP (Qdd hp hk) rfl rfl rfl ?_
 simp+decide (disch:=first|exact D0|fail) only[go_sem,↓reduceIte]
 refine Qa hP (Qvc (x:=(rv n a d).num) (by omega)) rfl rfl rfl ?_
 simp+decide (disch:=first|exact D0|fail) only[go_sem,↓reduceIte]
 exact Qc rfl rfl
end Go.Proofs.YtonfajmchebkeaaGreat
namespace Go.Proofs.YtonfajmchebkeaaGreat
open Go Go.FW
set_option linter.unusedSimpArgs false
set_option linter.unusedVariables false
set_option maxRecDepth 100000
theorem Qh4{x:Int}{d:Nat}(hx:nl x.natAbs<2^40)(hy:nl d<2^40):Qe Tryz.prog 146 [PV.zz x,PV.zi false (dig d)] (· =PV.zz (x*(d:Int))):=by
 have:=Qsq (n:=decide (x<0)) (m:=false) (Qq x.natAbs) (Qq d) hx hy
 rwa[Qf0,Qgo,Q9]at this
theorem Q9r{x y:Int}(hx:nl x.natAbs<2^40)(hy:nl y.natAbs<2^40):Qe Tryz.prog 149 [PV.zz x,PV.zz y] (· =PV.zz (x+y)):=by
 have:=Q23 (n:=decide (x<0)) (m:=decide (y<0)) (Qq x.natAbs) (Qq y.natAbs) hx hy
 rwa[Qf0,Qf0]at this
theorem Q9s{x y:Int}(hx:nl x.natAbs<2^41)(hy:nl y.natAbs<2^41):Qe Tryz.prog 151 [PV.zz x,PV.zz y] (· = .int .i64 (Qb1 x y)):=by
 have:=Q22 (n:=decide (x<0)) (m:=decide (y<0)) (Qq x.natAbs) (Qq y.natAbs) hx hy
 rwa[Qf0,Qf0]at this
theorem Q24{n m:Bool}{a d b c:List Nat}{k:Nat}(hp:Raw k n a d)(hq:Raw k m b c)(hk:k<2^34):Qe Tryz.prog 69 [PV.rr n a d,PV.rr m b c] (· =PV.rat (rv n a d*rv m b c)):=by
 obtain⟨ha,hd,sa,sd,k1⟩:=hp
 obtain⟨hb,hc,sb,sc,k2⟩:=hq
 have h1:=Qav (zv n a) (zv m b)
 have h2:=Qb6 (val d) (val c)
 rw[Qbe,Qbe]at h1
 have e1:=Qar ha
 have e2:=Qar hd
 have e3:=Qar hb
 have e4:=Qar hc
 refine Qf Qj Tryz.func69 rfl Qaob (by simp[c69]) fun C hP=> ?_;simp only[c69,Zo,Zg,Zm,Zc,Zf,Zl,Zh,Zs,Zi,Zb,Zk,Zn,Zu,Zq,Zr,Zz]
 simp+decide (disch:=first|exact D0|fail) only[go_sem,↓reduceIte]
 refine Qa hP (Qsq (n:=n) (m:=m) ha hb (by omega) (by omega)) rfl rfl rfl ?_
 simp+decide (disch:=first|exact D0|fail) only[go_sem,↓reduceIte]
 refine Qa hP (Qm8 hd hc (by omega) (by omega)) rfl rfl rfl ?_
 simp+decide (disch:=first|exact D0|fail) only[go_sem,↓reduceIte]
 refine Qa hP (Qit (z:=zv n a*zv m b) (D:=val d*val c) (by omega) (by omega)) rfl rfl rfl ?_
 simp+decide (disch:=first|exact D0|fail) only[go_sem,↓reduceIte]
 refine Qa2 ?_
 simp+decide (disch:=first|exact D0|fail) only[go_sem,↓reduceIte]
 exact Qc (congrArg PV.rat (Rat.mkRat_mul_mkRat _ _ _ _).symm) rfl
theorem Q25{n m:Bool}{a d b c:List Nat}{k:Nat}(hp:Raw k n a d)(hq:Raw k m b c)(hk:k<2^34):Qe Tryz.prog 72 [PV.rr n a d,PV.rr m b c] (· = .int .i64 (Qi6 (rv n a d) (rv m b c))):=by
 have hx:=hp.rs
 have hy:=hq.rs
 unfold FW.rs at hx hy
 refine Qf Qj Tryz.func72 rfl Qan9 (by simp[c72]) fun C hP=> ?_;simp only[c72,Zo,Zg,Zm,Zc,Zf,Zl,Zh,Zs,Zi,Zb,Zk,Zn,Zu,Zq,Zr,Zz]
 simp+decide (disch:=first|exact D0|fail) only[go_sem,↓reduceIte]
 refine Qa hP (Qdd hp (by omega)) rfl rfl rfl ?_
 simp+decide (disch:=first|exact D0|fail) only[go_sem,↓reduceIte]
 refine Qa hP (Qdd hq (by omega)) rfl rfl rfl ?_
 generalize rv n a d=p at *
 generalize rv m b c=q at *
 have h1:=Qav p.num (q.den:Int)
 have h2:=Qav q.num (p.den:Int)
 rw[Int.natAbs_natCast]at h1 h2
 simp+decide (disch:=first|exact D0|fail) only[go_sem,↓reduceIte]
 refine Qa hP (Qe2 (dig q.den)) rfl rfl rfl ?_
 simp+decide (disch:=first|exact D0|fail) only[go_sem,↓reduceIte]
 refine Qa hP (Qh4 (x:=p.num) (d:=q.den) (by omega) (by omega)) rfl rfl rfl ?_
 simp+decide (disch:=first|exact D0|fail) only[go_sem,↓reduceIte]
 refine Qa hP (Qe2 (dig p.den)) rfl rfl rfl ?_
 simp+decide (disch:=first|exact D0|fail) only[go_sem,↓reduceIte]
 refine Qa hP (Qh4 (x:=q.num) (d:=p.den) (by omega) (by omega)) rfl rfl rfl ?_
 simp+decide (disch:=first|exact D0|fail) only[go_sem,↓reduceIte]
 refine Qa hP (Q9s (x:=p.num*(q.den:Int)) (y:=q.num*(p.den:Int)) (by omega) (by omega)) rfl rfl rfl ?_
 simp+decide (disch:=first|exact D0|fail) only[go_sem,↓reduceIte]
 exact Qc (congrArg (PV.int .i64) (by rw[<-Q31 p.den_nz q.den_nz,Rat.mkRat_self,Rat.mkRat_self])) rfl
theorem Qsr{n m:Bool}{a d b c:List Nat}{k:Nat}(hp:Raw k n a d)(hq:Raw k m b c)(hk:k<2^34):Qe Tryz.prog 71 [PV.rr n a d,PV.rr m b c] (· =PV.rat (rv n a d+rv m b c)):=by
 have hx:=hp.rs
 have hy:=hq.rs
 unfold FW.rs at hx hy
 refine Qf Qj Tryz.func71 rfl Qaoa (by simp[c71]) fun C hP=> ?_;simp only[c71,Zo,Zg,Zm,Zc,Zf,Zl,Zh,Zs,Zi,Zb,Zk,Zn,Zu,Zq,Zr,Zz]
 simp+decide (disch:=first|exact D0|fail) only[go_sem,↓reduceIte]
 refine Qa hP (Qdd hp (by omega)) rfl rfl rfl ?_
 simp+decide (disch:=first|exact D0|fail) only[go_sem,↓reduceIte]
 refine Qa hP (Qdd hq (by omega)) rfl rfl rfl ?_
 generalize rv n a d=p at *
 generalize rv m b c=q at *
 have h1:=Qav p.num (q.den:Int)
 have h2:=Qav q.num (p.den:Int)
 have h3:=Qf5 (p.num*(q.den:Int)) (q.num*(p.den:Int))
 have h4:=Qb6 p.den q.den
 rw[Int.natAbs_natCast]at h1 h2
 simp+decide (disch:=first|exact D0|fail) only[go_sem,↓reduceIte]
 refine Qa hP (Qe2 (dig q.den)) rfl rfl rfl ?_
 simp+decide (disch:=first|exact D0|fail) only[go_sem,↓reduceIte]
 refine Qa hP (Qh4 (x:=p.num) (d:=q.den) (by omega) (by omega)) rfl rfl rfl ?_
 simp+decide (disch:=first|exact D0|fail) only[go_sem,↓reduceIte]
 refine Qa hP (Qe2 (dig p.den)) rfl rfl rfl ?_
 simp+decide (disch:=first|exact D0|fail) only[go_sem,↓reduceIte]
 refine Qa hP (Qh4 (x:=q.num) (d:=p.den) (by omega) (by omega)) rfl rfl rfl ?_
 simp+decide (disch:=first|exact D0|fail) only[go_sem,↓reduceIte]
 refine Qa hP (Q9r (x:=p.num*(q.den:Int)) (y:=q.num*(p.den:Int)) (by omega) (by omega)) rfl rfl rfl ?_
 simp+decide (disch:=first|exact D0|fail) only[go_sem,↓reduceIte]
 refine Qa hP (Qkv (x:=p.den) (y:=q.den) (by omega) (by omega)) rfl rfl rfl ?_
 simp+decide (disch:=first|exact D0|fail) only[go_sem,↓reduceIte]
 refine Qa hP (Qit (z:=p.num*(q.den:Int)+q.num*(p.den:Int)) (D:=p.den*q.den) (by omega) (by omega)) rfl rfl rfl ?_
 simp+decide (disch:=first|exact D0|fail) only[go_sem,↓reduceIte]
 refine Qa2 ?_
 simp+decide (disch:=first|exact D0|fail) only[go_sem,↓reduceIte]
 exact Qc (congrArg PV.rat (by rw[<-Rat.mkRat_add_mkRat _ _ p.den_nz q.den_nz,Rat.mkRat_self,Rat.mkRat_self])) rfl
end Go.Proofs.YtonfajmchebkeaaGreat
namespace Go.Proofs.YtonfajmchebkeaaGreat
open Go Go.FW
set_option linter.unusedSimpArgs false
set_option linter.unusedVariables false
set_option maxRecDepth 100000
theorem Qy0{n:Bool}{a d:List Nat}{k:Nat}(hp:Raw k n a d)(hk:k<2^36):Qe Tryz.prog 56 [PV.rr n a d] (· = .bool (Qro n a d)):=by
 obtain⟨ha,hd,sa,sd,k1⟩:=hp
 have hgl:(dig (Nat.gcd (val a) (val d))).length<2^43:=by
  by_cases h0:val d=0
  ·rw[h0,Nat.gcd_zero_right]
   have h4:=Qar ha
   unfold nl at h4;omega
  ·have h3:=Qbn (Nat.gcd_le_right (val a) (Nat.pos_of_ne_zero h0))
   have h4:=Qar hd
   unfold nl at h3 h4;omega
 refine Qf Qj Tryz.func56 rfl Qan5 (by simp[c56]) fun C hP=> ?_;simp only[c56,Zo,Zg,Zm,Zc,Zf,Zl,Zh,Zs,Zi,Zb,Zk,Zn,Zu,Zq,Zr,Zz]
 simp+decide (disch:=first|exact D0|fail) only[go_sem,↓reduceIte]
 refine Qa hP (Qyz ha (by omega)) rfl rfl rfl ?_
 unfold Qro
 simp+decide (disch:=first|exact D0|fail) only[go_sem,↓reduceIte]
 cases hio:Qop n a
 ·simp+decide (disch:=first|exact D0|fail) only[go_sem,↓reduceIte]
  exact Qc (by simp) rfl
 rw[Bool.true_and]
 simp+decide (disch:=first|exact D0|fail) only[go_sem,↓reduceIte]
 refine Qa hP (Qpr hd (by omega)) rfl rfl rfl ?_
 simp+decide (disch:=first|exact D0|fail) only[go_sem,↓reduceIte]
 refine Qg0 (fun hv=> ?_) (fun hv=> ?_)
 ·simp+decide (disch:=first|exact D0|fail) only[go_sem,↓reduceIte]
  refine Qa hP (Qsp ha hd (by omega) (by omega)) rfl rfl rfl ?_
  simp+decide (disch:=first|exact D0|fail) only[go_sem,↓reduceIte]
  refine Qa hP (Qdc (n:=1) (by omega)) rfl rfl rfl ?_
  simp+decide (disch:=first|exact D0|fail) only[go_sem,↓reduceIte]
  refine Qa hP (Q1j hgl (by rw[Qg3];decide)) rfl rfl rfl ?_
  rw[Qg3,decide_eq_decide.2 (Qsm (Nat.gcd (val a) (val d)))]
  simp+decide (disch:=first|exact D0|fail) only[go_sem,↓reduceIte]
  refine Q8 (fun hg=> ?_) (fun hg=> ?_)
  ·simp+decide (disch:=first|exact D0|fail) only[go_sem,↓reduceIte]
   exact Qc (congrArg PV.bool (by cases d<;>simp_all)) rfl
  ·simp+decide (disch:=first|exact D0|fail) only[go_sem,↓reduceIte]
   exact Qc (congrArg PV.bool (by simp[hg])) rfl
 ·simp+decide (disch:=first|exact D0|fail) only[go_sem,↓reduceIte]
  exact Qc (congrArg PV.bool (by simp_all)) rfl
end Go.Proofs.YtonfajmchebkeaaGreat
namespace Go.Proofs.YtonfajmchebkeaaGreat
open Go Go.FW
set_option maxRecDepth 100000
def c220:SFn:=⟨47,[.t 6],Zr (Zo (.mv 6 (.c .nilS)) .nil)<|Zr (Zm 11 0<|
 Zn 12 11<|
 Zm 13 1<|
 Zn 14 13<|
 Zo (.mx 15 (.t 12) (.t 14))<|
 Zo (.mk 16 1 8 3 (Zz 0) (.t 15) (.t 15))<|
 Zm 7 16 .nil)<| .seq (Zr (Zm 17 7<|
 Zn 18 17<|
 Zc 19 0 .nil)<| .block 0<| .loop<|Zr (Zb 20 .lss 19 18 .nil)<| .seq (.cond (.t 20) .skip (.exit 0))<| .seq (.block 1<|Zr (Zm 21 19<|
 Zm 8 21 .nil)<|Zr (Zc 9 0<|
 Zc 10 0 .nil)<| .seq (Zr (Zm 22 8<|
 Zm 23 0<|
 Zn 24 23<|
 Zb 25 .lss 22 24 .nil)<| .cond (.t 25) (.rg (Zm 26 0<|
 Zm 27 8<|
 Zi 28 1 26 27<|
 Zl 29 1 28<|
 Zm 9 29 .nil)) .skip)<| .seq (Zr (Zm 30 8<|
 Zm 31 1<|
 Zn 32 31<|
 Zb 33 .lss 30 32 .nil)<| .cond (.t 33) (.rg (Zm 34 1<|
 Zm 35 8<|
 Zi 36 1 34 35<|
 Zl 37 1 36<|
 Zm 10 37 .nil)) .skip)<| .rg (Zm 38 7<|
 Zm 39 8<|
 Zm 40 2<|
 Zm 41 9<|
 Zm 42 10<|
 Zo (.call (some 43) false (.t 40) [.t 41,.t 42])<|
 Zi 44 1 38 39<|
 Zs 1 44 43 .nil))<| .rg (Zk 45 .add 19 1<|
 Zm 19 45 .nil))<|Zr (Zm 46 7<|
 Zm 6 46 .nil) .ret⟩
theorem Qakp:Qd Tryz.prog Tryz.f220=some c220:=by kernel_rfl
def c219:SFn:=⟨24,[.t 2],Zr (Zo (.mv 2 (.c .nilS)) .nil)<|Zr (Zm 4 0<|
 Zn 5 4<|
 Zm 3 5 .nil)<| .seq (.block 0<| .loop<| .seq (Zr (Zm 6 3<|
 Zk 7 .gtr 6 0<|
 Zm 8 7<|
 Zg 8 true (.mv 9 (.t 0))<|
 Zg 8 true (.mv 10 (.t 3))<|
 Zg 8 true (.bin 11 .sub false (.t 10) (.c (Zz 1)))<|
 Zg 8 true (.idx 12 1 (.t 9) (.t 11))<|
 Zg 8 true (.ld 13 1 false (.t 12))<|
 Zg 8 true (.bin 14 .eql false (.t 13) (.c (Zz 0)))<|
 Zo (.pick 15 (.t 8) (.t 14) (.c (.bool false))) .nil)<| .cond (.t 15) .skip (.exit 0))<| .block 1<| .rg (Zm 16 3<|
 Zk 17 .sub 16 1<|
 Zm 3 17 .nil))<| .seq (Zr (Zm 18 3<|
 Zk 19 .eql 18 0 .nil)<| .cond (.t 19) (Zr (Zo (.mv 2 (.c .nilS)) .nil) .ret) .skip)<|Zr (Zm 20 0<|
 Zm 21 3<|
 Zm 22 3<|
 Zo (.sl 23 1 (.t 20) none (some (.t 21)) (some (.t 22)))<|
 Zm 2 23 .nil) .ret⟩
theorem Qakq:Qd Tryz.prog Tryz.f219=some c219:=by kernel_rfl
def c216:SFn:=⟨17,[.t 2],Zr (Zc 2 0 .nil)<|Zr (Zc 3 0 .nil)<| .seq (Zr (Zm 6 0<|
 Zn 7 6<|
 Zc 8 0 .nil)<| .block 0<| .loop<|Zr (Zb 9 .lss 8 7 .nil)<| .seq (.cond (.t 9) .skip (.exit 0))<| .seq (.block 1<|Zr (Zi 10 1 6 8<|
 Zl 11 1 10<|
 Zm 5 11 .nil)<| .rg (Zm 12 3<|
 Zm 13 5<|
 Zb 14 .add 12 13<|
 Zm 3 14 .nil))<| .rg (Zk 15 .add 8 1<|
 Zm 8 15 .nil))<|Zr (Zm 16 3<|
 Zm 2 16 .nil) .ret⟩
theorem Qakr:Qd Tryz.prog Tryz.f216=some c216:=by kernel_rfl
def c222:SFn:=⟨17,[.t 4],Zr (Zc 4 0 .nil)<| .seq (Zr (Zm 5 1<|
 Zk 6 .lss 5 0<|
 Zm 7 6<|
 Zg 7 false (.mv 8 (.t 1))<|
 Zg 7 false (.mv 9 (.t 0))<|
 Zg 7 false (.len 10 (.t 9))<|
 Zg 7 false (.bin 11 .geq false (.t 8) (.t 10))<|
 Zo (.pick 12 (.t 7) (.c (.bool true)) (.t 11)) .nil)<| .cond (.t 12) (Zr (Zc 4 0 .nil) .ret) .skip)<|Zr (Zm 13 0<|
 Zm 14 1<|
 Zi 15 1 13 14<|
 Zl 16 1 15<|
 Zm 4 16 .nil) .ret⟩
theorem Qaks:Qd Tryz.prog Tryz.f222=some c222:=by kernel_rfl
def c224:SFn:=⟨9,[.t 4],Zr (Zo (.mv 4 (.c .nilS)) .nil)<|Zr (Zm 5 0<|
 Zm 6 1<|
 Zq 7 false 220 [.t 5,.t 6,.c (.fn 242 [] [])]<|
 Zq 8 false 219 [.t 7]<|
 Zm 4 8 .nil) .ret⟩
theorem Qakt:Qd Tryz.prog Tryz.f224=some c224:=by kernel_rfl
def c242:SFn:=⟨8,[.t 4],Zr (Zc 4 0 .nil)<|Zr (Zm 5 0<|
 Zm 6 1<|
 Zb 7 .add 5 6<|
 Zm 4 7 .nil) .ret⟩
theorem Qaku:Qd Tryz.prog Tryz.f242=some c242:=by kernel_rfl
def c168:SFn:=⟨46,[.t 6],Zr (Zc 6 0 .nil)<| .seq (Zr (Zm 12 2<|
 Zk 13 .eql 12 1 .nil)<| .cond (.t 13) (Zr (Zm 14 0<|
 Zq 15 false 216 [.t 14]<|
 Zm 16 1<|
 Zq 17 false 216 [.t 16]<|
 Zm 7 15<|
 Zm 8 17 .nil)<|Zr (Zm 18 7<|
 Zm 19 8<|
 Zb 20 .neq 18 19 .nil)<| .cond (.t 20) (.seq (Zr (Zm 21 7<|
 Zm 22 8<|
 Zb 23 .lss 21 22 .nil)<| .cond (.t 23) (Zr (Zc 6 (-1) .nil) .ret) .skip)<|Zr (Zc 6 1 .nil) .ret) .skip) .skip)<| .seq (Zr (Zm 24 0<|
 Zn 25 24<|
 Zm 26 1<|
 Zn 27 26<|
 Zo (.mx 28 (.t 25) (.t 27))<|
 Zk 29 .sub 28 1<|
 Zm 9 29 .nil)<| .block 0<| .loop<| .seq (Zr (Zm 30 9<|
 Zk 31 .geq 30 0 .nil)<| .cond (.t 31) .skip (.exit 0))<| .seq (.block 1<|Zr (Zm 34 0<|
 Zm 35 9<|
 Zq 36 false 222 [.t 34,.t 35]<|
 Zm 37 1<|
 Zm 38 9<|
 Zq 39 false 222 [.t 37,.t 38]<|
 Zm 10 36<|
 Zm 11 39 .nil)<|Zr (Zm 40 10<|
 Zm 41 11<|
 Zb 42 .neq 40 41 .nil)<| .cond (.t 42) (.seq (Zr (Zm 43 10<|
 Zm 44 11<|
 Zb 45 .lss 43 44 .nil)<| .cond (.t 45) (Zr (Zc 6 (-1) .nil) .ret) .skip)<|Zr (Zc 6 1 .nil) .ret) .skip)<| .rg (Zm 32 9<|
 Zk 33 .sub 32 1<|
 Zm 9 33 .nil))<|Zr (Zc 6 0 .nil) .ret⟩
theorem Qakv:Qd Tryz.prog Tryz.f168=some c168:=by kernel_rfl
def c218:SFn:=⟨20,[.t 4],Zr (Zo (.mv 4 (.c (.bool false))) .nil)<| .seq (Zr (Zm 7 0<|
 Zn 8 7<|
 Zc 9 0 .nil)<| .block 0<| .loop<|Zr (Zb 10 .lss 9 8 .nil)<| .seq (.cond (.t 10) .skip (.exit 0))<| .seq (.block 1<|Zr (Zm 11 9<|
 Zi 12 1 7 9<|
 Zl 13 1 12<|
 Zm 5 11<|
 Zm 6 13 .nil)<|Zr (Zm 14 6<|
 Zm 15 1<|
 Zm 16 5<|
 Zq 17 false 222 [.t 15,.t 16]<|
 Zb 18 .gtr 14 17 .nil)<| .cond (.t 18) (Zr (Zo (.mv 4 (.c (.bool false))) .nil) .ret) .skip)<| .rg (Zk 19 .add 9 1<|
 Zm 9 19 .nil))<|Zr (Zo (.mv 4 (.c (.bool true))) .nil) .ret⟩
theorem Qakw:Qd Tryz.prog Tryz.f218=some c218:=by kernel_rfl
def c167:SFn:=⟨14,[.t 4,.t 5],Zr (Zo (.mv 4 (.c .nilS))<|
 Zo (.mv 5 (.c (.bool false))) .nil)<| .seq (Zr (Zm 6 1<|
 Zm 7 0<|
 Zq 8 false 218 [.t 6,.t 7]<|
 Zu 9 8 .nil)<| .cond (.t 9) (Zr (Zo (.mv 4 (.c .nilS))<|
 Zo (.mv 5 (.c (.bool false))) .nil) .ret) .skip)<|Zr (Zm 10 0<|
 Zm 11 1<|
 Zq 12 false 220 [.t 10,.t 11,.c (.fn 221 [] [])]<|
 Zq 13 false 219 [.t 12]<|
 Zm 4 13<|
 Zo (.mv 5 (.c (.bool true))) .nil) .ret⟩
theorem Qakx:Qd Tryz.prog Tryz.f167=some c167:=by kernel_rfl
def c221:SFn:=⟨8,[.t 4],Zr (Zc 4 0 .nil)<|Zr (Zm 5 0<|
 Zm 6 1<|
 Zb 7 .sub 5 6<|
 Zm 4 7 .nil) .ret⟩
theorem Qaky:Qd Tryz.prog Tryz.f221=some c221:=by kernel_rfl
end Go.Proofs.YtonfajmchebkeaaGreat
namespace Go.Proofs.YtonfajmchebkeaaGreat
open Go Go.FW
set_option linter.unusedSimpArgs false
set_option linter.unusedVariables false
set_option maxRecDepth 100000
theorem Q9t{n m:Bool}{a d b c:List Nat}{k:Nat}(hp:Raw k n a d)(hq:Raw k m b c)(hk:k<2^36):Qe Tryz.prog 223 [PV.rr n a d,PV.rr m b c] (· =PV.rat (rv n a d*rv m b c)):=by
 refine Qf Qj Tryz.func223 rfl Qais (by simp[c223]) fun C hP=> ?_;simp only[c223,Zo,Zg,Zm,Zc,Zf,Zl,Zh,Zs,Zi,Zb,Zk,Zn,Zu,Zq,Zr,Zz]
 simp+decide (disch:=first|exact D0|fail) only[go_sem,↓reduceIte]
 refine Qcy hP (Qd7 hp.la hp.ld hp.k1 hp.sa hp.sd (by omega)) rfl rfl rfl ?_
 rintro _ ⟨n',a',d',rfl,g1,g2,g3,g4,g5,g6⟩
 simp+decide (disch:=first|exact D0|fail) only[go_sem,↓reduceIte]
 refine Qcy hP (Qd7 hq.la hq.ld hq.k1 hq.sa hq.sd (by omega)) rfl rfl rfl ?_
 rintro _ ⟨m',b',c',rfl,e1,e2,e3,e4,e5,e6⟩
 simp+decide (disch:=first|exact D0|fail) only[go_sem,↓reduceIte]
 have hza:nl (zv n' a').natAbs<=k:=by rw[Qbe];exact Nat.le_trans (Qar g1) g3
 have hzb:nl (zv m' b').natAbs<=k:=by rw[Qbe];exact Nat.le_trans (Qar e1) e3
 have hvd:nl (val d')<=k:=Nat.le_trans (Qar g2) g4
 have hvc:nl (val c')<=k:=Nat.le_trans (Qar e2) e4
 have h3:=Qav (zv n' a') (zv m' b')
 have h6:=Qb6 (val d') (val c')
 refine Qa hP (Qd6 (n:=n') (m:=m') g1 e1 (by omega) (by omega)) rfl rfl rfl ?_
 simp+decide (disch:=first|exact D0|fail) only[go_sem,↓reduceIte]
 refine Qa hP (Qo0 g2 e2 (by omega) (by omega)) rfl rfl rfl ?_
 simp+decide (disch:=first|exact D0|fail) only[go_sem,↓reduceIte]
 refine Qa hP (Qks (z:=zv n' a'*zv m' b') (Qq _) (by omega) (by show nl _<_;omega)) rfl rfl rfl ?_
 simp+decide (disch:=first|exact D0|fail) only[go_sem,↓reduceIte]
 refine Qa2 ?_
 simp+decide (disch:=first|exact D0|fail) only[go_sem,↓reduceIte]
 refine Qc ?_ rfl
 rw[Q9,<-g6,<-e6]
 unfold rv
 rw[Rat.mkRat_mul_mkRat]
theorem Qo9{n:Bool}{a d:List Nat}{k:Nat}(hp:Raw k n a d)(hk:k<2^36):Qe Tryz.prog 202 [PV.rr n a d] (· = .int .i64 (Qd5 (rv n a d))):=by
 refine Qf Qj Tryz.func202 rfl Qaio (by simp[c202]) fun C hP=> ?_;simp only[c202,Zo,Zg,Zm,Zc,Zf,Zl,Zh,Zs,Zi,Zb,Zk,Zn,Zu,Zq,Zr,Zz]
 simp+decide (disch:=first|exact D0|fail) only[go_sem,↓reduceIte]
 refine Qcy hP (Qd7 hp.la hp.ld hp.k1 hp.sa hp.sd (by omega)) rfl rfl rfl ?_
 rintro _ ⟨n',a',d',rfl,g1,g2,g3,g4,g5,g6⟩
 simp+decide (disch:=first|exact D0|fail) only[go_sem,↓reduceIte]
 refine Qa hP (Qjl g1 (by omega)) rfl rfl rfl ?_
 simp+decide (disch:=first|exact D0|fail) only[go_sem,↓reduceIte]
 exact Qc (by rw[<-g6];unfold rv;rw[Q8w g5]) rfl
theorem Q9u{n m:Bool}{a d b c:List Nat}{k:Nat}(hp:Raw k n a d)(hq:Raw k m b c)(hk:k<2^36):Qe Tryz.prog 212 [PV.rr n a d,PV.rr m b c] (· = .int .i64 (Qi6 (rv n a d) (rv m b c))):=by
 refine Qf Qj Tryz.func212 rfl Qaip (by simp[c212]) fun C hP=> ?_;simp only[c212,Zo,Zg,Zm,Zc,Zf,Zl,Zh,Zs,Zi,Zb,Zk,Zn,Zu,Zq,Zr,Zz]
 simp+decide (disch:=first|exact D0|fail) only[go_sem,↓reduceIte]
 refine Qa hP (Qo9 hp hk) rfl rfl rfl ?_
 simp+decide (disch:=first|exact D0|fail) only[go_sem,↓reduceIte]
 refine Qa hP (Qo9 hq hk) rfl rfl rfl ?_
 simp+decide (disch:=first|exact D0|fail) only[go_sem,↓reduceIte]
 refine Qb (fun h1=> ?_) (fun h1=> ?_)
 ·simp+decide (disch:=first|exact D0|fail) only[go_sem,↓reduceIte]
  refine Qb (fun h2=> ?_) (fun h2=> ?_)
  ·simp+decide (disch:=first|exact D0|fail) only[go_sem,↓reduceIte]
   exact Qc (by rw[Q0o h2]) rfl
  ·simp+decide (disch:=first|exact D0|fail) only[go_sem,↓reduceIte]
   exact Qc (by rw[Qab8 (by omega)]) rfl
 simp+decide (disch:=first|exact D0|fail) only[go_sem,↓reduceIte]
 refine Qcy hP (Qd7 hp.la hp.ld hp.k1 hp.sa hp.sd (by omega)) rfl rfl rfl ?_
 rintro _ ⟨n',a',d',rfl,g1,g2,g3,g4,g5,g6⟩
 simp+decide (disch:=first|exact D0|fail) only[go_sem,↓reduceIte]
 refine Qcy hP (Qd7 hq.la hq.ld hq.k1 hq.sa hq.sd (by omega)) rfl rfl rfl ?_
 rintro _ ⟨m',b',c',rfl,e1,e2,e3,e4,e5,e6⟩
 have hza:nl (zv n' a').natAbs<=k:=by rw[Qbe];exact Nat.le_trans (Qar g1) g3
 have hzb:nl (zv m' b').natAbs<=k:=by rw[Qbe];exact Nat.le_trans (Qar e1) e3
 have hvd:nl (val d')<=k:=Nat.le_trans (Qar g2) g4
 have hvc:nl (val c')<=k:=Nat.le_trans (Qar e2) e4
 have h3:=Qav (zv n' a') (val c')
 have h4:=Qav (zv m' b') (val d')
 rw[Int.natAbs_natCast]at h3 h4
 simp+decide (disch:=first|exact D0|fail) only[go_sem,↓reduceIte]
 refine Qa hP (Qe5 _) rfl rfl rfl ?_
 simp+decide (disch:=first|exact D0|fail) only[go_sem,↓reduceIte]
 refine Qa hP (Qd6 (n:=n') (m:=false) g1 e2 (by omega) (by omega)) rfl rfl rfl ?_
 simp+decide (disch:=first|exact D0|fail) only[go_sem,↓reduceIte]
 refine Qa hP (Qe5 _) rfl rfl rfl ?_
 simp+decide (disch:=first|exact D0|fail) only[go_sem,↓reduceIte]
 refine Qa hP (Qd6 (n:=m') (m:=false) e1 g2 (by omega) (by omega)) rfl rfl rfl ?_
 rw[Qgo,Qgo]
 simp+decide (disch:=first|exact D0|fail) only[go_sem,↓reduceIte]
 refine Qa hP (Qadj (x:=zv n' a'*(val c':Int)) (y:=zv m' b'*(val d':Int)) (by omega) (by omega)) rfl rfl rfl ?_
 simp+decide (disch:=first|exact D0|fail) only[go_sem,↓reduceIte]
 exact Qc (by rw[<-g6,<-e6];unfold rv;rw[Q31 g5 e5]) rfl
theorem Q9v{x:Int}(h1: -9223372036854775808<=x)(h2:x<=9223372036854775807):Qe Tryz.prog 154 [.int .i64 x] (· =PV.zz x):=by
 refine Qf Qj Tryz.func154 rfl Qaid (by simp[c154]) fun C hP=> ?_;simp only[c154,Zo,Zg,Zm,Zc,Zf,Zl,Zh,Zs,Zi,Zb,Zk,Zn,Zu,Zq,Zr,Zz]
 simp+decide (disch:=first|exact D0|fail) only[go_sem,↓reduceIte]
 refine Qb (fun hc=> ?_) (fun hc=> ?_)
 ·obtain⟨y,hy⟩:∃y:Nat,x= -((y:Int)+1):=⟨(-(x+1)).toNat,by omega⟩
  have e1:IntKind.i64.wrap (x+1)= -(y:Int):=by rw[Qgk (by omega) (by omega)];omega
  have e2:IntKind.i64.wrap (0- -(y:Int))=(y:Int):=by rw[Qgk (by omega) (by omega)];omega
  have e3:IntKind.u64.wrap (y:Int)=(y:Int):=Qfy (by omega) (by omega)
  have e4:IntKind.u64.wrap ((y+1:Nat):Int)=((y+1:Nat):Int):=Qfy (by omega) (by omega)
  simp+decide (disch:=first|exact D4 e1 e2 e3 e4|fail) only[go_sem,↓reduceIte,e1,e2,e3,e4]
  refine Qa hP (Qrr (by omega)) rfl rfl rfl ?_
  simp+decide (disch:=first|exact D0|fail) only[go_sem,↓reduceIte]
  refine Qa hP (Qf9 true (y+1)) rfl rfl rfl ?_
  simp+decide (disch:=first|exact D0|fail) only[go_sem,↓reduceIte]
  refine Qa2 ?_
  simp+decide (disch:=first|exact D0|fail) only[go_sem,↓reduceIte]
  exact Qc (congrArg PV.zz (by simp;omega)) rfl
 ·obtain⟨y,rfl⟩:∃y:Nat,x=y:=⟨x.toNat,by omega⟩
  simp+decide (disch:=first|exact D0|fail) only[go_sem,↓reduceIte]
  refine Qa hP (Qrr (by omega)) rfl rfl rfl ?_
  simp+decide (disch:=first|exact D0|fail) only[go_sem,↓reduceIte]
  refine Qa hP (Qf9 false y) rfl rfl rfl ?_
  simp+decide (disch:=first|exact D0|fail) only[go_sem,↓reduceIte]
  refine Qa2 ?_
  simp+decide (disch:=first|exact D0|fail) only[go_sem,↓reduceIte]
  exact Qc (congrArg PV.zz (by simp)) rfl
theorem Qqp{x:Int}(h1: -9223372036854775808<=x)(h2:x<=9223372036854775807):Qe Tryz.prog 78 [.int .i64 x] (· =PV.rat (x:Rat)):=by
 refine Qf Qj Tryz.func78 rfl Qam9 (by simp[c78]) fun C hP=> ?_;simp only[c78,Zo,Zg,Zm,Zc,Zf,Zl,Zh,Zs,Zi,Zb,Zk,Zn,Zu,Zq,Zr,Zz]
 simp+decide (disch:=first|exact D0|fail) only[go_sem,↓reduceIte]
 refine Qa hP (Q9v h1 h2) rfl rfl rfl ?_
 simp+decide (disch:=first|exact D0|fail) only[go_sem,↓reduceIte]
 refine Qa hP Qmm rfl rfl rfl ?_
 simp+decide (disch:=first|exact D0|fail) only[go_sem,↓reduceIte]
 refine Qa2 ?_
 simp+decide (disch:=first|exact D0|fail) only[go_sem,↓reduceIte]
 exact Qc (by rw[PV.rat,Rat.num_intCast,Rat.den_intCast,PV.num,PV.num,Qg3];rfl) rfl
end Go.Proofs.YtonfajmchebkeaaGreat
namespace Go.Proofs.YtonfajmchebkeaaGreat
open Go Go.FW
set_option linter.unusedSimpArgs false
set_option linter.unusedVariables false
set_option maxRecDepth 100000
end Go.Proofs.YtonfajmchebkeaaGreat
namespace Go.Proofs.YtonfajmchebkeaaGreat
open Go Go.FW
set_option linter.unusedSimpArgs false
set_option linter.unusedVariables false
set_option maxRecDepth 100000
theorem Qss{a:List Int}(hl:a.length<2^42):Qe Tryz.prog 219 [PV.mono a] (· =PV.mono (Qdb a)):=by
 refine Qf Qj Tryz.func219 rfl Qakq (by simp[c219]) fun C hP=> ?_;simp only[c219,Zo,Zg,Zm,Zc,Zf,Zl,Zh,Zs,Zi,Zb,Zk,Zn,Zu,Zq,Zr,Zz]
 simp+decide (disch:=first|exact D0|fail) only[go_sem,↓reduceIte]
 refine Qx (by repeat (first|exact Qt|exact Qm|exact Qn|exact Qo|exact Qp|apply Ql|apply Qr|apply Qy|apply Q3|apply Q4|apply Qi)) [(3,3),(6,17)] [] (fun n J hp=>n<=a.length/\Qhj a n=Qdb a/\J 3= .int .i64 n/\hp=hp0) a.length ?_ ?_
 ·refine⟨Nat.le_refl _,rfl,?_⟩
  simp+decide (disch:=first|exact D0|fail) only[go_sem,↓reduceIte]
 rintro n J _ ⟨hn,hc,h3,rfl⟩
 simp+decide (disch:=first|exact D1 h3|fail) only[go_sem,↓reduceIte,h3]
 refine Q8 (fun hg=> ?_) (fun hg=> ?_)
 ·obtain _|n:=n
  ·omega
  have e:((n+1:Nat):Int)-1=n:=by omega
  simp only[Qhj]at hc
  simp+decide (disch:=first|exact D2 h3 e|fail) only[go_sem,↓reduceIte,h3,e]
  refine Qb (fun hz=> ?_) (fun hz=> ?_)
  ·rw[if_pos (by simp[hz,show n<a.length by omega])]at hc
   simp+decide (disch:=first|exact D2 h3 e|fail) only[go_sem,↓reduceIte,h3,e]
   refine Qg n (by omega) ⟨by omega,hc,?_⟩
   simp+decide (disch:=first|exact D0|fail) only[go_sem,↓reduceIte]
  ·rw[if_neg (by simpa[show n<a.length by omega]using hz)]at hc
   simp+decide (disch:=first|exact D2 h3 e|fail) only[go_sem,↓reduceIte,h3,e]
   refine Qb (fun h=>by omega) (fun h=> ?_)
   simp+decide (disch:=first|exact D2 h3 e|fail) only[go_sem,↓reduceIte,h3,e]
   exact Qc (congrArg PV.mono hc) rfl
 ·obtain rfl:n=0:=by omega
  simp+decide (disch:=first|exact D1 h3|fail) only[go_sem,↓reduceIte,h3]
  exact Qef (Qxs (by rw[<-hc];rfl)) rfl
theorem Qkg{a:List Int}(hl:a.length<=1048576)(hb:∀x∈a,0<=x/\x<=1099511627776):Qe Tryz.prog 216 [PV.mono a] (· = .int .i64 (Qbu a)):=by
 refine Qf Qj Tryz.func216 rfl Qakr (by simp[c216]) fun C hP=> ?_;simp only[c216,Zo,Zg,Zm,Zc,Zf,Zl,Zh,Zs,Zi,Zb,Zk,Zn,Zu,Zq,Zr,Zz]
 simp+decide (disch:=first|exact D0|fail) only[go_sem,↓reduceIte]
 refine Qx (by repeat (first|exact Qt|exact Qm|exact Qn|exact Qo|exact Qp|apply Ql|apply Qr|apply Qy|apply Q3|apply Q4|apply Qi)) [(3,3),(5,5),(8,15)] [] (fun k J hp=>∃(i:Nat)(s:Int),k=a.length-i/\i<=a.length/\0<=s/\s<=1099511627776*i/\s+(a.drop i).sum=Qbu a/\J 8= .int .i64 (i:Nat)/\J 3= .int .i64 s/\hp=hp0) a.length ?_ ?_
 ·refine⟨0,0,rfl,by omega,by omega,by omega,by simp[Qbu],?_⟩
  simp+decide (disch:=first|exact D0|fail) only[go_sem,↓reduceIte]
  simp
 rintro _ J _ ⟨i,s,rfl,hi,hs0,hs1,hsum,h8,h3,rfl⟩
 simp+decide (disch:=first|exact D2 h8 h3|fail) only[go_sem,↓reduceIte,h8,h3]
 refine Qb (fun hg=> ?_) (fun hg=> ?_)
 ·have hi':i<a.length:=by omega
  have hx:=hb _ (List.getElem_mem hi')
  rw[List.drop_eq_getElem_cons hi',List.sum_cons]at hsum
  generalize hxx:a[i]=x at *
  simp+decide (disch:=first|exact D3 h8 h3 hxx|fail) only[go_sem,↓reduceIte,h8,h3,hxx]
  refine Qg (a.length-(i+1)) (by omega) ⟨i+1,s+x,rfl,by omega,by omega,by push_cast;omega,by omega,?_⟩
  simp+decide (disch:=first|exact D0|fail) only[go_sem,↓reduceIte]
 ·rw[List.drop_of_length_le (by omega),List.sum_nil,Int.add_zero]at hsum
  simp+decide (disch:=first|exact D1 h3|fail) only[go_sem,↓reduceIte,h3]
  exact Qc (by rw[hsum]) rfl
theorem Q6f{a:List Int}{v:Int}(hl:a.length<2^42):Qe Tryz.prog 222 [PV.mono a,.int .i64 v] (· = .int .i64 (if v<0 then 0 else eN a v.toNat)):=by
 refine Qf Qj Tryz.func222 rfl Qaks (by simp[c222]) fun C hP=> ?_;simp only[c222,Zo,Zg,Zm,Zc,Zf,Zl,Zh,Zs,Zi,Zb,Zk,Zn,Zu,Zq,Zr,Zz]
 simp+decide (disch:=first|exact D0|fail) only[go_sem,↓reduceIte]
 refine Qaa (fun h1=> ?_) (fun h1=> ?_)
 ·simp+decide (disch:=first|exact D0|fail) only[go_sem,↓reduceIte]
  exact Qc (by rw[if_pos h1]) rfl
 ·obtain⟨n,rfl⟩:∃n:Nat,v=n:=⟨v.toNat,by omega⟩
  rw[if_neg h1]
  simp+decide (disch:=first|exact D0|fail) only[go_sem,↓reduceIte]
  refine Qb (fun h2=> ?_) (fun h2=> ?_)
  ·simp+decide (disch:=first|exact D0|fail) only[go_sem,↓reduceIte]
   exact Qc (by rw[Qcz (by omega)]) rfl
  ·have hn:n<a.length:=by omega
   simp+decide (disch:=first|exact D0|fail) only[go_sem,↓reduceIte]
   exact Qc (by rw[Qch hn]) rfl
theorem Qj9{a:List Int}{i:Nat}(hl:a.length<2^42):Qe Tryz.prog 222 [PV.mono a,.int .i64 i] (· = .int .i64 (eN a i)):=by
 have:=Q6f (v:=i) hl
 rwa[if_neg (by omega),Int.toNat_natCast]at this
end Go.Proofs.YtonfajmchebkeaaGreat
namespace Go.Proofs.YtonfajmchebkeaaGreat
open Go Go.FW
set_option linter.unusedSimpArgs false
set_option linter.unusedVariables false
set_option maxRecDepth 100000
theorem Qnv{a b:List Int}{f:Nat}{g:Int->Int->Int}(hla:a.length<2^40)(hlb:b.length<2^40)(hf:∀i,Qe Tryz.prog f [.int .i64 (eN a i),.int .i64 (eN b i)] (· = .int .i64 (g (eN a i) (eN b i)))):
  Qe Tryz.prog 220 [PV.mono a,PV.mono b,.fn f [] []] (· =PV.mono (Qew g a b)):=by
 refine Qf Qj Tryz.func220 rfl Qakp (by simp[c220]) fun C hP=> ?_;simp only[c220,Zo,Zg,Zm,Zc,Zf,Zl,Zh,Zs,Zi,Zb,Zk,Zn,Zu,Zq,Zr,Zz]
 simp+decide (disch:=first|exact D0|fail) only[go_sem,↓reduceIte]
 refine Qx (by repeat (first|exact Qt|exact Qm|exact Qn|exact Qo|exact Qp|apply Ql|apply Qr|apply Qy|apply Q3|apply Q4|apply Qi)) [(8,10),(19,45)] [] (fun k J hp=>∃i,k=max a.length b.length-i/\i<=max a.length b.length/\J 19= .int .i64 (i:Nat)/\hp=Qz hp0 16 ⟨1,3,Qei ((Qew g a b).take i++List.replicate (max a.length b.length-i) 0),false⟩) (max a.length b.length) ?_ ?_
 ·refine⟨0,rfl,by omega,?_⟩
  simp+decide (disch:=first|exact D0|fail) only[go_sem,↓reduceIte]
  simp
 rintro _ J _ ⟨i,rfl,hi,h19,rfl⟩
 simp+decide (disch:=first|exact D1 h19|fail) only[go_sem,↓reduceIte,h19]
 refine Qb (fun hg=> ?_) (fun hg=> ?_)
 ·have hi':i<max a.length b.length:=by omega
  have hfi:=hf i
  have htl:((Qew g a b).take i).length=i:=by rw[List.length_take,Qbj];omega
  have hset:=fun v=>Q8x (v:=v) (z:=(0:Int)) htl (show 0<max a.length b.length-i by omega)
  have hlen:i<((Qew g a b).take i++List.replicate (max a.length b.length-i) (0:Int)).length:=by rw[List.length_append,htl,List.length_replicate];omega
  have htk:=Qqg (g:=g) hi'
  have fin:∀x y,x=eN a i->y=eN b i->Qe Tryz.prog f [.int .i64 x,.int .i64 y] (· = .int .i64 (g (eN a i) (eN b i))):=by rintro _ _ rfl rfl;exact hfi
  simp+decide (disch:=first|exact D1 h19|fail) only[go_sem,↓reduceIte,h19]
  refine Qb (fun h1=> ?_) (fun h1=> ?_)
  ·have h1':i<a.length:=by omega
   simp+decide (disch:=first|exact D1 h19|fail) only[go_sem,↓reduceIte,h19]
   refine Qb (fun h2=> ?_) (fun h2=> ?_)
   ·have h2':i<b.length:=by omega
    simp+decide (disch:=first|exact D1 h19|fail) only[go_sem,↓reduceIte,h19]
    refine Qa hP (fin _ _ (Qch h1').symm (Qch h2').symm) rfl rfl rfl ?_
    simp+decide (disch:=first|omega|rfl|(simp+decide only[go_sem,↓reduceIte,h19,hset,<-htk]<;>rfl)|fail) only[go_sem,↓reduceIte,h19,hset,<-htk]
    refine Qg (max a.length b.length-(i+1)) (by omega) ⟨i+1,rfl,by omega,?_⟩
    simp+decide (disch:=first|omega|rfl|(simp+decide only[go_sem,↓reduceIte,Nat.sub_sub]<;>rfl)|fail) only[go_sem,↓reduceIte,Nat.sub_sub]
   ·simp+decide (disch:=first|exact D1 h19|fail) only[go_sem,↓reduceIte,h19]
    refine Qa hP (fin _ _ (Qch h1').symm (Qcz (by omega)).symm) rfl rfl rfl ?_
    simp+decide (disch:=first|omega|rfl|(simp+decide only[go_sem,↓reduceIte,h19,hset,<-htk]<;>rfl)|fail) only[go_sem,↓reduceIte,h19,hset,<-htk]
    refine Qg (max a.length b.length-(i+1)) (by omega) ⟨i+1,rfl,by omega,?_⟩
    simp+decide (disch:=first|omega|rfl|(simp+decide only[go_sem,↓reduceIte,Nat.sub_sub]<;>rfl)|fail) only[go_sem,↓reduceIte,Nat.sub_sub]
  ·simp+decide (disch:=first|exact D1 h19|fail) only[go_sem,↓reduceIte,h19]
   refine Qb (fun h2=> ?_) (fun h2=>by omega)
   have h2':i<b.length:=by omega
   simp+decide (disch:=first|exact D1 h19|fail) only[go_sem,↓reduceIte,h19]
   refine Qa hP (fin _ _ (Qcz (by omega)).symm (Qch h2').symm) rfl rfl rfl ?_
   simp+decide (disch:=first|omega|rfl|(simp+decide only[go_sem,↓reduceIte,h19,hset,<-htk]<;>rfl)|fail) only[go_sem,↓reduceIte,h19,hset,<-htk]
   refine Qg (max a.length b.length-(i+1)) (by omega) ⟨i+1,rfl,by omega,?_⟩
   simp+decide (disch:=first|omega|rfl|(simp+decide only[go_sem,↓reduceIte,Nat.sub_sub]<;>rfl)|fail) only[go_sem,↓reduceIte,Nat.sub_sub]
 ·obtain rfl:i=max a.length b.length:=by omega
  simp+decide (disch:=first|exact E0|fail) only[go_sem,↓reduceIte,Q7,List.contains_cons,List.contains_nil,List.flatMap_cons,List.flatMap_nil,List.append_nil]
  exact Qc (by simp[List.take_of_length_le,Qbj]) rfl
theorem Q26{x y:Int}(h1: -9223372036854775808<=x+y)(h2:x+y<=9223372036854775807):Qe Tryz.prog 242 [.int .i64 x,.int .i64 y] (· = .int .i64 (x+y)):=by
 refine Qf Qj Tryz.func242 rfl Qaku (by simp[c242]) fun C hP=> ?_;simp only[c242,Zo,Zg,Zm,Zc,Zf,Zl,Zh,Zs,Zi,Zb,Zk,Zn,Zu,Zq,Zr,Zz]
 simp+decide (disch:=first|exact D0|fail) only[go_sem,↓reduceIte]
 exact Qc rfl rfl
theorem Q6g{k:Nat}{a b:List Int}(ha:MB k a)(hb:MB k b)(hk:k<=1099511627776):Qe Tryz.prog 224 [PV.mono a,PV.mono b] (· =PV.mono (Qan a b)):=by
 have h1:=ha.len
 have h2:=hb.len
 have hz:=Qbj (· + ·) a b
 refine Qf Qj Tryz.func224 rfl Qakt (by simp[c224]) fun C hP=> ?_;simp only[c224,Zo,Zg,Zm,Zc,Zf,Zl,Zh,Zs,Zi,Zb,Zk,Zn,Zu,Zq,Zr,Zz]
 simp+decide (disch:=first|exact D0|fail) only[go_sem,↓reduceIte]
 refine Qa hP (Qnv (f:=242) (g:=(· + ·)) (by omega) (by omega) (fun i=>Q26 (by have:=ha.eN i;have:=hb.eN i;omega) (by have:=ha.eN i;have:=hb.eN i;omega))) rfl rfl rfl ?_
 simp+decide (disch:=first|exact D0|fail) only[go_sem,↓reduceIte]
 refine Qa hP (Qss (by omega)) rfl rfl rfl ?_
 simp+decide (disch:=first|exact D0|fail) only[go_sem,↓reduceIte]
 exact Qc rfl rfl
theorem Qpa{k:Nat}{a b:List Int}{o:Int}(ha:MB k a)(hb:MB k b)(hk:k<=1099511627776):Qe Tryz.prog 168 [PV.mono a,PV.mono b,.int .i64 o] (· = .int .i64 (Qa9 o a b)):=by
 have h1:=ha.len
 have h2:=hb.len
 have hda:∀x∈a,0<=x/\x<=1099511627776:=fun x hx=>by have:=ha.lo x hx;have:=ha.hi x hx;omega
 have hdb:∀x∈b,0<=x/\x<=1099511627776:=fun x hx=>by have:=hb.lo x hx;have:=hb.hi x hx;omega
 refine Qf Qj Tryz.func168 rfl Qakv (by simp[c168]) fun C hP=> ?_;simp only[c168,Zo,Zg,Zm,Zc,Zf,Zl,Zh,Zs,Zi,Zb,Zk,Zn,Zu,Zq,Zr,Zz]
 simp+decide (disch:=first|exact D0|fail) only[go_sem,↓reduceIte]
 refine Qb (fun ho=> ?_) (fun ho=> ?_)
 ·simp+decide (disch:=first|exact D0|fail) only[go_sem,↓reduceIte]
  refine Qa hP (Qkg (by omega) hda) rfl rfl rfl ?_
  simp+decide (disch:=first|exact D0|fail) only[go_sem,↓reduceIte]
  refine Qa hP (Qkg (by omega) hdb) rfl rfl rfl ?_
  simp+decide (disch:=first|exact D0|fail) only[go_sem,↓reduceIte]
  refine Qb (fun hd=> ?_) (fun hd=> ?_)
  ·have hord:Qa9 o a b=Qb1 (Qbu a) (Qbu b):=by unfold Qa9;rw[if_pos ⟨ho,hd⟩]
   simp+decide (disch:=first|exact D0|fail) only[go_sem,↓reduceIte]
   refine Qb (fun h5=> ?_) (fun h5=> ?_)
   ·simp+decide (disch:=first|exact D0|fail) only[go_sem,↓reduceIte]
    exact Qc (by rw[hord,Qb1,if_pos h5]) rfl
   ·simp+decide (disch:=first|exact D0|fail) only[go_sem,↓reduceIte]
    exact Qc (by rw[hord,Qb1,if_neg h5,if_pos (by omega)]) rfl
  have hord:Qa9 o a b=Qaj a b:=by unfold Qa9;rw[if_neg (fun h=>hd h.2)]
  simp+decide (disch:=first|exact D0|fail) only[go_sem,↓reduceIte]
  refine Qx (by repeat (first|exact Qt|exact Qm|exact Qn|exact Qo|exact Qp|apply Ql|apply Qr|apply Qy|apply Q3|apply Q4|apply Qi)) [(6,6),(9,11),(30,45)] [] (fun n J hp=>n<=max a.length b.length/\Qcl a b n=Qaj a b/\J 9= .int .i64 ((n:Int)-1)/\hp=hp0) (max a.length b.length) ?_ ?_
  ·refine⟨by omega,rfl,?_⟩
   simp+decide (disch:=first|exact D0|fail) only[go_sem,↓reduceIte]
  rintro n J _ ⟨hn,hc,h9,rfl⟩
  simp+decide (disch:=first|exact D1 h9|fail) only[go_sem,↓reduceIte,h9]
  refine Qb (fun hg=> ?_) (fun hg=> ?_)
  ·obtain _|n:=n
   ·omega
   have e:((n+1:Nat):Int)-1=n:=by omega
   rw[Qcl]at hc
   simp+decide (disch:=first|exact D2 h9 e|fail) only[go_sem,↓reduceIte,h9,e]
   refine Qa hP (Qj9 (by omega)) rfl rfl rfl ?_
   simp+decide (disch:=first|exact D2 h9 e|fail) only[go_sem,↓reduceIte,h9,e]
   refine Qa hP (Qj9 (by omega)) rfl rfl rfl ?_
   simp+decide (disch:=first|exact D2 h9 e|fail) only[go_sem,↓reduceIte,h9,e]
   refine Qb (fun h4=> ?_) (fun h4=> ?_)
   ·rw[if_neg h4]at hc
    simp+decide (disch:=first|exact D2 h9 e|fail) only[go_sem,↓reduceIte,h9,e]
    refine Qb (fun h5=> ?_) (fun h5=> ?_)
    ·simp+decide (disch:=first|exact D2 h9 e|fail) only[go_sem,↓reduceIte,h9,e]
     exact Qc (by rw[hord,<-hc,Qb1,if_pos h5]) rfl
    ·simp+decide (disch:=first|exact D2 h9 e|fail) only[go_sem,↓reduceIte,h9,e]
     exact Qc (by rw[hord,<-hc,Qb1,if_neg h5,if_pos (by omega)]) rfl
   ·rw[if_pos (by omega)]at hc
    simp+decide (disch:=first|exact D2 h9 e|fail) only[go_sem,↓reduceIte,h9,e]
    refine Qg n (by omega) ⟨by omega,hc,?_⟩
    simp+decide (disch:=first|exact D0|fail) only[go_sem,↓reduceIte]
  ·obtain rfl:n=0:=by omega
   simp+decide (disch:=first|exact D0|fail) only[go_sem,↓reduceIte]
   exact Qc (by rw[hord,<-hc];rfl) rfl
 ·have hord:Qa9 o a b=Qaj a b:=by unfold Qa9;rw[if_neg (fun h=>ho h.1)]
  simp+decide (disch:=first|exact D0|fail) only[go_sem,↓reduceIte]
  refine Qx (by repeat (first|exact Qt|exact Qm|exact Qn|exact Qo|exact Qp|apply Ql|apply Qr|apply Qy|apply Q3|apply Q4|apply Qi)) [(6,6),(9,11),(30,45)] [] (fun n J hp=>n<=max a.length b.length/\Qcl a b n=Qaj a b/\J 9= .int .i64 ((n:Int)-1)/\hp=hp0) (max a.length b.length) ?_ ?_
  ·refine⟨by omega,rfl,?_⟩
   simp+decide (disch:=first|exact D0|fail) only[go_sem,↓reduceIte]
  rintro n J _ ⟨hn,hc,h9,rfl⟩
  simp+decide (disch:=first|exact D1 h9|fail) only[go_sem,↓reduceIte,h9]
  refine Qb (fun hg=> ?_) (fun hg=> ?_)
  ·obtain _|n:=n
   ·omega
   have e:((n+1:Nat):Int)-1=n:=by omega
   rw[Qcl]at hc
   simp+decide (disch:=first|exact D2 h9 e|fail) only[go_sem,↓reduceIte,h9,e]
   refine Qa hP (Qj9 (by omega)) rfl rfl rfl ?_
   simp+decide (disch:=first|exact D2 h9 e|fail) only[go_sem,↓reduceIte,h9,e]
   refine Qa hP (Qj9 (by omega)) rfl rfl rfl ?_
   simp+decide (disch:=first|exact D2 h9 e|fail) only[go_sem,↓reduceIte,h9,e]
   refine Qb (fun h4=> ?_) (fun h4=> ?_)
   ·rw[if_neg h4]at hc
    simp+decide (disch:=first|exact D2 h9 e|fail) only[go_sem,↓reduceIte,h9,e]
    refine Qb (fun h5=> ?_) (fun h5=> ?_)
    ·simp+decide (disch:=first|exact D2 h9 e|fail) only[go_sem,↓reduceIte,h9,e]
     exact Qc (by rw[hord,<-hc,Qb1,if_pos h5]) rfl
    ·simp+decide (disch:=first|exact D2 h9 e|fail) only[go_sem,↓reduceIte,h9,e]
     exact Qc (by rw[hord,<-hc,Qb1,if_neg h5,if_pos (by omega)]) rfl
   ·rw[if_pos (by omega)]at hc
    simp+decide (disch:=first|exact D2 h9 e|fail) only[go_sem,↓reduceIte,h9,e]
    refine Qg n (by omega) ⟨by omega,hc,?_⟩
    simp+decide (disch:=first|exact D0|fail) only[go_sem,↓reduceIte]
  ·obtain rfl:n=0:=by omega
   simp+decide (disch:=first|exact D0|fail) only[go_sem,↓reduceIte]
   exact Qc (by rw[hord,<-hc];rfl) rfl
end Go.Proofs.YtonfajmchebkeaaGreat
namespace Go.Proofs.YtonfajmchebkeaaGreat
open Go Go.FW
set_option linter.unusedSimpArgs false
set_option linter.unusedVariables false
set_option maxRecDepth 100000
theorem Qlx(x:Int):Qe Tryz.prog 170 [.int .i64 x] (· = .int .i64 (sgn x)):=by
 refine Qf Qj Tryz.func170 rfl Qaj0 (by simp[c170]) fun C hP=> ?_;simp only[c170,Zo,Zg,Zm,Zc,Zf,Zl,Zh,Zs,Zi,Zb,Zk,Zn,Zu,Zq,Zr,Zz]
 simp+decide (disch:=first|exact D0|fail) only[go_sem,↓reduceIte]
 refine Qb (fun h=> ?_) (fun h=> ?_)
 ·simp+decide (disch:=first|exact D0|fail) only[go_sem,↓reduceIte]
  exact Qc (by rw[sgn,if_pos h]) rfl
 simp+decide (disch:=first|exact D0|fail) only[go_sem,↓reduceIte]
 refine Qb (fun h2=> ?_) (fun h2=> ?_)
 ·simp+decide (disch:=first|exact D0|fail) only[go_sem,↓reduceIte]
  exact Qc (by rw[sgn,if_neg h,if_pos h2]) rfl
 ·simp+decide (disch:=first|exact D0|fail) only[go_sem,↓reduceIte]
  exact Qc (by rw[sgn,if_neg h,if_neg h2]) rfl
theorem Q27{a:List Int}{v:Int}(hl:a.length<2^42):Qe Tryz.prog 171 [PV.mono a,.int .i64 v] (· = .int .i64 (if v<0 then 0 else eN a v.toNat)):=by
 refine Qf Qj Tryz.func171 rfl Qajy (by simp[c171]) fun C hP=> ?_;simp only[c171,Zo,Zg,Zm,Zc,Zf,Zl,Zh,Zs,Zi,Zb,Zk,Zn,Zu,Zq,Zr,Zz]
 simp+decide (disch:=first|exact D0|fail) only[go_sem,↓reduceIte]
 refine Qaa (fun h1=> ?_) (fun h1=> ?_)
 ·simp+decide (disch:=first|exact D0|fail) only[go_sem,↓reduceIte]
  exact Qc (by rw[if_pos h1]) rfl
 ·obtain⟨n,rfl⟩:∃n:Nat,v=n:=⟨v.toNat,by omega⟩
  rw[if_neg h1]
  simp+decide (disch:=first|exact D0|fail) only[go_sem,↓reduceIte]
  refine Qb (fun h2=> ?_) (fun h2=> ?_)
  ·simp+decide (disch:=first|exact D0|fail) only[go_sem,↓reduceIte]
   exact Qc (by rw[Qcz (by omega)]) rfl
  ·have hn:n<a.length:=by omega
   simp+decide (disch:=first|exact D0|fail) only[go_sem,↓reduceIte]
   exact Qc (by rw[Qch hn]) rfl
theorem Qb5{a:List Int}{i:Nat}(hl:a.length<2^42):Qe Tryz.prog 171 [PV.mono a,.int .i64 i] (· = .int .i64 (eN a i)):=by
 have:=Q27 (v:=i) hl
 rwa[if_neg (by omega),Int.toNat_natCast]at this
theorem Qg7{a:List Int}(hl:a.length<=1048576)(hb:∀x∈a,0<=x/\x<=1099511627776):Qe Tryz.prog 169 [PV.mono a] (· = .int .i64 (Qbu a)):=by
 refine Qf Qj Tryz.func169 rfl Qajx (by simp[c169]) fun C hP=> ?_;simp only[c169,Zo,Zg,Zm,Zc,Zf,Zl,Zh,Zs,Zi,Zb,Zk,Zn,Zu,Zq,Zr,Zz]
 simp+decide (disch:=first|exact D0|fail) only[go_sem,↓reduceIte]
 refine Qx (by repeat (first|exact Qt|exact Qm|exact Qn|exact Qo|exact Qp|apply Ql|apply Qr|apply Qy|apply Q3|apply Q4|apply Qi|apply Qw)) [(3,16)] [] (fun k J hp=>∃(i:Nat)(s:Int),k=a.length-i/\i<=a.length/\0<=s/\s<=1099511627776*i/\s+(a.drop i).sum=Qbu a/\J 4= .int .i64 (i:Nat)/\J 3= .int .i64 s/\hp=hp0) a.length ?_ ?_
 ·refine⟨0,0,rfl,by omega,by omega,by omega,by simp[Qbu],?_⟩
  simp+decide (disch:=first|exact D0|fail) only[go_sem,↓reduceIte]
  simp
 rintro _ J _ ⟨i,s,rfl,hi,hs0,hs1,hsum,h4,h3,rfl⟩
 simp+decide (disch:=first|exact D2 h4 h3|fail) only[go_sem,↓reduceIte,h4,h3]
 refine Qb (fun hg=> ?_) (fun hg=> ?_)
 ·have hi':i<a.length:=by omega
  have hx:=hb _ (List.getElem_mem hi')
  rw[List.drop_eq_getElem_cons hi',List.sum_cons]at hsum
  generalize hxx:a[i]=x at *
  simp+decide (disch:=first|exact D3 h4 h3 hxx|fail) only[go_sem,↓reduceIte,h4,h3,hxx]
  refine Qg (a.length-(i+1)) (by omega) ⟨i+1,s+x,rfl,by omega,by omega,by push_cast;omega,by omega,?_⟩
  simp+decide (disch:=first|exact D0|fail) only[go_sem,↓reduceIte]
 ·rw[List.drop_of_length_le (by omega),List.sum_nil,Int.add_zero]at hsum
  simp+decide (disch:=first|exact D1 h3|fail) only[go_sem,↓reduceIte,h3]
  exact Qc (by rw[hsum]) rfl
theorem Qst{l:List Int}(hl:l.length<2^42):Qe Tryz.prog 244 [PV.mono l] (· =PV.mono (Qdb l)):=by
 refine Qf Qj Tryz.func244 rfl Qajv (by simp[c244]) fun C hP=> ?_;simp only[c244,Zo,Zg,Zm,Zc,Zf,Zl,Zh,Zs,Zi,Zb,Zk,Zn,Zu,Zq,Zr,Zz]
 simp+decide (disch:=first|exact D0|fail) only[go_sem,↓reduceIte]
 refine Qx (by repeat (first|exact Qt|exact Qm|exact Qn|exact Qo|exact Qp|apply Ql|apply Qr|apply Qy|apply Q3|apply Q4|apply Qi|apply Qw)) [(3,3),(7,18)] [] (fun m J hp=>m<=l.length/\Qhj l m=Qdb l/\J 3= .int .i64 m/\hp=hp0) l.length ?_ ?_
 ·refine⟨Nat.le_refl _,rfl,?_⟩
  simp+decide (disch:=first|exact D0|fail) only[go_sem,↓reduceIte]
 rintro n J _ ⟨hn,hc,h3,rfl⟩
 simp+decide (disch:=first|exact D1 h3|fail) only[go_sem,↓reduceIte,h3]
 refine Q8 (fun hg=> ?_) (fun hg=> ?_)
 ·obtain _|n:=n
  ·omega
  have e:((n+1:Nat):Int)-1=n:=by omega
  simp only[Qhj]at hc
  simp+decide (disch:=first|exact D2 h3 e|fail) only[go_sem,↓reduceIte,h3,e]
  refine Qb (fun hz=> ?_) (fun hz=> ?_)
  ·rw[if_pos (by simp[hz,show n<l.length by omega])]at hc
   simp+decide (disch:=first|exact D2 h3 e|fail) only[go_sem,↓reduceIte,h3,e]
   refine Qg n (by omega) ⟨by omega,hc,?_⟩
   simp+decide (disch:=first|exact D0|fail) only[go_sem,↓reduceIte]
  ·rw[if_neg (by simpa[show n<l.length by omega]using hz)]at hc
   have hlt:(l.take (n+1)).length<2^42:=by rw[List.length_take];omega
   simp+decide (disch:=first|exact E2 h3 e|fail) only[go_sem,↓reduceIte,h3,e,Q7,List.contains_cons,List.contains_nil,List.flatMap_cons,List.flatMap_nil,List.append_nil]
   exact Qc (by rw[List.take_of_length_le (by simp),hc]) rfl
 ·obtain rfl:n=0:=by omega
  simp+decide (disch:=first|omega|rfl|(simp+decide only[go_sem,↓reduceIte,h3,List.take_zero,List.map_nil,List.length_nil]<;>rfl)|fail) only[go_sem,↓reduceIte,h3,List.take_zero,List.map_nil,List.length_nil]
  rw[Qkq (ys:=[]) rfl (by omega) (by simp) (by simp)]
  simp+decide (disch:=first|exact E0|fail) only[go_sem,↓reduceIte,Q7,List.contains_cons,List.contains_nil,List.flatMap_cons,List.flatMap_nil,List.append_nil]
  exact Qc (by rw[<-hc];rfl) rfl
theorem Qpt{a:List Int}(hl:a.length<2^42):Qe Tryz.prog 90 [PV.mono a] (· = .bool (Qcw a)):=by
 refine Qf Qj Tryz.func90 rfl Qan1 (by simp[c90]) fun C hP=> ?_;simp only[c90,Zo,Zg,Zm,Zc,Zf,Zl,Zh,Zs,Zi,Zb,Zk,Zn,Zu,Zq,Zr,Zz]
 simp+decide (disch:=first|exact D0|fail) only[go_sem,↓reduceIte]
 have bad:(64<a.length∨a.getLast? =some 0∨∃x∈a,x<0∨1048576<x)->Qcw a=false:=fun h=>by
  cases hb:Qcw a with
  |false=>rfl
  |true=>
   have:=MB.ofOk hb
   simp only[Qcw,Bool.and_eq_true,decide_eq_true_eq]at hb
   rcases h with h|h|⟨x,hx,h⟩
   ·omega
   ·exact absurd h hb.2.1
   ·have h5:=this.lo x hx;have h6:=this.hi x hx;omega
 refine Qaa (fun h1=> ?_) (fun h1=> ?_)
 ·simp+decide (disch:=first|exact D0|fail) only[go_sem,↓reduceIte]
  exact Qc (by rw[bad (.inl (by omega))]) rfl
 simp+decide (disch:=first|exact D0|fail) only[go_sem,↓reduceIte]
 have fin:a.length<=64->a.getLast? ≠some 0->(∀x∈a,0<=x/\x<=1048576)->Qcw a=true:=fun h1 h2 h3=>by
  simp only[Qcw,Bool.and_eq_true,decide_eq_true_eq,List.all_eq_true];exact⟨h1,h2,h3⟩
 refine Q8 (fun h2=> ?_) (fun h2=> ?_)
 ·obtain⟨k,hk⟩:∃k,a.length=k+1:=⟨a.length-1,by omega⟩
  have hlast:=Q0s hk
  have e:((k+1:Nat):Int)-1=k:=by omega
  generalize hy:a[k]'(by omega)=y at *
  simp+decide (disch:=first|exact D3 hk e hy|fail) only[go_sem,↓reduceIte,hk,e,hy]
  refine Qb (fun h3=> ?_) (fun h3=> ?_)
  ·simp+decide (disch:=first|exact D0|fail) only[go_sem,↓reduceIte]
   exact Qc (by rw[bad (.inr (.inl (by rw[hlast,h3])))]) rfl
  have hlast:a.getLast? ≠some 0:=by rw[hlast];simpa using h3
  rw[<-hk]at *
  simp+decide (disch:=first|exact D0|fail) only[go_sem,↓reduceIte]
  refine Qx (by repeat (first|exact Qt|exact Qm|exact Qn|exact Qo|exact Qp|apply Ql|apply Qr|apply Qy|apply Q3|apply Q4|apply Qi|apply Qw)) [(2,3),(21,38)] [] (fun k J hp=>∃i,k=a.length-i/\i<=a.length/\(∀x∈a.take i,0<=x/\x<=1048576)/\J 3= .int .i64 i/\hp=hp0) a.length ?_ ?_
  ·refine⟨0,rfl,by omega,by simp,?_⟩
   simp+decide (disch:=first|exact D0|fail) only[go_sem,↓reduceIte]
   rfl
  rintro _ J _ ⟨i,rfl,hi,hall,hj,rfl⟩
  simp+decide (disch:=first|exact D1 hj|fail) only[go_sem,↓reduceIte,hj]
  refine Qb (fun hg=> ?_) (fun hg=> ?_)
  ·have hi':i<a.length:=by omega
   have hmem:=List.getElem_mem hi'
   have htk:∀x∈a.take (i+1),x∈a.take i∨x=a[i]:=fun x hx=>by
    rw[List.take_succ_eq_append_getElem hi']at hx
    rcases List.mem_append.1 hx with h|h
    ·exact .inl h
    ·exact .inr (List.mem_singleton.1 h)
   generalize hx:a[i]=x at *
   simp+decide (disch:=first|exact D2 hj hx|fail) only[go_sem,↓reduceIte,hj,hx]
   refine Qaa (fun h5=> ?_) (fun h5=> ?_)
   ·simp+decide (disch:=first|exact D0|fail) only[go_sem,↓reduceIte]
    exact Qc (by rw[bad (.inr (.inr ⟨x,hmem,.inl h5⟩))]) rfl
   ·simp+decide (disch:=first|exact D2 hj hx|fail) only[go_sem,↓reduceIte,hj,hx]
    refine Qb (fun h6=> ?_) (fun h6=> ?_)
    ·simp+decide (disch:=first|exact D0|fail) only[go_sem,↓reduceIte]
     exact Qc (by rw[bad (.inr (.inr ⟨x,hmem,.inr h6⟩))]) rfl
    ·simp+decide (disch:=first|exact D1 hj|fail) only[go_sem,↓reduceIte,hj]
     refine Qg (a.length-(i+1)) (by omega) ⟨i+1,rfl,by omega,fun y hy=> ?_,?_⟩
     ·rcases htk y hy with h|rfl
      ·exact hall y h
      ·omega
     ·simp+decide (disch:=first|exact D0|fail) only[go_sem,↓reduceIte]
  ·rw[List.take_of_length_le (by omega)]at hall
   simp+decide (disch:=first|exact D0|fail) only[go_sem,↓reduceIte]
   exact Qc (by rw[fin (by omega) hlast hall]) rfl
 ·have hnil:a=[]:=List.length_eq_zero_iff.1 (by omega)
  have hlast:a.getLast? ≠some 0:=by rw[hnil];simp
  simp+decide (disch:=first|exact D0|fail) only[go_sem,↓reduceIte]
  refine Qx (by repeat (first|exact Qt|exact Qm|exact Qn|exact Qo|exact Qp|apply Ql|apply Qr|apply Qy|apply Q3|apply Q4|apply Qi|apply Qw)) [(2,3),(21,38)] [] (fun k J hp=>∃i,k=a.length-i/\i<=a.length/\(∀x∈a.take i,0<=x/\x<=1048576)/\J 3= .int .i64 i/\hp=hp0) a.length ?_ ?_
  ·refine⟨0,rfl,by omega,by simp,?_⟩
   simp+decide (disch:=first|exact D0|fail) only[go_sem,↓reduceIte]
   rfl
  rintro _ J _ ⟨i,rfl,hi,hall,hj,rfl⟩
  simp+decide (disch:=first|exact D1 hj|fail) only[go_sem,↓reduceIte,hj]
  refine Qb (fun hg=> ?_) (fun hg=> ?_)
  ·have hi':i<a.length:=by omega
   have hmem:=List.getElem_mem hi'
   have htk:∀x∈a.take (i+1),x∈a.take i∨x=a[i]:=fun x hx=>by
    rw[List.take_succ_eq_append_getElem hi']at hx
    rcases List.mem_append.1 hx with h|h
    ·exact .inl h
    ·exact .inr (List.mem_singleton.1 h)
   generalize hx:a[i]=x at *
   simp+decide (disch:=first|exact D2 hj hx|fail) only[go_sem,↓reduceIte,hj,hx]
   refine Qaa (fun h5=> ?_) (fun h5=> ?_)
   ·simp+decide (disch:=first|exact D0|fail) only[go_sem,↓reduceIte]
    exact Qc (by rw[bad (.inr (.inr ⟨x,hmem,.inl h5⟩))]) rfl
   ·simp+decide (disch:=first|exact D2 hj hx|fail) only[go_sem,↓reduceIte,hj,hx]
    refine Qb (fun h6=> ?_) (fun h6=> ?_)
    ·simp+decide (disch:=first|exact D0|fail) only[go_sem,↓reduceIte]
     exact Qc (by rw[bad (.inr (.inr ⟨x,hmem,.inr h6⟩))]) rfl
    ·simp+decide (disch:=first|exact D1 hj|fail) only[go_sem,↓reduceIte,hj]
     refine Qg (a.length-(i+1)) (by omega) ⟨i+1,rfl,by omega,fun y hy=> ?_,?_⟩
     ·rcases htk y hy with h|rfl
      ·exact hall y h
      ·omega
     ·simp+decide (disch:=first|exact D0|fail) only[go_sem,↓reduceIte]
  ·rw[List.take_of_length_le (by omega)]at hall
   simp+decide (disch:=first|exact D0|fail) only[go_sem,↓reduceIte]
   exact Qc (by rw[fin (by omega) hlast hall]) rfl
theorem Q1l{a:List Int}(hl:a.length<2^42):Qe Tryz.prog 246 [PV.mono a] (· =PV.mono (if Qcw (Qdb a)then Qdb a else [])):=by
 have ht:=Qek a
 refine Qf Qj Tryz.func246 rfl Qajw (by simp[c246]) fun C hP=> ?_;simp only[c246,Zo,Zg,Zm,Zc,Zf,Zl,Zh,Zs,Zi,Zb,Zk,Zn,Zu,Zq,Zr,Zz]
 simp+decide (disch:=first|exact D0|fail) only[go_sem,↓reduceIte]
 refine Qa hP (Qst hl) rfl rfl rfl ?_
 simp+decide (disch:=first|exact D0|fail) only[go_sem,↓reduceIte]
 refine Qa hP (Qpt (by omega)) rfl rfl rfl ?_
 simp+decide (disch:=first|exact D0|fail) only[go_sem,↓reduceIte]
 cases hok:Qcw (Qdb a)
 ·simp+decide (disch:=first|omega|rfl|(simp+decide only[go_sem,↓reduceIte,Bool.not_false]<;>rfl)|fail) only[go_sem,↓reduceIte,Bool.not_false]
  exact Qef (Qxs (by simp)) rfl
 ·have:(Qdb a).length<=64:=(MB.ofOk hok).len
  simp+decide (disch:=first|omega|rfl|(simp+decide only[go_sem,↓reduceIte,Bool.not_true,Q7,List.contains_cons,List.contains_nil,List.flatMap_cons,List.flatMap_nil,List.append_nil]<;>rfl)|fail) only[go_sem,↓reduceIte,Bool.not_true,Q7,List.contains_cons,List.contains_nil,List.flatMap_cons,List.flatMap_nil,List.append_nil]
  exact Qc (by simp[List.take_of_length_le]) rfl
end Go.Proofs.YtonfajmchebkeaaGreat
namespace Go.Proofs.YtonfajmchebkeaaGreat
open Go Go.FW
set_option linter.unusedSimpArgs false
set_option linter.unusedVariables false
set_option maxRecDepth 100000
end Go.Proofs.YtonfajmchebkeaaGreat
namespace Go.Proofs.YtonfajmchebkeaaGreat
open Go Go.FW
set_option linter.unusedSimpArgs false
set_option linter.unusedVariables false
set_option maxRecDepth 100000
theorem Q28{k:Nat}{a b:List Int}(ha:MB k a)(hb:MB k b)(hk:k<=1099511627776):Qe Tryz.prog 163 [PV.mono a,PV.mono b] (· =PV.mono (Qew (· + ·) a b)):=by
 have h1:=ha.len
 have h2:=hb.len
 have hz:=Qbj (· + ·) a b
 refine Qf Qj Tryz.func163 rfl Qajz (by simp[c163]) fun C hP=> ?_;simp only[c163,Zo,Zg,Zm,Zc,Zf,Zl,Zh,Zs,Zi,Zb,Zk,Zn,Zu,Zq,Zr,Zz]
 simp+decide (disch:=first|exact D0|fail) only[go_sem,↓reduceIte]
 refine Qf7 5 900 1 3 (by omega) T0 ?_
 refine Qx (by repeat (first|exact Qt|exact Qm|exact Qn|exact Qo|exact Qp|apply Ql|apply Qr|apply Qy|apply Q3|apply Q4|apply Qi|apply Qw)) [(5,28)] [27,28,900] (fun m J hp=>∃(i:Nat)(out:List Int),m=max a.length b.length-i/\i<=max a.length b.length/\out=(Qew (· + ·) a b).take i/\J 5= .ms 900 out.length/\J 6= .int .i64 i/\hp 900=some ⟨1,3,Qei out,false⟩) (max a.length b.length) ?_ ?_
 ·refine⟨0,[],rfl,by omega,by simp,?_⟩
  simp+decide (disch:=first|exact D0|fail) only[go_sem,↓reduceIte]
  simp
 rintro _ J h ⟨i,out,rfl,hi,hout,h5,h6,hh⟩
 have hol:out.length=i:=by rw[hout,List.length_take,hz];omega
 simp+decide (disch:=first|exact D2 h5 h6|fail) only[go_sem,↓reduceIte,h5,h6]
 refine Qaa (fun hg=> ?_) (fun hg=> ?_)
 ·have hlt:i<max a.length b.length:=by omega
  have htk:=Qqg (g:=(· + ·)) hlt
  have ea:=ha.eN i
  have eb:=hb.eN i
  simp+decide (disch:=first|exact D2 h5 h6|fail) only[go_sem,↓reduceIte,h5,h6]
  refine Qa hP (Qb5 (a:=a) (i:=i) (by omega)) rfl rfl rfl ?_
  simp+decide (disch:=first|exact D2 h5 h6|fail) only[go_sem,↓reduceIte,h5,h6]
  refine Qa hP (Qb5 (a:=b) (i:=i) (by omega)) rfl rfl rfl ?_
  simp+decide (disch:=first|exact D2 h5 h6|fail) only[go_sem,↓reduceIte,h5,h6]
  rw[Qal (f:=fun(x:Int)=> .int .i64 x) (y:=eN a i+eN b i) (xs:=out) (ty':=3) (fz:=false) (T1 hh) Tr0 (by omega) rfl (by omega) (by omega)]
  simp+decide (disch:=first|exact D2 h5 h6|fail) only[go_sem,↓reduceIte,h5,h6]
  refine Qg (max a.length b.length-(i+1)) (by omega) ⟨i+1,out++[eN a i+eN b i],rfl,by omega,by rw[htk,hout],?_⟩
  simp+decide (disch:=first|exact D0|fail) only[go_sem,↓reduceIte]
  simp
 simp+decide (disch:=first|exact D2 h5 h6|fail) only[go_sem,↓reduceIte,h5,h6]
 refine Qb (fun hg2=> ?_) (fun hg2=> ?_)
 ·have hlt:i<max a.length b.length:=by omega
  have htk:=Qqg (g:=(· + ·)) hlt
  have ea:=ha.eN i
  have eb:=hb.eN i
  simp+decide (disch:=first|exact D2 h5 h6|fail) only[go_sem,↓reduceIte,h5,h6]
  refine Qa hP (Qb5 (a:=a) (i:=i) (by omega)) rfl rfl rfl ?_
  simp+decide (disch:=first|exact D2 h5 h6|fail) only[go_sem,↓reduceIte,h5,h6]
  refine Qa hP (Qb5 (a:=b) (i:=i) (by omega)) rfl rfl rfl ?_
  simp+decide (disch:=first|exact D2 h5 h6|fail) only[go_sem,↓reduceIte,h5,h6]
  rw[Qal (f:=fun(x:Int)=> .int .i64 x) (y:=eN a i+eN b i) (xs:=out) (ty':=3) (fz:=false) (T1 hh) Tr0 (by omega) rfl (by omega) (by omega)]
  simp+decide (disch:=first|exact D2 h5 h6|fail) only[go_sem,↓reduceIte,h5,h6]
  refine Qg (max a.length b.length-(i+1)) (by omega) ⟨i+1,out++[eN a i+eN b i],rfl,by omega,by rw[htk,hout],?_⟩
  simp+decide (disch:=first|exact D0|fail) only[go_sem,↓reduceIte]
  simp
 obtain rfl:i=max a.length b.length:=by omega
 rw[List.take_of_length_le (by omega)]at hout
 subst hout
 simp+decide (disch:=first|exact E2 h5 hh|fail) only[go_sem,↓reduceIte,h5,hh,Q7,List.contains_cons,List.contains_nil,List.flatMap_cons,List.flatMap_nil,List.append_nil]
 exact Qc (by rw[List.take_of_length_le (by simp)]) rfl
end Go.Proofs.YtonfajmchebkeaaGreat
namespace Go.Proofs.YtonfajmchebkeaaGreat
open Go Go.FW
set_option linter.unusedSimpArgs false
set_option linter.unusedVariables false
set_option maxRecDepth 100000
theorem Qtt(x y:Int):sgn (x-y)=Qb1 x y:=by unfold sgn Qb1;(repeat' split)<;>omega
theorem Q29{k:Nat}{a b:List Int}{o:Int}(ha:MB k a)(hb:MB k b)(hk:k<=1099511627776):Qe Tryz.prog 91 [PV.mono a,PV.mono b,.int .i64 o] (· = .int .i64 (Qa9 o a b)):=by
 have h1:=ha.len
 have h2:=hb.len
 have hda:∀x∈a,0<=x/\x<=1099511627776:=fun x hx=>by have:=ha.lo x hx;have:=ha.hi x hx;omega
 have hdb:∀x∈b,0<=x/\x<=1099511627776:=fun x hx=>by have:=hb.lo x hx;have:=hb.hi x hx;omega
 have da:=Qrq ha
 have db:=Qrq hb
 refine Qf Qj Tryz.func91 rfl Qan2 (by simp[c91]) fun C hP=> ?_;simp only[c91,Zo,Zg,Zm,Zc,Zf,Zl,Zh,Zs,Zi,Zb,Zk,Zn,Zu,Zq,Zr,Zz]
 simp+decide (disch:=first|exact D0|fail) only[go_sem,↓reduceIte]
 refine Q8 (fun ho=> ?_) (fun ho=> ?_)
 ·simp+decide (disch:=first|exact D0|fail) only[go_sem,↓reduceIte]
  refine Qa hP (Qg7 (by omega) hda) rfl rfl rfl ?_
  simp+decide (disch:=first|exact D0|fail) only[go_sem,↓reduceIte]
  refine Qa hP (Qg7 (by omega) hdb) rfl rfl rfl ?_
  simp+decide (disch:=first|exact D0|fail) only[go_sem,↓reduceIte]
  refine Qb (fun hd=> ?_) (fun hd=> ?_)
  ·have hord:Qa9 o a b=Qb1 (Qbu a) (Qbu b):=by unfold Qa9;rw[if_pos ⟨ho,hd⟩]
   simp+decide (disch:=first|exact D0|fail) only[go_sem,↓reduceIte]
   refine Qa hP (Qg7 (by omega) hda) rfl rfl rfl ?_
   simp+decide (disch:=first|exact D0|fail) only[go_sem,↓reduceIte]
   refine Qa hP (Qg7 (by omega) hdb) rfl rfl rfl ?_
   simp+decide (disch:=first|exact D0|fail) only[go_sem,↓reduceIte]
   refine Qa hP (Qlx _) rfl rfl rfl ?_
   simp+decide (disch:=first|exact D0|fail) only[go_sem,↓reduceIte]
   exact Qc (by rw[hord,Qtt]) rfl
  have hord:Qa9 o a b=Qaj a b:=by unfold Qa9;rw[if_neg (fun h=>hd h.2)]
  simp+decide (disch:=first|exact D0|fail) only[go_sem,↓reduceIte]
  refine Qx (by repeat (first|exact Qt|exact Qm|exact Qn|exact Qo|exact Qp|apply Ql|apply Qr|apply Qy|apply Q3|apply Q4|apply Qi|apply Qw)) [(6,7),(29,47)] [] (fun n J hp=>n<=max a.length b.length/\Qcl a b n=Qaj a b/\J 7= .int .i64 ((n:Int)-1)/\hp=hp0) (max a.length b.length) ?_ ?_
  ·refine⟨by omega,rfl,?_⟩
   simp+decide (disch:=first|exact D0|fail) only[go_sem,↓reduceIte]
  rintro n J _ ⟨hn,hc,h7,rfl⟩
  simp+decide (disch:=first|exact D1 h7|fail) only[go_sem,↓reduceIte,h7]
  refine Qb (fun hg=> ?_) (fun hg=> ?_)
  ·obtain _|n:=n
   ·omega
   have e:((n+1:Nat):Int)-1=n:=by omega
   have ea:=ha.eN n
   have eb:=hb.eN n
   rw[Qcl]at hc
   simp+decide (disch:=first|exact D2 h7 e|fail) only[go_sem,↓reduceIte,h7,e]
   refine Qa hP (Qb5 (by omega)) rfl rfl rfl ?_
   simp+decide (disch:=first|exact D2 h7 e|fail) only[go_sem,↓reduceIte,h7,e]
   refine Qa hP (Qb5 (by omega)) rfl rfl rfl ?_
   simp+decide (disch:=first|exact D2 h7 e|fail) only[go_sem,↓reduceIte,h7,e]
   refine Qb (fun h4=> ?_) (fun h4=> ?_)
   ·rw[if_neg h4]at hc
    simp+decide (disch:=first|exact D2 h7 e|fail) only[go_sem,↓reduceIte,h7,e]
    refine Qa hP (Qb5 (by omega)) rfl rfl rfl ?_
    simp+decide (disch:=first|exact D2 h7 e|fail) only[go_sem,↓reduceIte,h7,e]
    refine Qa hP (Qb5 (by omega)) rfl rfl rfl ?_
    simp+decide (disch:=first|exact D2 h7 e|fail) only[go_sem,↓reduceIte,h7,e]
    refine Qa hP (Qlx _) rfl rfl rfl ?_
    simp+decide (disch:=first|exact D2 h7 e|fail) only[go_sem,↓reduceIte,h7,e]
    exact Qc (by rw[hord,<-hc,Qtt]) rfl
   ·rw[if_pos (by omega)]at hc
    simp+decide (disch:=first|exact D2 h7 e|fail) only[go_sem,↓reduceIte,h7,e]
    refine Qg n (by omega) ⟨by omega,hc,?_⟩
    simp+decide (disch:=first|exact D0|fail) only[go_sem,↓reduceIte]
  ·obtain rfl:n=0:=by omega
   simp+decide (disch:=first|exact D0|fail) only[go_sem,↓reduceIte]
   exact Qc (by rw[hord,<-hc];rfl) rfl
 ·have hord:Qa9 o a b=Qaj a b:=by unfold Qa9;rw[if_neg (fun h=>ho h.1)]
  simp+decide (disch:=first|exact D0|fail) only[go_sem,↓reduceIte]
  refine Qx (by repeat (first|exact Qt|exact Qm|exact Qn|exact Qo|exact Qp|apply Ql|apply Qr|apply Qy|apply Q3|apply Q4|apply Qi|apply Qw)) [(6,7),(29,47)] [] (fun n J hp=>n<=max a.length b.length/\Qcl a b n=Qaj a b/\J 7= .int .i64 ((n:Int)-1)/\hp=hp0) (max a.length b.length) ?_ ?_
  ·refine⟨by omega,rfl,?_⟩
   simp+decide (disch:=first|exact D0|fail) only[go_sem,↓reduceIte]
  rintro n J _ ⟨hn,hc,h7,rfl⟩
  simp+decide (disch:=first|exact D1 h7|fail) only[go_sem,↓reduceIte,h7]
  refine Qb (fun hg=> ?_) (fun hg=> ?_)
  ·obtain _|n:=n
   ·omega
   have e:((n+1:Nat):Int)-1=n:=by omega
   have ea:=ha.eN n
   have eb:=hb.eN n
   rw[Qcl]at hc
   simp+decide (disch:=first|exact D2 h7 e|fail) only[go_sem,↓reduceIte,h7,e]
   refine Qa hP (Qb5 (by omega)) rfl rfl rfl ?_
   simp+decide (disch:=first|exact D2 h7 e|fail) only[go_sem,↓reduceIte,h7,e]
   refine Qa hP (Qb5 (by omega)) rfl rfl rfl ?_
   simp+decide (disch:=first|exact D2 h7 e|fail) only[go_sem,↓reduceIte,h7,e]
   refine Qb (fun h4=> ?_) (fun h4=> ?_)
   ·rw[if_neg h4]at hc
    simp+decide (disch:=first|exact D2 h7 e|fail) only[go_sem,↓reduceIte,h7,e]
    refine Qa hP (Qb5 (by omega)) rfl rfl rfl ?_
    simp+decide (disch:=first|exact D2 h7 e|fail) only[go_sem,↓reduceIte,h7,e]
    refine Qa hP (Qb5 (by omega)) rfl rfl rfl ?_
    simp+decide (disch:=first|exact D2 h7 e|fail) only[go_sem,↓reduceIte,h7,e]
    refine Qa hP (Qlx _) rfl rfl rfl ?_
    simp+decide (disch:=first|exact D2 h7 e|fail) only[go_sem,↓reduceIte,h7,e]
    exact Qc (by rw[hord,<-hc,Qtt]) rfl
   ·rw[if_pos (by omega)]at hc
    simp+decide (disch:=first|exact D2 h7 e|fail) only[go_sem,↓reduceIte,h7,e]
    refine Qg n (by omega) ⟨by omega,hc,?_⟩
    simp+decide (disch:=first|exact D0|fail) only[go_sem,↓reduceIte]
  ·obtain rfl:n=0:=by omega
   simp+decide (disch:=first|exact D0|fail) only[go_sem,↓reduceIte]
   exact Qc (by rw[hord,<-hc];rfl) rfl
end Go.Proofs.YtonfajmchebkeaaGreat
namespace Go.Proofs.YtonfajmchebkeaaGreat
open Go Go.FW
set_option linter.unusedSimpArgs false
set_option linter.unusedVariables false
set_option maxRecDepth 100000
theorem Q1m{a b:Rat}{k:Nat}(ha:rs a<=k)(hb:rs b<=k)(hk:k<2^34):Qe Tryz.prog 71 [PV.rat a,PV.rat b] (· =PV.rat (a+b)):=by
 have:=Qsr (Qci ha) (Qci hb) hk
 rwa[Qcr,Qcr]at this
theorem Qly{a b:Rat}{k:Nat}(ha:rs a<=k)(hb:rs b<=k)(hk:k<2^34):Qe Tryz.prog 69 [PV.rat a,PV.rat b] (· =PV.rat (a*b)):=by
 have:=Q24 (Qci ha) (Qci hb) hk
 rwa[Qcr,Qcr]at this
theorem Qafh{a b:Rat}{k:Nat}(ha:rs a<=k)(hb:rs b<=k)(hk:k<2^34):Qe Tryz.prog 72 [PV.rat a,PV.rat b] (· = .int .i64 (Qi6 a b)):=by
 have:=Q25 (Qci ha) (Qci hb) hk
 rwa[Qcr,Qcr]at this
theorem Qka{a:Rat}(ha:rs a<2^36):Qe Tryz.prog 85 [PV.rat a] (· = .int .i64 (Qd5 a)):=by
 have:=Qiu (Qci (Nat.le_refl (rs a))) ha
 rwa[Qcr]at this
theorem Qqq{k:Nat}{a b:List Int}(ha:MB k a)(hb:MB k b)(hk:k<=1099511627776):Qe Tryz.prog 91 [PV.mono a,PV.mono b,.int .i64 0] (· = .int .i64 (Qaj a b)):=by
 have:=Q29 (o:=0) ha hb hk
 rwa[Qqh]at this
theorem Q3a{p q:List Tm}{K E:Nat}(hp:PB K E p)(hq:PB K E q)(hK:K<=2^33)(hE:E<=2^38)(hlp:p.length<=2^36)(hlq:q.length<=2^36):
  Qe Tryz.prog 63 [PV.poly p,PV.poly q] (· = .int .i64 (Qfj p q)):=by
 refine Qf Qj Tryz.func63 rfl Qanu (by simp[c63]) fun C hP=> ?_;simp only[c63,Zo,Zg,Zm,Zc,Zf,Zl,Zh,Zs,Zi,Zb,Zk,Zn,Zu,Zq,Zr,Zz]
 simp+decide (disch:=first|exact D0|fail) only[go_sem,↓reduceIte]
 refine Qx (by repeat (first|exact Qt|exact Qm|exact Qn|exact Qo|exact Qp|apply Ql|apply Qr|apply Qy|apply Q3|apply Q4|apply Qi|apply Qw)) [(4,47)] [] (fun n J hp=>∃i,n=p.length-i/\i<=p.length/\i<=q.length/\Qfj (p.drop i) (q.drop i)=Qfj p q/\J 5= .int .i64 (i:Nat)) p.length ?_ ?_
 ·refine⟨0,rfl,by omega,by omega,rfl,?_⟩
  simp+decide (disch:=first|exact D0|fail) only[go_sem,↓reduceIte]
  rfl
 rintro _ J h ⟨i,rfl,hi,hi2,hpc,h5⟩
 simp+decide (disch:=first|exact D1 h5|fail) only[go_sem,↓reduceIte,h5]
 refine Q8 (fun hg=> ?_) (fun hg=> ?_)
 ·have hi':i<p.length:=by omega
  simp+decide (disch:=first|exact D1 h5|fail) only[go_sem,↓reduceIte,h5]
  refine Qb (fun hk=> ?_) (fun hk=> ?_)
  ·have hk':i<q.length:=by omega
   have htp:=hp.get hi'
   have htq:=hq.get hk'
   have c1:=htp.c
   have c2:=htq.c
   rw[Qxu hi' hk']at hpc
   generalize hx:p[i]=x at *
   generalize hy:q[i]=y at *
   simp+decide (disch:=first|exact D3 h5 hx hy|fail) only[go_sem,↓reduceIte,h5,hx,hy]
   refine Qa hP (Qqq htp.m htq.m (by omega)) rfl rfl rfl ?_
   simp+decide (disch:=first|exact D3 h5 hx hy|fail) only[go_sem,↓reduceIte,h5,hx,hy]
   refine Qb (fun hc=> ?_) (fun hc=> ?_)
   ·simp+decide (disch:=first|exact D0|fail) only[go_sem,↓reduceIte]
    exact Qc (by rw[<-hpc,if_pos (by rw[Qio,if_pos hc];exact hc),Qio,if_pos hc]) rfl
   ·simp+decide (disch:=first|exact D3 h5 hx hy|fail) only[go_sem,↓reduceIte,h5,hx,hy]
    refine Qa hP (Qafh (a:=x.1) (b:=y.1) (k:=2^33) (by omega) (by omega) (by omega)) rfl rfl rfl ?_
    simp+decide (disch:=first|exact D3 h5 hx hy|fail) only[go_sem,↓reduceIte,h5,hx,hy]
    refine Qb (fun hc2=> ?_) (fun hc2=> ?_)
    ·simp+decide (disch:=first|exact D0|fail) only[go_sem,↓reduceIte]
     exact Qc (by rw[<-hpc,if_pos (by rw[Qio,if_neg hc];exact hc2),Qio,if_neg hc]) rfl
    ·rw[if_neg (by rw[Qio,if_neg hc];exact hc2)]at hpc
     simp+decide (disch:=first|exact D1 h5|fail) only[go_sem,↓reduceIte,h5]
     refine Qg (p.length-(i+1)) (by omega) ⟨i+1,rfl,by omega,by omega,hpc,?_⟩
     simp+decide (disch:=first|exact D0|fail) only[go_sem,↓reduceIte]
  simp+decide (disch:=first|exact D0|fail) only[go_sem,↓reduceIte]
  refine Qb (fun hk=> ?_) (fun hk=> ?_)
  ·simp+decide (disch:=first|exact D0|fail) only[go_sem,↓reduceIte]
   exact Qc (by rw[<-hpc,List.drop_of_length_le (show p.length<=i by omega),Qlv,if_neg (by rw[List.length_drop];omega)]) rfl
  ·simp+decide (disch:=first|exact D0|fail) only[go_sem,↓reduceIte]
   refine Qb (fun hk2=> ?_) (fun hk2=> ?_)
   ·simp+decide (disch:=first|exact D0|fail) only[go_sem,↓reduceIte]
    refine Qc ?_ rfl
    rw[<-hpc,List.drop_eq_getElem_cons (show i<p.length by omega),List.drop_of_length_le (show q.length<=i by omega),Qfj]
   ·simp+decide (disch:=first|exact D0|fail) only[go_sem,↓reduceIte]
    exact Qc (by rw[<-hpc,List.drop_of_length_le (show p.length<=i by omega),Qlv,if_pos (by rw[List.length_drop];omega)]) rfl
 ·have hi':i=p.length:=by omega
  simp+decide (disch:=first|exact D0|fail) only[go_sem,↓reduceIte]
  refine Qb (fun hk=> ?_) (fun hk=> ?_)
  ·simp+decide (disch:=first|exact D0|fail) only[go_sem,↓reduceIte]
   exact Qc (by rw[<-hpc,List.drop_of_length_le (show p.length<=i by omega),Qlv,if_neg (by rw[List.length_drop];omega)]) rfl
  ·simp+decide (disch:=first|exact D0|fail) only[go_sem,↓reduceIte]
   refine Qb (fun hk2=> ?_) (fun hk2=> ?_)
   ·simp+decide (disch:=first|exact D0|fail) only[go_sem,↓reduceIte]
    refine Qc ?_ rfl
    rw[<-hpc,List.drop_eq_getElem_cons (show i<p.length by omega),List.drop_of_length_le (show q.length<=i by omega),Qfj]
   ·simp+decide (disch:=first|exact D0|fail) only[go_sem,↓reduceIte]
    exact Qc (by rw[<-hpc,List.drop_of_length_le (show p.length<=i by omega),Qlv,if_pos (by rw[List.length_drop];omega)]) rfl
theorem Qkh{p q:List Tm}{K E:Nat}(hp:PB K E p)(hq:PB K E q)(hK:K<=2^33)(hE:E<=2^38)(hlp:p.length<=2^36)(hlq:q.length<=2^36):Qe Tryz.prog 20 [PV.poly p,PV.poly q] (· = .bool (decide (p=q))):=by
 refine Qf Qj Tryz.func20 rfl Qanv (by simp[c20]) fun C hP=> ?_;simp only[c20,Zo,Zg,Zm,Zc,Zf,Zl,Zh,Zs,Zi,Zb,Zk,Zn,Zu,Zq,Zr,Zz]
 simp+decide (disch:=first|exact D0|fail) only[go_sem,↓reduceIte]
 refine Qa hP (Q3a hp hq hK hE hlp hlq) rfl rfl rfl ?_
 simp+decide (disch:=first|exact D0|fail) only[go_sem,↓reduceIte]
 exact Qc (congrArg PV.bool (decide_eq_decide.2 (Qwl hp.last hq.last))) rfl
theorem Qhb{p q:List Tm}{K E:Nat}(hp:PB K E p)(hq:PB K E q)(hK:K<=2^32)(hE:E<=2^38)(hlp:p.length<=2^36)(hlq:q.length<=2^36):
  Qe Tryz.prog 75 [PV.poly p,PV.poly q] (· =PV.poly (Q5 p q)):=by
 refine Qf Qj Tryz.func75 rfl Qant (by simp[c75]) fun C hP=> ?_;simp only[c75,Zo,Zg,Zm,Zc,Zf,Zl,Zh,Zs,Zi,Zb,Zk,Zn,Zu,Zq,Zr,Zz]
 simp+decide (disch:=first|exact D0|fail) only[go_sem,↓reduceIte]
 refine Qf7 5 900 4 127 (by omega) T0 ?_
 refine Qx (by repeat (first|exact Qt|exact Qm|exact Qn|exact Qo|exact Qp|apply Ql|apply Qr|apply Qy|apply Q3|apply Q4|apply Qi|apply Qw)) [(5,90)] [9,61,62,75,76,87,88,900] (fun n J hp=>∃i k out,n=(p.length-i)+(q.length-k)/\i<=p.length/\k<=q.length/\out.length<=i+k/\out++Q5 (p.drop i) (q.drop k)=Q5 p q/\
  J 5= .ms 900 out.length/\J 6= .int .i64 (i:Nat)/\J 7= .int .i64 (k:Nat)/\hp 900=some ⟨4,127,out.map PV.term,false⟩) (p.length+q.length) ?_ ?_
 ·refine⟨0,0,[],by omega,by omega,by omega,by simp,rfl,?_⟩
  simp+decide (disch:=first|exact D0|fail) only[go_sem,↓reduceIte]
  simp
 rintro _ J h ⟨i,k,out,rfl,hi,hk,hol,hpad,h5,h6,h7,hh⟩
 simp+decide (disch:=first|exact D3 h5 h6 h7|fail) only[go_sem,↓reduceIte,h5,h6,h7]
 refine Qaa (fun hg=> ?_) (fun hg=> ?_)
 ·have hi':i<p.length:=by omega
  simp+decide (disch:=first|exact D3 h5 h6 h7|fail) only[go_sem,↓reduceIte,h5,h6,h7]
  refine Qb (fun h=>by omega) (fun _=> ?_)
  simp+decide (disch:=first|exact D3 h5 h6 h7|fail) only[go_sem,↓reduceIte,h5,h6,h7]
  refine Qb (fun hg2=> ?_) (fun hg2=> ?_)
  ·have hk':k<q.length:=by omega
   have htp:=hp.get hi'
   have htq:=hq.get hk'
   rw[Qxt hi' hk']at hpad
   have c1:=htp.c
   have c2:=htq.c
   generalize hx:p[i]=x at *
   generalize hy:q[k]=y at *
   simp+decide (disch:=first|exact D5 h5 h6 h7 hx hy|fail) only[go_sem,↓reduceIte,h5,h6,h7,hx,hy]
   refine Qa hP (Qqq htp.m htq.m (by omega)) rfl rfl rfl ?_
   simp+decide (disch:=first|exact D5 h5 h6 h7 hx hy|fail) only[go_sem,↓reduceIte,h5,h6,h7,hx,hy]
   refine Qb (fun hc=> ?_) (fun hc=> ?_)
   ·rw[if_pos hc]at hpad
    simp+decide (disch:=first|exact D4 h5 h6 h7 hx|fail) only[go_sem,↓reduceIte,h5,h6,h7,hx]
    rw[Qal (f:=PV.term) (y:=x) (xs:=out) (ty':=127) (fz:=false) (T1 hh) Tr0 (by omega) rfl (by omega) (by omega)]
    simp+decide (disch:=first|exact D4 h5 h6 h7 hx|fail) only[go_sem,↓reduceIte,h5,h6,h7,hx]
    refine Qg ((p.length-(i+1))+(q.length-k)) (by omega) ⟨i+1,k,out++[x],rfl,by omega,hk,by simp;omega,by simpa using hpad,?_⟩
    simp+decide (disch:=first|exact D3 h5 h6 h7|fail) only[go_sem,↓reduceIte,h5,h6,h7]
    simp
   rw[if_neg hc]at hpad
   simp+decide (disch:=first|exact D5 h5 h6 h7 hx hy|fail) only[go_sem,↓reduceIte,h5,h6,h7,hx,hy]
   refine Qb (fun hc2=> ?_) (fun hc2=> ?_)
   ·rw[if_pos hc2]at hpad
    simp+decide (disch:=first|exact D4 h5 h6 h7 hy|fail) only[go_sem,↓reduceIte,h5,h6,h7,hy]
    rw[Qal (f:=PV.term) (y:=y) (xs:=out) (ty':=127) (fz:=false) (T1 hh) Tr0 (by omega) rfl (by omega) (by omega)]
    simp+decide (disch:=first|exact D4 h5 h6 h7 hy|fail) only[go_sem,↓reduceIte,h5,h6,h7,hy]
    refine Qg ((p.length-i)+(q.length-(k+1))) (by omega) ⟨i,k+1,out++[y],rfl,by omega,by omega,by simp;omega,by simpa using hpad,?_⟩
    simp+decide (disch:=first|exact D3 h5 h6 h7|fail) only[go_sem,↓reduceIte,h5,h6,h7]
    simp
   rw[if_neg hc2]at hpad
   have hra:=Qnp x.1 y.1
   simp+decide (disch:=first|exact D5 h5 h6 h7 hx hy|fail) only[go_sem,↓reduceIte,h5,h6,h7,hx,hy]
   refine Qej ?_ ?_
   all_goals
    simp+decide (disch:=first|exact D5 h5 h6 h7 hx hy|fail) only[go_sem,↓reduceIte,h5,h6,h7,hx,hy]
    refine Qa hP (Q1m (a:=x.1) (b:=y.1) (k:=2^32) (by omega) (by omega) (by omega)) rfl rfl rfl ?_
    simp+decide (disch:=first|exact D5 h5 h6 h7 hx hy|fail) only[go_sem,↓reduceIte,h5,h6,h7,hx,hy]
    refine Qa hP (Qka (a:=x.1+y.1) (by omega)) rfl rfl rfl ?_
    simp+decide (disch:=first|exact D5 h5 h6 h7 hx hy|fail) only[go_sem,↓reduceIte,h5,h6,h7,hx,hy]
    refine Qb (fun hz=> ?_) (fun hz=> ?_)
    ·rw[if_neg (fun h=>hz (Qa6.2 h))]at hpad
     simp+decide (disch:=first|exact D5 h5 h6 h7 hx hy|fail) only[go_sem,↓reduceIte,h5,h6,h7,hx,hy]
     rw[Qal (f:=PV.term) (y:=(x.1+y.1,x.2)) (xs:=out) (ty':=127) (fz:=false) (T1 hh) Tr0 (by omega) rfl (by omega) (by omega)]
     simp+decide (disch:=first|exact D5 h5 h6 h7 hx hy|fail) only[go_sem,↓reduceIte,h5,h6,h7,hx,hy]
     refine Qg ((p.length-(i+1))+(q.length-(k+1))) (by omega) ⟨i+1,k+1,out++[(x.1+y.1,x.2)],rfl,by omega,by omega,by simp;omega,by simpa using hpad,?_⟩
     simp+decide (disch:=first|exact D3 h5 h6 h7|fail) only[go_sem,↓reduceIte,h5,h6,h7]
     simp
    ·rw[if_pos (Qa6.1 (Decidable.not_not.1 hz))]at hpad
     simp+decide (disch:=first|exact D5 h5 h6 h7 hx hy|fail) only[go_sem,↓reduceIte,h5,h6,h7,hx,hy]
     refine Qg ((p.length-(i+1))+(q.length-(k+1))) (by omega) ⟨i+1,k+1,out,rfl,by omega,by omega,by omega,hpad,?_⟩
     simp+decide (disch:=first|exact D4 h5 h6 h7 hh|fail) only[go_sem,↓reduceIte,h5,h6,h7,hh]
  ·rw[List.drop_of_length_le (show q.length<=k by omega),Qcd,List.drop_eq_getElem_cons hi']at hpad
   have hpad:out++p[i]::Q5 (p.drop (i+1)) (q.drop k)=Q5 p q:=by rw[List.drop_of_length_le (show q.length<=k by omega),Qcd];exact hpad
   generalize hx:p[i]=x at *
   simp+decide (disch:=first|exact D4 h5 h6 h7 hx|fail) only[go_sem,↓reduceIte,h5,h6,h7,hx]
   rw[Qal (f:=PV.term) (y:=x) (xs:=out) (ty':=127) (fz:=false) (T1 hh) Tr0 (by omega) rfl (by omega) (by omega)]
   simp+decide (disch:=first|exact D4 h5 h6 h7 hx|fail) only[go_sem,↓reduceIte,h5,h6,h7,hx]
   refine Qg ((p.length-(i+1))+(q.length-k)) (by omega) ⟨i+1,k,out++[x],rfl,by omega,hk,by simp;omega,by simpa using hpad,?_⟩
   simp+decide (disch:=first|exact D3 h5 h6 h7|fail) only[go_sem,↓reduceIte,h5,h6,h7]
   simp
 ·have hi':i=p.length:=by omega
  simp+decide (disch:=first|exact D3 h5 h6 h7|fail) only[go_sem,↓reduceIte,h5,h6,h7]
  refine Qb (fun hg2=> ?_) (fun hg2=> ?_)
  ·have hk':k<q.length:=by omega
   rw[List.drop_of_length_le (show p.length<=i by omega),Qdv,List.drop_eq_getElem_cons hk']at hpad
   have hpad:out++q[k]::Q5 (p.drop i) (q.drop (k+1))=Q5 p q:=by rw[List.drop_of_length_le (show p.length<=i by omega),Qdv];exact hpad
   generalize hy:q[k]=y at *
   simp+decide (disch:=first|exact D4 h5 h6 h7 hy|fail) only[go_sem,↓reduceIte,h5,h6,h7,hy]
   refine Qb (fun _=> ?_) (fun h=>by omega)
   simp+decide (disch:=first|exact D4 h5 h6 h7 hy|fail) only[go_sem,↓reduceIte,h5,h6,h7,hy]
   rw[Qal (f:=PV.term) (y:=y) (xs:=out) (ty':=127) (fz:=false) (T1 hh) Tr0 (by omega) rfl (by omega) (by omega)]
   simp+decide (disch:=first|exact D4 h5 h6 h7 hy|fail) only[go_sem,↓reduceIte,h5,h6,h7,hy]
   refine Qg ((p.length-i)+(q.length-(k+1))) (by omega) ⟨i,k+1,out++[y],rfl,by omega,by omega,by simp;omega,by simpa using hpad,?_⟩
   simp+decide (disch:=first|exact D3 h5 h6 h7|fail) only[go_sem,↓reduceIte,h5,h6,h7]
   simp
  ·rw[List.drop_of_length_le (show p.length<=i by omega),Qdv,List.drop_of_length_le (show q.length<=k by omega),List.append_nil]at hpad
   simp+decide (disch:=first|exact E4 h5 h6 h7 hh|fail) only[go_sem,↓reduceIte,h5,h6,h7,hh,Q7,List.contains_cons,List.contains_nil,List.flatMap_cons,List.flatMap_nil,List.append_nil]
   exact Qc (by rw[List.take_of_length_le (by simp),hpad]) rfl
end Go.Proofs.YtonfajmchebkeaaGreat
namespace Go.Proofs.YtonfajmchebkeaaGreat
open Go Go.FW
set_option maxRecDepth 100000
def c172:SFn:=⟨97,[.t 8],Zr (Zo (.mv 8 (.c .nilS)) .nil)<|Zr (Zm 15 0<|
 Zn 16 15<|
 Zm 17 1<|
 Zn 18 17<|
 Zb 19 .add 16 18<|
 Zo (.mk 20 4 80 127 (.agg [.bool false,.nilS,.nilS,.nilS]) (.c (Zz 0)) (.t 19))<|
 Zm 9 20 .nil)<|Zr (Zc 10 0<|
 Zc 11 0 .nil)<| .seq (.block 0<| .loop<| .seq (Zr (Zm 21 10<|
 Zm 22 0<|
 Zn 23 22<|
 Zb 24 .lss 21 23<|
 Zm 25 24<|
 Zg 25 true (.mv 26 (.t 11))<|
 Zg 25 true (.mv 27 (.t 1))<|
 Zg 25 true (.len 28 (.t 27))<|
 Zg 25 true (.bin 29 .lss false (.t 26) (.t 28))<|
 Zo (.pick 30 (.t 25) (.t 29) (.c (.bool false))) .nil)<| .cond (.t 30) .skip (.exit 0))<| .block 1<|Zr (Zm 31 2<|
 Zm 32 0<|
 Zm 33 10<|
 Zi 34 4 32 33<|
 Zh 35 4 34<|
 Zm 36 1<|
 Zm 37 11<|
 Zi 38 4 36 37<|
 Zh 39 4 38<|
 Zo (.call (some 40) false (.t 31) [.t 35,.t 39])<|
 Zm 12 40 .nil)<| .block 2<|Zr (Zm 64 12<|
 Zk 65 .gtr 64 0<|
 Zm 63 65 .nil)<| .cond (.t 63) (Zr (Zm 66 9<|
 Zm 67 0<|
 Zm 68 10<|
 Zi 69 4 67 68<|
 Zh 70 4 69<|
 Zo (.bs 71 4 127 [.t 70])<|
 Zo (.app 72 4 80 127 (.t 66) (.t 71))<|
 Zm 9 72 .nil)<| .rg (Zm 73 10<|
 Zk 74 .add 73 1<|
 Zm 10 74 .nil)) (Zr (Zm 76 12<|
 Zk 77 .lss 76 0<|
 Zm 75 77 .nil)<| .cond (.t 75) (Zr (Zm 78 9<|
 Zm 79 1<|
 Zm 80 11<|
 Zi 81 4 79 80<|
 Zh 82 4 81<|
 Zo (.bs 83 4 127 [.t 82])<|
 Zo (.app 84 4 80 127 (.t 78) (.t 83))<|
 Zm 9 84 .nil)<| .rg (Zm 85 11<|
 Zk 86 .add 85 1<|
 Zm 11 86 .nil)) (.seq (Zr (Zm 42 3<|
 Zm 43 0<|
 Zm 44 10<|
 Zi 45 4 43 44<|
 Zh 46 4 45<|
 Zm 47 1<|
 Zm 48 11<|
 Zi 49 4 47 48<|
 Zh 50 4 49<|
 .br (Zo (.call (some 51) true (.t 42) [.t 46,.t 50])<|
 Zm 41 51<|
 Zo (.ext 52 (.t 41) 0)<|
 Zo (.ext 53 (.t 41) 1)<|
 Zo (.alloc 13 4 127 (.agg [.bool false,.nilS,.nilS,.nilS]))<|
 Zs 4 13 52<|
 Zm 14 53 .nil) (Zo (.alloc 13 4 127 (.agg [.bool false,.nilS,.nilS,.nilS]))<|
 Zo (.call (some 51) true (.t 42) [.t 46,.t 50])<|
 Zm 41 51<|
 Zo (.ext 52 (.t 41) 0)<|
 Zo (.ext 53 (.t 41) 1)<|
 Zs 4 13 52<|
 Zm 14 53 .nil))<|Zr (Zm 54 14 .nil)<| .cond (.t 54) (.rg (Zm 55 9<|
 Zh 56 4 13<|
 Zo (.bs 57 4 127 [.t 56])<|
 Zo (.app 58 4 80 127 (.t 55) (.t 57))<|
 Zm 9 58 .nil)) .skip)<|Zr (Zm 59 10<|
 Zk 60 .add 59 1<|
 Zm 10 60 .nil)<| .rg (Zm 61 11<|
 Zk 62 .add 61 1<|
 Zm 11 62 .nil))))<|Zr (Zm 87 9<|
 Zm 88 0<|
 Zm 89 10<|
 Zo (.sl 90 4 (.t 88) (some (.t 89)) none none)<|
 Zo (.app 91 4 80 127 (.t 87) (.t 90))<|
 Zm 9 91 .nil)<|Zr (Zm 92 9<|
 Zm 93 1<|
 Zm 94 11<|
 Zo (.sl 95 4 (.t 93) (some (.t 94)) none none)<|
 Zo (.app 96 4 80 127 (.t 92) (.t 95))<|
 Zm 8 96 .nil) .ret⟩
theorem Qakz:Qd Tryz.prog Tryz.f172=some c172:=by kernel_rfl
def c173:SFn:=⟨10,[.t 4],Zr (Zo (.box 2 4 127 (.t 0))<|
 Zo (.box 3 4 127 (.t 1))<|
 Zc 4 0 .nil)<|Zr (Zf 5 3 2<|
 Zl 6 1 5<|
 Zf 7 3 3<|
 Zl 8 1 7<|
 Zq 9 false 168 [.t 6,.t 8,.c (Zz 0)]<|
 Zm 4 9 .nil) .ret⟩
theorem Qak0:Qd Tryz.prog Tryz.f173=some c173:=by kernel_rfl
def c174:SFn:=⟨19,[.cell 4 4 true,.t 5],Zr (Zo (.box 2 4 127 (.t 0))<|
 Zo (.box 3 4 127 (.t 1))<|
 Zo (.alloc 4 4 127 (.agg [.bool false,.nilS,.nilS,.nilS]))<|
 Zo (.mv 5 (.c (.bool false))) .nil)<|Zr (Zf 7 0 2<|
 Zh 8 3 7<|
 Zf 9 0 3<|
 Zh 10 3 9<|
 Zq 11 false 153 [.t 8,.t 10]<|
 Zo (.alloc 6 3 32 (.agg [.bool false,.nilS,.nilS]))<|
 Zs 3 6 11 .nil)<|Zr (Zh 12 3 6<|
 Zf 13 3 2<|
 Zl 14 1 13<|
 Zo (.bld 15 [.bool false,.nilS,.nilS,.nilS] [(0,3,.t 12),(3,1,.t 14)])<|
 Zh 16 3 6<|
 Zq 17 true 202 [.t 16]<|
 Zk 18 .neq 17 0<|
 Zs 4 4 15<|
 Zm 5 18 .nil) .ret⟩
theorem Qak1:Qd Tryz.prog Tryz.f174=some c174:=by kernel_rfl
def Q1n:SFn:=⟨25,[.t 2],Zr (Zo (.mv 2 (.c .nilS)) .nil)<| .seq (Zr (Zm 4 0<|
 Zn 5 4 .nil)<| .block 0<|Zr (Zk 7 .eql 5 0<|
 Zm 6 7 .nil)<| .cond (.t 6) (Zr (Zo (.mv 2 (.c .nilS)) .nil) .ret) (Zr (Zk 9 .eql 5 1<|
 Zm 8 9 .nil)<| .cond (.t 8) (Zr (Zm 10 0<|
 Zo (.idx 11 1 (.t 10) (.c (Zz 0)))<|
 Zl 12 1 11<|
 Zm 2 12 .nil) .ret) .skip))<|Zr (Zm 13 0<|
 Zn 14 13<|
 Zk 15 .quo 14 2<|
 Zm 3 15 .nil)<|Zr (Zm 16 0<|
 Zm 17 3<|
 Zo (.sl 18 1 (.t 16) none (some (.t 17)) none)<|
 Zm 20 0<|
 Zm 21 3<|
 Zo (.sl 22 1 (.t 20) (some (.t 21)) none none)<|
 Zq 19 false 176 [.t 18]<|
 Zq 23 false 176 [.t 22]<|
 Zq 24 false 92 [.t 19,.t 23]<|
 Zm 2 24 .nil) .ret⟩
theorem Q4d:Qd Tryz.prog Tryz.f176=some Q1n:=by kernel_rfl
def c152:SFn:=⟨12,[.t 4],Zr (Zo (.box 2 3 32 (.t 0))<|
 Zo (.mv 4 (.c .nilS)) .nil)<| .seq (Zr (Zh 5 3 2<|
 Zq 6 false 202 [.t 5]<|
 Zk 7 .eql 6 0 .nil)<| .cond (.t 7) (Zr (Zo (.mv 4 (.c .nilS)) .nil) .ret) .skip)<|Zr (Zh 8 3 2<|
 Zm 9 1<|
 Zo (.bld 10 [.bool false,.nilS,.nilS,.nilS] [(0,3,.t 8),(3,1,.t 9)])<|
 Zo (.bs 11 4 127 [.t 10])<|
 Zm 4 11 .nil) .ret⟩
theorem Qak2:Qd Tryz.prog Tryz.f152=some c152:=by kernel_rfl
def c77:SFn:=⟨7,[.t 2],Zr (Zo (.box 1 3 32 (.t 0))<|
 Zo (.mv 2 (.c .nilS)) .nil)<|Zr (Zh 3 3 1<|
 Zq 4 true 78 [.c (Zz 0)]<|
 Zq 5 true 153 [.t 3,.t 4]<|
 Zq 6 true 152 [.t 5,.c .nilS]<|
 Zm 2 6 .nil) .ret⟩
theorem Qaod:Qd Tryz.prog Tryz.f77=some c77:=by kernel_rfl
def c81:SFn:=⟨9,[.t 4],Zr (Zo (.mv 4 (.c (.bool false))) .nil)<|Zr (Zm 5 0<|
 Zm 6 1<|
 Zq 7 false 156 [.t 5,.t 6]<|
 Zk 8 .eql 7 0<|
 Zm 4 8 .nil) .ret⟩
theorem Qaoe:Qd Tryz.prog Tryz.f81=some c81:=by kernel_rfl
def c156:SFn:=⟨10,[.t 4],Zr (Zc 4 0 .nil)<|Zr (Zo (.mv 5 (.c (.fn 211 [] []))) .nil)<|Zr (Zm 6 0<|
 Zm 7 1<|
 Zm 8 5<|
 Zq 9 false 213 [.t 6,.t 7,.t 8]<|
 Zm 4 9 .nil) .ret⟩
theorem Qak3:Qd Tryz.prog Tryz.f156=some c156:=by kernel_rfl
def c211:SFn:=⟨17,[.t 4],Zr (Zo (.box 2 4 127 (.t 0))<|
 Zo (.box 3 4 127 (.t 1))<|
 Zc 4 0 .nil)<| .seq (Zr (Zh 6 4 2<|
 Zh 7 4 3<|
 Zq 8 false 173 [.t 6,.t 7]<|
 Zm 5 8 .nil)<|Zr (Zm 9 5<|
 Zk 10 .neq 9 0 .nil)<| .cond (.t 10) (Zr (Zm 11 5<|
 Zm 4 11 .nil) .ret) .skip)<|Zr (Zf 12 0 2<|
 Zh 13 3 12<|
 Zf 14 0 3<|
 Zh 15 3 14<|
 Zq 16 false 212 [.t 13,.t 15]<|
 Zm 4 16 .nil) .ret⟩
theorem Qak4:Qd Tryz.prog Tryz.f211=some c211:=by kernel_rfl
def c188:SFn:=⟨6,[.t 2],Zr (Zo (.mv 2 (.c .nilS)) .nil)<|Zr (Zm 3 0<|
 Zq 4 false 78 [.c (Zz (-1))]<|
 Zq 5 false 166 [.t 3,.t 4]<|
 Zm 2 5 .nil) .ret⟩
theorem Qak5:Qd Tryz.prog Tryz.f188=some c188:=by kernel_rfl
def c92:SFn:=⟨8,[.t 4],Zr (Zo (.mv 4 (.c .nilS)) .nil)<|Zr (Zm 5 0<|
 Zm 6 1<|
 Zq 7 false 172 [.t 5,.t 6,.c (.fn 173 [] []),.c (.fn 174 [] [])]<|
 Zm 4 7 .nil) .ret⟩
theorem Qaof:Qd Tryz.prog Tryz.f92=some c92:=by kernel_rfl
def c119:SFn:=⟨9,[.t 4],Zr (Zo (.mv 4 (.c .nilS)) .nil)<|Zr (Zm 5 0<|
 Zm 6 1<|
 Zq 7 false 188 [.t 6]<|
 Zq 8 false 92 [.t 5,.t 7]<|
 Zm 4 8 .nil) .ret⟩
theorem Qak6:Qd Tryz.prog Tryz.f119=some c119:=by kernel_rfl
def c175:SFn:=⟨38,[.t 4],Zr (Zo (.box 3 4 127 (.t 1))<|
 Zo (.mv 4 (.c .nilS)) .nil)<|Zr (Zm 9 0<|
 Zn 10 9<|
 Zo (.mk 11 4 80 127 (.agg [.bool false,.nilS,.nilS,.nilS]) (.c (Zz 0)) (.t 10))<|
 Zm 5 11 .nil)<| .seq (Zr (Zm 12 0<|
 Zn 13 12<|
 Zc 14 0 .nil)<| .block 0<| .loop<|Zr (Zb 15 .lss 14 13 .nil)<| .seq (.cond (.t 15) .skip (.exit 0))<| .seq (.block 1<|Zr (Zi 16 4 12 14<|
 Zh 17 4 16<|
 Zo (.alloc 7 4 127 (.agg [.bool false,.nilS,.nilS,.nilS]))<|
 Zs 4 7 17 .nil)<|Zr (Zf 18 0 7<|
 Zh 19 3 18<|
 Zf 20 0 3<|
 Zh 21 3 20<|
 Zq 22 false 223 [.t 19,.t 21]<|
 Zo (.alloc 8 3 32 (.agg [.bool false,.nilS,.nilS]))<|
 Zs 3 8 22 .nil)<|Zr (Zh 23 3 8<|
 Zq 24 false 202 [.t 23]<|
 Zk 25 .neq 24 0 .nil)<| .cond (.t 25) (.rg (Zm 26 5<|
 Zh 27 3 8<|
 Zf 28 3 7<|
 Zl 29 1 28<|
 Zf 30 3 3<|
 Zl 31 1 30<|
 Zq 32 true 224 [.t 29,.t 31]<|
 Zo (.bld 33 [.bool false,.nilS,.nilS,.nilS] [(0,3,.t 27),(3,1,.t 32)])<|
 Zo (.bs 34 4 127 [.t 33])<|
 Zo (.app 35 4 80 127 (.t 26) (.t 34))<|
 Zm 5 35 .nil)) .skip)<| .rg (Zk 36 .add 14 1<|
 Zm 14 36 .nil))<|Zr (Zm 37 5<|
 Zm 4 37 .nil) .ret⟩
theorem Qak7:Qd Tryz.prog Tryz.f175=some c175:=by kernel_rfl
def c93:SFn:=⟨33,[.t 4],Zr (Zo (.mv 4 (.c .nilS)) .nil)<| .seq (Zr (Zm 8 0<|
 Zn 9 8<|
 Zm 10 1<|
 Zn 11 10<|
 Zb 12 .gtr 9 11 .nil)<| .cond (.t 12) (.rg (Zm 13 1<|
 Zm 14 0<|
 Zm 0 13<|
 Zm 1 14 .nil)) .skip)<|Zr (Zm 15 0<|
 Zn 16 15<|
 Zo (.mk 17 1 24 51 .nilS (.c (Zz 0)) (.t 16))<|
 Zm 5 17 .nil)<| .seq (Zr (Zm 18 0<|
 Zn 19 18<|
 Zc 20 0 .nil)<| .block 0<| .loop<|Zr (Zb 21 .lss 20 19 .nil)<| .seq (.cond (.t 21) .skip (.exit 0))<| .seq (.block 1<|Zr (Zi 22 4 18 20<|
 Zh 23 4 22<|
 Zo (.alloc 7 4 127 (.agg [.bool false,.nilS,.nilS,.nilS]))<|
 Zs 4 7 23 .nil)<| .rg (Zm 24 5<|
 Zm 25 1<|
 Zh 26 4 7<|
 Zq 27 false 175 [.t 25,.t 26]<|
 Zo (.bs 28 1 51 [.t 27])<|
 Zo (.app 29 1 24 51 (.t 24) (.t 28))<|
 Zm 5 29 .nil))<| .rg (Zk 30 .add 20 1<|
 Zm 20 30 .nil))<|Zr (Zm 31 5<|
 Zq 32 false 176 [.t 31]<|
 Zm 4 32 .nil) .ret⟩
theorem Qaog:Qd Tryz.prog Tryz.f93=some c93:=by kernel_rfl
def c166:SFn:=⟨12,[.t 4],Zr (Zo (.box 3 3 32 (.t 1))<|
 Zo (.mv 4 (.c .nilS)) .nil)<| .seq (Zr (Zh 5 3 3<|
 Zq 6 false 202 [.t 5]<|
 Zk 7 .eql 6 0 .nil)<| .cond (.t 7) (Zr (Zo (.mv 4 (.c .nilS)) .nil) .ret) .skip)<|Zr (Zm 8 0<|
 Zh 9 3 3<|
 Zo (.bld 10 [.bool false,.nilS,.nilS,.nilS] [(0,3,.t 9)])<|
 Zq 11 false 175 [.t 8,.t 10]<|
 Zm 4 11 .nil) .ret⟩
theorem Qak8:Qd Tryz.prog Tryz.f166=some c166:=by kernel_rfl
def c164:SFn:=⟨19,[.t 2],Zr (Zc 2 0 .nil)<|Zr (Zc 3 (-1) .nil)<| .seq (Zr (Zm 6 0<|
 Zn 7 6<|
 Zc 8 0 .nil)<| .block 0<| .loop<|Zr (Zb 9 .lss 8 7 .nil)<| .seq (.cond (.t 9) .skip (.exit 0))<| .seq (.block 1<|Zr (Zi 10 4 6 8<|
 Zh 11 4 10<|
 Zo (.alloc 5 4 127 (.agg [.bool false,.nilS,.nilS,.nilS]))<|
 Zs 4 5 11 .nil)<| .rg (Zm 12 3<|
 Zf 13 3 5<|
 Zl 14 1 13<|
 Zq 15 false 216 [.t 14]<|
 Zo (.mx 16 (.t 12) (.t 15))<|
 Zm 3 16 .nil))<| .rg (Zk 17 .add 8 1<|
 Zm 8 17 .nil))<|Zr (Zm 18 3<|
 Zm 2 18 .nil) .ret⟩
theorem Qak9:Qd Tryz.prog Tryz.f164=some c164:=by kernel_rfl
def c213:SFn:=⟨39,[.t 6],Zr (Zc 6 0 .nil)<| .seq (Zr (Zm 11 0<|
 Zn 12 11<|
 Zc 13 0 .nil)<| .block 0<| .loop<|Zr (Zb 14 .lss 13 12 .nil)<| .seq (.cond (.t 14) .skip (.exit 0))<| .seq (.block 1<|Zr (Zm 15 13<|
 Zi 16 4 11 13<|
 Zh 17 4 16<|
 Zo (.alloc 8 4 127 (.agg [.bool false,.nilS,.nilS,.nilS]))<|
 Zm 7 15<|
 Zs 4 8 17 .nil)<| .seq (Zr (Zm 18 7<|
 Zm 19 1<|
 Zn 20 19<|
 Zb 21 .geq 18 20 .nil)<| .cond (.t 21) (Zr (Zc 6 1 .nil) .ret) .skip)<|Zr (Zm 22 1<|
 Zm 23 7<|
 Zi 24 4 22 23<|
 Zh 25 4 24<|
 Zo (.alloc 9 4 127 (.agg [.bool false,.nilS,.nilS,.nilS]))<|
 Zs 4 9 25 .nil)<|Zr (Zm 26 2<|
 Zh 27 4 8<|
 Zh 28 4 9<|
 Zo (.call (some 29) false (.t 26) [.t 27,.t 28])<|
 Zm 10 29 .nil)<|Zr (Zm 30 10<|
 Zk 31 .neq 30 0 .nil)<| .cond (.t 31) (Zr (Zm 32 10<|
 Zm 6 32 .nil) .ret) .skip)<| .rg (Zk 33 .add 13 1<|
 Zm 13 33 .nil))<| .seq (Zr (Zm 34 0<|
 Zn 35 34<|
 Zm 36 1<|
 Zn 37 36<|
 Zb 38 .lss 35 37 .nil)<| .cond (.t 38) (Zr (Zc 6 (-1) .nil) .ret) .skip)<|Zr (Zc 6 0 .nil) .ret⟩
theorem Qala:Qd Tryz.prog Tryz.f213=some c213:=by kernel_rfl
end Go.Proofs.YtonfajmchebkeaaGreat
namespace Go.Proofs.YtonfajmchebkeaaGreat
open Go Go.FW
set_option linter.unusedSimpArgs false
set_option linter.unusedVariables false
set_option maxRecDepth 100000
theorem Qaqj{a b:Rat}{k:Nat}(ha:rs a<=k)(hb:rs b<=k)(hk:k<2^36):Qe Tryz.prog 153 [PV.rat a,PV.rat b] (· =PV.rat (a+b)):=by
 have:=Qx1 (Qci ha) (Qci hb) hk
 rwa[Qcr,Qcr]at this
theorem Qaqk{a b:Rat}{k:Nat}(ha:rs a<=k)(hb:rs b<=k)(hk:k<2^36):Qe Tryz.prog 223 [PV.rat a,PV.rat b] (· =PV.rat (a*b)):=by
 have:=Q9t (Qci ha) (Qci hb) hk
 rwa[Qcr,Qcr]at this
theorem Qaql{a b:Rat}{k:Nat}(ha:rs a<=k)(hb:rs b<=k)(hk:k<2^36):Qe Tryz.prog 212 [PV.rat a,PV.rat b] (· = .int .i64 (Qi6 a b)):=by
 have:=Q9u (Qci ha) (Qci hb) hk
 rwa[Qcr,Qcr]at this
theorem Qvd{a:Rat}(ha:rs a<2^36):Qe Tryz.prog 202 [PV.rat a] (· = .int .i64 (Qd5 a)):=by
 have:=Qo9 (Qci (Nat.le_refl (rs a))) ha
 rwa[Qcr]at this
theorem Qve{s t:Tm}{E:Nat}(hs:MB E s.2)(ht:MB E t.2)(hE:E<=2^38):Qe Tryz.prog 173 [PV.term s,PV.term t] (· = .int .i64 (Qaj s.2 t.2)):=by
 refine Qf Qj Tryz.func173 rfl Qak0 (by simp[c173]) fun C hP=> ?_;simp only[c173,Zo,Zg,Zm,Zc,Zf,Zl,Zh,Zs,Zi,Zb,Zk,Zn,Zu,Zq,Zr,Zz]
 simp+decide (disch:=first|exact D0|fail) only[go_sem,↓reduceIte]
 refine Qa hP (Qpa (o:=0) hs ht (by omega)) rfl rfl rfl ?_
 simp+decide (disch:=first|exact D0|fail) only[go_sem,↓reduceIte]
 exact Qc (by rw[Qqh]) rfl
theorem Q1o{s t:Tm}{k:Nat}(hs:rs s.1<=k)(ht:rs t.1<=k)(hk:k<2^34):Qe Tryz.prog 174 [PV.term s,PV.term t] (· = .tup [PV.term (s.1+t.1,s.2),.bool (decide (¬s.1+t.1=0))]):=by
 have hr:=Qnp s.1 t.1
 refine Qf Qj Tryz.func174 rfl Qak1 (by simp[c174]) fun C hP=> ?_;simp only[c174,Zo,Zg,Zm,Zc,Zf,Zl,Zh,Zs,Zi,Zb,Zk,Zn,Zu,Zq,Zr,Zz]
 simp+decide (disch:=first|exact D0|fail) only[go_sem,↓reduceIte]
 refine Qa hP (Qaqj (a:=s.1) (b:=t.1) hs ht (by omega)) rfl rfl rfl ?_
 simp+decide (disch:=first|exact D0|fail) only[go_sem,↓reduceIte]
 refine Qa hP (Qvd (a:=s.1+t.1) (by omega)) rfl rfl rfl ?_
 simp+decide (disch:=first|exact D0|fail) only[go_sem,↓reduceIte]
 refine Qdh ?_
 simp+decide (disch:=first|exact D0|fail) only[go_sem,↓reduceIte]
 exact Qbh rfl rfl rfl (Qv _) (Qgm (congrArg PV.bool (decide_eq_decide.2 (not_congr Qa6))))
theorem Qy1{c:Rat}{m:List Int}(hc:rs c<2^36):Qe Tryz.prog 152 [PV.rat c,PV.mono m] (· =PV.poly (if c=0 then []else [(c,m)])):=by
 refine Qf Qj Tryz.func152 rfl Qak2 (by simp[c152]) fun C hP=> ?_;simp only[c152,Zo,Zg,Zm,Zc,Zf,Zl,Zh,Zs,Zi,Zb,Zk,Zn,Zu,Zq,Zr,Zz]
 simp+decide (disch:=first|exact D0|fail) only[go_sem,↓reduceIte]
 refine Qa hP (Qvd (a:=c) hc) rfl rfl rfl ?_
 simp+decide (disch:=first|exact D0|fail) only[go_sem,↓reduceIte]
 refine Qb (fun h0=> ?_) (fun h0=> ?_)
 ·rw[if_pos (Qa6.1 h0)]
  simp+decide (disch:=first|exact D0|fail) only[go_sem,↓reduceIte]
  exact Qef Qfi rfl
 ·rw[if_neg (fun h=>h0 (Qa6.2 h))]
  simp+decide (disch:=first|exact E0|fail) only[go_sem,↓reduceIte,Q7,List.contains_cons,List.contains_nil,List.flatMap_cons,List.flatMap_nil,List.append_nil]
  exact Qc rfl rfl
theorem Q1p{p q:List Tm}{K E:Nat}(hp:PB K E p)(hq:PB K E q)(hK:K<=2^33)(hE:E<=2^38)(hlp:p.length<=2^36)(hlq:q.length<=2^36):
  Qe Tryz.prog 172 [PV.poly p,PV.poly q,.fn 173 [] [],.fn 174 [] []] (· =PV.poly (Q5 p q)):=by
 refine Qf Qj Tryz.func172 rfl Qakz (by simp[c172]) fun C hP=> ?_;simp only[c172,Zo,Zg,Zm,Zc,Zf,Zl,Zh,Zs,Zi,Zb,Zk,Zn,Zu,Zq,Zr,Zz]
 simp+decide (disch:=first|exact D0|fail) only[go_sem,↓reduceIte]
 refine Qx (by repeat (first|exact Qt|exact Qm|exact Qn|exact Qo|exact Qp|apply Ql|apply Qr|apply Qy|apply Q3|apply Q4|apply Qi)) [(9,14),(21,86)] [13,20,57,58,71,72,83,84] (fun n J hp=>∃i k out,n=(p.length-i)+(q.length-k)/\i<=p.length/\k<=q.length/\out.length<=i+k/\out++Q5 (p.drop i) (q.drop k)=Q5 p q/\
  J 9= .ms 20 out.length/\J 10= .int .i64 (i:Nat)/\J 11= .int .i64 (k:Nat)/\hp 20=some ⟨4,127,out.map PV.term,false⟩) (p.length+q.length) ?_ ?_
 ·refine⟨0,0,[],by omega,by omega,by omega,by simp,rfl,?_⟩
  simp+decide (disch:=first|exact D0|fail) only[go_sem,↓reduceIte]
  simp
 rintro _ J h ⟨i,k,out,rfl,hi,hk,hol,hpad,h9,h10,h11,hh⟩
 simp+decide (disch:=first|exact D3 h9 h10 h11|fail) only[go_sem,↓reduceIte,h9,h10,h11]
 refine Q8 (fun hg=> ?_) (fun hg=> ?_)
 ·have hi':i<p.length:=by omega
  simp+decide (disch:=first|exact D3 h9 h10 h11|fail) only[go_sem,↓reduceIte,h9,h10,h11]
  refine Qb (fun hg2=> ?_) (fun hg2=> ?_)
  ·have hk':k<q.length:=by omega
   have htp:=hp.get hi'
   have htq:=hq.get hk'
   rw[Qxt hi' hk']at hpad
   have c1:=htp.c
   have c2:=htq.c
   generalize hx:p[i]=x at *
   generalize hy:q[k]=y at *
   simp+decide (disch:=first|exact D5 h9 h10 h11 hx hy|fail) only[go_sem,↓reduceIte,h9,h10,h11,hx,hy]
   refine Qa hP (Qve (s:=x) (t:=y) htp.m htq.m hE) rfl rfl rfl ?_
   simp+decide (disch:=first|exact D5 h9 h10 h11 hx hy|fail) only[go_sem,↓reduceIte,h9,h10,h11,hx,hy]
   refine Qb (fun hc=> ?_) (fun hc=> ?_)
   ·rw[if_pos hc]at hpad
    simp+decide (disch:=first|exact D5 h9 h10 h11 hx hy|fail) only[go_sem,↓reduceIte,h9,h10,h11,hx,hy]
    rw[Qal (f:=PV.term) (y:=x) (xs:=out) (ty':=127) (fz:=false) (T1 hh) Tr0 (by omega) rfl (by omega) (by omega)]
    simp+decide (disch:=first|exact D5 h9 h10 h11 hx hy|fail) only[go_sem,↓reduceIte,h9,h10,h11,hx,hy]
    refine Qg ((p.length-(i+1))+(q.length-k)) (by omega) ⟨i+1,k,out++[x],rfl,by omega,hk,by simp;omega,by simpa using hpad,?_⟩
    simp+decide (disch:=first|exact D3 h9 h10 h11|fail) only[go_sem,↓reduceIte,h9,h10,h11]
    simp
   rw[if_neg hc]at hpad
   simp+decide (disch:=first|exact D5 h9 h10 h11 hx hy|fail) only[go_sem,↓reduceIte,h9,h10,h11,hx,hy]
   refine Qb (fun hc2=> ?_) (fun hc2=> ?_)
   ·rw[if_pos hc2]at hpad
    simp+decide (disch:=first|exact D5 h9 h10 h11 hx hy|fail) only[go_sem,↓reduceIte,h9,h10,h11,hx,hy]
    rw[Qal (f:=PV.term) (y:=y) (xs:=out) (ty':=127) (fz:=false) (T1 hh) Tr0 (by omega) rfl (by omega) (by omega)]
    simp+decide (disch:=first|exact D5 h9 h10 h11 hx hy|fail) only[go_sem,↓reduceIte,h9,h10,h11,hx,hy]
    refine Qg ((p.length-i)+(q.length-(k+1))) (by omega) ⟨i,k+1,out++[y],rfl,hi,by omega,by simp;omega,by simpa using hpad,?_⟩
    simp+decide (disch:=first|exact D3 h9 h10 h11|fail) only[go_sem,↓reduceIte,h9,h10,h11]
    simp
   rw[if_neg hc2]at hpad
   simp+decide (disch:=first|exact D5 h9 h10 h11 hx hy|fail) only[go_sem,↓reduceIte,h9,h10,h11,hx,hy]
   refine Qej ?_ ?_
   all_goals
    simp+decide (disch:=first|exact D5 h9 h10 h11 hx hy|fail) only[go_sem,↓reduceIte,h9,h10,h11,hx,hy]
    refine Qa hP (Q1o (s:=x) (t:=y) (k:=2^33) (by omega) (by omega) (by omega)) rfl rfl rfl ?_
    simp+decide (disch:=first|exact D5 h9 h10 h11 hx hy|fail) only[go_sem,↓reduceIte,h9,h10,h11,hx,hy]
    refine Qb (fun hz=> ?_) (fun hz=> ?_)
    ·rw[if_neg hz]at hpad
     simp+decide (disch:=first|exact D5 h9 h10 h11 hx hy|fail) only[go_sem,↓reduceIte,h9,h10,h11,hx,hy]
     rw[Qal (f:=PV.term) (y:=(x.1+y.1,x.2)) (xs:=out) (ty':=127) (fz:=false) (T1 hh) Tr0 (by omega) rfl (by omega) (by omega)]
     simp+decide (disch:=first|exact D5 h9 h10 h11 hx hy|fail) only[go_sem,↓reduceIte,h9,h10,h11,hx,hy]
     refine Qg ((p.length-(i+1))+(q.length-(k+1))) (by omega) ⟨i+1,k+1,out++[(x.1+y.1,x.2)],rfl,by omega,by omega,by simp;omega,by simpa using hpad,?_⟩
     simp+decide (disch:=first|exact D3 h9 h10 h11|fail) only[go_sem,↓reduceIte,h9,h10,h11]
     simp
    ·rw[if_pos (Decidable.not_not.1 hz)]at hpad
     simp+decide (disch:=first|exact D5 h9 h10 h11 hx hy|fail) only[go_sem,↓reduceIte,h9,h10,h11,hx,hy]
     refine Qg ((p.length-(i+1))+(q.length-(k+1))) (by omega) ⟨i+1,k+1,out,rfl,by omega,by omega,by omega,hpad,?_⟩
     simp+decide (disch:=first|exact D4 h9 h10 h11 hh|fail) only[go_sem,↓reduceIte,h9,h10,h11,hh]
  ·have hfin:(out++p.drop i++q.drop k).take (out.length+(p.drop i).length+(q.drop k).length)=Q5 p q:=by
    rw[List.take_of_length_le (by simp;omega),<-hpad,List.drop_of_length_le (by omega:q.length<=k),Qcd,List.append_nil]
   simp+decide (disch:=first|exact D3 h9 h10 h11|fail) only[go_sem,↓reduceIte,h9,h10,h11]
   rw[Qdf (f:=PV.term) (xs:=out) (ys:=p.drop i) (T1 hh) rfl (by omega) (by simp;omega) (by simp;omega)]
   simp+decide (disch:=first|exact D3 h9 h10 h11|fail) only[go_sem,↓reduceIte,h9,h10,h11]
   rw[Qdf (f:=PV.term) (xs:=out++p.drop i) (ys:=q.drop k) T0 (by simp) (by omega) (by simp;omega) (by simp;omega)]
   simp+decide (disch:=first|exact E3 h9 h10 h11|fail) only[go_sem,↓reduceIte,h9,h10,h11,Q7,List.contains_cons,List.contains_nil,List.flatMap_cons,List.flatMap_nil,List.append_nil]
   exact Qc (by rw[<-List.map_take,hfin]) rfl
 ·have hfin:(out++p.drop i++q.drop k).take (out.length+(p.drop i).length+(q.drop k).length)=Q5 p q:=by
   rw[List.take_of_length_le (by simp;omega),<-hpad,List.drop_of_length_le (by omega:p.length<=i),Qdv,List.append_nil]
  simp+decide (disch:=first|exact D3 h9 h10 h11|fail) only[go_sem,↓reduceIte,h9,h10,h11]
  rw[Qdf (f:=PV.term) (xs:=out) (ys:=p.drop i) (T1 hh) rfl (by omega) (by simp;omega) (by simp;omega)]
  simp+decide (disch:=first|exact D3 h9 h10 h11|fail) only[go_sem,↓reduceIte,h9,h10,h11]
  rw[Qdf (f:=PV.term) (xs:=out++p.drop i) (ys:=q.drop k) T0 (by simp) (by omega) (by simp;omega) (by simp;omega)]
  simp+decide (disch:=first|exact E3 h9 h10 h11|fail) only[go_sem,↓reduceIte,h9,h10,h11,Q7,List.contains_cons,List.contains_nil,List.flatMap_cons,List.flatMap_nil,List.append_nil]
  exact Qc (by rw[<-List.map_take,hfin]) rfl
theorem Qpb{p q:List Tm}{K E:Nat}(hp:PB K E p)(hq:PB K E q)(hK:K<=2^33)(hE:E<=2^38)(hlp:p.length<=2^36)(hlq:q.length<=2^36):
  Qe Tryz.prog 92 [PV.poly p,PV.poly q] (· =PV.poly (Q5 p q)):=by
 refine Qf Qj Tryz.func92 rfl Qaof (by simp[c92]) fun C hP=> ?_;simp only[c92,Zo,Zg,Zm,Zc,Zf,Zl,Zh,Zs,Zi,Zb,Zk,Zn,Zu,Zq,Zr,Zz]
 simp+decide (disch:=first|exact D0|fail) only[go_sem,↓reduceIte]
 refine Qa hP (Q1p hp hq hK hE hlp hlq) rfl rfl rfl ?_
 simp+decide (disch:=first|exact D0|fail) only[go_sem,↓reduceIte]
 exact Qc rfl rfl
end Go.Proofs.YtonfajmchebkeaaGreat
namespace Go.Proofs.YtonfajmchebkeaaGreat
open Go Go.FW
set_option linter.unusedSimpArgs false
set_option linter.unusedVariables false
set_option maxRecDepth 100000
theorem Qvf{K E:Nat}(hE:E<=2^38):∀(n:Nat)(l:List (List Tm)),l.length<=n->(∀p∈l,PB K E p)->l.length*K<=2^33->l.length<=2^36->Qoq l<=2^36->Qe Tryz.prog 176 [PV.polys l] (· =PV.poly (Qba l)):=by
 intro n
 induction n with
 |zero=>
  intro l hl _ _ _ _
  have:l=[]:=List.length_eq_zero_iff.1 (by omega)
  subst this
  refine Qf Qj Tryz.func176 rfl Q4d (by simp[Q1n]) fun C hP=> ?_;simp only[Q1n,Zo,Zg,Zm,Zc,Zf,Zl,Zh,Zs,Zi,Zb,Zk,Zn,Zu,Zq,Zr,Zz]
  simp+decide (disch:=first|omega|rfl|(simp+decide only[go_sem,↓reduceIte,List.map_nil,List.length_nil]<;>rfl)|fail) only[go_sem,↓reduceIte,List.map_nil,List.length_nil]
  exact Qef (Qqi (by rw[Qba])) rfl
 | succ n ih=>
  intro l hl hb hK hll hpl
  refine Qf Qj Tryz.func176 rfl Q4d (by simp[Q1n]) fun C hP=> ?_;simp only[Q1n,Zo,Zg,Zm,Zc,Zf,Zl,Zh,Zs,Zi,Zb,Zk,Zn,Zu,Zq,Zr,Zz]
  simp+decide (disch:=first|exact D0|fail) only[go_sem,↓reduceIte]
  refine Qb (fun h0=> ?_) (fun h0=> ?_)
  ·have:l=[]:=List.length_eq_zero_iff.1 (by omega)
   subst this
   simp+decide (disch:=first|exact D0|fail) only[go_sem,↓reduceIte]
   exact Qef (Qqi (by rw[Qba])) rfl
  simp+decide (disch:=first|exact D0|fail) only[go_sem,↓reduceIte]
  refine Qb (fun h1=> ?_) (fun h1=> ?_)
  ·obtain⟨p,rfl⟩:∃p,l=[p]:=List.length_eq_one_iff.1 (by omega)
   simp+decide (disch:=first|omega|rfl|(simp+decide only[go_sem,↓reduceIte,List.map_cons,List.map_nil]<;>rfl)|fail) only[go_sem,↓reduceIte,List.map_cons,List.map_nil]
   exact Qc (by rw[Qba];rfl) rfl
  have h2:2<=l.length:=by omega
  have hs:=Quu l (l.length/2)
  have e:(2:Int)=((2:Nat):Int):=rfl
  have hq:∀d fr hp K,Qaz .quo false (.int .i64 (l.length:Int)) (.int .i64 2) d fr hp K=K (upd fr d (.int .i64 ((l.length/2:Nat):Int))) hp:=fun d fr hp K=>by
   rw[e,Qrk (by omega) (by omega)]
  have b1:=Qor (K:=K) (E:=E) _ (l.take (l.length/2)) (Nat.le_refl _) (fun p hp=>hb p (List.mem_of_mem_take hp))
  have b2:=Qor (K:=K) (E:=E) _ (l.drop (l.length/2)) (Nat.le_refl _) (fun p hp=>hb p (List.mem_of_mem_drop hp))
  have l1:(l.take (l.length/2)).length*K<=l.length*K:=Nat.mul_le_mul_right _ (by rw[List.length_take];omega)
  have l2:(l.drop (l.length/2)).length*K<=l.length*K:=Nat.mul_le_mul_right _ (by rw[List.length_drop];omega)
  simp+decide (disch:=first|exact D1 hq|fail) only[go_sem,↓reduceIte,hq]
  refine Qa hP (ih (l.take (l.length/2)) (by rw[List.length_take];omega) (fun p hp=>hb p (List.mem_of_mem_take hp)) (by omega) (by rw[List.length_take];omega) (by omega)) rfl rfl rfl ?_
  simp+decide (disch:=first|exact D1 hq|fail) only[go_sem,↓reduceIte,hq]
  refine Qa hP (ih (l.drop (l.length/2)) (by rw[List.length_drop];omega) (fun p hp=>hb p (List.mem_of_mem_drop hp)) (by omega) (by rw[List.length_drop];omega) (by omega)) rfl rfl rfl ?_
  simp+decide (disch:=first|exact D1 hq|fail) only[go_sem,↓reduceIte,hq]
  refine Qa hP (Qpb (b1.1.mono (K':=l.length*K) l1 (Nat.le_refl _)) (b2.1.mono l2 (Nat.le_refl _)) hK hE (by omega) (by omega)) rfl rfl rfl ?_
  simp+decide (disch:=first|exact D0|fail) only[go_sem,↓reduceIte]
  exact Qc (by rw[Qj5 h2]) rfl
theorem Qm9{p:List Tm}{t:Tm}{i:Nat}(h:i<p.length):Q6 (p.take (i+1)) t=Q6 (p.take i) t++(if p[i].1*t.1=0 then []else [(p[i].1*t.1,Qan p[i].2 t.2)]):=by
 rw[List.take_succ_eq_append_getElem h,Q6,List.filterMap_append,Q6]
 congr 1
 simp only[List.filterMap_cons,List.filterMap_nil]
 split<;>split<;>simp_all
theorem Qlz{p:List Tm}{t:Tm}{K E:Nat}(hp:PB K E p)(ht:TB K E t)(hK:K<=2^33)(hE:E<=2^38)(hlp:p.length<=2^36):
  Qe Tryz.prog 175 [PV.poly p,PV.term t] (· =PV.poly (Q6 p t)):=by
 refine Qf Qj Tryz.func175 rfl Qak7 (by simp[c175]) fun C hP=> ?_;simp only[c175,Zo,Zg,Zm,Zc,Zf,Zl,Zh,Zs,Zi,Zb,Zk,Zn,Zu,Zq,Zr,Zz]
 simp+decide (disch:=first|exact D0|fail) only[go_sem,↓reduceIte]
 refine Qx (by repeat (first|exact Qt|exact Qm|exact Qn|exact Qo|exact Qp|apply Ql|apply Qr|apply Qy|apply Q3|apply Q4|apply Qi)) [(5,5),(7,8),(14,36)] [7,8,11,34,35] (fun n J hp=>∃i,n=p.length-i/\i<=p.length/\J 5= .ms 11 (Q6 (p.take i) t).length/\J 14= .int .i64 (i:Nat)/\hp 3=some ⟨4,127,[PV.term t],false⟩/\hp 11=some ⟨4,127,(Q6 (p.take i) t).map PV.term,false⟩) p.length ?_ ?_
 ·refine⟨0,rfl,by omega,?_⟩
  simp+decide (disch:=first|exact D0|fail) only[go_sem,↓reduceIte]
  simp[Q6]
 rintro _ J h ⟨i,rfl,hi,h5,h14,hh3,hh11⟩
 simp+decide (disch:=first|exact D2 h5 h14|fail) only[go_sem,↓reduceIte,h5,h14]
 refine Qb (fun hg=> ?_) (fun hg=> ?_)
 ·have hi':i<p.length:=by omega
  have htp:=hp.get hi'
  have htk:=Qm9 (t:=t) hi'
  have hlen:=Qdw (p.take i) t
  rw[List.length_take]at hlen
  have c1:=htp.c
  have c2:=ht.c
  have hrm:=Qlr p[i].1 t.1
  generalize hx:p[i]=x at *
  simp+decide (disch:=first|exact D4 h5 h14 hh3 hx|fail) only[go_sem,↓reduceIte,h5,h14,hh3,hx]
  refine Qa hP (Qaqk (a:=x.1) (b:=t.1) (k:=2^33) (by omega) (by omega) (by omega)) rfl rfl rfl ?_
  simp+decide (disch:=first|exact D4 h5 h14 hh3 hx|fail) only[go_sem,↓reduceIte,h5,h14,hh3,hx]
  refine Qa hP (Qvd (a:=x.1*t.1) (by omega)) rfl rfl rfl ?_
  simp+decide (disch:=first|exact D4 h5 h14 hh3 hx|fail) only[go_sem,↓reduceIte,h5,h14,hh3,hx]
  refine Qb (fun hz=> ?_) (fun hz=> ?_)
  ·rw[if_neg (fun h=>hz (Qa6.2 h))]at htk
   simp+decide (disch:=first|exact D4 h5 h14 hh3 hx|fail) only[go_sem,↓reduceIte,h5,h14,hh3,hx]
   refine Qa hP (Q6g htp.m ht.m (by omega)) rfl rfl rfl ?_
   simp+decide (disch:=first|exact D4 h5 h14 hh3 hx|fail) only[go_sem,↓reduceIte,h5,h14,hh3,hx]
   rw[Qal (f:=PV.term) (y:=(x.1*t.1,Qan x.2 t.2)) (xs:=Q6 (p.take i) t) (ty':=127) (fz:=false) (T1 hh11) Tr0 (by omega) rfl (by omega) (by omega)]
   rw[<-htk]
   simp+decide (disch:=first|exact D4 h5 h14 hh3 hx|fail) only[go_sem,↓reduceIte,h5,h14,hh3,hx]
   refine Qg (p.length-(i+1)) (by omega) ⟨i+1,rfl,by omega,?_⟩
   rw[htk]
   simp+decide (disch:=first|omega|rfl|(simp+decide only[go_sem,↓reduceIte,h5,h14,hh3,List.length_append]<;>rfl)|fail) only[go_sem,↓reduceIte,h5,h14,hh3,List.length_append]
  ·rw[if_pos (Qa6.1 (Decidable.not_not.1 hz)),List.append_nil]at htk
   simp+decide (disch:=first|exact D4 h5 h14 hh3 hx|fail) only[go_sem,↓reduceIte,h5,h14,hh3,hx]
   refine Qg (p.length-(i+1)) (by omega) ⟨i+1,rfl,by omega,?_⟩
   rw[htk]
   simp+decide (disch:=first|exact D4 h5 h14 hh3 hh11|fail) only[go_sem,↓reduceIte,h5,h14,hh3,hh11]
 ·obtain rfl:i=p.length:=by omega
  rw[List.take_length]at h5 hh11
  simp+decide (disch:=first|exact E2 h5 hh11|fail) only[go_sem,↓reduceIte,h5,hh11,Q7,List.contains_cons,List.contains_nil,List.flatMap_cons,List.flatMap_nil,List.append_nil]
  exact Qc (by simp[List.take_of_length_le]) rfl
theorem Qkw{p q:List Tm}{K E:Nat}(hp:PB K E p)(hq:PB K E q)(hE:E<=2^37)(hlp:p.length<=2^30)(hlq:q.length<=2^30)(hlm:p.length*q.length<=2^36)(hK:min p.length q.length*(K+K)<=2^33)(hK2:K<=2^33):
  Qe Tryz.prog 93 [PV.poly p,PV.poly q] (· =PV.poly (Qaf p q)):=by
 have main:∀(p q:List Tm),PB K E p->PB K E q->p.length<=2^30->q.length<=2^30->p.length*q.length<=2^36->p.length*(K+K)<=2^33->p.length<=q.length->True:=fun _ _ _ _ _ _ _ _ _=>trivial
 refine Qf Qj Tryz.func93 rfl Qaog (by simp[c93]) fun C hP=> ?_;simp only[c93,Zo,Zg,Zm,Zc,Zf,Zl,Zh,Zs,Zi,Zb,Zk,Zn,Zu,Zq,Zr,Zz]
 simp+decide (disch:=first|exact D0|fail) only[go_sem,↓reduceIte]
 refine Qb (fun hg=> ?_) (fun hg=> ?_)
 ·have hfin:Qgg q p=Qaf p q:=by rw[Qaf,if_pos (by omega)]
  have hK3:q.length*(K+K)<=2^33:=by rw[Nat.min_eq_right (by omega)]at hK;exact hK
  have hlm2:q.length*p.length<=2^36:=by rw[Nat.mul_comm];exact hlm
  simp+decide (disch:=first|exact D0|fail) only[go_sem,↓reduceIte]
  refine Qx (by repeat (first|exact Qt|exact Qm|exact Qn|exact Qo|exact Qp|apply Ql|apply Qr|apply Qy|apply Q3|apply Q4|apply Qi)) [(5,5),(7,7),(20,30)] [7,17,28,29] (fun n J hp=>∃i,n=q.length-i/\i<=q.length/\J 5= .ms 17 i/\J 20= .int .i64 (i:Nat)/\hp 17=some ⟨1,51,((q.take i).map (Q6 p)).map PV.poly,false⟩) q.length ?_ ?_
  ·refine⟨0,rfl,by omega,?_⟩
   simp+decide (disch:=first|exact D0|fail) only[go_sem,↓reduceIte]
   simp
  rintro _ J h ⟨i,rfl,hi,h5,h20,hh⟩
  simp+decide (disch:=first|exact D2 h5 h20|fail) only[go_sem,↓reduceIte,h5,h20]
  refine Qb (fun hg2=> ?_) (fun hg2=> ?_)
  ·have hi':i<q.length:=by omega
   have htp:=hq.get hi'
   have htk:(q.take (i+1)).map (Q6 p)=(q.take i).map (Q6 p)++[Q6 p q[i]]:=by
    rw[List.take_succ_eq_append_getElem hi',List.map_append];rfl
   generalize hx:q[i]=x at *
   simp+decide (disch:=first|exact D3 h5 h20 hx|fail) only[go_sem,↓reduceIte,h5,h20,hx]
   refine Qa hP (Qlz (t:=x) hp htp hK2 (by omega) (by omega)) rfl rfl rfl ?_
   simp+decide (disch:=first|exact D3 h5 h20 hx|fail) only[go_sem,↓reduceIte,h5,h20,hx]
   rw[Qal (f:=PV.poly) (y:=Q6 p x) (xs:=(q.take i).map (Q6 p)) (ty':=51) (fz:=false) (T1 hh) Tr0 (by omega) (by simp;omega) (by omega) (by omega)]
   rw[<-htk]
   simp+decide (disch:=first|exact D3 h5 h20 hx|fail) only[go_sem,↓reduceIte,h5,h20,hx]
   refine Qg (q.length-(i+1)) (by omega) ⟨i+1,rfl,by omega,?_⟩
   simp+decide (disch:=first|exact D2 h5 h20|fail) only[go_sem,↓reduceIte,h5,h20]
  ·obtain rfl:i=q.length:=by omega
   rw[List.take_length]at hh
   have hpl:=Qi9 q p
   simp+decide (disch:=first|exact D2 h5 hh|fail) only[go_sem,↓reduceIte,h5,hh]
   refine Qb3 hP (Qvf (K:=K+K) (E:=E+E) (by omega) _ (q.map (Q6 p)) (Nat.le_refl _) (fun x hx=>by
    obtain⟨t,ht,rfl⟩:=List.mem_map.1 hx
    exact Qfu hp (hq t ht)) (by rw[List.length_map];omega) (by rw[List.length_map];omega) (by omega)) (by simp+decide (disch:=first|exact E1 hh|fail) only[go_sem,↓reduceIte,hh,Q7,List.contains_cons,List.contains_nil,List.flatMap_cons,List.flatMap_nil,List.append_nil];simp[List.take_of_length_le]) rfl ?_
   simp+decide (disch:=first|exact D0|fail) only[go_sem,↓reduceIte]
   exact Qc (congrArg PV.poly hfin) rfl
 ·have hfin:Qgg p q=Qaf p q:=by rw[Qaf,if_neg (by omega)]
  have hK3:p.length*(K+K)<=2^33:=by rw[Nat.min_eq_left (by omega)]at hK;exact hK
  simp+decide (disch:=first|exact D0|fail) only[go_sem,↓reduceIte]
  refine Qx (by repeat (first|exact Qt|exact Qm|exact Qn|exact Qo|exact Qp|apply Ql|apply Qr|apply Qy|apply Q3|apply Q4|apply Qi)) [(5,5),(7,7),(20,30)] [7,17,28,29] (fun n J hp=>∃i,n=p.length-i/\i<=p.length/\J 5= .ms 17 i/\J 20= .int .i64 (i:Nat)/\hp 17=some ⟨1,51,((p.take i).map (Q6 q)).map PV.poly,false⟩) p.length ?_ ?_
  ·refine⟨0,rfl,by omega,?_⟩
   simp+decide (disch:=first|exact D0|fail) only[go_sem,↓reduceIte]
   simp
  rintro _ J h ⟨i,rfl,hi,h5,h20,hh⟩
  simp+decide (disch:=first|exact D2 h5 h20|fail) only[go_sem,↓reduceIte,h5,h20]
  refine Qb (fun hg2=> ?_) (fun hg2=> ?_)
  ·have hi':i<p.length:=by omega
   have htp:=hp.get hi'
   have htk:(p.take (i+1)).map (Q6 q)=(p.take i).map (Q6 q)++[Q6 q p[i]]:=by
    rw[List.take_succ_eq_append_getElem hi',List.map_append];rfl
   generalize hx:p[i]=x at *
   simp+decide (disch:=first|exact D3 h5 h20 hx|fail) only[go_sem,↓reduceIte,h5,h20,hx]
   refine Qa hP (Qlz (t:=x) hq htp hK2 (by omega) (by omega)) rfl rfl rfl ?_
   simp+decide (disch:=first|exact D3 h5 h20 hx|fail) only[go_sem,↓reduceIte,h5,h20,hx]
   rw[Qal (f:=PV.poly) (y:=Q6 q x) (xs:=(p.take i).map (Q6 q)) (ty':=51) (fz:=false) (T1 hh) Tr0 (by omega) (by simp;omega) (by omega) (by omega)]
   rw[<-htk]
   simp+decide (disch:=first|exact D3 h5 h20 hx|fail) only[go_sem,↓reduceIte,h5,h20,hx]
   refine Qg (p.length-(i+1)) (by omega) ⟨i+1,rfl,by omega,?_⟩
   simp+decide (disch:=first|exact D2 h5 h20|fail) only[go_sem,↓reduceIte,h5,h20]
  ·obtain rfl:i=p.length:=by omega
   rw[List.take_length]at hh
   have hpl:=Qi9 p q
   simp+decide (disch:=first|exact D2 h5 hh|fail) only[go_sem,↓reduceIte,h5,hh]
   refine Qb3 hP (Qvf (K:=K+K) (E:=E+E) (by omega) _ (p.map (Q6 q)) (Nat.le_refl _) (fun x hx=>by
    obtain⟨t,ht,rfl⟩:=List.mem_map.1 hx
    exact Qfu hq (hp t ht)) (by rw[List.length_map];omega) (by rw[List.length_map];omega) (by omega)) (by simp+decide (disch:=first|exact E1 hh|fail) only[go_sem,↓reduceIte,hh,Q7,List.contains_cons,List.contains_nil,List.flatMap_cons,List.flatMap_nil,List.append_nil];simp[List.take_of_length_le]) rfl ?_
   simp+decide (disch:=first|exact D0|fail) only[go_sem,↓reduceIte]
   exact Qc (congrArg PV.poly hfin) rfl
end Go.Proofs.YtonfajmchebkeaaGreat
namespace Go.Proofs.YtonfajmchebkeaaGreat
open Go Go.FW
set_option linter.unusedSimpArgs false
set_option linter.unusedVariables false
set_option maxRecDepth 100000
theorem Q9w{k l:Nat}{a b:List Int}(ha:MB k a)(hb:MB l b)(h1:a.getLast? ≠some 0)(h2:b.getLast? ≠some 0):Qew (· + ·) a b=Qan a b:=by
 rw[Qan,Q0p]
 rw[List.getLast?_eq_getElem?,Qbj]
 intro h
 obtain⟨hl,hv⟩:=List.getElem?_eq_some_iff.1 h
 rw[<-Qch hl,Qwi (by simp)]at hv
 rw[Qbj]at hl
 have p1:=(ha.eN (max a.length b.length-1)).1
 have p2:=(hb.eN (max a.length b.length-1)).1
 by_cases hc:b.length<=a.length
 ·apply h1
  have e:max a.length b.length-1=a.length-1:=by omega
  rw[e]at hv p1 p2
  rw[List.getLast?_eq_getElem?,List.getElem?_eq_getElem (by omega),<-Qch (by omega)]
  congr 1;omega
 ·apply h2
  have e:max a.length b.length-1=b.length-1:=by omega
  rw[e]at hv p1 p2
  rw[List.getLast?_eq_getElem?,List.getElem?_eq_getElem (by omega),<-Qch (by omega)]
  congr 1;omega
theorem Qy2{p:List Tm}{t:Tm}{K E:Nat}(hp:PB K E p)(ht:TB K E t)(hnz:NZ p)(ht0:t.1≠0)(hK:K<=2^33)(hE:E<=2^38)(hlp:p.length<=2^36):
  Qe Tryz.prog 86 [PV.poly p,PV.term t] (· =PV.poly (Q6 p t)):=by
 refine Qf Qj Tryz.func86 rfl Qan0 (by simp[c86]) fun C hP=> ?_;simp only[c86,Zo,Zg,Zm,Zc,Zf,Zl,Zh,Zs,Zi,Zb,Zk,Zn,Zu,Zq,Zr,Zz]
 simp+decide (disch:=first|exact D0|fail) only[go_sem,↓reduceIte]
 refine Qf7 5 900 4 127 (by omega) T0 ?_
 refine Qx (by repeat (first|exact Qt|exact Qm|exact Qn|exact Qo|exact Qp|apply Ql|apply Qr|apply Qy|apply Q3|apply Q4|apply Qi|apply Qw)) [(5,32)] [31,32,900] (fun n J hp=>∃i,n=p.length-i/\i<=p.length/\J 5= .ms 900 (Q6 (p.take i) t).length/\J 6= .int .i64 (i:Nat)/\hp 3=some ⟨4,127,[PV.term t],false⟩/\hp 900=some ⟨4,127,(Q6 (p.take i) t).map PV.term,false⟩) p.length ?_ ?_
 ·refine⟨0,rfl,by omega,?_⟩
  simp+decide (disch:=first|exact D0|fail) only[go_sem,↓reduceIte]
  simp[Q6]
 rintro _ J h ⟨i,rfl,hi,h5,h6,hh3,hh⟩
 simp+decide (disch:=first|exact D2 h5 h6|fail) only[go_sem,↓reduceIte,h5,h6]
 refine Qb (fun hg=> ?_) (fun hg=> ?_)
 ·have hi':i<p.length:=by omega
  have htp:=hp.get hi'
  have htk:=Qm9 (t:=t) hi'
  have hlen:=Qdw (p.take i) t
  rw[List.length_take]at hlen
  have c1:=htp.c
  have c2:=ht.c
  have hn0:=hnz _ (List.getElem_mem hi')
  generalize hx:p[i]=x at *
  have hzz:=Q9w htp.m ht.m htp.l ht.l
  rw[if_neg (fun h=>by rcases Rat.mul_eq_zero.1 h with h|h<;>contradiction)]at htk
  simp+decide (disch:=first|exact D4 h5 h6 hh3 hx|fail) only[go_sem,↓reduceIte,h5,h6,hh3,hx]
  refine Qa hP (Qly (a:=x.1) (b:=t.1) (k:=2^33) (by omega) (by omega) (by omega)) rfl rfl rfl ?_
  simp+decide (disch:=first|exact D4 h5 h6 hh3 hx|fail) only[go_sem,↓reduceIte,h5,h6,hh3,hx]
  refine Qa hP (Q28 htp.m ht.m (by omega)) rfl rfl rfl ?_
  rw[hzz]
  simp+decide (disch:=first|exact D4 h5 h6 hh3 hx|fail) only[go_sem,↓reduceIte,h5,h6,hh3,hx]
  rw[Qal (f:=PV.term) (y:=(x.1*t.1,Qan x.2 t.2)) (xs:=Q6 (p.take i) t) (ty':=127) (fz:=false) (T1 hh) Tr0 (by omega) rfl (by omega) (by omega)]
  rw[<-htk]
  simp+decide (disch:=first|exact D4 h5 h6 hh3 hx|fail) only[go_sem,↓reduceIte,h5,h6,hh3,hx]
  refine Qg (p.length-(i+1)) (by omega) ⟨i+1,rfl,by omega,?_⟩
  rw[htk]
  simp+decide (disch:=first|omega|rfl|(simp+decide only[go_sem,↓reduceIte,h5,h6,hh3,List.length_append]<;>rfl)|fail) only[go_sem,↓reduceIte,h5,h6,hh3,List.length_append]
 ·obtain rfl:i=p.length:=by omega
  rw[List.take_length]at h5 hh
  simp+decide (disch:=first|exact E2 h5 hh|fail) only[go_sem,↓reduceIte,h5,hh,Q7,List.contains_cons,List.contains_nil,List.flatMap_cons,List.flatMap_nil,List.append_nil]
  exact Qc (by simp[List.take_of_length_le]) rfl
theorem Q6h{p q:List Tm}{i:Nat}(h:i<q.length):Qhd p (q.take (i+1))=Q5 (Qhd p (q.take i)) (Q6 p q[i]):=by
 rw[List.take_succ_eq_append_getElem h,Qhd,List.foldl_append,Qhd];rfl
theorem Qsu{K E:Nat}{p:List Tm}(hp:PB K E p):∀(q out:List Tm)(L:Nat),PB K E q->PB L (E+E) out->PB (q.length*(K+K)+L) (E+E) (q.foldl (fun out t=>Q5 out (Q6 p t)) out)/\(q.foldl (fun out t=>Q5 out (Q6 p t)) out).length<=q.length*p.length+out.length
 | [],out,L,_,ho=>⟨by simpa using ho,by simp⟩
 |t::q,out,L,hq,ho=>by
  obtain⟨h1,h2⟩:=Qsu hp q (Q5 out (Q6 p t)) (L+(K+K)) (PB.cons.1 hq).2 (Qwk _ _ ho (Qfu hp (PB.cons.1 hq).1))
  have h3:=Qsh out (Q6 p t)
  have h4:=Qdw p t
  refine⟨h1.mono (by rw[List.length_cons,Nat.add_mul];omega) (Nat.le_refl _),Nat.le_trans h2 ?_⟩
  rw[List.length_cons,Nat.add_mul];omega
theorem Qafu{K E:Nat}{p q:List Tm}(hp:PB K E p)(hq:PB K E q):PB (q.length*(K+K)) (E+E) (Qhd p q)/\(Qhd p q).length<=q.length*p.length:=by
 have:=Qsu hp q [] 0 hq (PB.nil _ _)
 simpa[Qhd]using this
theorem Qna{p q:List Tm}{K E:Nat}(hp:PB K E p)(hq:PB K E q)(hnp:NZ p)(hnq:NZ q)(hE:E<=2^37)(hlp:p.length<=2^30)(hlq:q.length<=2^30)(hlm:q.length*p.length<=2^36)(hK:q.length*(K+K)+(K+K)<=2^32):
  Qe Tryz.prog 41 [PV.poly p,PV.poly q] (· =PV.poly (Qhd p q)):=by
 refine Qf Qj Tryz.func41 rfl Qanx (by simp[c41]) fun C hP=> ?_;simp only[c41,Zo,Zg,Zm,Zc,Zf,Zl,Zh,Zs,Zi,Zb,Zk,Zn,Zu,Zq,Zr,Zz]
 simp+decide (disch:=first|exact D0|fail) only[go_sem,↓reduceIte]
 refine Qh2 5 4 T0 ?_
 refine Qx (by repeat (first|exact Qt|exact Qm|exact Qn|exact Qo|exact Qp|apply Ql|apply Qr|apply Qy|apply Q3|apply Q4|apply Qi|apply Qw)) [(5,20)] [] (fun n J hp=>∃i,n=q.length-i/\i<=q.length/\J 5=PV.poly (Qhd p (q.take i))/\J 6= .int .i64 (i:Nat)) q.length ?_ ?_
 ·refine⟨0,rfl,by omega,?_⟩
  simp+decide (disch:=first|exact D0|fail) only[go_sem,↓reduceIte]
  simp[Qhd]
 rintro _ J h ⟨i,rfl,hi,h5,h6⟩
 simp+decide (disch:=first|exact D2 h5 h6|fail) only[go_sem,↓reduceIte,h5,h6]
 refine Qb (fun hg=> ?_) (fun hg=> ?_)
 ·have hi':i<q.length:=by omega
  have htq:=hq.get hi'
  have htk:=Q6h (p:=p) hi'
  have hn0:=hnq _ (List.getElem_mem hi')
  obtain⟨hb1,hb2⟩:=Qafu hp (hq.take i)
  have hbt:=Qfu hp htq
  have hlt:=Qdw p q[i]
  generalize hx:q[i]=x at *
  have e1:(q.take i).length=i:=by rw[List.length_take];omega
  rw[e1]at hb1 hb2
  have e2:i*(K+K)<=q.length*(K+K):=Nat.mul_le_mul_right _ hi
  have e3:i*p.length<=q.length*p.length:=Nat.mul_le_mul_right _ hi
  simp+decide (disch:=first|exact D3 h5 h6 hx|fail) only[go_sem,↓reduceIte,h5,h6,hx]
  refine Qa hP (Qy2 (t:=x) hp htq hnp hn0 (by omega) (by omega) (by omega)) rfl rfl rfl ?_
  simp+decide (disch:=first|exact D3 h5 h6 hx|fail) only[go_sem,↓reduceIte,h5,h6,hx]
  refine Qa hP (Qhb (K:=q.length*(K+K)+(K+K)) (E:=E+E) (hb1.mono (by omega) (by omega)) (hbt.mono (by omega) (by omega)) hK (by omega) (by omega) (by omega)) rfl rfl rfl ?_
  simp+decide (disch:=first|exact D3 h5 h6 hx|fail) only[go_sem,↓reduceIte,h5,h6,hx]
  refine Qg (q.length-(i+1)) (by omega) ⟨i+1,rfl,by omega,?_⟩
  rw[htk]
  simp+decide (disch:=first|exact D0|fail) only[go_sem,↓reduceIte]
 ·obtain rfl:i=q.length:=by omega
  rw[List.take_length]at h5
  simp+decide (disch:=first|exact D1 h5|fail) only[go_sem,↓reduceIte,h5]
  exact Qc rfl rfl
theorem Qy3{p:List Tm}{a:Rat}{K E:Nat}(hp:PB K E p)(hnz:NZ p)(ha:rs a+1<=K)(hK:K<=2^33)(hE:E<=2^38)(hlp:p.length<=2^36):
  Qe Tryz.prog 125 [PV.poly p,PV.rat a] (· =PV.poly (Qag p a)):=by
 refine Qf Qj Tryz.func125 rfl Qajr (by simp[c125]) fun C hP=> ?_;simp only[c125,Zo,Zg,Zm,Zc,Zf,Zl,Zh,Zs,Zi,Zb,Zk,Zn,Zu,Zq,Zr,Zz]
 simp+decide (disch:=first|exact D0|fail) only[go_sem,↓reduceIte]
 refine Qf7 5 900 4 127 (by omega) T0 ?_
 refine Qx (by repeat (first|exact Qt|exact Qm|exact Qn|exact Qo|exact Qp|apply Ql|apply Qr|apply Qy|apply Q3|apply Q4|apply Qi|apply Qw)) [(5,33)] [32,33,900] (fun n J hp=>∃i,n=p.length-i/\i<=p.length/\J 5= .ms 900 (Q6 (p.take i) (a,[])).length/\J 6= .int .i64 (i:Nat)/\hp 3=some ⟨3,32,[PV.rat a],false⟩/\hp 900=some ⟨4,127,(Q6 (p.take i) (a,[])).map PV.term,false⟩) p.length ?_ ?_
 ·refine⟨0,rfl,by omega,?_⟩
  simp+decide (disch:=first|exact D0|fail) only[go_sem,↓reduceIte]
  simp[Q6]
 rintro _ J h ⟨i,rfl,hi,h5,h6,hh3,hh⟩
 simp+decide (disch:=first|exact D2 h5 h6|fail) only[go_sem,↓reduceIte,h5,h6]
 refine Q8 (fun hg=> ?_) (fun hg=> ?_)
 ·have hi':i<p.length:=by omega
  have htp:=hp.get hi'
  have htk:=Qm9 (t:=(a,[])) hi'
  have hlen:=Qdw (p.take i) (a,[])
  rw[List.length_take]at hlen
  have c1:=htp.c
  have hn0:=hnz _ (List.getElem_mem hi')
  generalize hx:p[i]=x at *
  simp+decide (disch:=first|exact D4 h5 h6 hh3 hx|fail) only[go_sem,↓reduceIte,h5,h6,hh3,hx]
  refine Qa hP (Qka (a:=a) (by omega)) rfl rfl rfl ?_
  simp+decide (disch:=first|exact D4 h5 h6 hh3 hx|fail) only[go_sem,↓reduceIte,h5,h6,hh3,hx]
  refine Qb (fun hz=> ?_) (fun hz=> ?_)
  ·rw[if_neg (fun h=>by rcases Rat.mul_eq_zero.1 h with h|h;exact hn0 h;exact hz (Qa6.2 h)),Qls htp.l]at htk
   simp+decide (disch:=first|exact D4 h5 h6 hh3 hx|fail) only[go_sem,↓reduceIte,h5,h6,hh3,hx]
   refine Qa hP (Qly (a:=x.1) (b:=a) (k:=2^33) (by omega) (by omega) (by omega)) rfl rfl rfl ?_
   simp+decide (disch:=first|exact D4 h5 h6 hh3 hx|fail) only[go_sem,↓reduceIte,h5,h6,hh3,hx]
   rw[Qal (f:=PV.term) (y:=(x.1*a,x.2)) (xs:=Q6 (p.take i) (a,[])) (ty':=127) (fz:=false) (T1 hh) Tr0 (by omega) rfl (by omega) (by omega)]
   rw[<-htk]
   simp+decide (disch:=first|exact D4 h5 h6 hh3 hx|fail) only[go_sem,↓reduceIte,h5,h6,hh3,hx]
   refine Qg (p.length-(i+1)) (by omega) ⟨i+1,rfl,by omega,?_⟩
   rw[htk]
   simp+decide (disch:=first|omega|rfl|(simp+decide only[go_sem,↓reduceIte,h5,h6,hh3,List.length_append]<;>rfl)|fail) only[go_sem,↓reduceIte,h5,h6,hh3,List.length_append]
  ·have ha0:=Qa6.1 (Decidable.not_not.1 hz)
   have e0:∀l:List Tm,Q6 l (a,[])=[]:=fun l=>by rw[ha0];simp[Q6]
   simp+decide (disch:=first|exact E3 h5 hh hh3|fail) only[go_sem,↓reduceIte,h5,hh,hh3,Q7,List.contains_cons,List.contains_nil,List.flatMap_cons,List.flatMap_nil,List.append_nil]
   refine Qc ?_ rfl
   rw[e0,Qag,if_pos ha0];rfl
 ·obtain rfl:i=p.length:=by omega
  rw[List.take_length]at h5 hh
  simp+decide (disch:=first|exact E3 h5 hh hh3|fail) only[go_sem,↓reduceIte,h5,hh,hh3,Q7,List.contains_cons,List.contains_nil,List.flatMap_cons,List.flatMap_nil,List.append_nil]
  refine Qc ?_ rfl
  rw[List.take_of_length_le (by simp),Qag]
  split
  ·rename_i ha0;rw[ha0];simp[Q6]
  ·rfl
theorem Q3b{p:List Tm}{K E:Nat}(hp:PB K E p)(hnz:NZ p)(hK2:2<=K)(hK:K<=2^33)(hE:E<=2^38)(hlp:p.length<=2^36):Qe Tryz.prog 189 [PV.poly p] (· =PV.poly (Qm1 p)):=by
 have h1:=Qhc
 refine Qf Qj Tryz.func189 rfl Qajp (by simp[c189]) fun C hP=> ?_;simp only[c189,Zo,Zg,Zm,Zc,Zf,Zl,Zh,Zs,Zi,Zb,Zk,Zn,Zu,Zq,Zr,Zz]
 simp+decide (disch:=first|exact D0|fail) only[go_sem,↓reduceIte]
 refine Qa hP (Qcn (x:= -1) (by omega) (by omega)) rfl rfl rfl ?_
 simp+decide (disch:=first|exact D0|fail) only[go_sem,↓reduceIte]
 refine Qa hP (Qy3 (a:=((-1:Int):Rat)) hp hnz (by have:((-1:Int):Rat)= -1:=rfl;rw[this];omega) hK hE hlp) rfl rfl rfl ?_
 simp+decide (disch:=first|exact D0|fail) only[go_sem,↓reduceIte]
 exact Qc rfl rfl
theorem Qsv{p q:List Tm}{K E:Nat}(hp:PB K E p)(hq:PB K E q)(hnz:NZ q)(hK2:2<=K)(hK:K<=2^31)(hE:E<=2^38)(hlp:p.length<=2^36)(hlq:q.length<=2^36):Qe Tryz.prog 122 [PV.poly p,PV.poly q] (· =PV.poly (Qlu p q)):=by
 have hl:=Qpp q (-1)
 refine Qf Qj Tryz.func122 rfl Qajs (by simp[c122]) fun C hP=> ?_;simp only[c122,Zo,Zg,Zm,Zc,Zf,Zl,Zh,Zs,Zi,Zb,Zk,Zn,Zu,Zq,Zr,Zz]
 simp+decide (disch:=first|exact D0|fail) only[go_sem,↓reduceIte]
 refine Qa hP (Q3b hq hnz hK2 (by omega) hE hlq) rfl rfl rfl ?_
 simp+decide (disch:=first|exact D0|fail) only[go_sem,↓reduceIte]
 refine Qa hP (Qhb (hp.mono (K':=K+2) (by omega) (Nat.le_refl _)) (Q34 hq) (by omega) hE hlp (by show(Qag q (-1)).length<=_;omega)) rfl rfl rfl ?_
 simp+decide (disch:=first|exact D0|fail) only[go_sem,↓reduceIte]
 exact Qc rfl rfl
end Go.Proofs.YtonfajmchebkeaaGreat
namespace Go.Proofs.YtonfajmchebkeaaGreat
open Go Go.FW
set_option linter.unusedSimpArgs false
set_option linter.unusedVariables false
set_option maxRecDepth 100000
theorem Qqr{p:List Tm}{a:Rat}{K E:Nat}(hp:PB K E p)(ha:rs a+1<=K)(hK:K<=2^33)(hE:E<=2^38)(hlp:p.length<=2^36):Qe Tryz.prog 166 [PV.poly p,PV.rat a] (· =PV.poly (Qag p a)):=by
 refine Qf Qj Tryz.func166 rfl Qak8 (by simp[c166]) fun C hP=> ?_;simp only[c166,Zo,Zg,Zm,Zc,Zf,Zl,Zh,Zs,Zi,Zb,Zk,Zn,Zu,Zq,Zr,Zz]
 simp+decide (disch:=first|exact D0|fail) only[go_sem,↓reduceIte]
 refine Qa hP (Qvd (a:=a) (by omega)) rfl rfl rfl ?_
 simp+decide (disch:=first|exact D0|fail) only[go_sem,↓reduceIte]
 refine Qb (fun h0=> ?_) (fun h0=> ?_)
 ·simp+decide (disch:=first|exact D0|fail) only[go_sem,↓reduceIte]
  exact Qef (Qqi (by rw[Qag,if_pos (Qa6.1 h0)])) rfl
 ·simp+decide (disch:=first|exact D0|fail) only[go_sem,↓reduceIte]
  refine Qa hP ((Qlz (t:=(a,[])) hp (TB.num ha) hK hE hlp).le (args':=[PV.poly p,.agg [.bool (decide (a.num<0)),PV.num a.num.natAbs,PV.num a.den,.nilS]]) ⟨Qv _,⟨rfl,Qln _,Qln _,trivial,trivial⟩,trivial⟩) rfl rfl rfl ?_
  simp+decide (disch:=first|exact D0|fail) only[go_sem,↓reduceIte]
  exact Qc (by rw[Qag,if_neg (fun h=>h0 (Qa6.2 h))]) rfl
theorem Q6i{p:List Tm}{K E:Nat}(hp:PB K E p)(hK2:2<=K)(hK:K<=2^33)(hE:E<=2^38)(hlp:p.length<=2^36):Qe Tryz.prog 188 [PV.poly p] (· =PV.poly (Qm1 p)):=by
 have h1:=Qhc
 refine Qf Qj Tryz.func188 rfl Qak5 (by simp[c188]) fun C hP=> ?_;simp only[c188,Zo,Zg,Zm,Zc,Zf,Zl,Zh,Zs,Zi,Zb,Zk,Zn,Zu,Zq,Zr,Zz]
 simp+decide (disch:=first|exact D0|fail) only[go_sem,↓reduceIte]
 refine Qa hP (Qqp (x:= -1) (by omega) (by omega)) rfl rfl rfl ?_
 simp+decide (disch:=first|exact D0|fail) only[go_sem,↓reduceIte]
 refine Qa hP (Qqr (a:=((-1:Int):Rat)) hp (by have:((-1:Int):Rat)= -1:=rfl;rw[this];omega) hK hE hlp) rfl rfl rfl ?_
 simp+decide (disch:=first|exact D0|fail) only[go_sem,↓reduceIte]
 exact Qc rfl rfl
theorem Qvg{p q:List Tm}{K E:Nat}(hp:PB K E p)(hq:PB K E q)(hK2:2<=K)(hK:K<=2^32)(hE:E<=2^38)(hlp:p.length<=2^36)(hlq:q.length<=2^36):Qe Tryz.prog 119 [PV.poly p,PV.poly q] (· =PV.poly (Qlu p q)):=by
 have hl:=Qpp q (-1)
 refine Qf Qj Tryz.func119 rfl Qak6 (by simp[c119]) fun C hP=> ?_;simp only[c119,Zo,Zg,Zm,Zc,Zf,Zl,Zh,Zs,Zi,Zb,Zk,Zn,Zu,Zq,Zr,Zz]
 simp+decide (disch:=first|exact D0|fail) only[go_sem,↓reduceIte]
 refine Qa hP (Q6i hq hK2 (by omega) hE hlq) rfl rfl rfl ?_
 simp+decide (disch:=first|exact D0|fail) only[go_sem,↓reduceIte]
 refine Qa hP (Qpb (hp.mono (K':=K+2) (by omega) (Nat.le_refl _)) (Q34 hq) (by omega) hE hlp (by show(Qag q (-1)).length<=_;omega)) rfl rfl rfl ?_
 simp+decide (disch:=first|exact D0|fail) only[go_sem,↓reduceIte]
 exact Qc rfl rfl
theorem Q6j{n:Bool}{a d:List Nat}{k:Nat}(hp:Raw k n a d)(hk:k<2^36):Qe Tryz.prog 153 [PV.rr n a d,PV.rat ((0:Int):Rat)] (· =PV.rat (rv n a d)):=by
 have h0:rs ((0:Int):Rat)<=k:=by have:=rs_0;have:=hp.k1;have e:((0:Int):Rat)=0:=rfl;rw[e];omega
 have:=Qx1 hp (Qci h0) hk
 rw[Qcr]at this
 have e:rv n a d+((0:Int):Rat)=rv n a d:=Rat.add_zero _
 rwa[e]at this
theorem Q1q{n:Bool}{a d:List Nat}{k:Nat}(hp:Raw k n a d)(hk:k<2^36):Qe Tryz.prog 77 [PV.rr n a d] (· =PV.poly (Qbk (rv n a d))):=by
 have hr:=hp.rs
 refine Qf Qj Tryz.func77 rfl Qaod (by simp[c77]) fun C hP=> ?_;simp only[c77,Zo,Zg,Zm,Zc,Zf,Zl,Zh,Zs,Zi,Zb,Zk,Zn,Zu,Zq,Zr,Zz]
 simp+decide (disch:=first|exact D0|fail) only[go_sem,↓reduceIte]
 refine Qa hP (Qqp (x:=0) (by omega) (by omega)) rfl rfl rfl ?_
 simp+decide (disch:=first|exact D0|fail) only[go_sem,↓reduceIte]
 refine Qa hP (Q6j hp hk) rfl rfl rfl ?_
 simp+decide (disch:=first|exact D0|fail) only[go_sem,↓reduceIte]
 refine Qa hP ((Qy1 (c:=rv n a d) (m:=[]) (by omega)).le (args':=[PV.rat (rv n a d),.nilS]) ⟨Qv _,trivial,trivial⟩) rfl rfl rfl ?_
 simp+decide (disch:=first|exact D0|fail) only[go_sem,↓reduceIte]
 exact Qc rfl rfl
theorem Q3c{s t:Tm}{K E:Nat}(hs:TB K E s)(ht:TB K E t)(hK:K<=2^33)(hE:E<=2^38):Qe Tryz.prog 211 [PV.term s,PV.term t] (· = .int .i64 (Qio s t)):=by
 have c1:=hs.c
 have c2:=ht.c
 refine Qf Qj Tryz.func211 rfl Qak4 (by simp[c211]) fun C hP=> ?_;simp only[c211,Zo,Zg,Zm,Zc,Zf,Zl,Zh,Zs,Zi,Zb,Zk,Zn,Zu,Zq,Zr,Zz]
 simp+decide (disch:=first|exact D0|fail) only[go_sem,↓reduceIte]
 refine Qa hP (Qve (s:=s) (t:=t) hs.m ht.m hE) rfl rfl rfl ?_
 simp+decide (disch:=first|exact D0|fail) only[go_sem,↓reduceIte]
 refine Qb (fun h=> ?_) (fun h=> ?_)
 ·simp+decide (disch:=first|exact D0|fail) only[go_sem,↓reduceIte]
  exact Qc (by rw[Qio,if_pos h]) rfl
 ·simp+decide (disch:=first|exact D0|fail) only[go_sem,↓reduceIte]
  refine Qa hP (Qaql (a:=s.1) (b:=t.1) (k:=2^33) (by omega) (by omega) (by omega)) rfl rfl rfl ?_
  simp+decide (disch:=first|exact D0|fail) only[go_sem,↓reduceIte]
  exact Qc (by rw[Qio,if_neg h]) rfl
theorem Qqs{p q:List Tm}{K E:Nat}(hp:PB K E p)(hq:PB K E q)(hK:K<=2^33)(hE:E<=2^38)(hlp:p.length<=2^36)(hlq:q.length<=2^36):
  Qe Tryz.prog 213 [PV.poly p,PV.poly q,.fn 211 [] []] (· = .int .i64 (Qfj p q)):=by
 refine Qf Qj Tryz.func213 rfl Qala (by simp[c213]) fun C hP=> ?_;simp only[c213,Zo,Zg,Zm,Zc,Zf,Zl,Zh,Zs,Zi,Zb,Zk,Zn,Zu,Zq,Zr,Zz]
 simp+decide (disch:=first|exact D0|fail) only[go_sem,↓reduceIte]
 refine Qx (by repeat (first|exact Qt|exact Qm|exact Qn|exact Qo|exact Qp|apply Ql|apply Qr|apply Qy|apply Q3|apply Q4|apply Qi)) [(6,10),(13,33)] [8,9] (fun n J hp=>∃i,n=p.length-i/\i<=p.length/\(i<=q.length)/\Qfj (p.drop i) (q.drop i)=Qfj p q/\J 13= .int .i64 (i:Nat)) p.length ?_ ?_
 ·refine⟨0,rfl,by omega,by omega,rfl,?_⟩
  simp+decide (disch:=first|exact D0|fail) only[go_sem,↓reduceIte]
  rfl
 rintro _ J h ⟨i,rfl,hi,hi2,hpc,h13⟩
 simp+decide (disch:=first|exact D1 h13|fail) only[go_sem,↓reduceIte,h13]
 refine Qb (fun hg=> ?_) (fun hg=> ?_)
 ·have hi':i<p.length:=by omega
  have htp:=hp.get hi'
  have hdp:p.drop i=p[i]::p.drop (i+1):=List.drop_eq_getElem_cons hi'
  have hpcd:=fun hk=>Qxu (q:=q) hi' hk
  generalize hx:p[i]=x at *
  simp+decide (disch:=first|exact D2 h13 hx|fail) only[go_sem,↓reduceIte,h13,hx]
  refine Qb (fun hk=> ?_) (fun hk=> ?_)
  ·rw[hdp,List.drop_of_length_le (show q.length<=i by omega),Qfj]at hpc
   simp+decide (disch:=first|exact D0|fail) only[go_sem,↓reduceIte]
   exact Qc (by rw[hpc]) rfl
  ·have hk':i<q.length:=by omega
   have htq:=hq.get hk'
   have hpcd:=hpcd hk'
   generalize hy:q[i]=y at *
   rw[hpcd]at hpc
   simp+decide (disch:=first|exact D3 h13 hx hy|fail) only[go_sem,↓reduceIte,h13,hx,hy]
   refine Qa hP (Q3c (s:=x) (t:=y) htp htq hK hE) rfl rfl rfl ?_
   simp+decide (disch:=first|exact D3 h13 hx hy|fail) only[go_sem,↓reduceIte,h13,hx,hy]
   refine Qb (fun hc=> ?_) (fun hc=> ?_)
   ·rw[if_pos hc]at hpc
    simp+decide (disch:=first|exact D0|fail) only[go_sem,↓reduceIte]
    exact Qc (by rw[hpc]) rfl
   ·rw[if_neg hc]at hpc
    simp+decide (disch:=first|exact D1 h13|fail) only[go_sem,↓reduceIte,h13]
    refine Qg (p.length-(i+1)) (by omega) ⟨i+1,rfl,by omega,by omega,hpc,?_⟩
    simp+decide (disch:=first|exact D0|fail) only[go_sem,↓reduceIte]
 ·obtain rfl:i=p.length:=by omega
  rw[List.drop_of_length_le (Nat.le_refl _),Qlv]at hpc
  simp+decide (disch:=first|exact D0|fail) only[go_sem,↓reduceIte]
  refine Qb (fun hk=> ?_) (fun hk=> ?_)
  ·rw[if_neg (by rw[List.length_drop];omega)]at hpc
   simp+decide (disch:=first|exact D0|fail) only[go_sem,↓reduceIte]
   exact Qc (by rw[hpc]) rfl
  ·rw[if_pos (by rw[List.length_drop];omega)]at hpc
   simp+decide (disch:=first|exact D0|fail) only[go_sem,↓reduceIte]
   exact Qc (by rw[hpc]) rfl
theorem Q6k{p q:List Tm}{K E:Nat}(hp:PB K E p)(hq:PB K E q)(hK:K<=2^33)(hE:E<=2^38)(hlp:p.length<=2^36)(hlq:q.length<=2^36):Qe Tryz.prog 156 [PV.poly p,PV.poly q] (· = .int .i64 (Qfj p q)):=by
 refine Qf Qj Tryz.func156 rfl Qak3 (by simp[c156]) fun C hP=> ?_;simp only[c156,Zo,Zg,Zm,Zc,Zf,Zl,Zh,Zs,Zi,Zb,Zk,Zn,Zu,Zq,Zr,Zz]
 simp+decide (disch:=first|exact D0|fail) only[go_sem,↓reduceIte]
 refine Qa hP (Qqs hp hq hK hE hlp hlq) rfl rfl rfl ?_
 simp+decide (disch:=first|exact D0|fail) only[go_sem,↓reduceIte]
 exact Qc rfl rfl
theorem Qqt{p q:List Tm}{K E:Nat}(hp:PB K E p)(hq:PB K E q)(hK:K<=2^33)(hE:E<=2^38)(hlp:p.length<=2^36)(hlq:q.length<=2^36):Qe Tryz.prog 81 [PV.poly p,PV.poly q] (· = .bool (decide (p=q))):=by
 refine Qf Qj Tryz.func81 rfl Qaoe (by simp[c81]) fun C hP=> ?_;simp only[c81,Zo,Zg,Zm,Zc,Zf,Zl,Zh,Zs,Zi,Zb,Zk,Zn,Zu,Zq,Zr,Zz]
 simp+decide (disch:=first|exact D0|fail) only[go_sem,↓reduceIte]
 refine Qa hP (Q6k hp hq hK hE hlp hlq) rfl rfl rfl ?_
 simp+decide (disch:=first|exact D0|fail) only[go_sem,↓reduceIte]
 exact Qc (congrArg PV.bool (decide_eq_decide.2 (Qwl hp.last hq.last))) rfl
end Go.Proofs.YtonfajmchebkeaaGreat
namespace Go.Proofs.YtonfajmchebkeaaGreat
open Go Go.FW
set_option linter.unusedSimpArgs false
set_option linter.unusedVariables false
set_option maxRecDepth 100000
theorem RB.raw{k:Nat}{t:RTm}(h:RB k t)(hk:1<=k):Raw k t.n t.a t.d:=⟨h.r.1,h.r.2.1,h.r.2.2.1,h.r.2.2.2,hk⟩
end Go.Proofs.YtonfajmchebkeaaGreat
namespace Go.Proofs.YtonfajmchebkeaaGreat
open Go Go.FW
set_option linter.unusedSimpArgs false
set_option linter.unusedVariables false
set_option maxRecDepth 100000
theorem Q1r{l:List RTm}{k:Nat}(hb:∀t∈l,RB k t)(hk1:1<=k)(hk:k<2^36)(hll:l.length<2^40):Qe Tryz.prog 44 [PV.rpoly l] (· = .bool (Qf1 l)):=by
 have hiff:=Q0u l
 have bad:∀ {b:Bool},(b=true->False)->b=false:=fun {b} h=>by cases b<;>simp_all
 refine Qf Qj Tryz.func44 rfl Qany (by simp[c44]) fun C hP=> ?_;simp only[c44,Zo,Zg,Zm,Zc,Zf,Zl,Zh,Zs,Zi,Zb,Zk,Zn,Zu,Zq,Zr,Zz]
 simp+decide (disch:=first|exact D0|fail) only[go_sem,↓reduceIte]
 refine Qx (by repeat (first|exact Qt|exact Qm|exact Qn|exact Qo|exact Qp|apply Ql|apply Qr|apply Qy|apply Q3|apply Q4|apply Qi|apply Qw)) [(2,51)] [] (fun n J hp=>∃i,n=l.length-i/\i<=l.length/\(∀j (h:j<l.length),j<i->rOk l[j]=true)/\(∀j (h:j+1<l.length),j+1<i->0<Qaj l[j].m l[j+1].m)/\J 3= .int .i64 (i:Nat)) l.length ?_ ?_
 ·refine⟨0,rfl,by omega,by omega,by omega,?_⟩
  simp+decide (disch:=first|exact D0|fail) only[go_sem,↓reduceIte]
  rfl
 rintro _ J h ⟨i,rfl,hi,h1,h2,h7⟩
 simp+decide (disch:=first|exact D1 h7|fail) only[go_sem,↓reduceIte,h7]
 refine Qb (fun hg=> ?_) (fun hg=> ?_)
 ·have hi':i<l.length:=by omega
  have hbt:=hb _ (List.getElem_mem hi')
  have hr:=(RB.raw hbt hk1).rs
  have hml:=hbt.l
  have hbadt:Qf1 l=true->rOk l[i]=true:=fun h=>(hiff.1 h).1 i hi'
  have hbadc:∀(j:Nat)(hj:j+1=i),Qf1 l=true->0<Qaj (l[j]'(by omega)).m l[i].m:=fun j hj h=>by subst hj;exact(hiff.1 h).2 j hi'
  have hadd1:rOk l[i]=true->∀j (h:j<l.length),j<i+1->rOk l[j]=true:=fun h j hj hji=>by
   by_cases e:j=i
   ·subst e;exact h
   ·exact h1 j hj (by omega)
  have hprev:∀(j:Nat)(hj:j+1=i),MB 1048576 (l[j]'(by omega)).m:=fun j hj=>by
   have:=h1 j (by omega) (by omega)
   simp only[rOk,Bool.and_eq_true]at this
   exact MB.ofOk this.2.2
  have hadd2:(∀(j:Nat)(hj:j+1=i),0<Qaj (l[j]'(by omega)).m l[i].m)->∀j (h:j+1<l.length),j+1<i+1->0<Qaj l[j].m l[j+1].m:=fun h j hj hji=>by
   by_cases e:j+1=i
   ·subst e;exact h j rfl
   ·exact h2 j hj (by omega)
  generalize hx:l[i]=x at *
  have hr':rs (rv x.n x.a x.d)<2^36:=by omega
  simp+decide (disch:=first|exact D2 h7 hx|fail) only[go_sem,↓reduceIte,h7,hx]
  refine Qa hP (Qy0 (RB.raw hbt hk1) hk) rfl rfl rfl ?_
  simp+decide (disch:=first|exact D1 h7|fail) only[go_sem,↓reduceIte,h7]
  cases hok:Qro x.n x.a x.d
  ·have hf:Qf1 l=false:=bad fun h=>by have:=hbadt h;simp[rOk,hok]at this
   simp+decide (disch:=first|omega|rfl|(simp+decide only[go_sem,↓reduceIte,h7,Bool.not_false]<;>rfl)|fail) only[go_sem,↓reduceIte,h7,Bool.not_false]
   exact Qc (by rw[hf]) rfl
  simp+decide (disch:=first|omega|rfl|(simp+decide only[go_sem,↓reduceIte,h7,Bool.not_true,hx]<;>rfl)|fail) only[go_sem,↓reduceIte,h7,Bool.not_true,hx]
  refine Qa hP (Qiu (RB.raw hbt hk1) hk) rfl rfl rfl ?_
  simp+decide (disch:=first|exact D1 h7|fail) only[go_sem,↓reduceIte,h7]
  refine Qaa (fun hz=> ?_) (fun hz=> ?_)
  ·have hf:Qf1 l=false:=bad fun h=>by have:=hbadt h;simp[rOk,RTm.q,Qa6.1 hz]at this
   simp+decide (disch:=first|exact D1 h7|fail) only[go_sem,↓reduceIte,h7]
   exact Qc (by rw[hf]) rfl
  simp+decide (disch:=first|exact D2 h7 hx|fail) only[go_sem,↓reduceIte,h7,hx]
  refine Qa hP (Qpt (by omega)) rfl rfl rfl ?_
  simp+decide (disch:=first|exact D1 h7|fail) only[go_sem,↓reduceIte,h7]
  cases hmo:Qcw x.m
  ·have hf:Qf1 l=false:=bad fun h=>by have:=hbadt h;simp[rOk,hmo]at this
   simp+decide (disch:=first|omega|rfl|(simp+decide only[go_sem,↓reduceIte,h7,Bool.not_false]<;>rfl)|fail) only[go_sem,↓reduceIte,h7,Bool.not_false]
   exact Qc (by rw[hf]) rfl
  have hrok:rOk x=true:=by
   simp only[rOk,hok,hmo,Bool.true_and,Bool.and_true,decide_eq_true_eq]
   exact fun h=>hz (Qa6.2 h)
  simp+decide (disch:=first|omega|rfl|(simp+decide only[go_sem,↓reduceIte,h7,Bool.not_true]<;>rfl)|fail) only[go_sem,↓reduceIte,h7,Bool.not_true]
  refine Q8 (fun hi0=> ?_) (fun hi0=> ?_)
  ·obtain⟨j,rfl⟩:∃j,i=j+1:=⟨i-1,by omega⟩
   have e:((j+1:Nat):Int)-1=j:=by omega
   have hjl:j<l.length:=by omega
   have hpj:=hprev j rfl
   have hbadj:=hbadc j rfl
   have hadd2':0<Qaj (l[j]'(by omega)).m x.m->∀j2 (h:j2+1<l.length),j2+1<j+1+1->0<Qaj l[j2].m l[j2+1].m:=fun h=>hadd2 (fun j' hj'=>by
    obtain rfl:j'=j:=by omega
    exact h)
   generalize hy:l[j]'(by omega)=y at *
   simp+decide (disch:=first|exact D4 h7 e hx hy|fail) only[go_sem,↓reduceIte,h7,e,hx,hy]
   refine Qa hP (Qqq hpj (MB.ofOk hmo) (by omega)) rfl rfl rfl ?_
   simp+decide (disch:=first|exact D2 h7 e|fail) only[go_sem,↓reduceIte,h7,e]
   refine Qb (fun hc=> ?_) (fun hc=> ?_)
   ·have hf:Qf1 l=false:=bad fun h=>by have:=hbadj h;omega
    simp+decide (disch:=first|exact D1 h7|fail) only[go_sem,↓reduceIte,h7]
    exact Qc (by rw[hf]) rfl
   ·simp+decide (disch:=first|exact D1 h7|fail) only[go_sem,↓reduceIte,h7]
    refine Qg (l.length-(j+1+1)) (by omega) ⟨j+1+1,rfl,by omega,hadd1 hrok,hadd2' (by omega),?_⟩
    simp+decide (disch:=first|exact D0|fail) only[go_sem,↓reduceIte]
  ·obtain rfl:i=0:=by omega
   simp+decide (disch:=first|exact D1 h7|fail) only[go_sem,↓reduceIte,h7]
   refine Qg (l.length-1) (by omega) ⟨1,rfl,by omega,hadd1 hrok,hadd2 (fun j hj=>by omega),?_⟩
   simp+decide (disch:=first|exact D0|fail) only[go_sem,↓reduceIte]
 ·obtain rfl:i=l.length:=by omega
  have hf:Qf1 l=true:=hiff.2 ⟨fun j hj=>h1 j hj hj,fun j hj=>h2 j hj hj⟩
  simp+decide (disch:=first|exact D0|fail) only[go_sem,↓reduceIte]
  exact Qc (by rw[hf]) rfl
end Go.Proofs.YtonfajmchebkeaaGreat
namespace Go.Proofs.YtonfajmchebkeaaGreat
open Go Go.FW
set_option maxRecDepth 100000
end Go.Proofs.YtonfajmchebkeaaGreat
namespace Go.Proofs.YtonfajmchebkeaaGreat
open Go Go.FW
set_option linter.unusedSimpArgs false
set_option linter.unusedVariables false
set_option maxRecDepth 100000
end Go.Proofs.YtonfajmchebkeaaGreat
namespace Go.Proofs.YtonfajmchebkeaaGreat
open Go Go.FW
set_option linter.unusedSimpArgs false
set_option linter.unusedVariables false
set_option maxRecDepth 100000
end Go.Proofs.YtonfajmchebkeaaGreat
namespace Go.Proofs.YtonfajmchebkeaaGreat
open Go Go.FW
set_option maxRecDepth 100000
def c89:SFn:=⟨78,[.t 4,.t 5],Zr (Zo (.mv 4 (.c .nilS))<|
 Zo (.mv 5 (.c (.bool false))) .nil)<| .seq (Zr (Zm 13 1<|
 Zn 14 13<|
 Zk 15 .eql 14 0 .nil)<| .cond (.t 15) (Zr (Zo (.mv 4 (.c .nilS))<|
 Zo (.mv 5 (.c (.bool false))) .nil) .ret) .skip)<|Zr (Zo (.mv 6 (.c .nilS)) .nil)<| .seq (.block 0<| .loop<| .seq (Zr (Zm 16 0<|
 Zn 17 16<|
 Zk 18 .gtr 17 0 .nil)<| .cond (.t 18) .skip (.exit 0))<| .block 1<|Zr (Zm 20 0<|
 Zo (.idx 21 4 (.t 20) (.c (Zz 0)))<|
 Zf 22 3 21<|
 Zl 23 1 22<|
 Zm 24 1<|
 Zo (.idx 25 4 (.t 24) (.c (Zz 0)))<|
 Zf 26 3 25<|
 Zl 27 1 26<|
 Zq 28 false 167 [.t 23,.t 27]<|
 Zm 19 28<|
 Zo (.ext 29 (.t 19) 0)<|
 Zo (.ext 30 (.t 19) 1)<|
 Zm 7 29<|
 Zm 8 30 .nil)<|Zr (Zm 32 0<|
 Zo (.idx 33 4 (.t 32) (.c (Zz 0)))<|
 Zf 34 0 33<|
 Zh 35 3 34<|
 Zm 36 1<|
 Zo (.idx 37 4 (.t 36) (.c (Zz 0)))<|
 Zf 38 0 37<|
 Zh 39 3 38<|
 .br (Zq 40 true 165 [.t 35,.t 39]<|
 Zm 31 40<|
 Zo (.ext 41 (.t 31) 0)<|
 Zo (.ext 42 (.t 31) 1)<|
 Zo (.alloc 9 3 32 (.agg [.bool false,.nilS,.nilS]))<|
 Zs 3 9 41<|
 Zm 10 42 .nil) (Zo (.alloc 9 3 32 (.agg [.bool false,.nilS,.nilS]))<|
 Zq 40 true 165 [.t 35,.t 39]<|
 Zm 31 40<|
 Zo (.ext 41 (.t 31) 0)<|
 Zo (.ext 42 (.t 31) 1)<|
 Zs 3 9 41<|
 Zm 10 42 .nil))<| .seq (Zr (Zm 43 8<|
 Zu 44 43<|
 Zm 45 44<|
 Zg 45 false (.mv 46 (.t 10))<|
 Zg 45 false (.bin 47 .neq false (.t 46) (.c (Zz 0)))<|
 Zo (.pick 48 (.t 45) (.c (.bool true)) (.t 47)) .nil)<| .cond (.t 48) (Zr (Zo (.mv 4 (.c .nilS))<|
 Zo (.mv 5 (.c (.bool false))) .nil) .ret) .skip)<|Zr (Zh 49 3 9<|
 Zm 50 7<|
 Zo (.bld 51 [.bool false,.nilS,.nilS,.nilS] [(0,3,.t 49),(3,1,.t 50)])<|
 Zo (.bs 52 4 127 [.t 51])<|
 Zm 11 52 .nil)<|Zr (Zm 53 6<|
 Zm 54 11<|
 Zo (.app 55 4 80 127 (.t 53) (.t 54))<|
 Zm 6 55 .nil)<|Zr (Zm 56 0<|
 Zo (.idx 57 4 (.t 56) (.c (Zz 0)))<|
 Zf 58 3 57<|
 Zl 59 1 58<|
 Zm 12 59 .nil)<|Zr (Zm 60 0<|
 Zm 61 11<|
 Zm 62 1<|
 Zq 63 false 93 [.t 61,.t 62]<|
 Zq 64 false 119 [.t 60,.t 63]<|
 Zm 0 64 .nil)<|Zr (Zm 65 0<|
 Zn 66 65<|
 Zk 67 .gtr 66 0<|
 Zm 68 67<|
 Zg 68 true (.mv 69 (.t 0))<|
 Zg 68 true (.idx 70 4 (.t 69) (.c (Zz 0)))<|
 Zg 68 true (.fld 71 3 (.t 70))<|
 Zg 68 true (.ld 72 1 false (.t 71))<|
 Zg 68 true (.mv 73 (.t 12))<|
 Zg 68 true (.call (some 74) false (.c (.fn 168 [] [])) [.t 72,.t 73,.c (Zz 0)])<|
 Zg 68 true (.bin 75 .geq false (.t 74) (.c (Zz 0)))<|
 Zo (.pick 76 (.t 68) (.t 75) (.c (.bool false))) .nil)<| .cond (.t 76) (Zr (Zo (.mv 4 (.c .nilS))<|
 Zo (.mv 5 (.c (.bool false))) .nil) .ret) .skip)<|Zr (Zm 77 6<|
 Zm 4 77<|
 Zo (.mv 5 (.c (.bool true))) .nil) .ret⟩
theorem Qaoh:Qd Tryz.prog Tryz.f89=some c89:=by kernel_rfl
def c177:SFn:=⟨58,[.t 4,.t 5],Zr (Zo (.mv 4 (.c .nilS))<|
 Zo (.mv 5 (.c (.bool false))) .nil)<| .seq (Zr (Zm 12 1<|
 Zn 13 12<|
 Zk 14 .eql 13 0 .nil)<| .cond (.t 14) (Zr (Zo (.mv 4 (.c .nilS))<|
 Zo (.mv 5 (.c (.bool false))) .nil) .ret) .skip)<|Zr (Zo (.mv 6 (.c .nilS)) .nil)<| .seq (.block 0<| .loop<| .seq (Zr (Zm 15 0<|
 Zn 16 15<|
 Zk 17 .gtr 16 0 .nil)<| .cond (.t 17) .skip (.exit 0))<| .block 1<|Zr (Zm 19 0<|
 Zo (.idx 20 4 (.t 19) (.c (Zz 0)))<|
 Zf 21 3 20<|
 Zl 22 1 21<|
 Zm 23 1<|
 Zo (.idx 24 4 (.t 23) (.c (Zz 0)))<|
 Zf 25 3 24<|
 Zl 26 1 25<|
 Zq 27 false 225 [.t 22,.t 26]<|
 Zm 18 27<|
 Zo (.ext 28 (.t 18) 0)<|
 Zo (.ext 29 (.t 18) 1)<|
 Zm 7 28<|
 Zm 8 29 .nil)<| .seq (Zr (Zm 30 8<|
 Zu 31 30 .nil)<| .cond (.t 31) (Zr (Zo (.mv 4 (.c .nilS))<|
 Zo (.mv 5 (.c (.bool false))) .nil) .ret) .skip)<|Zr (Zm 33 0<|
 Zo (.idx 34 4 (.t 33) (.c (Zz 0)))<|
 Zf 35 0 34<|
 Zh 36 3 35<|
 Zm 37 1<|
 Zo (.idx 38 4 (.t 37) (.c (Zz 0)))<|
 Zf 39 0 38<|
 Zh 40 3 39<|
 .br (Zq 41 true 226 [.t 36,.t 40]<|
 Zm 32 41<|
 Zo (.ext 42 (.t 32) 0)<|
 Zo (.ext 43 (.t 32) 1)<|
 Zo (.alloc 9 3 32 (.agg [.bool false,.nilS,.nilS]))<|
 Zs 3 9 42<|
 Zm 10 43 .nil) (Zo (.alloc 9 3 32 (.agg [.bool false,.nilS,.nilS]))<|
 Zq 41 true 226 [.t 36,.t 40]<|
 Zm 32 41<|
 Zo (.ext 42 (.t 32) 0)<|
 Zo (.ext 43 (.t 32) 1)<|
 Zs 3 9 42<|
 Zm 10 43 .nil))<|Zr (Zh 44 3 9<|
 Zm 45 7<|
 Zo (.bld 46 [.bool false,.nilS,.nilS,.nilS] [(0,3,.t 44),(3,1,.t 45)])<|
 Zo (.bs 47 4 127 [.t 46])<|
 Zq 48 false 227 [.t 47]<|
 Zm 11 48 .nil)<|Zr (Zm 49 6<|
 Zm 50 11<|
 Zq 51 false 75 [.t 49,.t 50]<|
 Zm 6 51 .nil)<| .rg (Zm 52 0<|
 Zm 53 11<|
 Zm 54 1<|
 Zq 55 false 41 [.t 53,.t 54]<|
 Zq 56 false 122 [.t 52,.t 55]<|
 Zm 0 56 .nil))<|Zr (Zm 57 6<|
 Zm 4 57<|
 Zo (.mv 5 (.c (.bool true))) .nil) .ret⟩
theorem Qalb:Qd Tryz.prog Tryz.f177=some c177:=by kernel_rfl
def c225:SFn:=⟨31,[.t 4,.t 5],Zr (Zo (.mv 4 (.c .nilS))<|
 Zo (.mv 5 (.c (.bool false))) .nil)<| .seq (Zr (Zm 8 1<|
 Zm 9 0<|
 Zq 10 false 243 [.t 8,.t 9]<|
 Zu 11 10 .nil)<| .cond (.t 11) (Zr (Zo (.mv 4 (.c .nilS))<|
 Zo (.mv 5 (.c (.bool false))) .nil) .ret) .skip)<|Zr (Zo (.mv 6 (.c .nilS)) .nil)<| .seq (Zr (Zc 7 0 .nil)<| .block 0<| .loop<| .seq (Zr (Zm 12 7<|
 Zm 13 0<|
 Zn 14 13<|
 Zb 15 .lss 12 14 .nil)<| .cond (.t 15) .skip (.exit 0))<| .seq (.block 1<| .rg (Zm 18 6<|
 Zm 19 0<|
 Zm 20 7<|
 Zi 21 1 19 20<|
 Zl 22 1 21<|
 Zm 23 1<|
 Zm 24 7<|
 Zq 25 true 171 [.t 23,.t 24]<|
 Zb 26 .sub 22 25<|
 Zo (.bs 27 1 3 [.t 26])<|
 Zo (.app 28 1 8 3 (.t 18) (.t 27))<|
 Zm 6 28 .nil))<| .rg (Zm 16 7<|
 Zk 17 .add 16 1<|
 Zm 7 17 .nil))<|Zr (Zm 29 6<|
 Zq 30 false 244 [.t 29]<|
 Zm 4 30<|
 Zo (.mv 5 (.c (.bool true))) .nil) .ret⟩
theorem Qalc:Qd Tryz.prog Tryz.f225=some c225:=by kernel_rfl
def c243:SFn:=⟨20,[.t 4],Zr (Zo (.mv 4 (.c (.bool false))) .nil)<| .seq (Zr (Zc 5 0 .nil)<| .block 0<| .loop<| .seq (Zr (Zm 6 5<|
 Zm 7 0<|
 Zn 8 7<|
 Zb 9 .lss 6 8 .nil)<| .cond (.t 9) .skip (.exit 0))<| .seq (.block 1<|Zr (Zm 12 0<|
 Zm 13 5<|
 Zi 14 1 12 13<|
 Zl 15 1 14<|
 Zm 16 1<|
 Zm 17 5<|
 Zq 18 true 171 [.t 16,.t 17]<|
 Zb 19 .gtr 15 18 .nil)<| .cond (.t 19) (Zr (Zo (.mv 4 (.c (.bool false))) .nil) .ret) .skip)<| .rg (Zm 10 5<|
 Zk 11 .add 10 1<|
 Zm 5 11 .nil))<|Zr (Zo (.mv 4 (.c (.bool true))) .nil) .ret⟩
theorem Qald:Qd Tryz.prog Tryz.f243=some c243:=by kernel_rfl
def c58:SFn:=⟨19,[.t 2],Zr (Zo (.mv 2 (.c .nilS)) .nil)<| .seq (Zr (Zm 4 0<|
 Zk 5 .lss 4 0<|
 Zm 6 5<|
 Zg 6 false (.mv 7 (.t 0))<|
 Zg 6 false (.bin 8 .geq false (.t 7) (.c (Zz 64)))<|
 Zo (.pick 9 (.t 6) (.c (.bool true)) (.t 8)) .nil)<| .cond (.t 9) (Zr (Zo (.mv 2 (.c .nilS)) .nil) .ret) .skip)<|Zr (Zm 10 0<|
 Zk 11 .add 10 1<|
 Zo (.mk 12 1 8 3 (Zz 0) (.t 11) (.t 11))<|
 Zm 3 12 .nil)<|Zr (Zm 13 3<|
 Zm 14 0<|
 Zi 15 1 13 14<|
 Zo (.st 1 (.t 15) (.c (Zz 1))) .nil)<|Zr (Zq 16 false 37 [.c (Zz 1)]<|
 Zm 17 3<|
 Zq 18 false 104 [.c .nilS,.t 16,.t 17]<|
 Zm 2 18 .nil) .ret⟩
theorem Qaoi:Qd Tryz.prog Tryz.f58=some c58:=by kernel_rfl
end Go.Proofs.YtonfajmchebkeaaGreat
