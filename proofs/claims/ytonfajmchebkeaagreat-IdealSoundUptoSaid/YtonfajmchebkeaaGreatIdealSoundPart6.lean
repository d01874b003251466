/- Part 6 of the proof of IdealSound: CJ, FwUD, FwUE, FwUF, FwUI, FwUJ, FwWA, FwWB, FwWC, FwWD, FwUH, FwUK, FwWE. Own lemmas; no conditions. -/
import Derived.Test.YtonfajmchebkeaaGreatIdealSoundPart5
set_option linter.unusedSimpArgs false
set_option linter.unnecessarySimpa false
set_option linter.unusedVariables false
namespace Go.Proofs.YtonfajmchebkeaaGreat
open Go Go.FW
set_option maxRecDepth 100000
def c34:SFn:=⟨63,[.t 2],Zr (Zo (.mv 2 (.c (.bool false))) .nil)<| .seq (Zr (Zm 5 0<|
 Zn 6 5<|
 Zk 7 .gtr 6 6 .nil)<| .cond (.t 7) (Zr (Zo (.mv 2 (.c (.bool false))) .nil) .ret) .skip)<| .seq (Zr (Zc 3 0 .nil)<| .block 0<| .loop<| .seq (Zr (Zm 8 3<|
 Zm 9 0<|
 Zn 10 9<|
 Zb 11 .lss 8 10 .nil)<| .cond (.t 11) .skip (.exit 0))<| .seq (.block 1<| .seq (Zr (Zm 14 0<|
 Zm 15 3<|
 Zi 16 4 14 15<|
 Zf 17 3 16<|
 Zl 18 1 17<|
 Zn 19 18<|
 Zk 20 .gtr 19 4<|
 Zm 21 20<|
 Zg 21 false (.mv 22 (.t 0))<|
 Zg 21 false (.mv 23 (.t 3))<|
 Zg 21 false (.idx 24 4 (.t 22) (.t 23))<|
 Zg 21 false (.fld 25 0 (.t 24))<|
 Zg 21 false (.fld 26 0 (.t 25))<|
 Zg 21 false (.fld 27 1 (.t 26))<|
 Zg 21 false (.ld 28 1 false (.t 27))<|
 Zg 21 false (.len 29 (.t 28))<|
 Zg 21 false (.bin 30 .gtr false (.t 29) (.c (Zz 2)))<|
 Zo (.pick 31 (.t 21) (.c (.bool true)) (.t 30))<|
 Zm 32 31<|
 Zg 32 false (.mv 33 (.t 0))<|
 Zg 32 false (.mv 34 (.t 3))<|
 Zg 32 false (.idx 35 4 (.t 33) (.t 34))<|
 Zg 32 false (.fld 36 0 (.t 35))<|
 Zg 32 false (.fld 37 2 (.t 36))<|
 Zg 32 false (.ld 38 1 false (.t 37))<|
 Zg 32 false (.len 39 (.t 38))<|
 Zg 32 false (.bin 40 .gtr false (.t 39) (.c (Zz 2)))<|
 Zo (.pick 41 (.t 32) (.c (.bool true)) (.t 40)) .nil)<| .cond (.t 41) (Zr (Zo (.mv 2 (.c (.bool false))) .nil) .ret) .skip)<|Zr (Zc 4 0 .nil)<| .block 2<| .loop<| .seq (Zr (Zm 42 4<|
 Zm 43 0<|
 Zm 44 3<|
 Zi 45 4 43 44<|
 Zf 46 3 45<|
 Zl 47 1 46<|
 Zn 48 47<|
 Zb 49 .lss 42 48 .nil)<| .cond (.t 49) .skip (.exit 2))<| .seq (.block 3<|Zr (Zm 52 0<|
 Zm 53 3<|
 Zi 54 4 52 53<|
 Zf 55 3 54<|
 Zl 56 1 55<|
 Zm 57 4<|
 Zi 58 1 56 57<|
 Zl 59 1 58<|
 Zk 60 .gtr 59 4 .nil)<| .cond (.t 60) (Zr (Zo (.mv 2 (.c (.bool false))) .nil) .ret) .skip)<| .rg (Zm 50 4<|
 Zk 51 .add 50 1<|
 Zm 4 51 .nil))<| .rg (Zm 12 3<|
 Zk 13 .add 12 1<|
 Zm 3 13 .nil))<|Zr (Zm 61 0<|
 Zq 62 false 44 [.t 61]<|
 Zm 2 62 .nil) .ret⟩
theorem Qaoj:Qd Tryz.prog Tryz.f34=some c34:=by kernel_rfl
def c28:SFn:=⟨19,[.t 2],Zr (Zo (.mv 2 (.c (.bool false))) .nil)<| .seq (Zr (Zm 4 0<|
 Zn 5 4<|
 Zk 6 .gtr 5 4 .nil)<| .cond (.t 6) (Zr (Zo (.mv 2 (.c (.bool false))) .nil) .ret) .skip)<| .seq (Zr (Zc 3 0 .nil)<| .block 0<| .loop<| .seq (Zr (Zm 7 3<|
 Zm 8 0<|
 Zn 9 8<|
 Zb 10 .lss 7 9 .nil)<| .cond (.t 10) .skip (.exit 0))<| .seq (.block 1<|Zr (Zm 13 0<|
 Zm 14 3<|
 Zi 15 1 13 14<|
 Zl 16 1 15<|
 Zq 17 false 34 [.t 16]<|
 Zu 18 17 .nil)<| .cond (.t 18) (Zr (Zo (.mv 2 (.c (.bool false))) .nil) .ret) .skip)<| .rg (Zm 11 3<|
 Zk 12 .add 11 1<|
 Zm 3 12 .nil))<|Zr (Zo (.mv 2 (.c (.bool true))) .nil) .ret⟩
theorem Qaok:Qd Tryz.prog Tryz.f28=some c28:=by kernel_rfl
def c33:SFn:=⟨17,[.t 2],Zr (Zo (.box 1 4 79 (.t 0))<|
 Zo (.mv 2 (.c (.bool false))) .nil)<|Zr (Zf 3 0 1<|
 Zl 4 1 3<|
 Zq 5 false 28 [.t 4]<|
 Zm 6 5<|
 Zg 6 true (.fld 7 3 (.t 1))<|
 Zg 6 true (.ld 8 1 false (.t 7))<|
 Zg 6 true (.call (some 9) false (.c (.fn 28 [] [])) [.t 8])<|
 Zo (.pick 10 (.t 6) (.t 9) (.c (.bool false)))<|
 Zm 11 10<|
 Zg 11 true (.fld 12 1 (.t 1))<|
 Zg 11 true (.ld 13 1 false (.t 12))<|
 Zg 11 true (.len 14 (.t 13))<|
 Zg 11 true (.bin 15 .leq false (.t 14) (.c (Zz 6)))<|
 Zo (.pick 16 (.t 11) (.t 15) (.c (.bool false)))<|
 Zm 2 16 .nil) .ret⟩
theorem Qaol:Qd Tryz.prog Tryz.f33=some c33:=by kernel_rfl
def c40:SFn:=⟨46,[.t 2],Zr (Zo (.box 1 4 79 (.t 0))<|
 Zo (.mv 2 (.c (.bool false))) .nil)<| .seq (Zr (Zh 4 4 1<|
 Zq 5 false 33 [.t 4]<|
 Zu 6 5<|
 Zm 7 6<|
 Zg 7 false (.fld 8 1 (.t 1))<|
 Zg 7 false (.ld 9 1 false (.t 8))<|
 Zg 7 false (.len 10 (.t 9))<|
 Zg 7 false (.fld 11 0 (.t 1))<|
 Zg 7 false (.ld 12 1 false (.t 11))<|
 Zg 7 false (.len 13 (.t 12))<|
 Zg 7 false (.bin 14 .neq false (.t 10) (.t 13))<|
 Zo (.pick 15 (.t 7) (.c (.bool true)) (.t 14)) .nil)<| .cond (.t 15) (Zr (Zo (.mv 2 (.c (.bool false))) .nil) .ret) .skip)<| .seq (Zr (Zc 3 0 .nil)<| .block 0<| .loop<| .seq (Zr (Zm 16 3<|
 Zf 17 1 1<|
 Zl 18 1 17<|
 Zn 19 18<|
 Zb 20 .lss 16 19 .nil)<| .cond (.t 20) .skip (.exit 0))<| .seq (.block 1<|Zr (Zf 23 1 1<|
 Zl 24 1 23<|
 Zm 25 3<|
 Zi 26 1 24 25<|
 Zl 27 1 26<|
 Zk 28 .lss 27 0<|
 Zm 29 28<|
 Zg 29 false (.fld 30 1 (.t 1))<|
 Zg 29 false (.ld 31 1 false (.t 30))<|
 Zg 29 false (.mv 32 (.t 3))<|
 Zg 29 false (.idx 33 1 (.t 31) (.t 32))<|
 Zg 29 false (.ld 34 1 false (.t 33))<|
 Zg 29 false (.bin 35 .gtr false (.t 34) (.c (Zz 4)))<|
 Zo (.pick 36 (.t 29) (.c (.bool true)) (.t 35))<|
 Zm 37 36<|
 Zg 37 false (.fld 38 0 (.t 1))<|
 Zg 37 false (.ld 39 1 false (.t 38))<|
 Zg 37 false (.mv 40 (.t 3))<|
 Zg 37 false (.idx 41 1 (.t 39) (.t 40))<|
 Zg 37 false (.ld 42 1 false (.t 41))<|
 Zg 37 false (.len 43 (.t 42))<|
 Zg 37 false (.bin 44 .eql false (.t 43) (.c (Zz 0)))<|
 Zo (.pick 45 (.t 37) (.c (.bool true)) (.t 44)) .nil)<| .cond (.t 45) (Zr (Zo (.mv 2 (.c (.bool false))) .nil) .ret) .skip)<| .rg (Zm 21 3<|
 Zk 22 .add 21 1<|
 Zm 3 22 .nil))<|Zr (Zo (.mv 2 (.c (.bool true))) .nil) .ret⟩
theorem Qaom:Qd Tryz.prog Tryz.f40=some c40:=by kernel_rfl
def c79:SFn:=⟨19,[.t 6,.t 7],Zr (Zo (.mv 6 (.c .nilS))<|
 Zc 7 0 .nil)<| .seq (Zr (Zm 8 2<|
 Zc 9 0 .nil)<| .block 0<| .loop<|Zr (Zb 10 .lss 9 8 .nil)<| .seq (.cond (.t 10) .skip (.exit 0))<| .seq (.block 1<|Zr (Zm 11 0<|
 Zm 12 1<|
 Zq 13 false 93 [.t 11,.t 12]<|
 Zm 0 13 .nil)<|Zr (Zm 14 0<|
 Zn 15 14<|
 Zk 16 .gtr 15 4000 .nil)<| .cond (.t 16) (Zr (Zo (.mv 6 (.c .nilS))<|
 Zc 7 4 .nil) .ret) .skip)<| .rg (Zk 17 .add 9 1<|
 Zm 9 17 .nil))<|Zr (Zm 18 0<|
 Zm 6 18<|
 Zc 7 0 .nil) .ret⟩
theorem Qaon:Qd Tryz.prog Tryz.f79=some c79:=by kernel_rfl
def c45:SFn:=⟨34,[.t 4,.t 5],Zr (Zo (.mv 4 (.c .nilS))<|
 Zc 5 0 .nil)<| .seq (Zr (Zm 8 0<|
 Zn 9 8<|
 Zm 10 1<|
 Zn 11 10<|
 Zb 12 .neq 9 11 .nil)<| .cond (.t 12) (Zr (Zo (.mv 4 (.c .nilS))<|
 Zc 5 16 .nil) .ret) .skip)<|Zr (Zo (.mv 6 (.c .nilS)) .nil)<| .seq (Zr (Zm 13 1<|
 Zn 14 13<|
 Zc 15 0 .nil)<| .block 0<| .loop<|Zr (Zb 16 .lss 15 14 .nil)<| .seq (.cond (.t 16) .skip (.exit 0))<| .seq (.block 1<|Zr (Zm 17 15<|
 Zm 7 17 .nil)<|Zr (Zm 18 6<|
 Zm 19 0<|
 Zm 20 7<|
 Zi 21 1 19 20<|
 Zl 22 1 21<|
 Zm 23 1<|
 Zm 24 7<|
 Zi 25 1 23 24<|
 Zl 26 1 25<|
 Zq 27 false 93 [.t 22,.t 26]<|
 Zq 28 false 92 [.t 18,.t 27]<|
 Zm 6 28 .nil)<|Zr (Zm 29 6<|
 Zn 30 29<|
 Zk 31 .gtr 30 4000 .nil)<| .cond (.t 31) (Zr (Zo (.mv 4 (.c .nilS))<|
 Zc 5 4 .nil) .ret) .skip)<| .rg (Zk 32 .add 15 1<|
 Zm 15 32 .nil))<|Zr (Zm 33 6<|
 Zm 4 33<|
 Zc 5 0 .nil) .ret⟩
theorem Qaoo:Qd Tryz.prog Tryz.f45=some c45:=by kernel_rfl
def c31:SFn:=⟨56,[.t 4,.t 5],Zr (Zo (.mv 4 (.c .nilS))<|
 Zc 5 0 .nil)<| .seq (Zr (Zm 12 0<|
 Zn 13 12<|
 Zm 14 1<|
 Zn 15 14<|
 Zb 16 .neq 13 15 .nil)<| .cond (.t 16) (Zr (Zo (.mv 4 (.c .nilS))<|
 Zc 5 16 .nil) .ret) .skip)<| .seq (Zr (Zm 17 1<|
 Zn 18 17<|
 Zc 19 0 .nil)<| .block 0<| .loop<|Zr (Zb 20 .lss 19 18 .nil)<| .seq (.cond (.t 20) .skip (.exit 0))<| .seq (.block 1<|Zr (Zi 21 1 17 19<|
 Zl 22 1 21<|
 Zm 7 22 .nil)<|Zr (Zm 23 7<|
 Zk 24 .lss 23 0<|
 Zm 25 24<|
 Zg 25 false (.mv 26 (.t 7))<|
 Zg 25 false (.bin 27 .gtr false (.t 26) (.c (Zz 64)))<|
 Zo (.pick 28 (.t 25) (.c (.bool true)) (.t 27)) .nil)<| .cond (.t 28) (Zr (Zo (.mv 4 (.c .nilS))<|
 Zc 5 2 .nil) .ret) .skip)<| .rg (Zk 29 .add 19 1<|
 Zm 19 29 .nil))<|Zr (Zq 30 false 78 [.c (Zz 1)]<|
 Zq 31 false 77 [.t 30]<|
 Zm 8 31 .nil)<| .seq (Zr (Zm 32 0<|
 Zn 33 32<|
 Zc 34 0 .nil)<| .block 2<| .loop<|Zr (Zb 35 .lss 34 33 .nil)<| .seq (.cond (.t 35) .skip (.exit 2))<| .seq (.block 3<|Zr (Zm 36 34<|
 Zm 9 36 .nil)<|Zr (Zm 38 8<|
 Zm 39 0<|
 Zm 40 9<|
 Zi 41 1 39 40<|
 Zl 42 1 41<|
 Zm 43 1<|
 Zm 44 9<|
 Zi 45 1 43 44<|
 Zl 46 1 45<|
 Zq 47 false 79 [.t 38,.t 42,.t 46]<|
 Zm 37 47<|
 Zo (.ext 48 (.t 37) 0)<|
 Zo (.ext 49 (.t 37) 1)<|
 Zm 10 48<|
 Zm 11 49 .nil)<| .seq (Zr (Zm 50 11<|
 Zk 51 .neq 50 0 .nil)<| .cond (.t 51) (Zr (Zm 52 11<|
 Zo (.mv 4 (.c .nilS))<|
 Zm 5 52 .nil) .ret) .skip)<| .rg (Zm 53 10<|
 Zm 8 53 .nil))<| .rg (Zk 54 .add 34 1<|
 Zm 34 54 .nil))<|Zr (Zm 55 8<|
 Zm 4 55<|
 Zc 5 0 .nil) .ret⟩
theorem Qaop:Qd Tryz.prog Tryz.f31=some c31:=by kernel_rfl
def c35:SFn:=⟨73,[.t 6],Zr (Zo (.box 3 4 79 (.t 0))<|
 Zc 6 0 .nil)<|Zr (Zf 13 0 3<|
 Zl 14 1 13<|
 Zf 15 1 3<|
 Zl 16 1 15<|
 Zq 17 false 31 [.t 14,.t 16]<|
 Zm 12 17<|
 Zo (.ext 18 (.t 12) 0)<|
 Zo (.ext 19 (.t 12) 1)<|
 Zm 7 18<|
 Zm 8 19 .nil)<| .seq (Zr (Zm 20 8<|
 Zk 21 .neq 20 0 .nil)<| .cond (.t 21) (Zr (Zm 22 8<|
 Zm 6 22 .nil) .ret) .skip)<| .seq (Zr (Zf 23 0 3<|
 Zl 24 1 23<|
 Zn 25 24<|
 Zc 26 0 .nil)<| .block 0<| .loop<|Zr (Zb 27 .lss 26 25 .nil)<| .seq (.cond (.t 27) .skip (.exit 0))<| .seq (.block 1<|Zr (Zi 28 1 24 26<|
 Zl 29 1 28<|
 Zm 10 29 .nil)<|Zr (Zm 30 10<|
 Zn 31 30<|
 Zk 32 .eql 31 0 .nil)<| .cond (.t 32) (Zr (Zc 6 3 .nil) .ret) .skip)<| .rg (Zk 33 .add 26 1<|
 Zm 26 33 .nil))<| .seq (Zr (Zf 34 2 3<|
 Zl 35 1 34<|
 Zk 36 .lss 35 1<|
 Zm 37 36<|
 Zg 37 false (.fld 38 2 (.t 3))<|
 Zg 37 false (.ld 39 1 false (.t 38))<|
 Zg 37 false (.bin 40 .gtr false (.t 39) (.c (Zz 64)))<|
 Zo (.pick 41 (.t 37) (.c (.bool true)) (.t 40)) .nil)<| .cond (.t 41) (Zr (Zc 6 2 .nil) .ret) .skip)<| .seq (Zr (Zf 42 3 3<|
 Zl 43 1 42<|
 Zn 44 43<|
 Zm 45 1<|
 Zn 46 45<|
 Zb 47 .neq 44 46 .nil)<| .cond (.t 47) (Zr (Zc 6 16 .nil) .ret) .skip)<| .seq (Zr (Zm 49 7<|
 Zm 50 2<|
 Zf 51 2 3<|
 Zl 52 1 51<|
 Zq 53 false 79 [.t 49,.t 50,.t 52]<|
 Zm 48 53<|
 Zo (.ext 54 (.t 48) 0)<|
 Zo (.ext 55 (.t 48) 1)<|
 Zm 7 54<|
 Zm 8 55 .nil)<|Zr (Zm 56 8<|
 Zk 57 .neq 56 0 .nil)<| .cond (.t 57) (Zr (Zm 58 8<|
 Zm 6 58 .nil) .ret) .skip)<|Zr (Zf 60 3 3<|
 Zl 61 1 60<|
 Zm 62 1<|
 Zq 63 false 45 [.t 61,.t 62]<|
 Zm 59 63<|
 Zo (.ext 64 (.t 59) 0)<|
 Zo (.ext 65 (.t 59) 1)<|
 Zm 11 64<|
 Zm 8 65 .nil)<| .seq (Zr (Zm 66 8<|
 Zk 67 .neq 66 0 .nil)<| .cond (.t 67) (Zr (Zm 68 8<|
 Zm 6 68 .nil) .ret) .skip)<| .seq (Zr (Zm 69 7<|
 Zm 70 11<|
 Zq 71 false 81 [.t 69,.t 70]<|
 Zu 72 71 .nil)<| .cond (.t 72) (Zr (Zc 6 17 .nil) .ret) .skip)<|Zr (Zc 6 0 .nil) .ret⟩
theorem Qaoq:Qd Tryz.prog Tryz.f35=some c35:=by kernel_rfl
def c43:SFn:=⟨88,[.cell 4 4 true,.t 5],Zr (Zo (.box 2 4 79 (.t 0))<|
 Zo (.alloc 4 4 79 (.agg [.nilS,.nilS,Zz 0,.nilS]))<|
 Zo (.mv 5 (.c (.bool false))) .nil)<| .seq (Zr (Zm 11 1<|
 Zk 12 .lss 11 0<|
 Zm 13 12<|
 Zg 13 false (.mv 14 (.t 1))<|
 Zg 13 false (.fld 15 0 (.t 2))<|
 Zg 13 false (.ld 16 1 false (.t 15))<|
 Zg 13 false (.len 17 (.t 16))<|
 Zg 13 false (.bin 18 .geq false (.t 14) (.t 17))<|
 Zo (.pick 19 (.t 13) (.c (.bool true)) (.t 18))<|
 Zm 20 19<|
 Zg 20 false (.mv 21 (.t 1))<|
 Zg 20 false (.fld 22 1 (.t 2))<|
 Zg 20 false (.ld 23 1 false (.t 22))<|
 Zg 20 false (.len 24 (.t 23))<|
 Zg 20 false (.bin 25 .geq false (.t 21) (.t 24))<|
 Zo (.pick 26 (.t 20) (.c (.bool true)) (.t 25))<|
 Zm 27 26<|
 Zg 27 false (.fld 28 1 (.t 2))<|
 Zg 27 false (.ld 29 1 false (.t 28))<|
 Zg 27 false (.mv 30 (.t 1))<|
 Zg 27 false (.idx 31 1 (.t 29) (.t 30))<|
 Zg 27 false (.ld 32 1 false (.t 31))<|
 Zg 27 false (.bin 33 .lss false (.t 32) (.c (Zz 1)))<|
 Zo (.pick 34 (.t 27) (.c (.bool true)) (.t 33)) .nil)<| .cond (.t 34) (Zr (Zo (.bld 35 [.nilS,.nilS,Zz 0,.nilS] [])<|
 Zs 4 4 35<|
 Zo (.mv 5 (.c (.bool false))) .nil) .ret) .skip)<|Zr (Zf 36 3 2<|
 Zl 37 1 36<|
 Zn 38 37<|
 Zo (.mk 39 1 24 51 .nilS (.t 38) (.t 38))<|
 Zm 6 39 .nil)<| .seq (Zr (Zm 40 6<|
 Zn 41 40<|
 Zc 42 0 .nil)<| .block 0<| .loop<|Zr (Zb 43 .lss 42 41 .nil)<| .seq (.cond (.t 43) .skip (.exit 0))<| .seq (.block 1<|Zr (Zm 44 42<|
 Zm 7 44 .nil)<|Zr (Zf 46 3 2<|
 Zl 47 1 46<|
 Zm 48 7<|
 Zi 49 1 47 48<|
 Zl 50 1 49<|
 Zf 51 0 2<|
 Zl 52 1 51<|
 Zm 53 1<|
 Zi 54 1 52 53<|
 Zl 55 1 54<|
 Zq 56 false 89 [.t 50,.t 55]<|
 Zm 45 56<|
 Zo (.ext 57 (.t 45) 0)<|
 Zo (.ext 58 (.t 45) 1)<|
 Zm 8 57<|
 Zm 9 58 .nil)<| .seq (Zr (Zm 59 9<|
 Zu 60 59 .nil)<| .cond (.t 60) (Zr (Zo (.bld 61 [.nilS,.nilS,Zz 0,.nilS] [])<|
 Zs 4 4 61<|
 Zo (.mv 5 (.c (.bool false))) .nil) .ret) .skip)<| .rg (Zm 62 6<|
 Zm 63 7<|
 Zm 64 8<|
 Zi 65 1 62 63<|
 Zs 1 65 64 .nil))<| .rg (Zk 66 .add 42 1<|
 Zm 42 66 .nil))<|Zr (Zf 67 1 2<|
 Zl 68 1 67<|
 Zn 69 68<|
 Zo (.mk 70 1 8 3 (Zz 0) (.t 69) (.t 69))<|
 Zm 10 70 .nil)<|Zr (Zm 71 10<|
 Zf 72 1 2<|
 Zl 73 1 72<|
 Zo (.cpy 74 1 (.t 71) (.t 73)) .nil)<|Zr (Zm 75 10<|
 Zm 76 1<|
 Zi 77 1 75 76<|
 Zl 78 1 77<|
 Zk 79 .sub 78 1<|
 Zi 80 1 75 76<|
 Zs 1 80 79 .nil)<|Zr (Zf 81 0 2<|
 Zl 82 1 81<|
 Zm 83 10<|
 Zf 84 2 2<|
 Zl 85 1 84<|
 Zm 86 6<|
 Zo (.bld 87 [.nilS,.nilS,Zz 0,.nilS] [(0,1,.t 82),(1,1,.t 83),(2,1,.t 85),(3,1,.t 86)])<|
 Zs 4 4 87<|
 Zo (.mv 5 (.c (.bool true))) .nil) .ret⟩
theorem Qaor:Qd Tryz.prog Tryz.f43=some c43:=by kernel_rfl
def c88:SFn:=⟨40,[.cell 4 4 true],Zr (Zo (.box 2 4 79 (.t 0))<|
 Zo (.alloc 4 4 79 (.agg [.nilS,.nilS,Zz 0,.nilS])) .nil)<|Zr (Zf 6 2 2<|
 Zl 7 1 6<|
 Zf 8 3 2<|
 Zl 9 1 8<|
 Zo (.bld 10 [.nilS,.nilS,Zz 0,.nilS] [(2,1,.t 7),(3,1,.t 9)])<|
 Zo (.alloc 5 4 79 (.agg [.nilS,.nilS,Zz 0,.nilS]))<|
 Zs 4 5 10 .nil)<|Zr (Zf 11 0 5<|
 Zl 12 1 11<|
 Zf 13 0 2<|
 Zl 14 1 13<|
 Zm 15 1<|
 Zo (.sl 16 1 (.t 14) none (some (.t 15)) none)<|
 Zf 18 0 2<|
 Zm 20 1<|
 Zk 21 .add 20 1<|
 .br (Zo (.app 17 1 24 51 (.t 12) (.t 16))<|
 Zl 19 1 18<|
 Zo (.sl 22 1 (.t 19) (some (.t 21)) none none)<|
 Zo (.app 23 1 24 51 (.t 17) (.t 22))<|
 Zf 24 0 5<|
 Zs 1 24 23 .nil) (Zl 19 1 18<|
 Zo (.sl 22 1 (.t 19) (some (.t 21)) none none)<|
 Zo (.app 17 1 24 51 (.t 12) (.t 16))<|
 Zo (.app 23 1 24 51 (.t 17) (.t 22))<|
 Zf 24 0 5<|
 Zs 1 24 23 .nil))<|Zr (Zf 25 1 5<|
 Zl 26 1 25<|
 Zf 27 1 2<|
 Zl 28 1 27<|
 Zm 29 1<|
 Zo (.sl 30 1 (.t 28) none (some (.t 29)) none)<|
 Zf 32 1 2<|
 Zm 34 1<|
 Zk 35 .add 34 1<|
 .br (Zo (.app 31 1 8 3 (.t 26) (.t 30))<|
 Zl 33 1 32<|
 Zo (.sl 36 1 (.t 33) (some (.t 35)) none none)<|
 Zo (.app 37 1 8 3 (.t 31) (.t 36))<|
 Zf 38 1 5<|
 Zs 1 38 37 .nil) (Zl 33 1 32<|
 Zo (.sl 36 1 (.t 33) (some (.t 35)) none none)<|
 Zo (.app 31 1 8 3 (.t 26) (.t 30))<|
 Zo (.app 37 1 8 3 (.t 31) (.t 36))<|
 Zf 38 1 5<|
 Zs 1 38 37 .nil))<|Zr (Zh 39 4 5<|
 Zs 4 4 39 .nil) .ret⟩
theorem Qaos:Qd Tryz.prog Tryz.f88=some c88:=by kernel_rfl
def c42:SFn:=⟨42,[.cell 2 4 true],Zr (Zo (.box 1 4 79 (.t 0))<|
 Zo (.alloc 2 4 79 (.agg [.nilS,.nilS,Zz 0,.nilS])) .nil)<| .seq (Zr (Zf 6 0 1<|
 Zl 7 1 6<|
 Zn 8 7<|
 Zf 9 1 1<|
 Zl 10 1 9<|
 Zn 11 10<|
 Zb 12 .neq 8 11 .nil)<| .cond (.t 12) (Zr (Zh 13 4 1<|
 Zs 4 2 13 .nil) .ret) .skip)<|Zr (Zh 14 4 1<|
 Zq 15 false 87 [.t 14]<|
 Zs 4 1 15 .nil)<| .seq (Zr (Zc 3 0 .nil)<| .block 0<| .loop<| .seq (Zr (Zm 16 3<|
 Zf 17 0 1<|
 Zl 18 1 17<|
 Zn 19 18<|
 Zb 20 .lss 16 19 .nil)<| .cond (.t 20) .skip (.exit 0))<| .seq (.block 1<|Zr (Zh 24 4 1<|
 Zm 25 3<|
 Zq 26 false 43 [.t 24,.t 25]<|
 Zm 23 26<|
 Zo (.ext 27 (.t 23) 0)<|
 Zo (.ext 28 (.t 23) 1)<|
 Zo (.alloc 4 4 79 (.agg [.nilS,.nilS,Zz 0,.nilS]))<|
 Zs 4 4 27<|
 Zm 5 28 .nil)<| .seq (Zr (Zm 29 5<|
 Zu 30 29 .nil)<| .cond (.t 30) (.exit 1) .skip)<|Zr (Zh 31 4 4<|
 Zs 4 1 31 .nil)<| .seq (Zr (Zf 32 1 1<|
 Zl 33 1 32<|
 Zm 34 3<|
 Zi 35 1 33 34<|
 Zl 36 1 35<|
 Zk 37 .eql 36 0 .nil)<| .cond (.t 37) (.rg (Zh 38 4 1<|
 Zm 39 3<|
 Zq 40 false 88 [.t 38,.t 39]<|
 Zs 4 1 40 .nil)) .skip)<| .rg (Zc 3 (-1) .nil))<| .rg (Zm 21 3<|
 Zk 22 .add 21 1<|
 Zm 3 22 .nil))<|Zr (Zh 41 4 1<|
 Zs 4 2 41 .nil) .ret⟩
theorem Qaot:Qd Tryz.prog Tryz.f42=some c42:=by kernel_rfl
def c95:SFn:=⟨27,[.t 4],Zr (Zo (.mv 4 (.c (.bool false))) .nil)<| .seq (Zr (Zm 6 0<|
 Zn 7 6<|
 Zm 8 1<|
 Zn 9 8<|
 Zb 10 .neq 7 9 .nil)<| .cond (.t 10) (Zr (Zo (.mv 4 (.c (.bool false))) .nil) .ret) .skip)<| .seq (Zr (Zm 11 0<|
 Zn 12 11<|
 Zc 13 0 .nil)<| .block 0<| .loop<|Zr (Zb 14 .lss 13 12 .nil)<| .seq (.cond (.t 14) .skip (.exit 0))<| .seq (.block 1<|Zr (Zm 15 13<|
 Zm 5 15 .nil)<|Zr (Zm 16 0<|
 Zm 17 5<|
 Zi 18 1 16 17<|
 Zl 19 1 18<|
 Zm 20 1<|
 Zm 21 5<|
 Zi 22 1 20 21<|
 Zl 23 1 22<|
 Zq 24 false 81 [.t 19,.t 23]<|
 Zu 25 24 .nil)<| .cond (.t 25) (Zr (Zo (.mv 4 (.c (.bool false))) .nil) .ret) .skip)<| .rg (Zk 26 .add 13 1<|
 Zm 13 26 .nil))<|Zr (Zo (.mv 4 (.c (.bool true))) .nil) .ret⟩
theorem Qaou:Qd Tryz.prog Tryz.f95=some c95:=by kernel_rfl
def c51:SFn:=⟨50,[.t 4],Zr (Zo (.box 2 4 79 (.t 0))<|
 Zo (.box 3 4 79 (.t 1))<|
 Zo (.mv 4 (.c (.bool false))) .nil)<| .seq (Zr (Zf 6 2 2<|
 Zl 7 1 6<|
 Zf 8 2 3<|
 Zl 9 1 8<|
 Zb 10 .neq 7 9<|
 Zm 11 10<|
 Zg 11 false (.fld 12 1 (.t 2))<|
 Zg 11 false (.ld 13 1 false (.t 12))<|
 Zg 11 false (.len 14 (.t 13))<|
 Zg 11 false (.fld 15 1 (.t 3))<|
 Zg 11 false (.ld 16 1 false (.t 15))<|
 Zg 11 false (.len 17 (.t 16))<|
 Zg 11 false (.bin 18 .neq false (.t 14) (.t 17))<|
 Zo (.pick 19 (.t 11) (.c (.bool true)) (.t 18)) .nil)<| .cond (.t 19) (Zr (Zo (.mv 4 (.c (.bool false))) .nil) .ret) .skip)<| .seq (Zr (Zf 20 1 2<|
 Zl 21 1 20<|
 Zn 22 21<|
 Zc 23 0 .nil)<| .block 0<| .loop<|Zr (Zb 24 .lss 23 22 .nil)<| .seq (.cond (.t 24) .skip (.exit 0))<| .seq (.block 1<|Zr (Zm 25 23<|
 Zm 5 25 .nil)<|Zr (Zf 26 1 2<|
 Zl 27 1 26<|
 Zm 28 5<|
 Zi 29 1 27 28<|
 Zl 30 1 29<|
 Zf 31 1 3<|
 Zl 32 1 31<|
 Zm 33 5<|
 Zi 34 1 32 33<|
 Zl 35 1 34<|
 Zb 36 .neq 30 35 .nil)<| .cond (.t 36) (Zr (Zo (.mv 4 (.c (.bool false))) .nil) .ret) .skip)<| .rg (Zk 37 .add 23 1<|
 Zm 23 37 .nil))<|Zr (Zf 38 0 2<|
 Zl 39 1 38<|
 Zf 40 0 3<|
 Zl 41 1 40<|
 Zq 42 false 95 [.t 39,.t 41]<|
 Zm 43 42<|
 Zg 43 true (.fld 44 3 (.t 2))<|
 Zg 43 true (.ld 45 1 false (.t 44))<|
 Zg 43 true (.fld 46 3 (.t 3))<|
 Zg 43 true (.ld 47 1 false (.t 46))<|
 Zg 43 true (.call (some 48) false (.c (.fn 95 [] [])) [.t 45,.t 47])<|
 Zo (.pick 49 (.t 43) (.t 48) (.c (.bool false)))<|
 Zm 4 49 .nil) .ret⟩
theorem Qaov:Qd Tryz.prog Tryz.f51=some c51:=by kernel_rfl
def c94:SFn:=⟨32,[.t 4,.t 5],Zr (Zo (.mv 4 (.c .nilS))<|
 Zo (.mv 5 (.c (.bool false))) .nil)<|Zr (Zo (.mv 6 (.c .nilS)) .nil)<| .seq (Zr (Zc 7 0 .nil)<| .block 0<| .loop<| .seq (Zr (Zm 10 7<|
 Zm 11 0<|
 Zn 12 11<|
 Zb 13 .lss 10 12 .nil)<| .cond (.t 13) .skip (.exit 0))<| .seq (.block 1<|Zr (Zm 17 0<|
 Zm 18 7<|
 Zi 19 1 17 18<|
 Zl 20 1 19<|
 Zm 21 1<|
 Zq 22 false 177 [.t 20,.t 21]<|
 Zm 16 22<|
 Zo (.ext 23 (.t 16) 0)<|
 Zo (.ext 24 (.t 16) 1)<|
 Zm 8 23<|
 Zm 9 24 .nil)<| .seq (Zr (Zm 25 9<|
 Zu 26 25 .nil)<| .cond (.t 26) (Zr (Zo (.mv 4 (.c .nilS))<|
 Zo (.mv 5 (.c (.bool false))) .nil) .ret) .skip)<| .rg (Zm 27 6<|
 Zm 28 8<|
 Zo (.bs 29 1 51 [.t 28])<|
 Zo (.app 30 1 24 51 (.t 27) (.t 29))<|
 Zm 6 30 .nil))<| .rg (Zm 14 7<|
 Zk 15 .add 14 1<|
 Zm 7 15 .nil))<|Zr (Zm 31 6<|
 Zm 4 31<|
 Zo (.mv 5 (.c (.bool true))) .nil) .ret⟩
theorem Qaow:Qd Tryz.prog Tryz.f94=some c94:=by kernel_rfl
def c49:SFn:=⟨78,[.cell 4 4 true,.t 5],Zr (Zo (.box 2 4 79 (.t 0))<|
 Zo (.alloc 4 4 79 (.agg [.nilS,.nilS,Zz 0,.nilS]))<|
 Zo (.mv 5 (.c (.bool false))) .nil)<| .seq (Zr (Zm 9 1<|
 Zk 10 .lss 9 0<|
 Zm 11 10<|
 Zg 11 false (.mv 12 (.t 1))<|
 Zg 11 false (.fld 13 0 (.t 2))<|
 Zg 11 false (.ld 14 1 false (.t 13))<|
 Zg 11 false (.len 15 (.t 14))<|
 Zg 11 false (.bin 16 .geq false (.t 12) (.t 15))<|
 Zo (.pick 17 (.t 11) (.c (.bool true)) (.t 16))<|
 Zm 18 17<|
 Zg 18 false (.mv 19 (.t 1))<|
 Zg 18 false (.fld 20 1 (.t 2))<|
 Zg 18 false (.ld 21 1 false (.t 20))<|
 Zg 18 false (.len 22 (.t 21))<|
 Zg 18 false (.bin 23 .geq false (.t 19) (.t 22))<|
 Zo (.pick 24 (.t 18) (.c (.bool true)) (.t 23))<|
 Zm 25 24<|
 Zg 25 false (.fld 26 1 (.t 2))<|
 Zg 25 false (.ld 27 1 false (.t 26))<|
 Zg 25 false (.mv 28 (.t 1))<|
 Zg 25 false (.idx 29 1 (.t 27) (.t 28))<|
 Zg 25 false (.ld 30 1 false (.t 29))<|
 Zg 25 false (.bin 31 .lss false (.t 30) (.c (Zz 1)))<|
 Zo (.pick 32 (.t 25) (.c (.bool true)) (.t 31))<|
 Zm 33 32<|
 Zg 33 false (.fld 34 0 (.t 2))<|
 Zg 33 false (.ld 35 1 false (.t 34))<|
 Zg 33 false (.mv 36 (.t 1))<|
 Zg 33 false (.idx 37 1 (.t 35) (.t 36))<|
 Zg 33 false (.ld 38 1 false (.t 37))<|
 Zg 33 false (.len 39 (.t 38))<|
 Zg 33 false (.bin 40 .eql false (.t 39) (.c (Zz 0)))<|
 Zo (.pick 41 (.t 33) (.c (.bool true)) (.t 40)) .nil)<| .cond (.t 41) (Zr (Zo (.bld 42 [.nilS,.nilS,Zz 0,.nilS] [])<|
 Zs 4 4 42<|
 Zo (.mv 5 (.c (.bool false))) .nil) .ret) .skip)<|Zr (Zf 44 3 2<|
 Zl 45 1 44<|
 Zf 46 0 2<|
 Zl 47 1 46<|
 Zm 48 1<|
 Zi 49 1 47 48<|
 Zl 50 1 49<|
 Zq 51 false 94 [.t 45,.t 50]<|
 Zm 43 51<|
 Zo (.ext 52 (.t 43) 0)<|
 Zo (.ext 53 (.t 43) 1)<|
 Zm 6 52<|
 Zm 7 53 .nil)<| .seq (Zr (Zm 54 7<|
 Zu 55 54 .nil)<| .cond (.t 55) (Zr (Zo (.bld 56 [.nilS,.nilS,Zz 0,.nilS] [])<|
 Zs 4 4 56<|
 Zo (.mv 5 (.c (.bool false))) .nil) .ret) .skip)<|Zr (Zo (.bs 57 1 3 [])<|
 Zf 58 1 2<|
 Zl 59 1 58<|
 Zo (.app 60 1 8 3 (.t 57) (.t 59))<|
 Zm 8 60 .nil)<|Zr (Zm 61 8<|
 Zm 62 1<|
 Zm 63 8<|
 Zm 64 1<|
 Zi 65 1 63 64<|
 Zl 66 1 65<|
 Zk 67 .sub 66 1<|
 Zi 68 1 61 62<|
 Zs 1 68 67 .nil)<|Zr (Zf 70 0 2<|
 Zl 71 1 70<|
 Zm 73 8<|
 Zf 74 2 2<|
 Zm 76 6<|
 .br (Zo (.bs 69 1 51 [])<|
 .br (Zo (.app 72 1 24 51 (.t 69) (.t 71))<|
 Zl 75 1 74<|
 Zo (.bld 77 [.nilS,.nilS,Zz 0,.nilS] [(0,1,.t 72),(1,1,.t 73),(2,1,.t 75),(3,1,.t 76)])<|
 Zs 4 4 77<|
 Zo (.mv 5 (.c (.bool true))) .nil) (Zl 75 1 74<|
 Zo (.app 72 1 24 51 (.t 69) (.t 71))<|
 Zo (.bld 77 [.nilS,.nilS,Zz 0,.nilS] [(0,1,.t 72),(1,1,.t 73),(2,1,.t 75),(3,1,.t 76)])<|
 Zs 4 4 77<|
 Zo (.mv 5 (.c (.bool true))) .nil)) (Zl 75 1 74<|
 Zo (.bs 69 1 51 [])<|
 Zo (.app 72 1 24 51 (.t 69) (.t 71))<|
 Zo (.bld 77 [.nilS,.nilS,Zz 0,.nilS] [(0,1,.t 72),(1,1,.t 73),(2,1,.t 75),(3,1,.t 76)])<|
 Zs 4 4 77<|
 Zo (.mv 5 (.c (.bool true))) .nil)) .ret⟩
theorem Qaox:Qd Tryz.prog Tryz.f49=some c49:=by kernel_rfl
def c178:SFn:=⟨19,[.t 2],Zr (Zo (.mv 2 (.c (.bool false))) .nil)<|Zr (Zm 3 0<|
 Zn 4 3<|
 Zk 5 .eql 4 0<|
 Zm 6 5<|
 Zg 6 false (.mv 7 (.t 0))<|
 Zg 6 false (.len 8 (.t 7))<|
 Zg 6 false (.bin 9 .eql false (.t 8) (.c (Zz 1)))<|
 Zg 6 false (.mv 10 (.t 9))<|
 Zg 10 true (.mv 11 (.t 0))<|
 Zg 10 true (.idx 12 4 (.t 11) (.c (Zz 0)))<|
 Zg 10 true (.fld 13 3 (.t 12))<|
 Zg 10 true (.ld 14 1 false (.t 13))<|
 Zg 10 true (.len 15 (.t 14))<|
 Zg 10 true (.bin 16 .eql false (.t 15) (.c (Zz 0)))<|
 Zg 6 false (.pick 17 (.t 10) (.t 16) (.c (.bool false)))<|
 Zo (.pick 18 (.t 6) (.c (.bool true)) (.t 17))<|
 Zm 2 18 .nil) .ret⟩
theorem Qale:Qd Tryz.prog Tryz.f178=some c178:=by kernel_rfl
def c96:SFn:=⟨72,[.cell 2 4 true],Zr (Zo (.box 1 4 79 (.t 0))<|
 Zo (.alloc 2 4 79 (.agg [.nilS,.nilS,Zz 0,.nilS])) .nil)<| .seq (Zr (Zc 3 0 .nil)<| .block 0<| .loop<| .seq (Zr (Zm 5 3<|
 Zf 6 0 1<|
 Zl 7 1 6<|
 Zn 8 7<|
 Zb 9 .lss 5 8<|
 Zm 10 9<|
 Zg 10 true (.mv 11 (.t 3))<|
 Zg 10 true (.fld 12 1 (.t 1))<|
 Zg 10 true (.ld 13 1 false (.t 12))<|
 Zg 10 true (.len 14 (.t 13))<|
 Zg 10 true (.bin 15 .lss false (.t 11) (.t 14))<|
 Zo (.pick 16 (.t 10) (.t 15) (.c (.bool false))) .nil)<| .cond (.t 16) .skip (.exit 0))<| .block 1<| .seq (Zr (Zf 17 1 1<|
 Zl 18 1 17<|
 Zm 19 3<|
 Zi 20 1 18 19<|
 Zl 21 1 20<|
 Zk 22 .gtr 21 0<|
 Zm 23 22<|
 Zg 23 true (.fld 24 0 (.t 1))<|
 Zg 23 true (.ld 25 1 false (.t 24))<|
 Zg 23 true (.mv 26 (.t 3))<|
 Zg 23 true (.idx 27 1 (.t 25) (.t 26))<|
 Zg 23 true (.ld 28 1 false (.t 27))<|
 Zg 23 true (.call (some 29) false (.c (.fn 178 [] [])) [.t 28])<|
 Zg 23 true (.un 30 .not (.t 29))<|
 Zo (.pick 31 (.t 23) (.t 30) (.c (.bool false)))<|
 Zm 32 31<|
 Zg 32 false (.fld 33 0 (.t 1))<|
 Zg 32 false (.ld 34 1 false (.t 33))<|
 Zg 32 false (.mv 35 (.t 3))<|
 Zg 32 false (.idx 36 1 (.t 34) (.t 35))<|
 Zg 32 false (.ld 37 1 false (.t 36))<|
 Zg 32 false (.len 38 (.t 37))<|
 Zg 32 false (.bin 39 .eql false (.t 38) (.c (Zz 0)))<|
 Zo (.pick 40 (.t 32) (.c (.bool true)) (.t 39)) .nil)<| .cond (.t 40) (Zr (Zm 41 3<|
 Zk 42 .add 41 1<|
 Zm 3 42 .nil)<| .exit 1) .skip)<| .seq (Zr (Zc 4 0 .nil)<| .block 2<| .loop<| .seq (Zr (Zm 43 4<|
 Zf 44 1 1<|
 Zl 45 1 44<|
 Zm 46 3<|
 Zi 47 1 45 46<|
 Zl 48 1 47<|
 Zb 49 .lss 43 48<|
 Zm 50 49<|
 Zg 50 true (.mv 51 (.t 4))<|
 Zg 50 true (.bin 52 .lss false (.t 51) (.c (Zz 64)))<|
 Zo (.pick 53 (.t 50) (.t 52) (.c (.bool false))) .nil)<| .cond (.t 53) .skip (.exit 2))<| .seq (.block 3<| .rg (Zf 57 3 1<|
 Zl 58 1 57<|
 Zf 59 0 1<|
 Zl 60 1 59<|
 Zm 61 3<|
 Zi 62 1 60 61<|
 Zl 63 1 62<|
 Zq 64 false 94 [.t 58,.t 63]<|
 Zm 56 64<|
 Zo (.ext 65 (.t 56) 0)<|
 Zo (.ext 66 (.t 56) 1)<|
 Zf 67 3 1<|
 Zs 1 67 65 .nil))<| .rg (Zm 54 4<|
 Zk 55 .add 54 1<|
 Zm 4 55 .nil))<| .rg (Zh 68 4 1<|
 Zm 69 3<|
 Zq 70 false 97 [.t 68,.t 69]<|
 Zs 4 1 70 .nil))<|Zr (Zh 71 4 1<|
 Zs 4 2 71 .nil) .ret⟩
theorem Qaoy:Qd Tryz.prog Tryz.f96=some c96:=by kernel_rfl
def c52:SFn:=⟨34,[.cell 2 4 true],Zr (Zo (.box 1 4 79 (.t 0))<|
 Zo (.alloc 2 4 79 (.agg [.nilS,.nilS,Zz 0,.nilS])) .nil)<|Zr (Zh 6 4 1<|
 Zq 7 false 96 [.t 6]<|
 Zs 4 1 7 .nil)<| .seq (Zr (Zc 3 0 .nil)<| .block 0<| .loop<| .seq (Zr (Zm 8 3<|
 Zf 9 0 1<|
 Zl 10 1 9<|
 Zn 11 10<|
 Zb 12 .lss 8 11 .nil)<| .cond (.t 12) .skip (.exit 0))<| .block 1<|Zr (Zh 14 4 1<|
 Zm 15 3<|
 Zq 16 false 49 [.t 14,.t 15]<|
 Zm 13 16<|
 Zo (.ext 17 (.t 13) 0)<|
 Zo (.ext 18 (.t 13) 1)<|
 Zo (.alloc 4 4 79 (.agg [.nilS,.nilS,Zz 0,.nilS]))<|
 Zs 4 4 17<|
 Zm 5 18 .nil)<| .seq (Zr (Zm 19 5<|
 Zu 20 19 .nil)<| .cond (.t 20) (Zr (Zm 21 3<|
 Zk 22 .add 21 1<|
 Zm 3 22 .nil)<| .exit 1) .skip)<|Zr (Zh 23 4 4<|
 Zs 4 1 23 .nil)<| .seq (Zr (Zf 24 1 1<|
 Zl 25 1 24<|
 Zm 26 3<|
 Zi 27 1 25 26<|
 Zl 28 1 27<|
 Zk 29 .eql 28 0 .nil)<| .cond (.t 29) (.rg (Zh 30 4 1<|
 Zm 31 3<|
 Zq 32 false 97 [.t 30,.t 31]<|
 Zs 4 1 32 .nil)) .skip)<| .rg (Zc 3 0 .nil))<|Zr (Zh 33 4 1<|
 Zs 4 2 33 .nil) .ret⟩
theorem Qaoz:Qd Tryz.prog Tryz.f52=some c52:=by kernel_rfl
def c76:SFn:=⟨33,[.t 4],Zr (Zo (.mv 4 (.c (.bool false))) .nil)<| .seq (Zr (Zc 5 0 .nil)<| .block 0<| .loop<| .seq (Zr (Zm 6 5<|
 Zm 7 0<|
 Zn 8 7<|
 Zb 9 .lss 6 8<|
 Zm 10 9<|
 Zg 10 true (.mv 11 (.t 5))<|
 Zg 10 true (.mv 12 (.t 1))<|
 Zg 10 true (.len 13 (.t 12))<|
 Zg 10 true (.bin 14 .lss false (.t 11) (.t 13))<|
 Zo (.pick 15 (.t 10) (.t 14) (.c (.bool false))) .nil)<| .cond (.t 15) .skip (.exit 0))<| .seq (.block 1<|Zr (Zm 18 0<|
 Zm 19 5<|
 Zi 20 1 18 19<|
 Zl 21 1 20<|
 Zm 22 1<|
 Zm 23 5<|
 Zi 24 1 22 23<|
 Zl 25 1 24<|
 Zq 26 false 20 [.t 21,.t 25]<|
 Zu 27 26 .nil)<| .cond (.t 27) (Zr (Zo (.mv 4 (.c (.bool false))) .nil) .ret) .skip)<| .rg (Zm 16 5<|
 Zk 17 .add 16 1<|
 Zm 5 17 .nil))<|Zr (Zm 28 0<|
 Zn 29 28<|
 Zm 30 1<|
 Zn 31 30<|
 Zb 32 .eql 29 31<|
 Zm 4 32 .nil) .ret⟩
theorem Qao0:Qd Tryz.prog Tryz.f76=some c76:=by kernel_rfl
def c50:SFn:=⟨59,[.t 4],Zr (Zo (.box 2 4 79 (.t 0))<|
 Zo (.box 3 4 79 (.t 1))<|
 Zo (.mv 4 (.c (.bool false))) .nil)<| .seq (Zr (Zc 5 0 .nil)<| .block 0<| .loop<| .seq (Zr (Zm 6 5<|
 Zf 7 1 2<|
 Zl 8 1 7<|
 Zn 9 8<|
 Zb 10 .lss 6 9<|
 Zm 11 10<|
 Zg 11 true (.mv 12 (.t 5))<|
 Zg 11 true (.fld 13 1 (.t 3))<|
 Zg 11 true (.ld 14 1 false (.t 13))<|
 Zg 11 true (.len 15 (.t 14))<|
 Zg 11 true (.bin 16 .lss false (.t 12) (.t 15))<|
 Zo (.pick 17 (.t 11) (.t 16) (.c (.bool false))) .nil)<| .cond (.t 17) .skip (.exit 0))<| .seq (.block 1<|Zr (Zf 20 1 2<|
 Zl 21 1 20<|
 Zm 22 5<|
 Zi 23 1 21 22<|
 Zl 24 1 23<|
 Zf 25 1 3<|
 Zl 26 1 25<|
 Zm 27 5<|
 Zi 28 1 26 27<|
 Zl 29 1 28<|
 Zb 30 .neq 24 29 .nil)<| .cond (.t 30) (Zr (Zo (.mv 4 (.c (.bool false))) .nil) .ret) .skip)<| .rg (Zm 18 5<|
 Zk 19 .add 18 1<|
 Zm 5 19 .nil))<|Zr (Zf 31 1 2<|
 Zl 32 1 31<|
 Zn 33 32<|
 Zf 34 1 3<|
 Zl 35 1 34<|
 Zn 36 35<|
 Zb 37 .eql 33 36<|
 Zm 38 37<|
 Zg 38 true (.fld 39 2 (.t 2))<|
 Zg 38 true (.ld 40 1 false (.t 39))<|
 Zg 38 true (.fld 41 2 (.t 3))<|
 Zg 38 true (.ld 42 1 false (.t 41))<|
 Zg 38 true (.bin 43 .eql false (.t 40) (.t 42))<|
 Zo (.pick 44 (.t 38) (.t 43) (.c (.bool false)))<|
 Zm 45 44<|
 Zg 45 true (.fld 46 0 (.t 2))<|
 Zg 45 true (.ld 47 1 false (.t 46))<|
 Zg 45 true (.fld 48 0 (.t 3))<|
 Zg 45 true (.ld 49 1 false (.t 48))<|
 Zg 45 true (.call (some 50) false (.c (.fn 76 [] [])) [.t 47,.t 49])<|
 Zo (.pick 51 (.t 45) (.t 50) (.c (.bool false)))<|
 Zm 52 51<|
 Zg 52 true (.fld 53 3 (.t 2))<|
 Zg 52 true (.ld 54 1 false (.t 53))<|
 Zg 52 true (.fld 55 3 (.t 3))<|
 Zg 52 true (.ld 56 1 false (.t 55))<|
 Zg 52 true (.call (some 57) false (.c (.fn 76 [] [])) [.t 54,.t 56])<|
 Zo (.pick 58 (.t 52) (.t 57) (.c (.bool false)))<|
 Zm 4 58 .nil) .ret⟩
theorem Qao1:Qd Tryz.prog Tryz.f50=some c50:=by kernel_rfl
def c30:SFn:=⟨105,[.t 0],Zr (Zo (.mv 0 (.c (.bool false))) .nil)<|Zr (Zq 8 false 73 [.c (Zz 0)]<|
 Zo (.bs 9 1 51 [.t 8])<|
 Zo (.bs 10 1 3 [.c (Zz 1)])<|
 Zq 11 false 74 []<|
 Zo (.bs 12 1 51 [.t 11])<|
 Zo (.bld 13 [.nilS,.nilS,Zz 0,.nilS] [(0,1,.t 9),(1,1,.t 10),(2,1,.c (Zz 1)),(3,1,.t 12)])<|
 Zo (.alloc 1 4 79 (.agg [.nilS,.nilS,Zz 0,.nilS]))<|
 Zs 4 1 13 .nil)<|Zr (Zq 14 false 73 [.c (Zz 0)]<|
 Zq 15 false 73 [.c (Zz 1)]<|
 Zq 16 false 41 [.t 14,.t 15]<|
 Zo (.bs 17 1 51 [.t 16])<|
 Zm 2 17 .nil)<|Zr (Zq 19 false 73 [.c (Zz 1)]<|
 Zq 20 false 73 [.c (Zz 0)]<|
 Zo (.bs 21 1 51 [.t 19,.t 20])<|
 Zq 22 false 73 [.c (Zz 0)]<|
 Zq 23 false 74 []<|
 Zo (.bs 24 1 51 [.t 22,.t 23])<|
 Zq 25 false 45 [.t 21,.t 24]<|
 Zm 18 25<|
 Zo (.ext 26 (.t 18) 0)<|
 Zo (.ext 27 (.t 18) 1)<|
 Zm 3 26<|
 Zm 4 27 .nil)<|Zr (Zq 29 false 73 [.c (Zz 0)]<|
 Zq 30 false 73 [.c (Zz 1)]<|
 Zo (.bs 31 1 51 [.t 29,.t 30])<|
 Zo (.bs 32 1 3 [.c (Zz 2),.c (Zz 0)])<|
 Zq 33 false 31 [.t 31,.t 32]<|
 Zm 28 33<|
 Zo (.ext 34 (.t 28) 0)<|
 Zo (.ext 35 (.t 28) 1)<|
 Zm 5 34<|
 Zm 6 35 .nil)<|Zr (Zq 36 false 73 [.c (Zz 0)]<|
 Zo (.bs 37 1 51 [.t 36])<|
 Zo (.bs 38 1 3 [.c (Zz 2)])<|
 Zq 39 false 73 [.c (Zz 0)]<|
 Zq 40 false 73 [.c (Zz 0)]<|
 Zq 41 false 41 [.t 39,.t 40]<|
 Zq 42 false 73 [.c (Zz 0)]<|
 Zq 43 false 73 [.c (Zz 1)]<|
 Zq 44 false 41 [.t 42,.t 43]<|
 Zo (.bs 45 1 51 [.t 41,.t 44])<|
 Zo (.bld 46 [.nilS,.nilS,Zz 0,.nilS] [(0,1,.t 37),(1,1,.t 38),(2,1,.c (Zz 1)),(3,1,.t 45)])<|
 Zq 47 false 42 [.t 46]<|
 Zo (.alloc 7 4 79 (.agg [.nilS,.nilS,Zz 0,.nilS]))<|
 Zs 4 7 47 .nil)<|Zr (Zm 48 4<|
 Zk 49 .eql 48 0<|
 Zm 50 49<|
 Zg 50 true (.mv 51 (.t 3))<|
 Zg 50 true (.mv 52 (.t 2))<|
 Zg 50 true (.idx 53 1 (.t 52) (.c (Zz 0)))<|
 Zg 50 true (.ld 54 1 false (.t 53))<|
 Zg 50 true (.call (some 55) true (.c (.fn 73 [] [])) [.c (Zz 0)])<|
 Zg 50 true (.call (some 56) true (.c (.fn 75 [] [])) [.t 54,.t 55])<|
 Zg 50 true (.call (some 57) true (.c (.fn 20 [] [])) [.t 51,.t 56])<|
 Zo (.pick 58 (.t 50) (.t 57) (.c (.bool false)))<|
 Zm 59 58<|
 Zg 59 true (.mv 60 (.t 6))<|
 Zg 59 true (.bin 61 .eql false (.t 60) (.c (Zz 0)))<|
 Zo (.pick 62 (.t 59) (.t 61) (.c (.bool false)))<|
 Zm 63 62<|
 Zg 63 true (.mv 64 (.t 5))<|
 Zg 63 true (.call (some 65) true (.c (.fn 73 [] [])) [.c (Zz 0)])<|
 Zg 63 true (.call (some 66) true (.c (.fn 73 [] [])) [.c (Zz 0)])<|
 Zg 63 true (.call (some 67) true (.c (.fn 41 [] [])) [.t 65,.t 66])<|
 Zg 63 true (.call (some 68) true (.c (.fn 20 [] [])) [.t 64,.t 67])<|
 Zo (.pick 69 (.t 63) (.t 68) (.c (.bool false)))<|
 Zm 70 69<|
 Zg 70 true (.ld 71 4 true (.t 1))<|
 Zg 70 true (.mv 72 (.t 2))<|
 Zg 70 true (.call (some 73) true (.c (.fn 73 [] [])) [.c (Zz 1)])<|
 Zg 70 true (.call (some 74) true (.c (.fn 35 [] [])) [.t 71,.t 72,.t 73])<|
 Zg 70 true (.bin 75 .eql false (.t 74) (.c (Zz 0)))<|
 Zo (.pick 76 (.t 70) (.t 75) (.c (.bool false)))<|
 Zm 77 76<|
 Zg 77 true (.ld 78 4 true (.t 1))<|
 Zg 77 true (.mv 79 (.t 2))<|
 Zg 77 true (.call (some 80) true (.c (.fn 73 [] [])) [.c (Zz 0)])<|
 Zg 77 true (.call (some 81) true (.c (.fn 35 [] [])) [.t 78,.t 79,.t 80])<|
 Zg 77 true (.bin 82 .eql false (.t 81) (.c (Zz 17)))<|
 Zo (.pick 83 (.t 77) (.t 82) (.c (.bool false)))<|
 Zm 84 83<|
 Zg 84 true (.fld 85 1 (.t 7))<|
 Zg 84 true (.ld 86 1 false (.t 85))<|
 Zg 84 true (.len 87 (.t 86))<|
 Zg 84 true (.bin 88 .eql false (.t 87) (.c (Zz 1)))<|
 Zo (.pick 89 (.t 84) (.t 88) (.c (.bool false)))<|
 Zm 90 89<|
 Zg 90 true (.fld 91 1 (.t 7))<|
 Zg 90 true (.ld 92 1 false (.t 91))<|
 Zg 90 true (.idx 93 1 (.t 92) (.c (Zz 0)))<|
 Zg 90 true (.ld 94 1 false (.t 93))<|
 Zg 90 true (.bin 95 .eql false (.t 94) (.c (Zz 1)))<|
 Zo (.pick 96 (.t 90) (.t 95) (.c (.bool false)))<|
 Zm 97 96<|
 Zg 97 true (.fld 98 3 (.t 7))<|
 Zg 97 true (.ld 99 1 false (.t 98))<|
 Zg 97 true (.call (some 100) true (.c (.fn 73 [] [])) [.c (Zz 0)])<|
 Zg 97 true (.call (some 101) true (.c (.fn 73 [] [])) [.c (Zz 1)])<|
 Zg 97 true (.bs 102 1 51 [.t 100,.t 101])<|
 Zg 97 true (.call (some 103) true (.c (.fn 76 [] [])) [.t 99,.t 102])<|
 Zo (.pick 104 (.t 97) (.t 103) (.c (.bool false)))<|
 Zm 0 104 .nil) .ret⟩
theorem Qao2:Qd Tryz.prog Tryz.f30=some c30:=by kernel_rfl
def c73:SFn:=⟨5,[.t 2],Zr (Zo (.mv 2 (.c .nilS)) .nil)<|Zr (Zm 3 0<|
 Zq 4 false 58 [.t 3]<|
 Zm 2 4 .nil) .ret⟩
theorem Qao3:Qd Tryz.prog Tryz.f73=some c73:=by kernel_rfl
def c74:SFn:=⟨3,[.t 0],Zr (Zo (.mv 0 (.c .nilS)) .nil)<|Zr (Zq 1 false 37 [.c (Zz 1)]<|
 Zq 2 false 107 [.t 1]<|
 Zm 0 2 .nil) .ret⟩
theorem Qao4:Qd Tryz.prog Tryz.f74=some c74:=by kernel_rfl
def c29:SFn:=⟨59,[.t 4],Zr (Zo (.mv 4 (.c (.bool false))) .nil)<|Zr (Zc 5 0 .nil)<| .seq (Zr (Zc 6 0 .nil)<| .block 0<| .loop<| .seq (Zr (Zm 7 6<|
 Zm 8 1<|
 Zn 9 8<|
 Zb 10 .lss 7 9 .nil)<| .cond (.t 10) .skip (.exit 0))<| .seq (.block 1<| .seq (Zr (Zm 13 1<|
 Zm 14 6<|
 Zi 15 1 13 14<|
 Zl 16 1 15<|
 Zk 17 .gtr 16 4<|
 Zm 18 17<|
 Zg 18 true (.mv 19 (.t 1))<|
 Zg 18 true (.mv 20 (.t 6))<|
 Zg 18 true (.idx 21 1 (.t 19) (.t 20))<|
 Zg 18 true (.ld 22 1 false (.t 21))<|
 Zg 18 true (.bin 23 .leq false (.t 22) (.c (Zz 64)))<|
 Zo (.pick 24 (.t 18) (.t 23) (.c (.bool false))) .nil)<| .cond (.t 24) (Zr (Zo (.mv 4 (.c (.bool true))) .nil) .ret) .skip)<|Zr (Zm 25 1<|
 Zm 26 6<|
 Zi 27 1 25 26<|
 Zl 28 1 27<|
 Zk 29 .gtr 28 0<|
 Zm 30 29<|
 Zg 30 true (.mv 31 (.t 1))<|
 Zg 30 true (.mv 32 (.t 6))<|
 Zg 30 true (.idx 33 1 (.t 31) (.t 32))<|
 Zg 30 true (.ld 34 1 false (.t 33))<|
 Zg 30 true (.bin 35 .leq false (.t 34) (.c (Zz 4)))<|
 Zo (.pick 36 (.t 30) (.t 35) (.c (.bool false)))<|
 Zm 37 36<|
 Zg 37 true (.mv 38 (.t 6))<|
 Zg 37 true (.mv 39 (.t 0))<|
 Zg 37 true (.len 40 (.t 39))<|
 Zg 37 true (.bin 41 .lss false (.t 38) (.t 40))<|
 Zo (.pick 42 (.t 37) (.t 41) (.c (.bool false)))<|
 Zm 43 42<|
 Zg 43 true (.mv 44 (.t 0))<|
 Zg 43 true (.mv 45 (.t 6))<|
 Zg 43 true (.idx 46 1 (.t 44) (.t 45))<|
 Zg 43 true (.ld 47 1 false (.t 46))<|
 Zg 43 true (.len 48 (.t 47))<|
 Zg 43 true (.bin 49 .gtr false (.t 48) (.c (Zz 1)))<|
 Zo (.pick 50 (.t 43) (.t 49) (.c (.bool false))) .nil)<| .cond (.t 50) (.rg (Zm 51 5<|
 Zm 52 1<|
 Zm 53 6<|
 Zi 54 1 52 53<|
 Zl 55 1 54<|
 Zb 56 .add 51 55<|
 Zm 5 56 .nil)) .skip)<| .rg (Zm 11 6<|
 Zk 12 .add 11 1<|
 Zm 6 12 .nil))<|Zr (Zm 57 5<|
 Zk 58 .gtr 57 6<|
 Zm 4 58 .nil) .ret⟩
theorem Qao5:Qd Tryz.prog Tryz.f29=some c29:=by kernel_rfl
def c38:SFn:=⟨30,[.t 4],Zr (Zo (.mv 4 (.c (.bool false))) .nil)<| .seq (Zr (Zc 5 0 .nil)<| .block 0<| .loop<| .seq (Zr (Zm 8 5<|
 Zm 9 0<|
 Zn 10 9<|
 Zb 11 .lss 8 10 .nil)<| .cond (.t 11) .skip (.exit 0))<| .seq (.block 1<|Zr (Zm 15 0<|
 Zm 16 5<|
 Zi 17 1 15 16<|
 Zl 18 1 17<|
 Zm 19 1<|
 Zq 20 false 26 [.t 18,.t 19]<|
 Zm 14 20<|
 Zo (.ext 21 (.t 14) 0)<|
 Zo (.ext 22 (.t 14) 1)<|
 Zo (.alloc 6 3 32 (.agg [.bool false,.nilS,.nilS]))<|
 Zs 3 6 21<|
 Zm 7 22 .nil)<|Zr (Zm 23 7<|
 Zk 24 .neq 23 0<|
 Zm 25 24<|
 Zg 25 false (.ld 26 3 true (.t 6))<|
 Zg 25 false (.call (some 27) false (.c (.fn 85 [] [])) [.t 26])<|
 Zg 25 false (.bin 28 .neq false (.t 27) (.c (Zz 0)))<|
 Zo (.pick 29 (.t 25) (.c (.bool true)) (.t 28)) .nil)<| .cond (.t 29) (Zr (Zo (.mv 4 (.c (.bool false))) .nil) .ret) .skip)<| .rg (Zm 12 5<|
 Zk 13 .add 12 1<|
 Zm 5 13 .nil))<|Zr (Zo (.mv 4 (.c (.bool true))) .nil) .ret⟩
theorem Qao6:Qd Tryz.prog Tryz.f38=some c38:=by kernel_rfl
def c39:SFn:=⟨40,[.t 4],Zr (Zo (.box 2 4 79 (.t 0))<|
 Zo (.mv 4 (.c (.bool false))) .nil)<| .seq (Zr (Zc 5 0 .nil)<| .block 0<| .loop<| .seq (Zr (Zm 8 5<|
 Zf 9 0 2<|
 Zl 10 1 9<|
 Zn 11 10<|
 Zb 12 .lss 8 11 .nil)<| .cond (.t 12) .skip (.exit 0))<| .seq (.block 1<|Zr (Zf 16 0 2<|
 Zl 17 1 16<|
 Zm 18 5<|
 Zi 19 1 17 18<|
 Zl 20 1 19<|
 Zm 21 1<|
 Zq 22 false 26 [.t 20,.t 21]<|
 Zm 15 22<|
 Zo (.ext 23 (.t 15) 0)<|
 Zo (.ext 24 (.t 15) 1)<|
 Zo (.alloc 6 3 32 (.agg [.bool false,.nilS,.nilS]))<|
 Zs 3 6 23<|
 Zm 7 24 .nil)<|Zr (Zf 25 1 2<|
 Zl 26 1 25<|
 Zm 27 5<|
 Zi 28 1 26 27<|
 Zl 29 1 28<|
 Zk 30 .gtr 29 0<|
 Zm 31 30<|
 Zg 31 true (.mv 32 (.t 7))<|
 Zg 31 true (.bin 33 .neq false (.t 32) (.c (Zz 0)))<|
 Zg 31 true (.mv 34 (.t 33))<|
 Zg 34 false (.ld 35 3 true (.t 6))<|
 Zg 34 false (.call (some 36) false (.c (.fn 85 [] [])) [.t 35])<|
 Zg 34 false (.bin 37 .eql false (.t 36) (.c (Zz 0)))<|
 Zg 31 true (.pick 38 (.t 34) (.c (.bool true)) (.t 37))<|
 Zo (.pick 39 (.t 31) (.t 38) (.c (.bool false))) .nil)<| .cond (.t 39) (Zr (Zo (.mv 4 (.c (.bool true))) .nil) .ret) .skip)<| .rg (Zm 13 5<|
 Zk 14 .add 13 1<|
 Zm 5 14 .nil))<|Zr (Zo (.mv 4 (.c (.bool false))) .nil) .ret⟩
theorem Qao7:Qd Tryz.prog Tryz.f39=some c39:=by kernel_rfl
def c12:SFn:=⟨36,[.t 4],Zr (Zo (.box 2 4 79 (.t 0))<|
 Zo (.box 3 4 79 (.t 1))<|
 Zo (.mv 4 (.c (.bool false))) .nil)<| .seq (Zr (Zh 5 4 2<|
 Zq 6 false 40 [.t 5]<|
 Zu 7 6<|
 Zm 8 7<|
 Zg 8 false (.ld 9 4 true (.t 3))<|
 Zg 8 false (.call (some 10) false (.c (.fn 33 [] [])) [.t 9])<|
 Zg 8 false (.un 11 .not (.t 10))<|
 Zo (.pick 12 (.t 8) (.c (.bool true)) (.t 11)) .nil)<| .cond (.t 12) (Zr (Zq 13 false 30 []<|
 Zm 4 13 .nil) .ret) .skip)<|Zr (Zh 14 4 2<|
 Zh 16 4 2<|
 Zq 15 true 42 [.t 14]<|
 Zq 17 true 52 [.t 16]<|
 Zq 18 true 50 [.t 15,.t 17]<|
 Zm 19 18<|
 Zg 19 true (.ld 20 4 true (.t 2))<|
 Zg 19 true (.ld 21 4 true (.t 3))<|
 Zg 19 true (.ld 23 4 true (.t 2))<|
 Zg 19 true (.ld 24 4 true (.t 3))<|
 Zg 19 true (.call (some 22) true (.c (.fn 51 [] [])) [.t 20,.t 21])<|
 Zg 19 true (.call (some 25) true (.c (.fn 50 [] [])) [.t 23,.t 24])<|
 Zg 19 true (.bin 26 .eql true (.t 22) (.t 25))<|
 Zo (.pick 27 (.t 19) (.t 26) (.c (.bool false)))<|
 Zm 28 27<|
 Zg 28 true (.ld 29 4 true (.t 2))<|
 Zg 28 true (.ld 30 4 true (.t 2))<|
 Zg 28 true (.call (some 31) true (.c (.fn 51 [] [])) [.t 29,.t 30])<|
 Zo (.pick 32 (.t 28) (.t 31) (.c (.bool false)))<|
 Zm 33 32<|
 Zg 33 true (.call (some 34) true (.c (.fn 30 [] [])) [])<|
 Zo (.pick 35 (.t 33) (.t 34) (.c (.bool false)))<|
 Zm 4 35 .nil) .ret⟩
theorem Qao8:Qd Tryz.prog Tryz.f12=some c12:=by kernel_rfl
def c8:SFn:=⟨84,[.t 6],Zr (Zo (.box 3 4 79 (.t 0))<|
 Zo (.mv 6 (.c (.bool false))) .nil)<| .seq (Zr (Zh 9 4 3<|
 Zq 10 false 33 [.t 9]<|
 Zu 11 10<|
 Zm 12 11<|
 Zg 12 false (.mv 13 (.t 1))<|
 Zg 12 false (.call (some 14) false (.c (.fn 28 [] [])) [.t 13])<|
 Zg 12 false (.un 15 .not (.t 14))<|
 Zo (.pick 16 (.t 12) (.c (.bool true)) (.t 15))<|
 Zm 17 16<|
 Zg 17 false (.mv 18 (.t 2))<|
 Zg 17 false (.call (some 19) false (.c (.fn 34 [] [])) [.t 18])<|
 Zg 17 false (.un 20 .not (.t 19))<|
 Zo (.pick 21 (.t 17) (.c (.bool true)) (.t 20))<|
 Zm 22 21<|
 Zg 22 false (.fld 23 0 (.t 3))<|
 Zg 22 false (.ld 24 1 false (.t 23))<|
 Zg 22 false (.fld 25 1 (.t 3))<|
 Zg 22 false (.ld 26 1 false (.t 25))<|
 Zg 22 false (.call (some 27) false (.c (.fn 29 [] [])) [.t 24,.t 26])<|
 Zo (.pick 28 (.t 22) (.c (.bool true)) (.t 27))<|
 Zm 29 28<|
 Zg 29 false (.fld 30 2 (.t 3))<|
 Zg 29 false (.ld 31 1 false (.t 30))<|
 Zg 29 false (.bin 32 .gtr false (.t 31) (.c (Zz 3)))<|
 Zg 29 false (.mv 33 (.t 32))<|
 Zg 33 true (.fld 34 2 (.t 3))<|
 Zg 33 true (.ld 35 1 false (.t 34))<|
 Zg 33 true (.bin 36 .leq false (.t 35) (.c (Zz 64)))<|
 Zg 29 false (.pick 37 (.t 33) (.t 36) (.c (.bool false)))<|
 Zo (.pick 38 (.t 29) (.c (.bool true)) (.t 37)) .nil)<| .cond (.t 38) (Zr (Zq 39 false 30 []<|
 Zm 6 39 .nil) .ret) .skip)<| .seq (Zr (Zh 40 4 3<|
 Zm 41 1<|
 Zm 42 2<|
 Zq 43 false 35 [.t 40,.t 41,.t 42]<|
 Zk 44 .neq 43 0 .nil)<| .cond (.t 44) (Zr (Zq 45 false 30 []<|
 Zm 6 45 .nil) .ret) .skip)<| .seq (Zr (Zc 7 0 .nil)<| .block 0<| .loop<| .seq (Zr (Zm 46 7<|
 Zk 47 .lss 46 81 .nil)<| .cond (.t 47) .skip (.exit 0))<| .seq (.block 1<|Zr (Zm 50 7<|
 Zk 51 .rem 50 3<|
 Zk 52 .sub 51 1<|
 Zq 53 false 37 [.t 52]<|
 Zm 54 7<|
 Zk 55 .quo 54 3<|
 Zk 56 .rem 55 3<|
 Zk 57 .sub 56 1<|
 Zq 58 false 37 [.t 57]<|
 Zm 59 7<|
 Zk 60 .quo 59 9<|
 Zk 61 .rem 60 3<|
 Zk 62 .sub 61 1<|
 Zq 63 false 37 [.t 62]<|
 Zm 64 7<|
 Zk 65 .quo 64 27<|
 Zk 66 .sub 65 1<|
 Zq 67 false 37 [.t 66]<|
 Zo (.bs 68 3 32 [.t 53,.t 58,.t 63,.t 67])<|
 Zm 8 68 .nil)<| .seq (Zr (Zm 69 1<|
 Zm 70 8<|
 Zq 71 false 38 [.t 69,.t 70]<|
 Zu 72 71<|
 Zm 73 72<|
 Zg 73 false (.ld 74 4 true (.t 3))<|
 Zg 73 false (.mv 75 (.t 8))<|
 Zg 73 false (.call (some 76) false (.c (.fn 39 [] [])) [.t 74,.t 75])<|
 Zo (.pick 77 (.t 73) (.c (.bool true)) (.t 76)) .nil)<| .cond (.t 77) (.exit 1) .skip)<|Zr (Zm 78 2<|
 Zo (.bs 79 1 51 [.t 78])<|
 Zm 80 8<|
 Zq 81 false 38 [.t 79,.t 80]<|
 Zu 82 81 .nil)<| .cond (.t 82) (Zr (Zo (.mv 6 (.c (.bool false))) .nil) .ret) .skip)<| .rg (Zm 48 7<|
 Zk 49 .add 48 1<|
 Zm 7 49 .nil))<|Zr (Zq 83 false 30 []<|
 Zm 6 83 .nil) .ret⟩
theorem Qaqm:Qd Tryz.prog Tryz.f8=some c8:=by kernel_rfl
end Go.Proofs.YtonfajmchebkeaaGreat
namespace Go.FW
open Go
def Qem(a b:List Int):Bool:=(List.range a.length).all fun i=>decide (eN a i<=eN b i)
theorem Qpc{k:Nat}{a b:List Int}(hb:MB k b):Qem a b=true↔∀i,eN a i<=eN b i:=by
 unfold Qem
 rw[List.all_eq_true]
 constructor
 ·intro h i
  by_cases hi:i<a.length
  ·exact of_decide_eq_true (h i (List.mem_range.2 hi))
  ·rw[Qcz (by omega)];exact(hb.eN i).1
 ·intro h i _
  exact decide_eq_true (h i)
theorem Qvh{a b:List Int}{i:Nat}(hi:i<a.length)(h:¬eN a i<=eN b i):Qem a b=false:=by
 unfold Qem
 rw[List.all_eq_false]
 exact⟨i,List.mem_range.2 hi,by simpa using h⟩
theorem Qyc{a b:List Int}(h:∀i,i<a.length->eN a i<=eN b i):Qem a b=true:=by
 unfold Qem
 rw[List.all_eq_true]
 intro i hi
 exact decide_eq_true (h i (List.mem_range.1 hi))
def Qbv(a b:List Int):List Int:=Qdb (Qew (· - ·) a b)
theorem Qrt(a b:List Int)(i:Nat):eN (Qbv a b) i=eN a i-eN b i:=by rw[Qbv,Qi7,Qwi (by simp)]
theorem Qmq(a b:List Int):(Qbv a b).getLast? ≠some 0:=Qin _
theorem Qalf{k:Nat}{a b:List Int}{l:Nat}(ha:MB k a)(hb:MB l b)(h:Qem b a=true):MB k (Qbv a b):=by
 have hd:=(Qpc ha).1 h
 have hl:(Qbv a b).length<=64:=by
  have h1:=Qek (Qew (· - ·) a b)
  rw[Qbj]at h1
  have:=ha.len
  have:=hb.len
  unfold Qbv;omega
 have key:∀x∈Qbv a b,∃i,x=eN a i-eN b i:=fun x hx=>by
  obtain⟨i,hi,rfl⟩:=List.getElem_of_mem hx
  exact⟨i,by rw[<-Qrt,Qch hi]⟩
 refine⟨hl,fun x hx=> ?_,fun x hx=> ?_⟩
 all_goals
  obtain⟨i,rfl⟩:=key x hx
  have:=hd i
  have:=ha.eN i
  have:=hb.eN i
  omega
theorem Qho{k l:Nat}{a b:List Int}(ha:MB k a)(hb:MB l b)(hl:a.getLast? ≠some 0)(h:Qem b a=true):Qan (Qbv a b) b=a:=
 Qgp (Qgq _ _) hl fun i=>by rw[Qdq,Qrt];omega
theorem Qvi(x y:Int)(hy:y≠0):mkRat (zv (decide (x<0) !=decide (y<0)) (dig x.natAbs)) y.natAbs=(x:Rat)/(y:Rat):=by
 rw[Rat.mkRat_eq_div,Qim,<-Rat.intCast_natCast]
 have h3:(y:Rat)≠0:=by rw[Ne,Rat.intCast_eq_zero_iff];exact hy
 by_cases hy0:y<0
 ·have e2:(((y.natAbs:Nat):Int):Rat)= -(y:Rat):=by rw[<-Rat.intCast_neg];congr 1;omega
  have e1:(if(decide (x<0) !=decide (y<0))=true then -(x.natAbs:Int)else x.natAbs)= -x:=by
   by_cases hx:x<0<;>simp[hx,hy0]<;>omega
  rw[e1,e2,Rat.intCast_neg]
  grind
 ·have e2:(((y.natAbs:Nat):Int):Rat)=(y:Rat):=by congr 1;omega
  have e1:(if(decide (x<0) !=decide (y<0))=true then -(x.natAbs:Int)else x.natAbs)=x:=by
   by_cases hx:x<0<;>simp[hx,hy0]<;>omega
  rw[e1,e2]
theorem Qao9{n m:Bool}{a d b c:List Nat}(hd:val d≠0)(hc:val c≠0)(hb:zv m b≠0):((zv n a*(val c:Int):Int):Rat)/((zv m b*(val d:Int):Int):Rat)=rv n a d/rv m b c:=by
 have h1:((val d:Int):Rat)≠0:=by rw[Ne,Rat.intCast_eq_zero_iff];omega
 have h2:((val c:Int):Rat)≠0:=by rw[Ne,Rat.intCast_eq_zero_iff];omega
 have h3:((zv m b:Int):Rat)≠0:=by rw[Ne,Rat.intCast_eq_zero_iff];exact hb
 unfold rv
 rw[Rat.mkRat_eq_div,Rat.mkRat_eq_div,Rat.intCast_mul,Rat.intCast_mul]
 rw[<-Rat.intCast_natCast,<-Rat.intCast_natCast]
 grind
end Go.FW
namespace Go.FW
open Go
theorem Q1s(x y:Int)(hy:y≠0):rs ((x:Rat)/(y:Rat))<=max (nl x.natAbs) (max (nl y.natAbs) 1):=by
 rw[<-Qvi x y hy]
 have:=Qoo (zv (decide (x<0) !=decide (y<0)) (dig x.natAbs)) y.natAbs
 rwa[Qbe,Q9]at this
theorem Q9x(q:Rat)(h:q≠0):rs q⁻¹ <=rs q:=by
 have hn:q.num≠0:=fun e=>h (Rat.num_eq_zero.1 e)
 have e:q⁻¹ =(((q.den:Int):Int):Rat)/((q.num:Int):Rat):=by
  have d1:q=(q.num:Rat)/((q.den:Int):Rat):=by
   conv=>lhs;rw[<-Rat.mkRat_self q]
   rw[Rat.mkRat_eq_div,Rat.intCast_natCast]
  have k1:((q.den:Int):Rat)≠0:=by rw[Ne,Rat.intCast_eq_zero_iff];have:=q.den_nz;omega
  have k3:((q.num:Int):Rat)≠0:=by rw[Ne,Rat.intCast_eq_zero_iff];exact hn
  generalize(q.num:Rat)=A at *
  generalize((q.den:Int):Rat)=D at *
  rw[d1]
  grind
 have h2:=Q1s (q.den:Int) q.num hn
 have h3:=Q0k q
 rw[e]
 unfold rs at h3⊢
 unfold rs at h2
 rw[Int.natAbs_natCast]at h2
 have h4:1<=nl q.den:=by
  have:=q.den_nz
  apply Decidable.byContradiction;intro hc
  exact this (Qg2.1 (by omega))
 omega
end Go.FW
namespace Go.FW
open Go
def hdT(p:List Tm):Tm:=p.headD (0,[])
theorem Qh5{p:List Tm}(h:0<p.length):p[0]=hdT p:=by cases p with
 |nil=>simp at h
 |cons t p=>rfl
theorem Qas{p:List Tm}(h:p≠[]):hdT p∈p:=by cases p with
 |nil=>exact absurd rfl h
 |cons t p=>simp[hdT]
def exT(q p:List Tm):Tm:=((hdT p).1/(hdT q).1,Qbv (hdT p).2 (hdT q).2)
def exN(q p:List Tm):List Tm:=Qlu p (Qaf [exT q p] q)
def exP(q p:List Tm):Nat->List Tm
 |0=>p
 |k+1=>exN q (exP q p k)
def exQ(q p:List Tm):Nat->List Tm
 |0=>[]
 |k+1=>exQ q p k++[exT q (exP q p k)]
def Qen(q p:List Tm):Prop:=p≠[]/\Qem (hdT q).2 (hdT p).2=true
def exR(q p:List Tm)(k:Nat):PV:=if exP q p k=[]then .tup [PV.poly (exQ q p k),.bool true]else .tup [PV.poly [],.bool false]
theorem Qnw(q p:List Tm):∀k,(exQ q p k).length=k
 |0=>rfl
 |k+1=>by rw[exQ,List.length_append,Qnw q p k];rfl
theorem Qkx{p:List Tm}(hs:Qbf p):∀t∈p,t=hdT p∨Qaj t.2 (hdT p).2<0:=by
 cases p with
 |nil=>intro t ht;cases ht
 | cons x p=>
  intro t ht
  rcases List.mem_cons.1 ht with rfl|ht
  ·exact .inl rfl
  ·right
   have:=hs.1 t ht
   have e:=Qdk x.2 t.2
   show Qaj t.2 x.2<0
   omega
theorem Qwv{q p:List Tm}(np:Nrm p)(nq:Nrm q)(hp:p≠[])(hq:q≠[]):Nrm [exT q p]:=by
 refine Nrm.one ?_ (Qmq _ _)
 have h1:=np.z _ (Qas hp)
 have h2:=nq.z _ (Qas hq)
 show(hdT p).1/(hdT q).1≠0
 grind
theorem Qjp(t:Tm):Qbf [t]:=⟨by simp,trivial⟩
theorem Qnx{q p:List Tm}(np:Nrm p)(nq:Nrm q):Nrm (exN q p):=
 Q08 np (Qcq (Qjp _) nq.s)
theorem Qny{q p:List Tm}(np:Nrm p)(nq:Nrm q):∀k,Nrm (exP q p k)
 |0=>np
 |k+1=>Qnx (Qny np nq k) nq
theorem Qpu{t:Tm}{q:List Tm}(φ:List Int->Rat):pev φ (Qaf [t] q)=t.1*pev (fun m=>φ (Qan t.2 m)) q:=by
 rw[Qhm,Qap,Qcc,Rat.add_zero]
theorem Q1t{t x:Tm}{q:List Tm}(h:x∈Qaf [t] q):∃s∈q,x.2=Qan t.2 s.2:=by
 obtain⟨a,ha,b,hb,e⟩:=Qtq h
 obtain rfl:a=t:=by simpa using ha
 exact⟨b,hb,e⟩
theorem Qww{q p:List Tm}(np:Nrm p)(nq:Nrm q)(φ:List Int->Rat):pev φ (exN q p)=pev φ p-(exT q p).1*pev (fun m=>φ (Qan (exT q p).2 m)) q:=by
 rw[exN,Q07 φ np.c (Qcq (Qjp _) nq.s),Qpu]
theorem Q1u{q p:List Tm}{K E:Nat}(bp:PB K E p)(bq:PB K E q)(np:Nrm p)(nq:Nrm q)(hq:q≠[])(hg:Qen q p):∀t∈exN q p,Qaj t.2 (hdT p).2<0:=by
 intro t ht
 obtain⟨hp,hd⟩:=hg
 have hpm:=Qas hp
 have hqm:=Qas hq
 have hmul:Qan (exT q p).2 (hdT q).2=(hdT p).2:=Qho (bp _ hpm).m (bq _ hqm).m (bp _ hpm).l hd
 have nt:=Qwv np nq hp hq
 have hnN:Nrm (exN q p):=Qnx np nq
 have hle:t.2=(hdT p).2∨Qaj t.2 (hdT p).2<0:=by
  rcases Qad1 (Qcq nt.s nq.s).c ht with⟨s,hs,e⟩|⟨s,hs,e⟩
  ·rw[<-e]
   rcases Qkx np.s s hs with rfl|h
   ·exact .inl rfl
   ·exact .inr h
  ·obtain⟨b,hb,e2⟩:=Q1t hs
   rw[<-e,e2,<-hmul]
   rcases Qkx nq.s b hb with rfl|h
   ·exact .inl rfl
   ·right;rw[Qeb _ b.2,Qeb _ (hdT q).2,Qlt];exact h
 rcases hle with he|h
 ·exfalso
  have h1:=Qww np nq (fun m=>if m=t.2 then 1 else 0)
  have h2:=Qhn (φ:=fun m=>if m=t.2 then 1 else 0) hnN.s ht (fun s hs hne=>by
   rw[if_neg];intro e;exact hne (Qo7 hnN.s hs ht e))
  have h3:=Qhn (φ:=fun m=>if m=t.2 then 1 else 0) np.s hpm (fun s hs hne=>by
   rw[if_neg];intro e;exact hne (Qo7 np.s hs hpm (e.trans he)))
  have h4:=Qhn (φ:=fun m=>if Qan (exT q p).2 m=t.2 then 1 else 0) nq.s hqm (fun s hs hne=>by
   rw[if_neg];intro e
   rcases Qkx nq.s s hs with h|h
   ·exact hne h
   ·rw[he,<-hmul]at e
    have:=Qlt s.2 (hdT q).2 (exT q p).2
    rw[Qeb s.2,Qeb (hdT q).2,e,Qml]at this
    omega)
  rw[h2,h3,h4]at h1
  rw[if_pos rfl,if_pos he.symm,if_pos (hmul.trans he.symm)]at h1
  have h5:t.1=0:=by
   have e:(exT q p).1*(hdT q).1=(hdT p).1:=by
    have:=nq.z _ hqm
    show(hdT p).1/(hdT q).1*(hdT q).1=_
    grind
   grind
  exact hnN.z t ht h5
 ·exact h
theorem Qapa{q p:List Tm}{K E:Nat}(bp:PB K E p)(bq:PB K E q)(np:Nrm p)(nq:Nrm q)(hq:q≠[])(hg:Qen q p)(bn:PB K E (exN q p))(hg2:Qen q (exN q p)):Qaj (exT q (exN q p)).2 (exT q p).2<0:=by
 have h:=Q1u bp bq np nq hq hg _ (Qas hg2.1)
 have e1:=Qho (bp _ (Qas hg.1)).m (bq _ (Qas hq)).m (bp _ (Qas hg.1)).l hg.2
 have e2:=Qho (bn _ (Qas hg2.1)).m (bq _ (Qas hq)).m (bn _ (Qas hg2.1)).l hg2.2
 rw[<-e1,<-e2,Qlt]at h
 exact h
theorem Qqu:∀ {l:List Tm} {t:Tm},Qbf l->(∀s∈l,0<Qaj s.2 t.2)->Qbf (l++[t])
 | [],t,_,_=>⟨by simp,trivial⟩
 | x::l,t,h,ht=>⟨fun s hs=>by
   rcases List.mem_append.1 hs with hs|hs
   ·exact h.1 s hs
   ·obtain rfl:s=t:=by simpa using hs
    exact ht x (by simp),Qqu h.2 (fun s hs=>ht s (by simp[hs]))⟩
theorem Qru{q p:List Tm}{K E k0:Nat}(bq:PB K E q)(np:Nrm p)(nq:Nrm q)(hq:q≠[])(hb:∀k,k<=k0->PB K E (exP q p k))(hgo:∀k,k<k0->Qen q (exP q p k)):
  ∀k,k<=k0->Nrm (exQ q p k)/\∀j,k=j+1->∀s∈exQ q p k,s=exT q (exP q p j)∨0<Qaj s.2 (exT q (exP q p j)).2
 |0,_=>⟨Nrm.nil,fun j h=>by omega⟩
 | k +1,h=>by
  obtain⟨h1,h2⟩:=Qru bq np nq hq hb hgo k (by omega)
  have hlt:∀s∈exQ q p k,0<Qaj s.2 (exT q (exP q p k)).2:=by
   intro s hs
   cases k with
   |zero=>cases hs
   | succ k=>
    have h3:=Qapa (hb k (by omega)) bq (Qny np nq k) nq hq (hgo k (by omega)) (hb (k+1) (by omega)) (hgo (k+1) (by omega))
    have h3':Qaj (exT q (exP q p (k+1))).2 (exT q (exP q p k)).2<0:=h3
    rcases h2 k rfl s hs with rfl|h4
    ·have e:=Qdk (exT q (exP q p (k+1))).2 (exT q (exP q p k)).2
     omega
    ·have e:=Qdk s.2 (exT q (exP q p k)).2
     have e2:=Qdk (exT q (exP q p (k+1))).2 s.2
     have:=Qut h3' (b:=(exT q (exP q p k)).2) (c:=s.2) (by omega)
     omega
  have hn:=Qwv (Qny np nq k) nq (hgo k (by omega)).1 hq
  refine⟨⟨fun t ht=> ?_,fun t ht=> ?_,Qqu h1.s hlt⟩,fun j hj s hs=> ?_⟩
  ·rcases List.mem_append.1 ht with ht|ht
   ·exact h1.c t ht
   ·exact hn.c t ht
  ·rcases List.mem_append.1 ht with ht|ht
   ·exact h1.z t ht
   ·exact hn.z t ht
  ·obtain rfl:j=k:=by omega
   rcases List.mem_append.1 hs with hs|hs
   ·exact .inr (hlt s hs)
   ·exact .inl (by simpa using hs)
theorem Qafz{q p:List Tm}{k:Nat}(h:Nrm (exQ q p (k+1)))(h1:Nrm (exQ q p k))(h2:Nrm [exT q (exP q p k)]):Q5 (exQ q p k) [exT q (exP q p k)]=exQ q p (k+1):=
 Qh3 (Qhl h1 h2) h fun φ=>by rw[Qhk h1.c h2.c,exQ,Qo4]
theorem Q1v{q p:List Tm}{K E:Nat}(bp:PB K E p)(bq:PB K E q)(nq:Nrm q)(hq:q≠[])(hg:Qen q p):TB (K+K) E (exT q p):=by
 have h1:=bp _ (Qas hg.1)
 have h2:=bq _ (Qas hq)
 refine⟨?_,Qalf h1.m h2.m hg.2,Qmq _ _⟩
 have h3:=Qlr (hdT p).1 (hdT q).1⁻¹
 have h4:=Q9x (hdT q).1 (nq.z _ (Qas hq))
 have c1:=h1.c
 have c2:=h2.c
 show rs ((hdT p).1/(hdT q).1)+1<=K+K
 rw[Rat.div_def]
 omega
end Go.FW
namespace Go.FW
open Go
def Qbc(c:Rat):Rat:=if c<0 then -c else c
theorem Qb0(c:Rat):0<=Qbc c:=by unfold Qbc;grind
theorem Q1w(a b:Rat):Qbc (a+b)<=Qbc a+Qbc b:=by unfold Qbc;grind
theorem Qhp(a b:Rat):Qbc (a*b)=Qbc a*Qbc b:=by
 have pos:∀x:Rat,0<=x->Qbc x=x:=fun x h=>by unfold Qbc;grind
 have neg:∀x:Rat,x<=0->Qbc x= -x:=fun x h=>by unfold Qbc;grind
 rcases Decidable.em (0<=a)with ha|ha<;>rcases Decidable.em (0<=b)with hb|hb
 ·rw[pos _ (Rat.mul_nonneg ha hb),pos _ ha,pos _ hb]
 ·have h:=Rat.mul_nonneg ha (show 0<= -b by grind)
  rw[neg (a*b) (by grind),pos _ ha,neg b (by grind)];grind
 ·have h:=Rat.mul_nonneg (show 0<= -a by grind) hb
  rw[neg (a*b) (by grind),neg a (by grind),pos _ hb];grind
 ·have h:=Rat.mul_nonneg (show 0<= -a by grind) (show 0<= -b by grind)
  rw[pos (a*b) (by grind),neg a (by grind),neg b (by grind)];grind
theorem Qja(z:Int):Qbc (z:Rat)=((z.natAbs:Nat):Rat):=by
 rw[<-Rat.intCast_natCast]
 unfold Qbc
 split
 ·rename_i h
  have h':z<0:=by have:=(Rat.intCast_lt_intCast (a:=z) (b:=0)).1 (by simpa using h);exact this
  rw[<-Rat.intCast_neg];congr 1;omega
 ·rename_i h
  have h':¬z<0:=fun hz=>h (by have:=(Rat.intCast_lt_intCast (a:=z) (b:=0)).2 hz;simpa using this)
  congr 1;omega
def psi(m:List Int):Nat:=(eN m 3).toNat*729+(eN m 2).toNat*81+(eN m 1).toNat*9+(eN m 0).toNat
theorem Qnz{a b:List Int}(ha:∀i,0<=eN a i)(hb:∀i,0<=eN b i):psi (Qan a b)=psi a+psi b:=by
 have a0:=ha 0;have a1:=ha 1;have a2:=ha 2;have a3:=ha 3
 have b0:=hb 0;have b1:=hb 1;have b2:=hb 2;have b3:=hb 3
 simp only[psi,Qdq]
 omega
theorem Q4e:psi []=0:=rfl
theorem Qyd{a b:List Int}(h:Qaj a b=0):psi a=psi b:=by
 have key:∀i,eN a i=eN b i:=fun i=>by
  by_cases hi:i<max a.length b.length
  ·exact(Qj4 a b _).1 h i hi
  ·rw[Qcz (by omega),Qcz (by omega)]
 simp only[psi,key]
theorem cmp4{a b:List Int}(ha:a.length<=4)(hb:b.length<=4):Qaj a b=Qcl a b 4:=(Qi8 (by omega)).symm
theorem Q4f{a b:List Int}(ha:a.length<=4)(hb:b.length<=4)(h:Qaj a b<0):
  eN a 3<eN b 3∨(eN a 3=eN b 3/\(eN a 2<eN b 2∨(eN a 2=eN b 2/\(eN a 1<eN b 1∨(eN a 1=eN b 1/\eN a 0<eN b 0))))):=by
 rw[cmp4 ha hb]at h
 simp only[Qcl]at h
 have z3:=Qk4 (x:=eN a 3) (y:=eN b 3)
 have z2:=Qk4 (x:=eN a 2) (y:=eN b 2)
 have z1:=Qk4 (x:=eN a 1) (y:=eN b 1)
 have z0:=Qk4 (x:=eN a 0) (y:=eN b 0)
 by_cases e3:eN a 3=eN b 3
 ·rw[if_pos e3]at h
  refine .inr ⟨e3,?_⟩
  by_cases e2:eN a 2=eN b 2
  ·rw[if_pos e2]at h
   refine .inr ⟨e2,?_⟩
   by_cases e1:eN a 1=eN b 1
   ·rw[if_pos e1]at h
    refine .inr ⟨e1,?_⟩
    by_cases e0:eN a 0=eN b 0
    ·rw[if_pos e0]at h;omega
    ·rw[if_neg e0]at h;exact z0.1 h
   ·rw[if_neg e1]at h;exact .inl (z1.1 h)
  ·rw[if_neg e2]at h;exact .inl (z2.1 h)
 ·rw[if_neg e3]at h;exact .inl (z3.1 h)
theorem Qapb{a b:List Int}(ha:MB 8 a)(hb:MB 8 b)(la:a.length<=4)(lb:b.length<=4)(h:Qaj a b<0):psi a<psi b:=by
 have a0:=ha.eN 0;have a1:=ha.eN 1;have a2:=ha.eN 2;have a3:=ha.eN 3
 have b0:=hb.eN 0;have b1:=hb.eN 1;have b2:=hb.eN 2;have b3:=hb.eN 3
 have:=Q4f la lb h
 simp only[psi]
 omega
def nW(W:Rat):List Tm->Rat
 | []=>0
 |t::p=>Qbc t.1*W^psi t.2+nW W p
theorem Qhq(W:Rat)(m:Nat):∀n:Nat,W^(m+n)=W^m*W^n
 |0=>by rw[Nat.add_zero,Rat.pow_zero,Rat.mul_one]
 |n+1=>by rw[<-Nat.add_assoc,Rat.pow_succ,Qhq W m n,Rat.pow_succ,Rat.mul_assoc]
theorem Qe9{W:Rat}(h:0<=W):∀n:Nat,0<=W^n
 |0=>by rw[Rat.pow_zero];decide
 |n+1=>by rw[Rat.pow_succ];exact Rat.mul_nonneg (Qe9 h n) h
theorem Qpd{W:Rat}(h:1<=W):∀n:Nat,1<=W^n
 |0=>by rw[Rat.pow_zero];decide
 |n+1=>by
  rw[Rat.pow_succ]
  have h1:=Qpd h n
  have:=Rat.mul_le_mul_of_nonneg_right h1 (show(0:Rat)<=W by grind)
  grind
theorem Q1x{W:Rat}(h:1<=W){m n:Nat}(hm:m<=n):W^m<=W^n:=by
 obtain⟨k,rfl⟩:∃k,n=m+k:=⟨n-m,by omega⟩
 rw[Qhq]
 have h1:=Qpd h k
 have h2:=Qe9 (show(0:Rat)<=W by grind) m
 have:=Rat.mul_le_mul_of_nonneg_left h1 h2
 grind
theorem Qgb{W:Rat}(h:0<=W)(c:Rat)(m:List Int):0<=Qbc c*W^psi m:=Rat.mul_nonneg (Qb0 c) (Qe9 h _)
theorem Qye{W:Rat}(h:0<=W):∀p,0<=nW W p
 | []=>by simp only[nW];decide
 |t::p=>by
  have h1:=Qgb h t.1 t.2
  have h2:=Qye h p
  simp only[nW];grind
theorem Qalg{W:Rat}(h:0<=W)(p q:List Tm):nW W (Q5 p q)<=nW W p+nW W q:=by
 induction p,q using Q5.induct with
 |case1 q=>rw[Qdv];simp only[nW];grind
 |case2 p hp=>rw[Qcd];simp only[nW];grind
 |case3 c m p d l q h1 ih=>rw[Q5,if_pos h1];simp only[nW]at ih ⊢;grind
 |case4 c m p d l q h1 h2 ih=>rw[Q5,if_neg h1,if_pos h2];simp only[nW]at ih ⊢;grind
 |case5 c m p d l q h1 h2 h3 ih=>
  rw[Q5,if_neg h1,if_neg h2,if_pos h3]
  have g1:=Qgb h c m
  have g2:=Qgb h d l
  simp only[nW]at ih ⊢;grind
 |case6 c m p d l q h1 h2 h3 ih=>
  rw[Q5,if_neg h1,if_neg h2,if_neg h3]
  have e:psi m=psi l:=Qyd (by omega)
  have g:=Rat.mul_le_mul_of_nonneg_right (Q1w c d) (Qe9 h (psi m))
  simp only[nW]at ih⊢
  rw[<-e]
  grind
def Pos(p:List Tm):Prop:=∀t∈p,∀i,0<=eN t.2 i
theorem Qqv{W:Rat}(h:0<=W){t:Tm}(ht:∀i,0<=eN t.2 i):∀ {p:List Tm},Pos p->nW W (Q6 p t)<=Qbc t.1*W^psi t.2*nW W p
 | [],_=>by simp only[Q6,List.filterMap_nil,nW];grind
 | x::p,hp=>by
  have ih:=Qqv h ht (p:=p) (fun s hs=>hp s (by simp[hs]))
  have hx:=hp x (by simp)
  have e1:nW W (Q6 (x::p) t)<=Qbc (x.1*t.1)*W^psi (Qan x.2 t.2)+nW W (Q6 p t):=by
   have g:=Qgb h (x.1*t.1) (Qan x.2 t.2)
   unfold Q6
   rw[List.filterMap_cons]
   by_cases hz:x.1*t.1=0
   ·rw[if_pos hz];grind
   ·rw[if_neg hz];simp only[nW];grind
  rw[Qnz hx ht,Qhp,Qhq]at e1
  simp only[nW]
  grind
def IsI(c:Rat):Prop:=∃z:Int,c=(z:Rat)
theorem IsI.add{a b:Rat}:IsI a->IsI b->IsI (a+b):=fun⟨x,hx⟩ ⟨y,hy⟩=>⟨x+y,by rw[hx,hy,Rat.intCast_add]⟩
theorem IsI.mul{a b:Rat}:IsI a->IsI b->IsI (a*b):=fun⟨x,hx⟩ ⟨y,hy⟩=>⟨x*y,by rw[hx,hy,Rat.intCast_mul]⟩
theorem IsI.neg{a:Rat}:IsI a->IsI (-a):=fun⟨x,hx⟩=>⟨-x,by rw[hx,Rat.intCast_neg]⟩
theorem IsI.nat(n:Nat):IsI (n:Rat):=⟨n,(Rat.intCast_natCast n).symm⟩
theorem IsI.pow{a:Rat}(h:IsI a):∀n:Nat,IsI (a^n)
 |0=>⟨1,by rw[Rat.pow_zero];rfl⟩
 |n+1=>by rw[Rat.pow_succ];exact(IsI.pow h n).mul h
def IW(D F:Rat)(N:Nat)(p:List Tm):Prop:=∀t∈p,psi t.2<=N/\IsI (t.1*(D*F^(N-psi t.2)))
theorem IW.cons{D F:Rat}{N:Nat}{t:Tm}{p:List Tm}:IW D F N (t::p)↔(psi t.2<=N/\IsI (t.1*(D*F^(N-psi t.2))))/\IW D F N p:=by simp[IW]
theorem Qalh{D F:Rat}{N:Nat}(p q:List Tm):IW D F N p->IW D F N q->IW D F N (Q5 p q):=by
 induction p,q using Q5.induct with
 |case1 q=>intro _ h;rwa[Qdv]
 |case2 p hp=>intro h _;rwa[Qcd]
 |case3 c m p d l q h1 ih=>intro hp hq;rw[Q5,if_pos h1,IW.cons];rw[IW.cons]at hp;exact⟨hp.1,ih hp.2 hq⟩
 |case4 c m p d l q h1 h2 ih=>intro hp hq;rw[Q5,if_neg h1,if_pos h2,IW.cons];have hq':=IW.cons.1 hq;exact⟨hq'.1,ih hp hq'.2⟩
 |case5 c m p d l q h1 h2 h3 ih=>intro hp hq;rw[Q5,if_neg h1,if_neg h2,if_pos h3];exact ih (IW.cons.1 hp).2 (IW.cons.1 hq).2
 |case6 c m p d l q h1 h2 h3 ih=>
  intro hp hq
  rw[Q5,if_neg h1,if_neg h2,if_neg h3,IW.cons]
  have e:psi m=psi l:=Qyd (by omega)
  obtain⟨⟨a1,a2⟩,a3⟩:=IW.cons.1 hp
  obtain⟨⟨b1,b2⟩,b3⟩:=IW.cons.1 hq
  refine⟨⟨a1,?_⟩,ih a3 b3⟩
  simp only at a2 b2⊢
  rw[<-e]at b2
  rw[Rat.add_mul]
  exact a2.add b2
theorem Qyf{D F:Rat}{N:Nat}{t:Tm}{p:List Tm}(h:∀s∈p,psi (Qan s.2 t.2)<=N/\IsI (s.1*t.1*(D*F^(N-psi (Qan s.2 t.2))))):IW D F N (Q6 p t):=by
 intro x hx
 simp only[Q6,List.mem_filterMap]at hx
 obtain⟨s,hs,e⟩:=hx
 split at e
 ·cases e
 ·obtain rfl:(s.1*t.1,Qan s.2 t.2)=x:=by simpa using e
  exact h s hs
theorem Qwx(t:Tm)(q:List Tm):Qaf [t] q=Q6 q t:=by
 unfold Qaf
 split
 ·rename_i h
  have:q=[]:=by simpa using h
  subst this
  simp[Qgg,Qba,Q6]
 ·simp[Qgg,Qba]
theorem Q6l(p:List Tm):Qm1 p=Q6 p (-1,[]):=by rw[Qm1,Qag,if_neg (by decide)]
theorem Qaf0{x y:Tm}{p q:List Tm}{K E:Nat}(bp:PB K E (x::p))(bq:PB K E (y::q))(np:Nrm (x::p))(nq:Nrm (y::q))(hd:Qem y.2 x.2=true):
  exN (y::q) (x::p)=Qlu p (Qaf [(x.1/y.1,Qbv x.2 y.2)] q):=by
 have hy:=nq.z y (by simp)
 have hm:Qan (Qbv x.2 y.2) y.2=x.2:=Qho (bp x (by simp)).m (bq y (by simp)).m (bp x (by simp)).l hd
 have nT:Nrm (Qaf [(x.1/y.1,Qbv x.2 y.2)] q):=Qcq (Qjp _) nq.tail.s
 refine Qh3 (Qnx np nq) (Q08 np.tail nT) fun φ=> ?_
 rw[Qww np nq,Q07 φ np.tail.c nT,Qpu]
 show pev φ (x::p)-x.1/y.1*pev (fun m=>φ (Qan (Qbv x.2 y.2) m)) (y::q)=pev φ p-x.1/y.1*pev (fun m=>φ (Qan (Qbv x.2 y.2) m)) q
 rw[Qap,Qap,hm]
 generalize φ x.2=a
 generalize pev φ p=b
 generalize pev (fun m=>φ (Qan (Qbv x.2 y.2) m)) q=c
 grind
structure QOk(F W:Rat)(y:Tm)(q:List Tm):Prop where
 w:1<=W
 f:IsI F
 lt:∀s∈q,psi s.2<psi y.2
 i:∀s∈q,IsI (s.1/y.1*F)
 n:nW W q<=Qbc y.1*W^psi y.2
 pos:Pos (y::q)
 ml:ML 4 (y::q)
theorem Q1y{k l:Nat}{a b:List Int}(ha:MB k a)(hb:MB l b)(h:Qem b a=true):∀i,0<=eN (Qbv a b) i:=fun i=>by
 rw[Qrt];have:=(Qpc ha).1 h i;omega
theorem Qapc{D F W:Rat}{N:Nat}{x y:Tm}{p q:List Tm}{K E:Nat}(hQ:QOk F W y q)(bp:PB K E (x::p))(bq:PB K E (y::q))(np:Nrm (x::p))(nq:Nrm (y::q))(hd:Qem y.2 x.2=true)
  (hI:IW D F N (x::p)) (hP:Pos (x::p)) (hM:ML 4 (x::p)):
  IW D F N (exN (y::q) (x::p))/\nW W (exN (y::q) (x::p))<=nW W (x::p)/\Pos (exN (y::q) (x::p))/\ML 4 (exN (y::q) (x::p)):=by
 have hW0:0<=W:=by have:=hQ.w;grind
 have hy0:=nq.z y (by simp)
 have hxm:=(bp x (by simp)).m
 have hym:=(bq y (by simp)).m
 have hm:Qan (Qbv x.2 y.2) y.2=x.2:=Qho hxm hym (bp x (by simp)).l hd
 have htp:=Q1y hxm hym hd
 have hpsi:psi x.2=psi (Qbv x.2 y.2)+psi y.2:=by
  conv=>lhs;rw[<-hm]
  exact Qnz htp (hQ.pos y (by simp))
 have hql:(Qbv x.2 y.2).length<=4:=by
  have h1:=Qek (Qew (· - ·) x.2 y.2)
  rw[Qbj]at h1
  have:=hM x (by simp)
  have:=hQ.ml y (by simp)
  unfold Qbv;omega
 have hqP:Pos q:=fun s hs=>hQ.pos s (by simp[hs])
 obtain⟨⟨i1,i2⟩,i3⟩:=IW.cons.1 hI
 have hn1:∀i,0<=eN ((-1:Rat),([]:List Int)).2 i:=fun i=>by rw[Qqf];omega
 have posT:Pos (Q6 q (x.1/y.1,Qbv x.2 y.2)):=fun t ht i=>by
  obtain⟨s,hs,e⟩:=Qg6 ht
  rw[e,Qdq]
  have:=hqP s hs i
  have:=htp i
  simp only;omega
 rw[Qaf0 bp bq np nq hd,Qlu,Qwx,Q6l]
 refine⟨?_,?_,?_,?_⟩
 ·refine Qalh _ _ i3 (Qyf fun u hu=> ?_)
  obtain⟨a1,a2⟩:=(Qyf (D:=D) (F:=F) (N:=N) (t:=(x.1/y.1,Qbv x.2 y.2)) (p:=q) fun s hs=>by
   have hlt:=hQ.lt s hs
   have e:=Qnz (hqP s hs) htp
   refine⟨by simp only;omega,?_⟩
   simp only
   rw[e,show N-(psi s.2+psi (Qbv x.2 y.2))=(N-psi x.2)+(1+(psi y.2-psi s.2-1))by omega,Qhq,Qhq,show F^1=F by rw[Rat.pow_succ,Rat.pow_zero,Rat.one_mul]]
   have:=(i2.mul (hQ.i s hs)).mul (hQ.f.pow (psi y.2-psi s.2-1))
   have e2:s.1*(x.1/y.1)*(D*(F^(N-psi x.2)*(F*F^(psi y.2-psi s.2-1))))=x.1*(D*F^(N-psi x.2))*(s.1/y.1*F)*F^(psi y.2-psi s.2-1):=by
    generalize F^(N-psi x.2)=A
    generalize F^(psi y.2-psi s.2-1)=B
    grind
   rw[e2];exact this) u hu
  have e:=Qnz (posT u hu) hn1
  rw[Q4e,Nat.add_zero]at e
  rw[e]
  refine⟨a1,?_⟩
  have:=a2.neg
  have e2:u.1* -1*(D*F^(N-psi u.2))= -(u.1*(D*F^(N-psi u.2))):=by grind
  rw[e2];exact this
 ·have h1:=Qalg hW0 p (Q6 (Q6 q (x.1/y.1,Qbv x.2 y.2)) (-1,[]))
  have h2:=Qqv hW0 (t:=(-1,[])) hn1 posT
  have h3:=Qqv hW0 (t:=(x.1/y.1,Qbv x.2 y.2)) htp hqP
  have h4:Qbc (-1)*W^psi ([]:List Int)=1:=by rw[Q4e,Rat.pow_zero];decide+kernel
  simp only at h2 h3
  rw[h4,Rat.one_mul]at h2
  have h5:=Rat.mul_le_mul_of_nonneg_left hQ.n (Rat.mul_nonneg (Qb0 (x.1/y.1)) (Qe9 hW0 (psi (Qbv x.2 y.2))))
  have h6:Qbc (x.1/y.1)*W^psi (Qbv x.2 y.2)*(Qbc y.1*W^psi y.2)=Qbc x.1*W^psi x.2:=by
   rw[hpsi,Qhq]
   have:Qbc x.1=Qbc (x.1/y.1)*Qbc y.1:=by rw[<-Qhp];congr 1;grind
   rw[this]
   grind
  rw[h6]at h5
  simp only[nW]
  grind
 ·intro t ht i
  rcases Qgr ht with h|⟨s,hs,e⟩
  ·obtain⟨s,hs,e⟩:=h
   rw[<-e];exact hP s (by simp[hs]) i
  ·obtain⟨u,hu,e2⟩:=Qg6 hs
   rw[<-e,e2,Qdq,Qqf]
   have:=posT u hu i
   omega
 ·intro t ht
  rcases Qgr ht with h|⟨s,hs,e⟩
  ·obtain⟨s,hs,e⟩:=h
   rw[<-e];exact hM s (by simp[hs])
  ·obtain⟨u,hu,e2⟩:=Qg6 hs
   obtain⟨r,hr,e3⟩:=Qg6 hu
   rw[<-e,e2]
   have l1:=Qtp u.2 ((-1:Rat),([]:List Int)).2
   have l2:=Qtp r.2 (x.1/y.1,Qbv x.2 y.2).2
   rw[e3]at l1⊢
   have:=hQ.ml r (by simp[hr])
   simp only[List.length_nil]at l1 l2⊢
   omega
end Go.FW
namespace Go.FW
open Go
def c4(m:List Int):Nat:=(((eN m 3).toNat*81+(eN m 2).toNat)*729+(eN m 1).toNat)*6561+(eN m 0).toNat
theorem Qagp{a b:List Int}(ha:∀i,0<=eN a i)(hb:∀i,0<=eN b i)(la:a.length<=4)(lb:b.length<=4)(pa:psi a<=6560)(pb:psi b<=6560)(h:Qaj a b<0):c4 a<c4 b:=by
 have a0:=ha 0;have a1:=ha 1;have a2:=ha 2;have a3:=ha 3
 have b0:=hb 0;have b1:=hb 1;have b2:=hb 2;have b3:=hb 3
 have:=Q4f la lb h
 simp only[psi]at pa pb
 simp only[c4,Zo,Zg,Zm,Zc,Zf,Zl,Zh,Zs,Zi,Zb,Zk,Zn,Zu,Zq,Zr,Zz]
 omega
theorem Qagq{a:List Int}(pa:psi a<=6560):c4 a<2^32:=by
 simp only[psi]at pa
 simp only[c4,Zo,Zg,Zm,Zc,Zf,Zl,Zh,Zs,Zi,Zb,Zk,Zn,Zu,Zq,Zr,Zz]
 omega
structure ExI(D F W N0:Rat)(p:List Tm):Prop where
 i:IW D F 6560 p
 n:nW W p<=N0
 pos:Pos p
 ml:ML 4 p
 nrm:Nrm p
theorem Q6m{p:List Tm}:(∀t∈p,psi t.2<=6560)->Pos p->ML 4 p->Qbf p->p≠[]->p.length<=c4 (hdT p).2+1:=by
 induction p with
 |nil=>intro _ _ _ _ h;exact absurd rfl h
 | cons t p ih=>
  intro hp hP hM hs _
  cases p with
  |nil=>simp
  |cons s p=>
   have h1:=ih (fun x hx=>hp x (by simp[hx])) (fun x hx=>hP x (by simp[hx])) (fun x hx=>hM x (by simp[hx])) hs.2 (by simp)
   have h2:=hs.1 s (by simp)
   have h3:=Qdk t.2 s.2
   have h4:=Qagp (hP s (by simp)) (hP t (by simp)) (hM s (by simp)) (hM t (by simp)) (hp s (by simp)) (hp t (by simp)) (by omega)
   simp only[hdT,List.headD_cons,List.length_cons]at h1⊢
   omega
theorem ExI.len{D F W N0:Rat}{p:List Tm}(h:ExI D F W N0 p):p.length<=2^32:=by
 by_cases h0:p=[]
 ·subst h0;simp
 ·have h1:=Q6m (fun t ht=>(h.i t ht).1) h.pos h.ml h.nrm.s h0
  have:=Qagq (h.i _ (Qas h0)).1
  omega
theorem Q1z{W:Rat}(h:1<=W):∀ {p:List Tm} {t:Tm},t∈p->Qbc t.1<=nW W p
 | s::p,t,ht=>by
  have h0:(0:Rat)<=W:=by grind
  have h1:=Qye h0 p
  have h2:=Qgb h0 s.1 s.2
  simp only[nW]
  rcases List.mem_cons.1 ht with rfl|ht
  ·have h3:=Rat.mul_le_mul_of_nonneg_left (Qpd h (psi t.2)) (Qb0 t.1)
   grind
  ·have:=Q1z h ht
   grind
theorem Qvj(x:Nat):∀n:Nat,nl (x^n)<=n*nl x+1
 |0=>by rw[Nat.pow_zero,Qe4];omega
 |n+1=>by
  rw[Nat.pow_succ,Nat.succ_mul]
  have:=Qb6 (x^n) x
  have:=Qvj x n
  omega
theorem ExI.PB{d f w n0 L:Nat}{p:List Tm}(h:ExI d f w n0 p)(hd:0<d)(hf:0<f)(hw:0<w)(hn0:0<n0)(hL:nl (n0*(d*f^6560))<L):PB L 6560 p:=by
 intro t ht
 obtain⟨h1,z,hz⟩:=h.i t ht
 have hw1:(1:Rat)<=(w:Rat):=by
  rw[<-Rat.intCast_natCast,show(1:Rat)=((1:Int):Rat)from rfl,Rat.intCast_le_intCast];omega
 have hN:Qbc t.1<=(n0:Rat):=by have:=Q1z hw1 ht;have:=h.n;grind
 have hX:(d:Rat)*(f:Rat)^(6560-psi t.2)=((d*f^(6560-psi t.2):Nat):Rat):=by
  rw[Rat.natCast_mul,Rat.natCast_pow]
 have hkey:∀N k:Nat,k<=N->d*f^k<=d*f^N:=fun N k h=>Nat.mul_le_mul_left _ (Nat.pow_le_pow_right hf h)
 have hXl:=hkey 6560 (6560-psi t.2) (Nat.sub_le _ _)
 have hX0:0<d*f^(6560-psi t.2):=Nat.mul_pos hd (Nat.pow_pos hf)
 rw[hX]at hz
 generalize d*f^(6560-psi t.2)=X at *
 generalize d*f^6560=Y at *
 have hXr:((X:Int):Rat)≠0:=by rw[Ne,Rat.intCast_eq_zero_iff];omega
 have e:t.1=(z:Rat)/((X:Int):Rat):=by rw[<-hz,Rat.intCast_natCast];rw[Rat.intCast_natCast]at hXr;grind
 have hzl:z.natAbs<=n0*Y:=by
  have h2:Qbc (z:Rat)=Qbc t.1*(X:Rat):=by
   rw[<-hz,Qhp];congr 1
   rw[<-Rat.intCast_natCast,Qja,Int.natAbs_natCast,Rat.intCast_natCast]
  rw[Qja]at h2
  have h3:(0:Rat)<=(X:Rat):=by rw[<-Rat.intCast_natCast,show(0:Rat)=((0:Int):Rat)from rfl,Rat.intCast_le_intCast];omega
  have h4:=Rat.mul_le_mul_of_nonneg_right hN h3
  rw[<-h2,<-Rat.natCast_mul,<-Rat.intCast_natCast,<-Rat.intCast_natCast,Rat.intCast_le_intCast]at h4
  have h5:=Nat.mul_le_mul_left n0 hXl
  omega
 have hr:=Q1s z (X:Int) (by omega)
 rw[<-e,Int.natAbs_natCast]at hr
 have g1:=Qbn hzl
 have g2:nl X<=nl (n0*Y):=by
  exact Qbn (Nat.le_trans hXl (Nat.le_mul_of_pos_left _ hn0))
 have g3:1<=nl X:=by
  apply Decidable.byContradiction;intro hc
  have:=Qg2.1 (show nl X=0 by omega)
  omega
 refine⟨by omega,⟨by have:=h.ml t ht;omega,fun x hx=> ?_,fun x hx=> ?_⟩,h.nrm.c t ht⟩
 all_goals
  obtain⟨i,hi,rfl⟩:=List.getElem_of_mem hx
  have hp:=h.pos t ht i
  rw[Qch hi]at hp
 ·exact hp
 ·have hl:=h.ml t ht
  simp only[psi]at h1
  rw[<-Qch hi]
  rw[<-Qch hi]at hp
  have:i=0∨i=1∨i=2∨i=3:=by omega
  rcases this with rfl|rfl|rfl|rfl<;>omega
theorem ExI.step{D F W N0:Rat}{p q:List Tm}{y:Tm}{K E K' E':Nat}(h:ExI D F W N0 p)(hQ:QOk F W y q)(bp:FW.PB K E p)(bq:FW.PB K' E' (y::q))(nq:Nrm (y::q))(hg:Qen (y::q) p):ExI D F W N0 (exN (y::q) p):=by
 cases p with
 |nil=>exact absurd rfl hg.1
 |cons x p=>
  obtain⟨h1,h2,h3,h4⟩:=Qapc (K:=max K K') (E:=max E E') hQ (bp.mono (by omega) (by omega)) (bq.mono (by omega) (by omega)) h.nrm nq hg.2 h.i h.pos h.ml
  exact⟨h1,by have:=h.n;grind,h3,h4,Qnx h.nrm nq⟩
def Qhr(p:List Tm):Nat:=(p.map fun t=>t.1.den).foldr (· * ·) 1
def Qdz(p:List Tm):Nat:=(p.map fun t=>t.1.num.natAbs).foldr (· + ·) 0
theorem Qtu(p:List Tm):0<Qhr p:=by
 induction p with
 |nil=>simp[Qhr]
 |cons t p ih=>exact Nat.mul_pos (Nat.pos_of_ne_zero t.1.den_nz) ih
theorem Qpe:∀ {p:List Tm} {t:Tm},t∈p->t.1.den∣Qhr p
 |s::p,t,ht=>by
  rcases List.mem_cons.1 ht with rfl|ht
  ·exact Nat.dvd_mul_right _ _
  ·exact Nat.dvd_trans (Qpe ht) (Nat.dvd_mul_left _ _)
theorem Q4g{p:List Tm}{K E:Nat}(hp:FW.PB K E p):nl (Qhr p)<=p.length*K+1:=by
 induction p with
 |nil=>simp[Qhr,Qe4]
 |cons t p ih=>
  have h1:=ih (PB.cons.1 hp).2
  have h2:=(PB.cons.1 hp).1.c
  have h3:=Qb6 t.1.den (Qhr p)
  unfold rs at h2
  rw[List.length_cons,Nat.succ_mul]
  have e:Qhr (t::p)=t.1.den*Qhr p:=rfl
  rw[e];omega
theorem Q4h{p:List Tm}{K E:Nat}(hp:FW.PB K E p):nl (Qdz p)<=p.length+K:=by
 induction p with
 |nil=>simp[Qdz,Qre]
 |cons t p ih=>
  have h1:=ih (PB.cons.1 hp).2
  have h2:=(PB.cons.1 hp).1.c
  have h3:=Qnk t.1.num.natAbs (Qdz p)
  unfold rs at h2
  have e:Qdz (t::p)=t.1.num.natAbs+Qdz p:=rfl
  rw[e,List.length_cons];omega
theorem Qwy{c:Rat}{L:Nat}(h:c.den∣L):IsI (c*(L:Rat)):=by
 obtain⟨k,rfl⟩:=h
 refine⟨c.num*(k:Int),?_⟩
 have hd0:=c.den_nz
 have d1:c=(c.num:Rat)/((c.den:Int):Rat):=by
  conv=>lhs;rw[<-Rat.mkRat_self c]
  rw[Rat.mkRat_eq_div,Rat.intCast_natCast]
 have k1:((c.den:Int):Rat)≠0:=by rw[Ne,Rat.intCast_eq_zero_iff];omega
 rw[Rat.natCast_mul,Rat.intCast_mul,Rat.intCast_natCast,<-Rat.intCast_natCast c.den]
 generalize((c.den:Int):Rat)=D at *
 generalize(c.num:Rat)=N at *
 rw[d1]
 grind
theorem Ql0(c:Rat):Qbc c*(c.den:Rat)=((c.num.natAbs:Nat):Rat):=by
 have d1:c*(c.den:Rat)=(c.num:Rat):=by
  have e:c=(c.num:Rat)/((c.den:Int):Rat):=by
   conv=>lhs;rw[<-Rat.mkRat_self c]
   rw[Rat.mkRat_eq_div,Rat.intCast_natCast]
  have k1:((c.den:Int):Rat)≠0:=by rw[Ne,Rat.intCast_eq_zero_iff];have:=c.den_nz;omega
  rw[<-Rat.intCast_natCast]
  generalize((c.den:Int):Rat)=D at *
  generalize(c.num:Rat)=N at *
  rw[e];grind
 rw[<-Qja,<-d1,Qhp]
 congr 1
 rw[<-Rat.intCast_natCast,Qja,Int.natAbs_natCast,Rat.intCast_natCast]
theorem Qcx{a b:Nat}(h:a<=b):(a:Rat)<=(b:Rat):=by
 rw[<-Rat.intCast_natCast,<-Rat.intCast_natCast,Rat.intCast_le_intCast];omega
theorem Qsw(c:Rat):Qbc c<=((c.num.natAbs:Nat):Rat):=by
 have h:=Ql0 c
 have h1:(1:Rat)<=(c.den:Rat):=Qcx (a:=1) (Nat.pos_of_ne_zero c.den_nz)
 have:=Rat.mul_le_mul_of_nonneg_left h1 (Qb0 c)
 grind
theorem Qagr{w:Nat}(hw:0<w){N:Nat}:∀ {p:List Tm},(∀t∈p,psi t.2<=N)->nW w p<=((Qdz p*w^N:Nat):Rat)
 | [],_=>by
  have e:Qdz []=0:=rfl
  rw[e,Nat.zero_mul];exact Rat.le_refl
 |t::p,h=>by
  have hw1:(1:Rat)<=(w:Rat):=Qcx (a:=1) hw
  have h1:=Qagr hw (p:=p) (fun s hs=>h s (by simp[hs]))
  have h2:=Q1x hw1 (h t (by simp))
  have h3:=Rat.mul_le_mul_of_nonneg_left h2 (Qb0 t.1)
  have h4:=Rat.mul_le_mul_of_nonneg_right (Qsw t.1) (Qe9 (show(0:Rat)<=(w:Rat)by grind) N)
  have e:Qdz (t::p)=t.1.num.natAbs+Qdz p:=rfl
  rw[e,Nat.add_mul,Rat.natCast_add,Rat.natCast_mul,Rat.natCast_pow]
  simp only[nW]
  grind
def exW(y:Tm)(q:List Tm):Nat:=Qdz q*y.1.den+1
def Qqw(y:Tm)(q:List Tm):Nat:=Qhr q*y.1.num.natAbs
theorem qok{y:Tm}{q:List Tm}{K:Nat}(bq:FW.PB K 8 (y::q))(nq:Nrm (y::q))(hm:ML 4 (y::q)):QOk (Qqw y q:Nat) (exW y q:Nat) y q:=by
 have hy0:=nq.z y (by simp)
 have hw1:(1:Rat)<=((exW y q:Nat):Rat):=Qcx (a:=1) (by unfold exW;omega)
 have hlt:∀s∈q,psi s.2<psi y.2:=fun s hs=>by
  have h1:=nq.s.1 s hs
  have h2:=Qdk y.2 s.2
  exact Qapb (bq s (by simp[hs])).m (bq y (by simp)).m (hm s (by simp[hs])) (hm y (by simp)) (by omega)
 refine⟨hw1,IsI.nat _,hlt,fun s hs=> ?_,?_,fun t ht i=>((bq t ht).m.eN i).1,hm⟩
 ·have h1:=Qwy (Qpe hs)
  have h2:IsI (((y.1.num.natAbs:Nat):Rat)/y.1):=by
   have h3:=Ql0 y.1
   have h4:((y.1.num.natAbs:Nat):Rat)/y.1=(y.1.den:Rat)∨((y.1.num.natAbs:Nat):Rat)/y.1= -(y.1.den:Rat):=by
    rw[<-h3];unfold Qbc;grind
   rcases h4 with h4|h4<;>rw[h4]
   ·exact IsI.nat _
   ·exact(IsI.nat _).neg
  have h5:=h1.mul h2
  have e:s.1/y.1*((Qqw y q:Nat):Rat)=s.1*(Qhr q:Rat)*(((y.1.num.natAbs:Nat):Rat)/y.1):=by
   unfold Qqw;rw[Rat.natCast_mul];grind
  rw[e];exact h5
 ·cases q with
  |nil=>
   have:=Qgb (W:=((exW y []:Nat):Rat)) (by grind) y.1 y.2
   simp only[nW];exact this
  | cons s q=>
   have hp0:0<psi y.2:=by have:=hlt s (by simp);omega
   obtain⟨n,hn⟩:∃n,psi y.2=n+1:=⟨psi y.2-1,by omega⟩
   have h1:=Qagr (w:=exW y (s::q)) (by unfold exW;omega) (N:=n) (p:=s::q) (fun t ht=>by have:=hlt t ht;omega)
   rw[Rat.natCast_mul,Rat.natCast_pow]at h1
   have h2:((Qdz (s::q):Nat):Rat)<=Qbc y.1*((exW y (s::q):Nat):Rat):=by
    have h3:=Ql0 y.1
    have h4:(1:Rat)<=((y.1.num.natAbs:Nat):Rat):=Qcx (a:=1) (by
     have:y.1.num≠0:=fun e=>hy0 (Rat.num_eq_zero.1 e)
     omega)
    have h5:=Rat.mul_le_mul_of_nonneg_left h4 (show(0:Rat)<=((Qdz (s::q):Nat):Rat)from Qcx (a:=0) (by omega))
    unfold exW
    rw[Rat.natCast_add,Rat.natCast_mul]
    have h6:=Qb0 y.1
    have h7:((1:Nat):Rat)=1:=rfl
    rw[h7]
    generalize((Qdz (s::q):Nat):Rat)=S at *
    grind
   have h8:=Rat.mul_le_mul_of_nonneg_right h2 (Qe9 (show(0:Rat)<=((exW y (s::q):Nat):Rat)by grind) n)
   rw[hn,Rat.pow_succ]
   grind
end Go.FW
namespace Go.FW
open Go
def n1:List Tm->Rat
 | []=>0
 |t::p=>Qbc t.1+n1 p
theorem Qmr:∀p,0<=n1 p
 | []=>Rat.le_refl
 |t::p=>by
  have h1:=Qb0 t.1
  have h2:=Qmr p
  simp only[n1];grind
theorem Q4i(p q:List Tm):n1 (Q5 p q)<=n1 p+n1 q:=by
 induction p,q using Q5.induct with
 |case1 q=>rw[Qdv];simp only[n1];grind
 |case2 p hp=>rw[Qcd];simp only[n1];grind
 |case3 c m p d l q h1 ih=>rw[Q5,if_pos h1];simp only[n1]at ih ⊢;grind
 |case4 c m p d l q h1 h2 ih=>rw[Q5,if_neg h1,if_pos h2];simp only[n1]at ih ⊢;grind
 |case5 c m p d l q h1 h2 h3 ih=>
  rw[Q5,if_neg h1,if_neg h2,if_pos h3]
  have g1:=Qb0 c
  have g2:=Qb0 d
  simp only[n1]at ih ⊢;grind
 |case6 c m p d l q h1 h2 h3 ih=>
  rw[Q5,if_neg h1,if_neg h2,if_neg h3]
  have g:=Q1w c d
  simp only[n1]at ih⊢
  grind
theorem Qyg(t:Tm):∀p:List Tm,n1 (Q6 p t)<=Qbc t.1*n1 p
 | []=>by simp only[Q6,List.filterMap_nil,n1];grind
 |s::p=>by
  have ih:=Qyg t p
  have g:=Qhp s.1 t.1
  have g2:=Rat.mul_nonneg (Qb0 t.1) (Qb0 s.1)
  unfold Q6 at ih⊢
  rw[List.filterMap_cons]
  by_cases e:s.1*t.1=0
  ·rw[if_pos e];simp only[n1];grind
  ·rw[if_neg e];simp only[n1];grind
def n1s:List (List Tm)->Rat
 | []=>0
 |p::l=>n1 p+n1s l
theorem Qvk:∀a b:List (List Tm),n1s (a++b)=n1s a+n1s b
 | [],b=>by simp only[List.nil_append,n1s];grind
 |p::a,b=>by
  simp only[List.cons_append,n1s]
  rw[Qvk a b];grind
theorem Q4j(l:List (List Tm)):n1 (Qba l)<=n1s l:=by
 induction l using Qba.induct with
 |case1=>rw[Qba];exact Rat.le_refl
 |case2 p=>rw[Qba];simp only[n1s];grind
 |case3 p q r h1 h2=>
  rw[Qba]
  have h3:=Q4i (Qba ((p::q::r).take ((p::q::r).length/2))) (Qba ((p::q::r).drop ((p::q::r).length/2)))
  have h4:=Qvk ((p::q::r).take ((p::q::r).length/2)) ((p::q::r).drop ((p::q::r).length/2))
  rw[List.take_append_drop]at h4
  rw[h4]
  grind
theorem Qqx(q:List Tm):∀p:List Tm,n1s (p.map (Q6 q))<=n1 p*n1 q
 | []=>by simp only[List.map_nil,n1s,n1];grind
 |t::p=>by
  have ih:=Qqx q p
  have h:=Qyg t q
  simp only[List.map_cons,n1s,n1]
  grind
theorem Qali(p q:List Tm):n1 (Qaf p q)<=n1 p*n1 q:=by
 unfold Qaf
 split
 ·have h1:=Q4j (q.map (Q6 p))
  have h2:=Qqx p q
  unfold Qgg;grind
 ·have h1:=Q4j (p.map (Q6 q))
  have h2:=Qqx q p
  unfold Qgg;grind
def Dn(D:Nat)(p:List Tm):Prop:=∀t∈p,IsI (t.1*(D:Rat))
theorem Q4k{D:Nat}(p q:List Tm):Dn D p->Dn D q->Dn D (Q5 p q):=by
 induction p,q using Q5.induct with
 |case1 q=>intro _ h;rwa[Qdv]
 |case2 p hp=>intro h _;rwa[Qcd]
 |case3 c m p d l q h1 ih=>
  intro hp hq;rw[Q5,if_pos h1]
  intro t ht
  rcases List.mem_cons.1 ht with rfl|ht
  ·exact hp _ (List.mem_cons_self ..)
  ·exact ih (fun t ht=>hp t (List.mem_cons_of_mem _ ht)) hq t ht
 |case4 c m p d l q h1 h2 ih=>
  intro hp hq;rw[Q5,if_neg h1,if_pos h2]
  intro t ht
  rcases List.mem_cons.1 ht with rfl|ht
  ·exact hq _ (List.mem_cons_self ..)
  ·exact ih hp (fun t ht=>hq t (List.mem_cons_of_mem _ ht)) t ht
 |case5 c m p d l q h1 h2 h3 ih=>
  intro hp hq;rw[Q5,if_neg h1,if_neg h2,if_pos h3]
  exact ih (fun t ht=>hp t (List.mem_cons_of_mem _ ht)) fun t ht=>hq t (List.mem_cons_of_mem _ ht)
 | case6 c m p d l q h1 h2 h3 ih=>
  intro hp hq;rw[Q5,if_neg h1,if_neg h2,if_neg h3]
  intro t ht
  rcases List.mem_cons.1 ht with rfl|ht
  ·have a:=hp (c,m) (List.mem_cons_self ..)
   have b:=hq (d,l) (List.mem_cons_self ..)
   show IsI ((c+d)*(D:Rat))
   rw[Rat.add_mul];exact a.add b
  ·exact ih (fun t ht=>hp t (List.mem_cons_of_mem _ ht)) (fun t ht=>hq t (List.mem_cons_of_mem _ ht)) t ht
theorem Q4l{D:Nat}(l:List (List Tm)):(∀p∈l,Dn D p)->Dn D (Qba l):=by
 induction l using Qba.induct with
 |case1=>intro _;rw[Qba];intro t ht;cases ht
 |case2 p=>intro h;rw[Qba];exact h p (List.mem_cons_self ..)
 |case3 p q r h1 h2=>
  intro h
  rw[Qba]
  exact Q4k _ _ (h1 fun x hx=>h x (List.mem_of_mem_take hx)) (h2 fun x hx=>h x (List.mem_of_mem_drop hx))
theorem Qyh{D D':Nat}{t:Tm}(ht:IsI (t.1*(D':Rat))){p:List Tm}(hp:Dn D p):Dn (D*D') (Q6 p t):=by
 intro x hx
 simp only[Q6,List.mem_filterMap]at hx
 obtain⟨s,hs,e⟩:=hx
 split at e
 ·cases e
 ·obtain rfl:(s.1*t.1,Qan s.2 t.2)=x:=by simpa using e
  have:=(hp s hs).mul ht
  show IsI (s.1*t.1*((D*D':Nat):Rat))
  rw[Rat.natCast_mul,show s.1*t.1*((D:Rat)*(D':Rat))=s.1*(D:Rat)*(t.1*(D':Rat))by grind]
  exact this
theorem Qalj{D D':Nat}{p q:List Tm}(hp:Dn D p)(hq:Dn D' q):Dn (D*D') (Qaf p q):=by
 unfold Qaf
 split
 ·refine Q4l _ fun x hx=> ?_
  obtain⟨t,ht,rfl⟩:=List.mem_map.1 hx
  exact Qyh (hq t ht) hp
 ·refine Q4l _ fun x hx=> ?_
  obtain⟨t,ht,rfl⟩:=List.mem_map.1 hx
  rw[Nat.mul_comm]
  exact Qyh (hp t ht) hq
theorem Q9y:∀ {p:List Tm} {t:Tm},t∈p->Qbc t.1<=n1 p
 | s::p,t,ht=>by
  have h1:=Qmr p
  have h2:=Qb0 s.1
  simp only[n1]
  rcases List.mem_cons.1 ht with rfl|ht
  ·grind
  ·have:=Q9y ht
   grind
theorem Qaf1{D N:Nat}{p:List Tm}(hD:0<D)(hN:0<N)(hp:Dn D p)(hn:n1 p<=(N:Rat)){t:Tm}(ht:t∈p):rs t.1<=nl (N*D)+nl D+2:=by
 obtain⟨z,hz⟩:=hp t ht
 have hT:=Q9y ht
 have hNt:Qbc t.1<=(N:Rat):=by grind
 have hXr:((D:Int):Rat)≠0:=by rw[Ne,Rat.intCast_eq_zero_iff];omega
 have e:t.1=(z:Rat)/((D:Int):Rat):=by rw[<-hz,Rat.intCast_natCast];rw[Rat.intCast_natCast]at hXr;grind
 have hzl:z.natAbs<=N*D:=by
  have h2:Qbc (z:Rat)=Qbc t.1*(D:Rat):=by
   rw[<-hz,Qhp];congr 1
   rw[<-Rat.intCast_natCast,Qja,Int.natAbs_natCast,Rat.intCast_natCast]
  rw[Qja]at h2
  have h3:(0:Rat)<=(D:Rat):=by rw[<-Rat.intCast_natCast,show(0:Rat)=((0:Int):Rat)from rfl,Rat.intCast_le_intCast];omega
  have h4:=Rat.mul_le_mul_of_nonneg_right hNt h3
  rw[<-h2,<-Rat.natCast_mul,<-Rat.intCast_natCast,<-Rat.intCast_natCast,Rat.intCast_le_intCast]at h4
  omega
 have hr:=Q1s z (D:Int) (by omega)
 rw[<-e,Int.natAbs_natCast]at hr
 have g1:=Qbn hzl
 omega
end Go.FW
namespace Go.FW
open Go
def XB(E:Nat)(p:List Tm):Prop:=∃K,PB K E p
theorem XB.padd{E:Nat}{p q:List Tm}:XB E p->XB E q->XB E (FW.Q5 p q):=fun⟨_,h⟩ ⟨_,g⟩=>⟨_,Qwk p q h g⟩
theorem XB.psum{E:Nat}(l:List (List Tm)):(∀p∈l,XB E p)->XB E (FW.Qba l):=by
 induction l using FW.Qba.induct with
 |case1=>intro _;rw[FW.Qba];exact⟨0,PB.nil _ _⟩
 |case2 p=>intro h;rw[FW.Qba];exact h p (List.mem_cons_self ..)
 |case3 p q r h1 h2=>
  intro h
  rw[FW.Qba]
  exact XB.padd (h1 fun x hx=>h x (List.mem_of_mem_take hx)) (h2 fun x hx=>h x (List.mem_of_mem_drop hx))
theorem XB.pmul{E F:Nat}{p q:List Tm}:XB E p->XB F q->XB (E+F) (FW.Qaf p q):=fun⟨K,h⟩ ⟨L,g⟩=>by
 unfold FW.Qaf
 split
 ·refine XB.psum _ fun x hx=> ?_
  obtain⟨t,ht,rfl⟩:=List.mem_map.1 hx
  exact⟨K+L,Qfu h (g t ht)⟩
 ·refine XB.psum _ fun x hx=> ?_
  obtain⟨t,ht,rfl⟩:=List.mem_map.1 hx
  rw[Nat.add_comm]
  exact⟨L+K,Qfu g (h t ht)⟩
structure SZ(a b E:Nat)(p:List Tm):Prop where
 d:∃D N:Nat,0<D/\0<N/\nl D<=a/\nl N<=b/\Dn D p/\n1 p<=(N:Rat)
 x:XB E p
theorem SZ.mono{a b E a' b' E':Nat}{p:List Tm}(h:SZ a b E p)(ha:a<=a')(hb:b<=b')(hE:E<=E'):SZ a' b' E' p:=by
 obtain⟨⟨D,N,h1,h2,h3,h4,h5,h6⟩,K,hx⟩:=h
 exact⟨⟨D,N,h1,h2,by omega,by omega,h5,h6⟩,K,hx.mono (Nat.le_refl _) hE⟩
theorem Dn.dvd{D D':Nat}{p:List Tm}(h:Dn D p)(hd:D∣D'):Dn D' p:=fun t ht=>by
 obtain⟨k,rfl⟩:=hd
 rw[Rat.natCast_mul,<-Rat.mul_assoc]
 exact(h t ht).mul (IsI.nat k)
theorem SZ.pmul{a b E a' b' E':Nat}{p q:List Tm}(hp:SZ a b E p)(hq:SZ a' b' E' q):SZ (a+a') (b+b') (E+E') (FW.Qaf p q):=by
 obtain⟨⟨D,N,h1,h2,h3,h4,h5,h6⟩,hx⟩:=hp
 obtain⟨⟨D',N',g1,g2,g3,g4,g5,g6⟩,gx⟩:=hq
 have e1:=Qb6 D D'
 have e2:=Qb6 N N'
 refine⟨⟨D*D',N*N',Nat.mul_pos h1 g1,Nat.mul_pos h2 g2,by omega,by omega,Qalj h5 g5,?_⟩,hx.pmul gx⟩
 have m1:=Qali p q
 have m2:=Rat.mul_le_mul_of_nonneg_right h6 (Qmr q)
 have n0:(0:Rat)<=(N:Rat):=by have:=Qmr p;grind
 have m3:=Rat.mul_le_mul_of_nonneg_left g6 n0
 rw[Rat.natCast_mul];grind
theorem SZ.padd{a b E a' b':Nat}{p q:List Tm}(hp:SZ a b E p)(hq:SZ a' b' E q):SZ (a+a') (max b b'+1) E (FW.Q5 p q):=by
 obtain⟨⟨D,N,h1,h2,h3,h4,h5,h6⟩,hx⟩:=hp
 obtain⟨⟨D',N',g1,g2,g3,g4,g5,g6⟩,gx⟩:=hq
 have e1:=Qb6 D D'
 have e2:=Qnk N N'
 refine⟨⟨D*D',N+N',Nat.mul_pos h1 g1,by omega,by omega,by omega,Q4k p q (h5.dvd (Nat.dvd_mul_right _ _)) (g5.dvd (Nat.dvd_mul_left _ _)),?_⟩,hx.padd gx⟩
 have m1:=Q4i p q
 rw[Rat.natCast_add];grind
theorem SZ.PB{a b E:Nat}{p:List Tm}(h:SZ a b E p):PB (a+b+a+3) E p:=fun t ht=>by
 obtain⟨⟨D,N,h1,h2,h3,h4,h5,h6⟩,K,hx⟩:=h
 have hr:=Qaf1 h1 h2 h5 h6 ht
 have e:=Qb6 N D
 exact⟨by omega,(hx t ht).m,(hx t ht).l⟩
theorem Qwz:∀p:List Tm,n1 p<=((Qdz p:Nat):Rat)
 | []=>Rat.le_refl
 |t::p=>by
  have h1:=Qwz p
  have h2:=Qsw t.1
  have e:Qdz (t::p)=t.1.num.natAbs+Qdz p:=rfl
  rw[e,Rat.natCast_add]
  simp only[n1];grind
theorem SZ.of{K E L:Nat}{p:List Tm}(h:FW.PB K E p)(hl:p.length<=L):SZ (L*K+1) (L+K+2) E p:=by
 have h1:=Q4g h
 have h2:=Q4h h
 have h3:=Qnk (Qdz p) 1
 have h4:nl 1<=1:=by rw[Qe4];exact Nat.le_refl 1
 have h5:p.length*K<=L*K:=Nat.mul_le_mul_right _ hl
 have h6:=Qbn (show Qdz p<=Qdz p+1 by omega)
 by_cases hz:nl (Qdz p)=0
 ·refine⟨⟨Qhr p,Qdz p+1,Qtu p,by omega,by omega,by omega,fun t ht=>Qwy (Qpe ht),?_⟩,K,h⟩
  have:=Qwz p
  rw[Rat.natCast_add]
  have:(0:Rat)<=((1:Nat):Rat):=by decide
  grind
 ·refine⟨⟨Qhr p,Qdz p,Qtu p,Nat.pos_of_ne_zero fun e=>hz (Qg2.2 e),by omega,by omega,fun t ht=>Qwy (Qpe ht),Qwz p⟩,K,h⟩
end Go.FW
namespace Go.FW
open Go
def Qgs:List (List Tm×List Tm)->List Tm->Option (List Tm)
 | [],s=>some s
 |x::l,s=>if 4000<(Q5 s (Qaf x.1 x.2)).length then none else Qgs l (Q5 s (Qaf x.1 x.2))
def Qcu(q:List Tm):Nat->List Tm->Option (List Tm)
 |0,p=>some p
 |n+1,p=>if 4000<(Qaf p q).length then none else Qcu q n (Qaf p q)
def Qf6:List (List Tm×Nat)->List Tm->Option (List Tm)
 | [],p=>some p
 |x::l,p=>(Qcu x.1 x.2 p).bind (Qf6 l)
def Qco(l:List (List Tm×List Tm))(i:Nat):List Tm:=(l.take i).foldl (fun s x=>Q5 s (Qaf x.1 x.2)) []
def Qeo(q p:List Tm):Nat->List Tm
 |0=>p
 |n+1=>Qaf (Qeo q p n) q
theorem Ql1{q:List Tm}:∀ {n:Nat} {p r:List Tm},Qcu q n p=some r->r=Qeo q p n
 |0,p,r,h=>(Option.some.inj h).symm
 | n+1,p,r,h=>by
  unfold Qcu at h
  split at h
  ·cases h
  ·have e:=Ql1 h
   have key:∀k,Qeo q (Qaf p q) k=Qeo q p (k+1):=fun k=>by
    induction k with
    |zero=>rfl
    |succ k ih=>show Qaf (Qeo q (Qaf p q) k) q=Qaf (Qeo q p (k+1)) q;rw[ih]
   rw[e,key]
theorem Qiv{l:List (List Tm×List Tm)}{i:Nat}(h:i<l.length):Qco l (i+1)=Q5 (Qco l i) (Qaf l[i].1 l[i].2):=by
 unfold Qco
 rw[List.take_succ_eq_append_getElem h,List.foldl_append]
 rfl
theorem Q10{a b E a' b' E':Nat}{l:List (List Tm×List Tm)}(hl:∀x∈l,SZ a b E x.1/\SZ a' b' E' x.2):∀i,i<=l.length->SZ (i*(a+a')+1) (b+b'+i+1) (E+E') (Qco l i)
 |0,_=>by
  refine⟨⟨1,1,by omega,by omega,?_,?_,fun t ht=> ?_,?_⟩,0,fun t ht=> ?_⟩
  ·rw[Qe4];omega
  ·rw[Qe4];omega
  ·simp[Qco]at ht
  ·simp only[Qco,List.take_zero,List.foldl_nil,n1];decide
  ·simp[Qco]at ht
 |i+1,hi=>by
  have h:=Q10 hl i (by omega)
  obtain⟨h1,h2⟩:=hl _ (List.getElem_mem (show i<l.length by omega))
  rw[Qiv (by omega)]
  refine(h.padd (h1.pmul h2)).mono ?_ ?_ (Nat.le_refl _)
  ·rw[Nat.succ_mul];omega
  ·omega
theorem Qsx{l:List (List Tm×List Tm)}{i:Nat}(h:i<l.length):Qgs (l.drop i) (Qco l i)=if 4000<(Qco l (i+1)).length then none else Qgs (l.drop (i+1)) (Qco l (i+1)):=by
 rw[List.drop_eq_getElem_cons h]
 rw[Qiv h]
 rfl
end Go.FW
namespace Go.FW
open Go
theorem Qqy{l:List (List Tm×List Tm)}(hl:∀x∈l,Nrm x.1/\Nrm x.2):∀i,i<=l.length->Nrm (Qco l i)
 |0,_=>Nrm.nil
 |i+1,hi=>by
  obtain⟨h1,h2⟩:=hl _ (List.getElem_mem (show i<l.length by omega))
  rw[Qiv (by omega)]
  exact Qhl (Qqy hl i (by omega)) (Qcq h1.s h2.s)
theorem Q6n{q p:List Tm}(hp:Nrm p)(hq:Nrm q):∀n,Nrm (Qeo q p n)
 |0=>hp
 |n+1=>Qcq (Q6n hp hq n).s hq.s
theorem Qvl{vs:List Rat}{K E:Nat}{l:List (List Tm×List Tm)}(hl:∀x∈l,Nrm x.1/\Nrm x.2)(hb:∀x∈l,PB K E x.1/\PB K E x.2)(h0:∀x∈l,Qat vs x.2=0):∀i,i<=l.length->Qat vs (Qco l i)=0
 |0,_=>rfl
 |i+1,hi=>by
  have hm:=List.getElem_mem (show i<l.length by omega)
  obtain⟨h1,h2⟩:=hl _ hm
  obtain⟨b1,b2⟩:=hb _ hm
  rw[Qiv (by omega),Q6a (Qqy hl i (by omega)).c (Qcq h1.s h2.s).c,Qvl hl hb h0 i (by omega),Qu4 b1 b2,h0 _ hm]
  grind
theorem Qqz{E F:Nat}{q p:List Tm}(hp:XB E p)(hq:XB F q):∀n,XB (E+n*F) (Qeo q p n)
 |0=>by simpa[Qeo]using hp
 |n+1=>by
  have:=(Qqz hp hq n).pmul hq
  rwa[show E+n*F+F=E+(n+1)*F by rw[Nat.succ_mul];omega]at this
theorem Qnb{vs:List Rat}{q p:List Tm}{E F:Nat}(hp:XB E p)(hq:XB F q):∀n,Qat vs (Qeo q p n)=Qat vs p*Qat vs q^n
 |0=>by rw[Rat.pow_zero,Rat.mul_one];rfl
 |n+1=>by
  obtain⟨K',h⟩:=Qqz hp hq n
  obtain⟨K,g⟩:=hq
  show Qat vs (Qaf (Qeo q p n) q)=_
  rw[Qu4 h g,Qnb hp ⟨K,g⟩ n,Rat.pow_succ]
  grind
theorem Q11{x:Rat}(h:x≠0):∀n:Nat,x^n≠0
 |0=>by rw[Rat.pow_zero];decide
 |n+1=>fun e=>by
  rw[Rat.pow_succ]at e
  rcases Rat.mul_eq_zero.1 e with e|e
  ·exact Q11 h n e
  ·exact h e
def Qrv(l:List (List Tm×Nat))(p:List Tm):List Tm:=l.foldl (fun p x=>Qeo x.1 p x.2) p
theorem Q12{vs:List Rat}:∀ {l:List (List Tm×Nat)} {p:List Tm} {E:Nat},XB E p->(∀x∈l,∃F,XB F x.1)->Qat vs p≠0->(∀x∈l,0<x.2->Qat vs x.1≠0)->Qat vs (Qrv l p)≠0/\∃F,XB F (Qrv l p)
 | [],p,E,hp,_,h,_=>⟨h,E,hp⟩
 | x::l,p,E,hp,hl,h,h0=>by
  obtain⟨F,hx⟩:=hl x (List.mem_cons_self ..)
  refine Q12 (l:=l) (p:=Qeo x.1 p x.2) (Qqz hp hx x.2) (fun y hy=>hl y (List.mem_cons_of_mem _ hy)) (fun e=> ?_) fun y hy=>h0 y (List.mem_cons_of_mem _ hy)
  rw[Qnb hp hx]at e
  rcases Rat.mul_eq_zero.1 e with e|e
  ·exact h e
  ·by_cases hz:x.2=0
   ·rw[hz,Rat.pow_zero]at e;exact absurd e (by decide)
   ·exact Q11 (h0 x (List.mem_cons_self ..) (by omega)) _ e
theorem Q6o{vs:List Rat}{K E n:Nat}{c:List (List Tm×List Tm)}{f:List (List Tm×Nat)}{one goal:List Tm}(hc:∀x∈c,Nrm x.1/\Nrm x.2)(hb:∀x∈c,PB K E x.1/\PB K E x.2)(hf:∀x∈f,∃F,XB F x.1)(h1:XB 0 one)(e1:Qat vs one≠0)(hg:XB E goal)
  (h0:∀x∈c,Qat vs x.2=0) (hn:∀x∈f,0<x.2->Qat vs x.1≠0) (h:Qeo goal (Qrv f one) n=Qco c c.length):Qat vs goal=0:=by
 obtain⟨p1,F,p2⟩:=Q12 h1 hf e1 hn
 have h2:=Qnb (vs:=vs) p2 hg n
 rw[h,Qvl hc hb h0 _ (Nat.le_refl _)]at h2
 refine Decidable.byContradiction fun hz=> ?_
 rcases Rat.mul_eq_zero.1 h2.symm with e|e
 ·exact p1 e
 ·exact Q11 hz n e
end Go.FW
namespace Go.FW
open Go
end Go.FW
namespace Go.FW
open Go
theorem Qw0{p:List Tm}(np:Nrm p)(h0:p≠[]):plt 0 p=hdT p:=by
 obtain⟨h1,h2⟩:=Qo8 (o:=0) np h0
 apply Classical.byContradiction
 intro hne
 have h3:=h2 _ (Qas h0) (fun e=>hne e.symm)
 rcases Qkx np.s _ h1 with e|e
 ·exact hne e
 ·have h4:=Qdk (hdT p).2 (plt 0 p).2
  have h5:Qa9 0 (plt 0 p).2 (hdT p).2=Qaj (plt 0 p).2 (hdT p).2:=by unfold Qa9;rw[if_neg (by simp)]
  omega
theorem Q4m{p q:List Tm}(np:Nrm p)(nq:Nrm q)(h1:p≠[])(h2:q≠[]):Qaf p q≠[]/\hdT (Qaf p q)=((hdT p).1*(hdT q).1,Qan (hdT p).2 (hdT q).2):=by
 obtain⟨h3,h4⟩:=Qajk (o:=0) np nq h1 h2
 rw[Qw0 (Qcq np.s nq.s) h3,Qw0 np h1,Qw0 nq h2]at h4
 exact⟨h3,h4⟩
theorem Qyi{E:Nat}{a b:List Int}(ha:MB E a)(hb:MB E b)(hl:a.getLast? ≠some 0):Qem b (Qan a b)=true/\Qbv (Qan a b) b=a:=by
 have hm:=ha.mul hb
 have hd:Qem b (Qan a b)=true:=(Qpc hm).2 fun i=>by rw[Qdq];have:=ha.eN i;omega
 refine⟨hd,?_⟩
 have e:=Qho hm hb (Qgq a b) hd
 refine Qgp (Qmq _ _) hl fun i=> ?_
 have:=congrArg (fun l=>eN l i) e
 simp only[Qdq]at this
 omega
theorem Nrm.drop{p:List Tm}(h:Nrm p):∀k,Nrm (p.drop k)
 |0=>h
 |k+1=>by
  have:=Nrm.drop h k
  rw[<-List.drop_drop]
  cases hd:p.drop k with
  |nil=>simpa using Nrm.nil
  |cons t l=>rw[hd]at this;simpa using this.tail
theorem Q13{p q:List Tm}{E:Nat}(np:Nrm p)(nq:Nrm q)(bp:∀t∈p,MB E t.2)(bq:∀t∈q,MB E t.2)(hq:q≠[]):∀k,k<=p.length->exP q (Qaf p q) k=Qaf (p.drop k) q/\exQ q (Qaf p q) k=p.take k
 |0,_=>⟨rfl,rfl⟩
 | k+1,h=>by
  obtain⟨h1,h2⟩:=Q13 np nq bp bq hq k (by omega)
  have hk:k<p.length:=by omega
  have e1:p.drop k=p[k]::p.drop (k+1):=List.drop_eq_getElem_cons hk
  have n1:=np.drop k
  have n2:=np.drop (k+1)
  have hne:p.drop k≠[]:=by rw[e1];exact List.cons_ne_nil _ _
  obtain⟨h3,h4⟩:=Q4m n1 nq hne hq
  have e2:hdT (p.drop k)=p[k]:=by rw[e1];rfl
  rw[e2]at h4
  have hz:=nq.z _ (Qas hq)
  have hqm:=bq _ (Qas hq)
  have hpm:=bp _ (List.getElem_mem hk)
  obtain⟨h5,h6⟩:=Qyi hpm hqm (np.c _ (List.getElem_mem hk))
  have eT:exT q (Qaf (p.drop k) q)=p[k]:=by
   unfold exT
   rw[h4]
   simp only
   rw[h6]
   have:p[k].1*(hdT q).1/(hdT q).1=p[k].1:=Rat.mul_div_cancel hz
   rw[this]
  have n3:Nrm (Qaf (p.drop k) q):=Qcq n1.s nq.s
  constructor
  ·show exN q (exP q (Qaf p q) k)=_
   rw[h1]
   refine Qh3 (Qnx n3 nq) (Qcq n2.s nq.s) fun φ=> ?_
   rw[Qww n3 nq,eT,Qhm,Qhm,e1,Qap]
   grind
  ·show exQ q (Qaf p q) k++[exT q (exP q (Qaf p q) k)]=_
   rw[h1,h2,eT,List.take_succ_eq_append_getElem hk]
theorem Qaqn{p q:List Tm}{E:Nat}(np:Nrm p)(nq:Nrm q)(bp:∀t∈p,MB E t.2)(bq:∀t∈q,MB E t.2)(hq:q≠[]){k:Nat}(h:k<p.length):Qen q (exP q (Qaf p q) k):=by
 obtain⟨h1,h2⟩:=Q13 np nq bp bq hq k (by omega)
 have e1:p.drop k=p[k]::p.drop (k+1):=List.drop_eq_getElem_cons h
 have hne:p.drop k≠[]:=by rw[e1];exact List.cons_ne_nil _ _
 obtain⟨h3,h4⟩:=Q4m (np.drop k) nq hne hq
 have e2:hdT (p.drop k)=p[k]:=by rw[e1];rfl
 rw[h1]
 refine⟨h3,?_⟩
 rw[h4,e2]
 exact(Qyi (bp _ (List.getElem_mem h)) (bq _ (Qas hq)) (np.c _ (List.getElem_mem h))).1
theorem Qvm{p:List Tm}(np:Nrm p){c:Rat}(hc:c≠0):Qag p c=p.map fun t=>(t.1*c,t.2):=by
 rw[Qag,if_neg hc,Q6]
 induction p with
 |nil=>rfl
 | cons t p ih=>
  have hz:t.1*c≠0:=fun h=>by
   rcases Rat.mul_eq_zero.1 h with h|h
   ·exact np.z t (by simp) h
   ·exact hc h
  have ih':=ih np.tail
  rw[List.filterMap_cons,List.map_cons]
  simp only[if_neg hz]
  rw[ih',Qls (np.c t (by simp))]
theorem Qpf{p:List Tm}(np:Nrm p):Qag p 1=p:=by
 rw[Qvm np (by decide)]
 simp
theorem Ql2{p:List Tm}(np:Nrm p)(a b:Rat):Qag (Qag p a) b=Qag p (a*b):=by
 refine Qh3 (Qe7 (Qe7 np.s a).s b) (Qe7 np.s _) fun φ=> ?_
 rw[Qiq φ (Qe7 np.s a).c,Qiq φ np.c,Qiq φ np.c]
 grind
end Go.FW
namespace Go.FW
open Go
set_option maxRecDepth 100000
abbrev PV.pe(r:List Tm×Int):PV:= .tup [PV.poly r.1,.int .i64 r.2]
abbrev PV.cert(fs:List (List Tm))(ps:List Int)(n:Int)(cs:List (List Tm)):PV:= .agg [PV.polys fs,PV.mono ps,.int .i64 n,PV.polys cs]
def Qhs:Option (List Tm)->List Tm×Int
 |some r=>(r,0)
 |none=>([],4)
def Qcs(cs ls:List (List Tm)):List Tm×Int:=if cs.length=ls.length then Qhs (Qgs (cs.zip ls) [])else([],16)
def Ql3(q p:List Tm)(n:Nat):List Tm×Int:=Qhs (Qcu q n p)
def Qjq(ps:List Int):Bool:=ps.all fun n=>decide (0<=n/\n<=64)
def Qde(fs:List (List Tm))(ps:List Int):List Tm×Int:=
 if fs.length=ps.length then(if Qjq ps then Qhs (Qf6 (fs.zip (ps.map Int.toNat)) (Qbk 1))else([],2))else([],16)
def Qgt(fs:List (List Tm))(ps:List Int)(n:Int)(cs hs:List (List Tm))(g:List Tm):Int:=
 if(Qde fs ps).2=0 then
  if fs.any List.isEmpty then 3
  else if n<1∨64<n then 2
  else if cs.length=hs.length then
   match Qcu g n.toNat (Qde fs ps).1 with
   |none=>4
   |some l=>if(Qcs cs hs).2=0 then(if l=(Qcs cs hs).1 then 0 else 17)else(Qcs cs hs).2
  else 16
 else(Qde fs ps).2
structure Sml(p:List Tm):Prop where
 z:SZ 64 64 64 p
 l:p.length<=64
 n:Nrm p
structure Big(p:List Tm):Prop where
 z:SZ (2097152) (2097152) (16384) p
 l:p.length<=131072
 n:Nrm p
theorem Sml.PB{p:List Tm}(h:Sml p):PB 256 64 p:=h.z.PB.mono (by omega) (by omega)
theorem Big.PB{p:List Tm}(h:Big p):FW.PB (8388608) (16384) p:=h.z.PB.mono (by omega) (by omega)
theorem Sml.big{p:List Tm}(h:Sml p):Big p:=⟨h.z.mono (by omega) (by omega) (by omega),by have:=h.l;omega,h.n⟩
theorem Qalk{cs ls:List (List Tm)}(hl:cs.length=ls.length){i:Nat}(h:i<cs.length):(cs.zip ls)[i]'(by simp;omega)=(cs[i],ls[i]'(by omega)):=List.getElem_zip
theorem Q4n{P Q:List Tm->Prop}{cs ls:List (List Tm)}(h1:∀c∈cs,P c)(h2:∀c∈ls,Q c):∀x∈cs.zip ls,P x.1/\Q x.2:=fun x hx=>by
 obtain⟨i,hi,rfl⟩:=List.getElem_of_mem hx
 rw[List.getElem_zip]
 exact⟨h1 _ (List.getElem_mem _),h2 _ (List.getElem_mem _)⟩
theorem Q4o{cs ls:List (List Tm)}(h1:∀c∈cs,Big c)(h2:∀c∈ls,Sml c)(hl:cs.length<=8){i:Nat}(hi:i<=(cs.zip ls).length):PB (268435456) (32768) (Qco (cs.zip ls) i)/\Nrm (Qco (cs.zip ls) i):=by
 have hz:=Q4n (P:=Big) (Q:=Sml) h1 h2
 have hi8:i<=8:=by rw[List.length_zip]at hi;omega
 refine⟨((Q10 (fun x hx=>⟨(hz x hx).1.z,(hz x hx).2.z⟩) i hi).mono (a':=16777729) (b':=2097225) (E':=32768) ?_ (by omega) (by omega)).PB.mono (by omega) (by omega),Qqy (fun x hx=>⟨(hz x hx).1.n,(hz x hx).2.n⟩) i hi⟩
 exact Nat.succ_le_succ (Nat.le_trans (Nat.mul_le_mul_right _ hi8) (by decide+kernel))
structure Prd(m:Nat)(p:List Tm):Prop where
 z:SZ (m*64+1) (m*64+2) (m*64) p
 n:Nrm p
 l:p.length<=4000
theorem Prd.PB{m:Nat}{p:List Tm}(h:Prd m p)(hm:m<=1024):FW.PB (262144) (131072) p:=h.z.PB.mono (by omega) (by omega)
theorem Prd.mul{m:Nat}{p q:List Tm}(h:Prd m p)(hq:Sml q)(hl:(Qaf p q).length<=4000):Prd (m+1) (Qaf p q):=
 ⟨(h.z.pmul hq.z).mono (by omega) (by omega) (by omega),Qcq h.n.s hq.n.s,hl⟩
theorem SZ.one:SZ 1 1 0 (Qbk 1):=by
 have e:Qbk 1=[((1:Rat),[])]:=by unfold Qbk;rw[if_neg (by decide)]
 rw[e]
 refine⟨⟨1,1,by omega,by omega,by rw[Qe4];omega,by rw[Qe4];omega,fun t ht=> ?_,?_⟩,3,fun t ht=> ?_⟩
 ·obtain rfl:t=(1,[]):=by simpa using ht
  exact⟨1,by decide+kernel⟩
 ·simp only[n1];decide+kernel
 ·obtain rfl:t=(1,[]):=by simpa using ht
  refine⟨?_,⟨by simp,by simp,by simp⟩,by simp⟩
  show rs 1+1<=3
  have:=Qth
  omega
theorem Prd.one:Prd 0 (Qbk 1):=⟨SZ.one.mono (by omega) (by omega) (by omega),Q56 1,by unfold Qbk;rw[if_neg (by decide)];simp⟩
theorem Q14{q P:List Tm}{n k:Nat}(h:k<n):Qcu q (n-k) P=if 4000<(Qaf P q).length then none else Qcu q (n-(k+1)) (Qaf P q):=by
 rw[show n-k=(n-(k+1))+1 by omega];rfl
theorem Qky{q:List Tm}(hq:Sml q):∀(n m:Nat)(p r:List Tm),Prd m p->Qcu q n p=some r->Prd (m+n) r
 |0,m,p,r,hp,h=>by cases h;exact hp
 | n+1,m,p,r,hp,h=>by
  unfold Qcu at h
  split at h
  ·cases h
  ·have:=Qky hq n (m+1) _ r (hp.mul hq (by omega)) h
   rwa[show m+1+n=m+(n+1)by omega]at this
theorem Q3d{l:List (List Tm×Nat)}{i:Nat}{p:List Tm}(h:i<l.length):Qf6 (l.drop i) p=(Qcu l[i].1 l[i].2 p).bind (Qf6 (l.drop (i+1))):=by
 rw[List.drop_eq_getElem_cons h];rfl
def Qht(fs:List (List Tm))(ps:List Int):List (List Tm×Nat):=fs.zip (ps.map Int.toNat)
theorem Qhu{fs:List (List Tm)}{ps:List Int}(h:fs.length=ps.length):(Qht fs ps).length=fs.length:=by simp[Qht,h]
theorem Qpg{fs:List (List Tm)}{ps:List Int}(h:fs.length=ps.length){i:Nat}(hi:i<fs.length):(Qht fs ps)[i]'(by rw[Qhu h];exact hi)=(fs[i],(ps[i]'(by omega)).toNat):=by
 simp[Qht,List.getElem_zip]
theorem Qyj{ps:List Int}(h:Qjq ps=true){i:Nat}(hi:i<ps.length):0<=ps[i]/\ps[i]<=64:=by
 have:=List.all_eq_true.1 h _ (List.getElem_mem hi)
 simpa using this
theorem Q9z{ps:List Int}{i:Nat}(hi:i<ps.length)(h:¬(0<=ps[i]/\ps[i]<=64)):Qjq ps=false:=by
 unfold Qjq
 rw[List.all_eq_false];exact⟨_,List.getElem_mem hi,by simpa using h⟩
theorem Q90{ps:List Int}(h:∀j (hj:j<ps.length),0<=ps[j]/\ps[j]<=64):Qjq ps=true:=by
 unfold Qjq
 rw[List.all_eq_true]
 intro x hx
 obtain⟨j,hj,rfl⟩:=List.getElem_of_mem hx
 exact decide_eq_true (h j hj)
theorem Qyk{fs:List (List Tm)}{ps:List Int}(h:fs.length=ps.length)(hp:Qjq ps=false):Qde fs ps=([],2):=by
 unfold Qde;rw[if_pos h,hp];rfl
theorem Qaf2{fs:List (List Tm)}{ps:List Int}(h:fs.length=ps.length)(hp:Qjq ps=true):Qde fs ps=Qhs (Qf6 (Qht fs ps) (Qbk 1)):=by
 unfold Qde;rw[if_pos h,hp];rfl
theorem Q91{l:List (List Tm×Nat)}(hl:∀x∈l,Sml x.1/\x.2<=64):∀(m:Nat)(p r:List Tm),Prd m p->Qf6 l p=some r->∃n,n<=m+64*l.length/\Prd n r:=by
 induction l with
 |nil=>intro m p r hp h;cases h;exact⟨m,by omega,hp⟩
 | cons x l ih=>
  intro m p r hp h
  obtain⟨h1,h2⟩:=hl x (List.mem_cons_self ..)
  show ∃n,_
  unfold Qf6 at h
  cases hr:Qcu x.1 x.2 p with
  |none=>rw[hr]at h;cases h
  |some s=>
   rw[hr]at h
   obtain⟨n,h3,h4⟩:=ih (fun y hy=>hl y (List.mem_cons_of_mem _ hy)) (m+x.2) s r (Qky h1 _ _ _ _ hp hr) h
   exact⟨n,by rw[List.length_cons];omega,h4⟩
theorem Q92{fs:List (List Tm)}{ps:List Int}(hf:∀c∈fs,Sml c)(hl:fs.length<=8)(h:(Qde fs ps).2=0):∃n,n<=512/\Prd n (Qde fs ps).1:=by
 unfold Qde at h⊢
 split at h
 ·rename_i h1
  rw[if_pos h1]
  split at h
  ·rename_i h2
   rw[if_pos h2]
   cases hr:Qf6 (Qht fs ps) (Qbk 1)with
   |none=>unfold Qht at hr;rw[hr]at h;cases h
   | some r=>
    have hr':=hr
    unfold Qht at hr'
    rw[hr']
    obtain⟨n,h3,h4⟩:=Q91 (l:=Qht fs ps) (fun x hx=>by
     obtain⟨i,hi,rfl⟩:=List.getElem_of_mem hx
     have hi':i<fs.length:=by rwa[Qhu h1]at hi
     rw[Qpg h1 hi']
     have:=Qyj h2 (i:=i) (by omega)
     exact⟨hf _ (List.getElem_mem hi'),by simp only;omega⟩) 0 _ r Prd.one hr
    rw[Qhu h1]at h3
    exact⟨n,by omega,h4⟩
  ·cases h
 ·cases h
theorem Qsy{l:List (List Tm×List Tm)}{s:List Tm}:∀k i,k=l.length-i->i<=l.length->(Qco l i).length<=4000->Qgs (l.drop i) (Qco l i)=some s->s=Qco l l.length/\s.length<=4000
 |0,i,hk,hi,hl,h=>by
  obtain rfl:i=l.length:=by omega
  rw[List.drop_length]at h
  cases h;exact⟨rfl,hl⟩
 |k+1,i,hk,hi,hl,h=>by
  have hi':i<l.length:=by omega
  rw[Qsx hi']at h
  split at h
  ·cases h
  ·exact Qsy k (i+1) (by omega) (by omega) (by omega) h
theorem Q15{cs ls:List (List Tm)}(h:(Qcs cs ls).2=0):cs.length=ls.length/\Qgs (cs.zip ls) []=some (Qcs cs ls).1/\(Qcs cs ls).1=Qco (cs.zip ls) (cs.zip ls).length/\(Qcs cs ls).1.length<=4000:=by
 unfold Qcs at h⊢
 split at h
 ·rename_i he
  rw[if_pos he]
  cases hr:Qgs (cs.zip ls) []with
  |none=>rw[hr]at h;cases h
  |some s=>
   obtain⟨h1,h2⟩:=Qsy _ 0 rfl (by omega) (by simp[Qco]) (s:=s) (by exact hr)
   exact⟨he,rfl,h1,h2⟩
 ·cases h
theorem Qaf3{cs ls:List (List Tm)}(h1:∀c∈cs,Big c)(h2:∀c∈ls,Sml c)(hl:cs.length<=8):PB 268435456 32768 (Qcs cs ls).1/\Nrm (Qcs cs ls).1/\(Qcs cs ls).1.length<=4000:=by
 by_cases h:(Qcs cs ls).2=0
 ·obtain⟨_,_,h3,h4⟩:=Q15 h
  have:=Q4o h1 h2 hl (Nat.le_refl _)
  rw[<-h3]at this
  exact⟨this.1,this.2,h4⟩
 ·have e:(Qcs cs ls).1=[]:=by
   unfold Qcs at h⊢
   split
   ·rename_i he
    rw[if_pos he]at h
    cases hr:Qgs (cs.zip ls) []with
    |none=>rfl
    |some s=>rw[hr]at h;exact absurd rfl h
   ·rfl
  rw[e];exact⟨PB.nil _ _,Nrm.nil,by simp⟩
end Go.FW
